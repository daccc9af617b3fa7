/- Chapter 13: the reference's Elect, under every rule. -/
import Derived.Test.YtnohcdpnnhmpfaaGreatDoorE34
import Derived.Test.YtnohcdpnnhmpfaaGreatDoorE36
import Derived.Test.YtnohcdpnnhmpfaaGreatDoorE50
set_option linter.all false
set_option maxRecDepth 100000
set_option maxHeartbeats 16000000
namespace Go.Proofs.YtnohcdpnnhmpfaaGreatDoor.TR
open Go.RowKit Tryz ML FRP AU CT FM
theorem jfh(c:yH)(P:List (n0×C0))(lots:Bytes)(SB:C0)(tU:c.rl≠3→c.rl≠4→prE c P=0→Vt c (Qr c.op.length (kept c P))=0→jbh c.op.length (Qr c.op.length (kept c P)) (Kr c lots) SB)(oa:s0)(cap:Nat)(ob:s0)(cb:Nat)(w:m0)(hs:zg w oa c.op)(hP:Va w ob P)(hf:c.Fits lots)(Gw:c.op.length<9223372036854775807):
 Calls prog 21 #[.agg #[.string ⟨c.nm.toArray⟩,.slice oa c.op.length cap,.int .i64 c.rl,.int .i64 c.se,.int .i64 c.mo],.slice ob P.length cb,.string ⟨lots.toArray⟩] w (Je c P lots w):=by
 have QD:=jA (show ∀(w:m0) (h:zg w oa c.op),Calls prog 31 #[.agg #[.string ⟨c.nm.toArray⟩,.slice oa c.op.length cap,.int .i64 c.rl,.int .i64 c.se,.int .i64 c.mo],.string ⟨lots.toArray⟩] w (ZY c lots w)from fun w h=>Ys c lots oa cap w h hf Gw)
 have QM:=jA (show ∀(T:C0) (hb:Vt c T=0→jbh c.op.length T (Kr c lots) SB) (w:m0) (ot:s0) (ct:Nat) (h:zg w oa c.op) (h2:yW w ot T) (h3:T.length=c.op.length),Calls prog 59 #[.agg #[.string ⟨c.nm.toArray⟩,.slice oa c.op.length cap,.int .i64 c.rl,.int .i64 c.se,.int .i64 c.mo],.slice ot c.op.length ct,.string ⟨lots.toArray⟩] w (Xa c lots T w)from fun T hb w ot ct h h2 h3=>by
  have:=jgo c T lots SB hb oa cap ot ct w h h2 hf Gw (by omega);rw [h3]at this;exact this)
 have QTR:=jA (fun w1 h1 h2=>jbK c P lots oa cap ob cb w1 h1 h2 hf Gw);have QPR:=jA (fun w1 h2=>jfd c P oa cap ob cb w1 h2 Gw);have HSB:=jA tU;have HS:=jA hs;have HP:=jA hP;have py:=jA (show prE c P=if yz c=true then 2 else KQ c.op.length P from rfl);clear hs hP hf tU;unfold ZY at QD;cases hW:yz c with
 |
  true=>
  rw [hW]at QD py;have HE:=jA (py.u.trans (jP rfl));clear hW py QM QTR QPR HSB;go_enter Tryz.func21,Tryz.ntmps21;go_upto_region 1 with(fail);generalize hB:w.heap.size=B at*;refine Go.bxE hB ?_;intro w1 ts;have HB:=jA hB;have B1:=jA ts.1;have X1:=jA ts.2;have mt:B<w1.heap.size:=xZ ts.2;have Q1:=jA (QD.u w1 (HS.u.below (HB.u.symm▸B1.u)));clear hB ts QD;go_wp2_with (first
   |go_big_skip
   |((with_reducible refine yE 24 ?_);refine xi ?_ 24 (.tmp 3) ?_ B _ _ _ _ ?_ X1.u underlying24 ?_ xt ?_;rfl;rfl;rfl;rfl)
   |(go_at_call 31;refine(Q1.u).mono ?_;rintro e w3 ⟨b3,h3⟩;rw [jP rfl]at h3;subst h3;dsimp only;have B3:=jA b3;clear b3))
  go_ret2
  exact Je.bad HE.u (by decide) (by rw [HB.u];exact B1.u.trans (B3.u.mono (jX mt)))
 |
  false=>
  rw [hW]at QD py;obtain⟨Sw,Ws,_,_,lJ,Hx⟩:=Xq hW;have HE:=jA (py.u.trans (jQ (by decide)));have QF:=jA (fun w1 h=>Xe c c.rl P oa cap ob cb w1 h Ws);clear hW py;unfold Js at QF;go_enter Tryz.func21,Tryz.ntmps21;go_upto_region 1 with(fail);generalize hB:w.heap.size=B at*;refine Go.bxE hB ?_;intro w1 ts;have HB:=jA hB;have B1:=jA ts.1;have X1:=jA ts.2;have mt:B<w1.heap.size:=xZ ts.2;have Q1:=jA (QD.u w1 (HS.u.below (HB.u.symm▸B1.u)));clear hB ts QD;go_upto_region 2 with(first
   |go_big_skip
   |((with_reducible refine yE 24 ?_);refine xi ?_ 24 (.tmp 3) ?_ B _ _ _ _ ?_ X1.u underlying24 ?_ xt ?_;rfl;rfl;rfl;rfl)
   |(go_at_call 31;refine(Q1.u).mono ?_;rintro e w4 ⟨b3,h3⟩;rw [jQ (by decide)]at h3;obtain⟨O,oO,cO,hO,dz,rfl⟩:=h3;dsimp only;have B3:=jA b3;have HO:=jA hO;have BH:=jA dz;clear hO dz b3))
  have NK:=B3.u;have B4:=jA (B1.u.trans (NK.mono (jX mt)));have X4:=jA (xe NK mt X1.u);have rx:B<w4.heap.size:=xZ X4.u;have pE:=jA (HP.u.below (HB.u.symm▸B4.u));have Q4:=jA (QF.u w4 pE.u);have k2:w4.cell? ⟨B,2,none⟩=some (.int .i64 c.rl):=jM _ _ _ _ _ _ X4.u;have HOL:=jA HO.u.len;have PD:O.length≤12:=by rw [HO.u.len];exact Ws
  clear NK X1 B1 mt Q1 QF B3
  as_aux_lemma=>
  by_cases h0:KQ c.op.length P=0;case neg=>
   have hd:(KQ c.op.length P !=0)=true:=by rw [ju];exact h0
   have H0:=jA h0;clear h0;go_wp2_with (first
    |go_big_skip
    |((with_reducible refine yE 24 ?_);refine xi ?_ 24 (.tmp 3) ?_ B _ _ _ _ ?_ X4.u underlying24 ?_ xt ?_;rfl;rfl;rfl;rfl)
    |(go_at_call 12;refine(Q4.u).mono ?_;rintro e w5 ⟨b5,h5⟩;rw [jQ H0.u]at h5;subst h5;dsimp only;have B5:=jA (B4.u.trans (b5.mono (jX rx)));clear b5))
   go_ret2
   exact Je.bad HE.u H0.u (by rw [HB.u];exact B5.u)
  have RF:=jA (HE.u.trans h0);obtain⟨hA,uw⟩:=jbW h0;have tL:=jA h0;have AH:=jA (ZF (zB (c.rule c.rl)) hA);have lH:(P.filter (zB (c.rule c.rl))).length≤4096:=jU (qJ _ _) uw;have FP:=jA (show kept c P=P.filter (zB (c.rule c.rl))from rfl);rw [←FP.u]at Q4 AH lH;clear h0 hA uw HE;obtain⟨K,hK⟩: ∃K,K=kept c P:=⟨_,rfl⟩;rw [←hK]at Q4 AH lH HSB;have UB:=jA hK;clear hK FP;go_upto_region 7 with(first
   |go_big_skip
   |((with_reducible refine yE 24 ?_);refine xi ?_ 24 (.tmp 3) ?_ B _ _ _ _ ?_ X4.u underlying24 ?_ xt ?_;rfl;rfl;rfl;rfl)
   |(go_at_call 12;refine(Q4.u).mono ?_;rintro e w5 ⟨b5,h5⟩;rw [jP tL.u]at h5;obtain⟨oo,co,sC,rfl⟩:=h5;dsimp only;have B5:=jA (B4.u.trans (b5.mono (jX rx)));have P5:=jA sC;have X5:=jA (xe b5 rx X4.u);have CI:=jA (BH.u.below b5);clear b5 sC))
  clear Q4 tL X4 B4 pE k2 BH;have gD:B<w5.heap.size:=xZ X5.u;have k2:w5.cell? ⟨B,2,none⟩=some (.int .i64 c.rl):=jM _ _ _ _ _ _ X5.u;clear rx;by_cases h3:c.rl=3;case pos=>
   as_aux_lemma=>
   have r3:(c.rl==3)=true:=by rw [qH];exact h3
   have HKE:=jA (show P.filter (zB (c.rule 3))=K by rw [UB.u];unfold kept;rw [h3]);have Q5:=jA (QTR.u w5 (HS.u.below (HB.u.symm▸B5.u)) (HP.u.below (HB.u.symm▸B5.u)));have Ex:=jA (fun(w':m0) (O:C0) (R:List Rd) (S:St) (oE:s0) (n cE:Nat) (hb:O0 w.heap.size w w') hO hR hD hn hI=>Je.tr (P:=P) (lots:=lots) (O:=O) (R:=R) (S:=S) (oE:=oE) (n:=n) (cE:=cE) RF.u h3 hb hO hR hD hn hI);rw [←UB.u]at Ex;clear UB AH QTR QPR QM HSB HO PD CI h3;unfold jbH at Q5;go_upto_region 10 with(first
    |go_big_skip
    |((with_reducible refine yE 24 ?_);refine xi ?_ 24 (.tmp 3) ?_ B _ _ _ _ ?_ X5.u underlying24 ?_ xt ?_;rfl;rfl;rfl;rfl)
    |(go_at_call 10;refine(Q5.u).mono ?_;rintro e w6 ⟨b6,h6⟩;rw [jP RF.u,HKE.u]at h6;obtain⟨O',R,S,oR,cR,oE,cE,hO,UC,hen,he,CE,AC⟩:=h6;generalize (txt (zW K.length c.se.toNat)).1=T1 at he;generalize (txt (zW K.length c.se.toNat)).2=T2 at he;subst he;dsimp only;have B6:=jA (B5.u.trans (b6.mono (jX gD)));have HO':=jA hO;have HRU:=jA UC;have HEN:=jA hen;have IE:=jA AC;clear b6 UC hen CE AC hO)
    |(refine xg rfl rfl 31 _ _ rfl w6.heap.size #[.string ⟨#[]⟩,.string ⟨#[]⟩,.slice none 0 0,.slice none 0 0] #[.string ⟨T1.toArray⟩,.string ⟨T2.toArray⟩,.slice oR R.length cR,.slice oE S.el.length cE] 31 rfl rfl (xh rfl) rfl Jf (YJ _ _ _ _ rfl rfl) ?_;intro w7 ho hp))
   have b7:O0 w6.heap.size w6 w7:=xl ((jN _ _).alloc (jO _) _) ho (jO _);have k3:w7.cell? ⟨w6.heap.size,3,none⟩=some (.slice oE S.el.length cE):=jM _ _ _ _ _ _ hp;have IE7:=jA (IE.u.below b7);have B7:=jA (B6.u.trans (b7.mono (by have:=B6.u.size;rw [HB.u]at this;exact this)));generalize w6.heap.size=Db at*;clear ho hp b7;go_wp2_with fail
   go_ret2
   exact Ex.u _ O' R S _ _ _ (by rw [HB.u];exact B7.u) HO'.u HRU.u HEN.u (yn _).symm IE7.u
  have r3:(c.rl==3)=false:=by rw [jt];exact h3
  clear QTR;by_cases h4:c.rl=4;case pos=>
   as_aux_lemma=>
   have r4:(c.rl==4)=true:=by rw [qH];exact h4
   have HKE:=jA (show prK c P=K by rw [UB.u];unfold prK kept;rw [h4]);have Ex:=jA (fun(w':m0) (W:Mx) (i:Nat) (oo:s0) (co:Nat) (hb:O0 w.heap.size w w') hS hF hI=>Je.pr (P:=P) (lots:=lots) (W:=W) (i:=i) (oo:=oo) (co:=co) RF.u h4 hb HO.u hS hF hI);rw [←UB.u]at Ex;have Q5:=jA (QPR.u w5 (HP.u.below (HB.u.symm▸B5.u)));clear h3 h4 UB QM HSB QPR;unfold Jp at Q5;go_upto_region 13 with(first
    |go_big_skip
    |((with_reducible refine yE 24 ?_);refine xi ?_ 24 (.tmp 3) ?_ B _ _ _ _ ?_ X5.u underlying24 ?_ xt ?_;rfl;rfl;rfl;rfl)
    |(go_at_call 57;refine(Q5.u).mono ?_;rintro e w6 ⟨b6,h6⟩;rw [jP RF.u,HKE.u]at h6;obtain⟨oo2,co2,Q,rfl,hp6,hQ⟩:=h6;dsimp only;have B6:=jA (B5.u.trans (b6.mono (jX gD)));have P6:=jA hp6;have HQ:=jA hQ;have IO6:=jA (CI.u.below b6);clear b6 hp6 hQ))
   obtain⟨hql,hqw,hqm⟩:=jgv Sw Ws lH HQ.u;have Q6:=jA (jfc Q oo2 co2 w6 P6.u (by omega));have HQW:=jA hqw;have EI:=jA hql;have fS:=jA hqm;clear hql hqw hqm HQ Q5 CI P5 X5;unfold KH at Q6;rw [EI.u]at Q6;rw [EI.u];have hB6:B≤w6.heap.size:=by have h1:=B6.u.size;rw [HB.u]at h1;exact h1
   go_upto_region 14 with(first
    |go_big_skip
    |(go_at_call 58;refine(Q6.u).mono ?_;rintro e w7 ⟨b7,h7⟩;rw [jP HQW.u]at h7;obtain⟨F,gs,W,rfl,hm7,hs7⟩:=h7;dsimp only;have B7:=jA (B6.u.trans (b7.mono hB6));have M7:=jA hm7.read;have ST7:=jA (jeT (fun i j hi hj=>by unfold Ks;rw [fS.u i j hi hj,fS.u j i hj hi]) hs7);have rW:=jA (IO6.u.below b7);clear b7 hm7 hs7))
   clear Q6 fS HQW EI P6 IO6 k2 B5 gD B6 hB6;have uI:B≤w7.heap.size:=by have h1:=B7.u.size;rw [HB.u]at h1;exact h1
   have gS:=jA (show ∀x∈O,0≤x∧x<(c.op.length:Int)from fun x hx=>HO.u.mem.1 hx)
   as_aux_lemma=>
   go_wp2_with fail;go_loopw [73] (fun v wr=> ∃k:Nat,v=.int .i64 k∧k≤O.length∧(∀x∈O.take k,¬Top c.op.length W x.toNat)∧O0 w7.heap.size w7 wr) (fun v _=>O.length-(intOf v).toNat);case atStart=>exact⟨0,rfl,ja _,(fun x hx=>by simp at hx),jN _ _⟩
   case round=>
   obtain⟨k,rfl,hk,gR,hb⟩:=hrel;have UX:=jA gR;have BR:=jA hb;clear gR hb;by_cases ns:k<O.length;case neg=>
    exfalso;obtain⟨i,hi⟩:=ST7.u.top_ex (by omega);have DD:(i:Int)∈O:=HO.u.mem.2 ⟨by omega,by have:=hi.1;omega⟩;have h1:=UX.u (i:Int) (by rw [je (by omega)];exact DD);rw [ke]at h1;exact h1 hi
   obtain⟨dk,Ms,Py⟩:=Go.yD ns
   obtain⟨a,Us,eu,Ft⟩:=(rW.u.below BR.u).cells k ns;have Ou:=jA (show O.take (k+1)=O.take k++ [O[k]]from jh ns);have hxb:=gS.u _ (jb ns);subst Us;generalize O[k]=x at*;obtain⟨i,rfl⟩: ∃i:Nat,x=i:=⟨x.toNat,by omega⟩;have bt:i<c.op.length:=by omega
   have hii:(i:Int)<(c.op.length:Int):=by omega
   clear hxb;obtain⟨wo,hwo⟩: ∃wo:m0,wo=wr:=⟨_,rfl⟩;subst hwo;go_wp2_with fail;go_loopw [17,79] (fun b v wi=> ∃j:Nat,v=.int .i64 j∧j≤c.op.length∧b=.bool (jgA W i j)∧O0 w7.heap.size w7 wi) (fun _ v _=>c.op.length-(intOf v).toNat);case atStart=>exact⟨0,rfl,ja _,rfl,BR.u⟩
   case round=>
   clear eu Ft BR;obtain⟨j,rfl,hj,rfl,hb⟩:=hrel;have BI:=jA hb;clear hb;by_cases ft:j<c.op.length;case neg=>
    obtain⟨fk,wF⟩:=Go.yg ft;obtain rfl:j=c.op.length:=by omega
    cases gu:jgA W i c.op.length with
    |
     true=>
     have HT:=jA (show XC c.op.length W O i from⟨(jgz bt).1 gu,k,ns,Ou.u,UX.u⟩);clear gu;go_wp2_with fail
     go_ret2
     have Hy:B≤wr.heap.size:=jU uI BI.u.size;exact Ex.u _ W i _ _ (by rw [HB.u];exact(B7.u.trans (BI.u.mono uI)).alloc Hy _) ST7.u HT.u (jef (xh rfl))
    |
     false=>
     have hnt: ¬Top c.op.length W i:=fun h=>by rw [(jgz bt).2 h]at gu;cases gu
     have PX:=jA (show ∀x∈O.take (k+1),¬Top c.op.length W x.toNat by
      rw [Ou.u];intro x hx;rcases jj.1 hx with h|h;·exact UX.u x h
      ·rw [jm.1 h,ke];exact hnt)
     clear gu hnt;go_wp2_with fail;go_roundw;case rel=>exact⟨k+1,by go_num,by omega,PX.u,BI.u⟩
     case measure=>simp [intOf];omega
   obtain⟨fk,wF,lV⟩:=Go.yD ft
   obtain⟨a1,ha1,_,r1,c1,Uz,FE,lG⟩:=(M7.u.below BI.u).cells i bt;obtain rfl:(⟨F,0,none⟩:Addr)=a1:=by injection ha1
   obtain⟨a2,ha2,_,r2,c2,DE,nF,bK⟩:=(M7.u.below BI.u).cells j ft;obtain rfl:(⟨F,0,none⟩:Addr)=a2:=by injection ha2
   have kx:=lG j ft;have ky:=bK i bt;have HOS:=jA (jku W i j);rw [qD,jv]at FE nF;clear lG bK ha1 ha2;generalize W i j=x at*;generalize W j i=y at*;cases gu:jgA W i j with
   |
    true=>
    rw [gu]at HOS;clear gu;go_upto_region 21 with(fail);refine Seg.xf (fun w'=> ∃m,w'=wr.drewN m) [] [0,1,2,3,4,5,6,7,8,9,10,11,12,13,14,15] 16 (by kernel_rfl) (by kernel_rfl) (fun _ _ d _ _ h=>by cases d<;>exact h) (⟨1,rfl⟩) ?_;simp only [jK,Seg.opAt,Seg.xu];repeat (any_goals (first|go_big_quiet_step (fail)|quiet_step (fail)))
    refine jR ?_;go_wp2_with fail;go_roundw;case rel=>exact⟨j+1,by go_num,by omega,by rw [HOS.u];rfl,ML.yl BI.u _⟩
    case measure=>simp [intOf];omega
   |
    false=>
    rw [gu]at HOS;clear gu;go_upto_region 21 with(fail);refine Seg.xf (fun w'=> ∃m,w'=wr.drewN m) [] [0,1,2,3,4,5,6,7,8,9,10,11,12,13,14,15] 16 (by kernel_rfl) (by kernel_rfl) (fun _ _ d _ _ h=>by cases d<;>exact h) (⟨1,rfl⟩) ?_;simp only [jK,Seg.opAt,Seg.xu];repeat (any_goals (first|go_big_quiet_step (fail)|quiet_step (fail)))
    refine jR ?_;go_wp2_with fail;go_roundw;case rel=>exact⟨j+1,by go_num,by omega,by rw [HOS.u];rfl,ML.yl BI.u _⟩
    case measure=>simp [intOf];omega
  have r4:(c.rl==4)=false:=by rw [jt];exact h4
  have Ex:=jA (fun(w':m0) (v:n0) (E:Int) (hb:O0 w.heap.size w w') iO=>Je.ms (P:=P) (lots:=lots) (v:=v) (E:=E) RF.u h3 h4 hb iO);rw [←UB.u]at Ex;have QM:=jA (QM.u _ (HSB.u h3 h4 RF.u));clear h3 h4 UB CI HO PD HSB QPR
  as_aux_lemma=>
  have k1:w5.cell? ⟨B,1,none⟩=some (.slice oa c.op.length cap):=jM _ _ _ _ _ _ X5.u;obtain⟨i0,hi,Is,Ts,Ns⟩:=info_parts YG;have HI:=jA hi;have Dt:=jA Is;have Ct:=jA Ts;have Bt:=jA Ns;clear hi Is Ts Ns;go_upto_region 28 with(refine wpList_make_row _ rfl _ _ 29 rfl 3 i0 (.int .i64 0) underlying29 HI.u Dt.u Ct.u rfl .i64 .i64 c.op.length rfl rfl (by rw [Bt.u];omega) (by omega) ?_);have Bv:O0 w5.heap.size w5 (w5.alloc (.cells (madeCells #[Value.int .i64 0] c.op.length) 3)):=(jN _ _).alloc (jO _) _;have uQ:(w5.alloc (.cells (madeCells #[Value.int .i64 0] c.op.length) 3)).heap[w5.heap.size]?=some (.cells (xq (Qr c.op.length [])).toArray 3 (0,0)):=by rw [xh rfl,jcK]
  generalize hM:w5.heap.size=M at*;refine xr (fun w6=>O0 M w5 w6∧w6.heap[M]?=some (.cells (xq (Qr c.op.length [])).toArray 3 (0,0))) ⟨Bv,uQ⟩ (fun w6 Lw=>?_);have HM:=jA hM;have B6:=jA Lw.1;have T6:=jA Lw.2;clear Lw Bv uQ hM k1 HI Dt Ct Bt
  as_aux_lemma=>
  go_wp2_with fail;go_loopw [111] (fun v wr=> ∃k:Nat,v=.int .i64 k∧k≤K.length∧O0 M w5 wr∧wr.heap[M]?=some (.cells (xq (Qr c.op.length (K.take k))).toArray 3 (0,0))) (fun v _=>K.length-(intOf v).toNat);case atStart=>exact⟨0,rfl,ja _,B6.u,T6.u⟩
  case round=>
  clear B6 T6;obtain⟨k,rfl,hk,hb,ht⟩:=hrel;have B7:=jA hb;have T7:=jA ht;clear hb ht;by_cases ns:k<K.length;case neg=>
   obtain⟨dk,Ms⟩:=Go.yg ns;obtain rfl:k=K.length:=by omega
   rw [jr]at T7;have X7:=jA (xe B7.u gD X5.u);have BW:=jA (B5.u.trans (B7.u.mono (jX gD)));have hTL:=jaj c.op.length K;have Q7:=jA (QM.u wr (some ⟨M,0,none⟩) c.op.length (HS.u.below (HB.u.symm▸BW.u)) (jcJ T7.u) hTL);clear hTL ns;go_wp2_with (first
    |go_big_skip
    |((with_reducible refine yE 24 ?_);refine xi ?_ 24 (.tmp 3) ?_ B _ _ _ _ ?_ X7.u underlying24 ?_ xt ?_;rfl;rfl;rfl;rfl)
    |(go_at_call 59;refine(Q7.u).mono ?_;rintro e w8 MQ;obtain⟨v,E,rfl,iO,b8⟩:=Xa.fin MQ;dsimp only;have B8:=jA b8;have M8:=jA iO;clear b8 iO MQ))
   go_ret2
   exact Ex.u _ _ _ (by rw [HB.u];exact BW.u.trans (B8.u.mono (by have:=BW.u.size;rw [HB.u]at this;exact this))) M8.u
  obtain⟨dk,Ms,nu⟩:=Go.yD ns
  obtain⟨q,Us,Wy,Mv⟩:=(P5.u.below (HM.u.symm▸B7.u)).cells k ns;have Ot:=jA (jb ns);obtain⟨or,cr,sw,Ru,Pw⟩:=P5.u.rows K[k] Ot.u;rw [sw]at Mv;have aC:=jA Ru;have hL:K[k].2.length=c.op.length:=AH.u _ Ot.u;have HTN:=jA (show Qr c.op.length (K.take (k+1))=Kt (Qr c.op.length (K.take k)) K[k].2 c.op.length by rw [jh ns,jds]);have eA:=jA (jaj c.op.length (K.take k));subst Us;clear sw Ru Pw Ot;generalize K[k].2=L at*;generalize Qr c.op.length (K.take k)=T at*;rw [hL]at Mv;have NF:=jA hL;clear hL;obtain⟨wo,hwo⟩: ∃wo:m0,wo=wr:=⟨_,rfl⟩;subst hwo;go_wp2_with fail;go_loopw [117] (fun v wi=> ∃j:Nat,v=.int .i64 j∧j≤c.op.length∧O0 M w5 wi∧wi.heap[M]?=some (.cells (xq (Kt T L j)).toArray 3 (0,0))) (fun v _=>c.op.length-(intOf v).toNat);case atStart=>exact⟨0,rfl,ja _,B7.u,T7.u⟩
  case round=>
  clear T7 B7 Wy Mv;obtain⟨j,rfl,hj,hb,ht⟩:=hrel;have B8:=jA hb;have T8:=jA ht;clear hb ht;by_cases ft:j<c.op.length;case neg=>
   obtain⟨fk,wF⟩:=Go.yg ft;obtain rfl:j=c.op.length:=by omega
   go_wp2_with fail;go_roundw;case rel=>exact⟨k+1,by go_num,by omega,B8.u,by rw [HTN.u];exact T8.u⟩
   case measure=>simp [intOf];omega
  obtain⟨fk,wF,lV⟩:=Go.yD ft
  have EJ:j<L.length:=by rw [NF.u];exact ft
  have hjT:j<(Kt T L j).length:=by rw [jbg,eA.u];exact ft
  obtain⟨r,wB,nJ,FG⟩:=(aC.u.below (HM.u.symm▸B8.u)).cells j EJ;subst wB;have rN:=jA (Zy T L j);have HY:=jA (show L.getD j 0=L[j]by simp [EJ]);rw [HY.u]at rN;have kT:wr.cell? ⟨M,j,none⟩=some (.int .i64 ((Kt T L j).getD j 0)):=Zw T8.u j hjT;have fT:wr.frozen? ⟨M,j,none⟩=false:=jc _ _ _ _ _ T8.u;have TS:=jA (fun z=>jes T8.u j z);clear T8 hjT HY;generalize (Kt T L j).getD j 0=x at*;generalize L[j]=y at*;go_wp2_with fail;go_roundw;case rel=>exact⟨j+1,by go_num,by omega,B8.u.setCell (jO _) _,by rw [rN.u];exact TS.u _⟩
  case measure=>simp [intOf];omega
end Go.Proofs.YtnohcdpnnhmpfaaGreatDoor.TR
