/- Chapter 13: count.Transfer. -/
import Derived.Test.YtnohcdpnnhmpfaaGreatDoorE28
import Derived.Test.YtnohcdpnnhmpfaaGreatDoorE27
set_option linter.all false
set_option maxRecDepth 100000
set_option maxHeartbeats 16000000
namespace Go.Proofs.YtnohcdpnnhmpfaaGreatDoor.TR
open Go.RowKit Tryz ML FRP AU CT FM
theorem Jf:(prog.info? 31).map (·.size)=some 4:=by kernel_rfl
theorem jcQ:prog.built 31 []=some #[.string ⟨#[]⟩,.string ⟨#[]⟩,.slice none 0 0,.slice none 0 0]:=by kernel_rfl
theorem jeL {P:Program}{ops:Array Oper}{rest:List Oper}{o:Oper}{a:Act}{w:m0}{Q:Exit→Act→m0→Prop}(tA:o.guard=none)(t:o0)(x:Operand)(f:Nat)(ho:o.op=.field t x f)(v:n0)(hr: ∀w,(Instr.field t (a.eval x) f).run P w=.ok v w)
 (h:wpList P ops Q rest (a.put o.dst v) w):wpList P ops Q (o::rest) a w:=by
 refine wpList_plain tA fun K hK=>?_;unfold Oper.wp execOp;simp only [ho,kU,hr,qQ];exact hK _ _ h
theorem jmQ(x y:ByteArray)(vR vE:n0)(w:m0):(Instr.field 31 (.agg #[.string x,.string y,vR,vE]) 2).run prog w=.ok vE w:=by kernel_rfl
theorem jlc(c:yH)(P:List (n0×C0))(lots:Bytes)(oa:s0)(cap:Nat)(ob:s0)(cb:Nat)(w:m0)(hs:zg w oa c.op)(hP:Va w ob P)(hf:c.Fits lots)(Gw:c.op.length<9223372036854775807):
 Calls prog 20 #[.agg #[.string ⟨c.nm.toArray⟩,.slice oa c.op.length cap,.int .i64 c.rl,.int .i64 c.se,.int .i64 c.mo],.slice ob P.length cb,.string ⟨lots.toArray⟩] w (Je c P lots w):=by
 have QD:=jA (show ∀(w:m0) (h:zg w oa c.op),Calls prog 28 #[.agg #[.string ⟨c.nm.toArray⟩,.slice oa c.op.length cap,.int .i64 c.rl,.int .i64 c.se,.int .i64 c.mo],.string ⟨lots.toArray⟩] w (jbX c lots oa cap w)from fun w h=>jhc c lots oa cap w h hf Gw)
 have QM:=jA (show ∀(T:C0) (w:m0) (ot:s0) (ct:Nat) (h:zg w oa c.op) (h2:yW w ot T) (h3:T.length=c.op.length),Calls prog 56 #[.agg #[.string ⟨c.nm.toArray⟩,.slice oa c.op.length cap,.int .i64 c.rl,.int .i64 c.se,.int .i64 c.mo],.slice ot c.op.length ct,.string ⟨lots.toArray⟩] w (Xa c lots T w)from fun T w ot ct h h2 h3=>by
  have:=jmr c T lots oa cap ot ct w h h2 hf Gw (by omega);rw [h3]at this;exact this)
 have HS:=jA hs;have HP:=jA hP;have py:=jA (show prE c P=if yz c=true then 2 else KQ c.op.length P from rfl);clear hs hP hf;unfold jbX at QD;cases hW:yz c with
 |
  true=>
  rw [hW]at QD py;have HE:=jA (py.u.trans (jP rfl));clear hW py QM;go_enter Tryz.func20,Tryz.ntmps20;go_upto_region 1 with(fail);generalize hB:w.heap.size=B at*;refine Go.bxE hB ?_;intro w1 ts;have HB:=jA hB;have B1:=jA ts.1;have X1:=jA ts.2;have mt:B<w1.heap.size:=xZ ts.2;have Q1:=jA (QD.u w1 (HS.u.below (HB.u.symm▸B1.u)));clear hB ts QD;go_wp2_with (first
   |go_big_skip
   |((with_reducible refine yE 24 ?_);refine xi ?_ 24 (.tmp 3) ?_ B _ _ _ _ ?_ X1.u underlying24 ?_ xt ?_;rfl;rfl;rfl;rfl)
   |(go_at_call 28;refine(Q1.u).mono ?_;rintro e w3 ⟨b3,h3⟩;rw [jP rfl]at h3;subst h3;dsimp only;have B3:=jA b3;clear b3)
   |(refine xg rfl rfl 62 _ _ rfl w3.heap.size #[.string ⟨#[]⟩,.slice none 0 0,.int .i64 0,.int .i64 0,.int .i64 0,.slice none 0 0,.slice none 0 0] #[.string ⟨#[]⟩,.slice none 0 0,.int .i64 0,.int .i64 0,.int .i64 0,.slice none 0 0,.slice none 0 0] 62 rfl rfl (xh rfl) rfl zQ (XN _ _ _ _ _ _ _ rfl rfl rfl rfl rfl rfl rfl) ?_;intro w4 ho hp))
  go_ret2
  have b4:O0 w3.heap.size w3 w4:=xl ((jN _ _).alloc (jO _) _) ho (jO _);exact Je.bad HE.u (by decide) (by rw [HB.u];exact B1.u.trans ((B3.u.mono (jX mt)).trans (b4.mono (by have:=B3.u.size;omega))))
 |
  false=>
  rw [hW]at QD py;obtain⟨Sw,Ws,_,_,lJ,Hx⟩:=Xq hW;have HE:=jA (py.u.trans (jQ (by decide)));have QF:=jA (fun w1 h=>jiu c c.rl P oa cap ob cb w1 h Ws Sw);clear hW py;unfold Js at QF;go_enter Tryz.func20,Tryz.ntmps20;go_upto_region 1 with(fail);generalize hB:w.heap.size=B at*;refine Go.bxE hB ?_;intro w1 ts;have HB:=jA hB;have B1:=jA ts.1;have X1:=jA ts.2;have mt:B<w1.heap.size:=xZ ts.2;have Q1:=jA (QD.u w1 (HS.u.below (HB.u.symm▸B1.u)));clear hB ts QD;go_upto_region 2 with(first
   |go_big_skip
   |((with_reducible refine yE 24 ?_);refine xi ?_ 24 (.tmp 3) ?_ B _ _ _ _ ?_ X1.u underlying24 ?_ xt ?_;rfl;rfl;rfl;rfl)
   |(go_at_call 28;refine(Q1.u).mono ?_;rintro e w3 ⟨b3,h3⟩;rw [jQ (by decide)]at h3;obtain⟨O,Pl,oO,cO,oP,cP,hO,wU,dz,GU,rfl⟩:=h3;dsimp only;have B3:=jA b3;have HO:=jA hO;have tH:=jA wU;have BH:=jA dz;have HIP:=jA GU;clear hO wU dz GU b3)
   |(refine xg rfl rfl 62 _ _ rfl w3.heap.size #[.string ⟨#[]⟩,.slice none 0 0,.int .i64 0,.int .i64 0,.int .i64 0,.slice none 0 0,.slice none 0 0] #[.string ⟨c.nm.toArray⟩,.slice oa c.op.length cap,.int .i64 c.rl,.int .i64 c.se,.int .i64 c.mo,.slice oO O.length cO,.slice oP Pl.length cP] 62 rfl rfl (xh rfl) rfl zQ (XN _ _ _ _ _ _ _ rfl rfl rfl rfl rfl rfl rfl) ?_;intro w4 ho hp))
  have b4:O0 w3.heap.size w3 w4:=xl ((jN _ _).alloc (jO _) _) ho (jO _);have NK:O0 w1.heap.size w1 w4:=B3.u.trans (b4.mono B3.u.size);have B4:=jA (B1.u.trans (NK.mono (jX mt)));have X4:=jA (xe NK mt X1.u);have rx:B<w4.heap.size:=xZ X4.u;have pE:=jA (HP.u.below (HB.u.symm▸B4.u));have Q4:=jA (QF.u w4 pE.u);have Oz:=jA (BH.u.below b4);have IP:=jA (HIP.u.below b4);have RD:=jA hp;have sF:w3.heap.size<w4.heap.size:=xZ hp;have k2:w4.cell? ⟨B,2,none⟩=some (.int .i64 c.rl):=jM _ _ _ _ _ _ X4.u;have PD:O.length≤12:=by rw [HO.u.len];exact Ws
  generalize w3.heap.size=D at*;clear ho hp b4 NK X1 B1 mt Q1 QF B3 BH HIP
  as_aux_lemma=>
  by_cases h0:KQ c.op.length P=0;case neg=>
   have hd:(KQ c.op.length P !=0)=true:=by rw [ju];exact h0
   have H0:=jA h0;clear h0;go_wp2_with (first
    |go_big_skip
    |((with_reducible refine yE 24 ?_);refine xi ?_ 24 (.tmp 3) ?_ B _ _ _ _ ?_ X4.u underlying24 ?_ xt ?_;rfl;rfl;rfl;rfl)
    |(go_at_call 29;refine(Q4.u).mono ?_;rintro e w5 ⟨b5,h5⟩;rw [jQ H0.u]at h5;subst h5;dsimp only;have B5:=jA (B4.u.trans (b5.mono (jX rx)));clear b5))
   go_ret2
   exact Je.bad HE.u H0.u (by rw [HB.u];exact B5.u)
  have RF:=jA (HE.u.trans h0);obtain⟨hA,uw⟩:=jbW h0;have tL:=jA h0;have HAL:=jA hA;have AH:=jA (ZF (zB (c.rule c.rl)) hA);have lH:(P.filter (zB (c.rule c.rl))).length≤4096:=jU (qJ _ _) uw;have FP:=jA (show kept c P=P.filter (zB (c.rule c.rl))from rfl);rw [←FP.u]at Q4 AH lH;clear h0 hA uw HE;obtain⟨K,hK⟩: ∃K,K=kept c P:=⟨_,rfl⟩;rw [←hK]at Q4 AH lH;have UB:=jA hK;clear hK FP;have QP:=jA (fun w1 ob cb h=>jko c.op.length K ob cb w1 h AH.u Ws lH);have QA:=jA (fun w1 F h=>jkn c.op.length (zv K) ⟨F,0,none⟩ c.op.length w1 h Ws (fun i j _ _=>by unfold zv;omega));go_upto_region 7 with(first
   |go_big_skip
   |((with_reducible refine yE 24 ?_);refine xi ?_ 24 (.tmp 3) ?_ B _ _ _ _ ?_ X4.u underlying24 ?_ xt ?_;rfl;rfl;rfl;rfl)
   |(go_at_call 29;refine(Q4.u).mono ?_;rintro e w5 ⟨b5,h5⟩;rw [jP tL.u]at h5;obtain⟨oo,co,sC,rfl⟩:=h5;dsimp only;have B5:=jA (B4.u.trans (b5.mono (jX rx)));have P5:=jA sC;have X5:=jA (xe b5 rx X4.u);have R5:=jA (xe b5 sF RD.u);have CI:=jA (Oz.u.below b5);have IP5:=jA (IP.u.below b5);clear b5 sC))
  clear Q4 tL X4 B4 pE k2 RD Oz IP;have gD:B<w5.heap.size:=xZ X5.u;have RM:D<w5.heap.size:=xZ R5.u;have k2:w5.cell? ⟨B,2,none⟩=some (.int .i64 c.rl):=jM _ _ _ _ _ _ X5.u;clear rx sF;by_cases h3:c.rl=3;case pos=>
   as_aux_lemma=>
   have r3:(c.rl==3)=true:=by rw [qH];exact h3
   have hR: ∀p∈K,Rnk c.op.length p.2:=fun p hp=>by
    rw [UB.u]at hp;unfold kept at hp;obtain⟨h1,h2⟩:=jz.1 hp;have h4:JN (c.rule c.rl) p.2=true:=by
     have h5:(JN (c.rule c.rl) p.2&&XL p.2)=true:=h2;rw [jy]at h5;exact h5.1
    exact jlQ (c:=c.rule c.rl) (by show zV c.rl=true;rw [h3];rfl) (HAL.u p h1) h4
   have Ux:=HO.u.len;have QT:=jA (jeR c oa cap oO cO oP cP O Pl K oo co w5 CI.u IP5.u P5.u Sw Ws lH hR ⟨lJ,Hx⟩ Ux (by rw [tH.u.1];exact Ux) (fun x=>HO.u.mem) (fun k hk=>tH.u.2 k hk) (jdV HO.u));have Ex:=jA (fun(w':m0) (R:List Rd) (S:St) (oE:s0) (n cE:Nat) (hb:O0 w.heap.size w w') hR hD hn hI=>Je.tr (P:=P) (lots:=lots) (R:=R) (S:=S) (oE:=oE) (n:=n) (cE:=cE) RF.u h3 hb HO.u hR hD hn hI);rw [←UB.u]at Ex;clear hR Ux UB HAL AH QP QA h3;go_wp2_with (first
    |go_big_skip
    |((with_reducible refine yE 62 ?_);refine xi ?_ 62 (.tmp 8) ?_ D _ _ _ _ ?_ R5.u underlying62 ?_ zQ ?_;rfl;rfl;rfl;rfl)
    |(go_at_call 30;refine(QT.u).mono ?_;rintro e w6 wO;obtain⟨KK,G,R,S,vR,vE,CS,UC,hen,rfl,hrds,b6⟩:=wO;obtain⟨oR,cR,oE,cE,rfl,rfl,_,AC⟩:=jlR hrds;dsimp only;have B6:=jA (B5.u.trans (b6.mono (jX gD)));have HRU:=jA UC;have HEN:=jA hen;have IE:=jA AC;clear b6 UC hen hrds AC)
    |(refine jeL rfl 31 _ 2 rfl _ (fun w=>jmQ _ _ _ _ w) ?_))
   go_ret2
   exact Ex.u _ R S _ _ _ (by rw [HB.u];exact B6.u) HRU.u HEN.u (yn _).symm IE.u
  have r3:(c.rl==3)=false:=by rw [jt];exact h3
  clear IP5 tH HAL;by_cases h4:c.rl=4;case pos=>
   as_aux_lemma=>
   have r4:(c.rl==4)=true:=by rw [qH];exact h4
   have Ex:=jA (fun(w':m0) (W:Mx) (i:Nat) (oo:s0) (co:Nat) (hb:O0 w.heap.size w w') hS hF hI=>Je.pr (P:=P) (lots:=lots) (W:=W) (i:=i) (oo:=oo) (co:=co) RF.u h4 hb HO.u hS hF hI);rw [←UB.u]at Ex;clear h3 h4 UB QM;have k1:w5.cell? ⟨B,1,none⟩=some (.slice oa c.op.length cap):=jM _ _ _ _ _ _ X5.u;go_upto_region 12 with(first
    |go_big_skip
    |(go_at_call 53;refine(QP.u w5 oo co P5.u).mono ?_;rintro e w6 ⟨F,gs,rfl,hm6,DA⟩;dsimp only)
    |(go_at_call 52;refine(QA.u w6 F hm6.read).mono ?_;rintro e w7 ⟨G,hs7,W,rfl,hm7,hst7,Hw⟩;dsimp only))
   have M7:=jA hm7.read;have ST7:=jA hst7;have B7:=jA (B5.u.trans ((DA.trans (Hw.mono DA.size)).mono (jX gD)));have R7:=jA (xe Hw (jW RM DA.size) (xe DA RM R5.u));have rW:=jA ((CI.u.below DA).below Hw);have uI:B≤w7.heap.size:=jU (jX gD) (jU DA.size Hw.size);clear hm6 DA hm7 hst7 Hw B5 R5 CI P5 X5 k1 k2 QP QA gD RM;have Bv:O0 w7.heap.size w7 (w7.alloc (.cells #[.slice (some ⟨G,0,none⟩) c.op.length c.op.length] 25)):=(jN _ _).alloc (jO _) _;have bM:(w7.alloc (.cells #[.slice (some ⟨G,0,none⟩) c.op.length c.op.length] 25)).cell? ⟨w7.heap.size,0,none⟩=some (.slice (some ⟨G,0,none⟩) c.op.length c.op.length):=jM _ _ 0 _ _ _ (xh rfl);refine xr (fun w8=>O0 B w w8∧O0 w7.heap.size w7 w8∧w8.cell? ⟨w7.heap.size,0,none⟩=some (.slice (some ⟨G,0,none⟩) c.op.length c.op.length)) ⟨B7.u.trans (Bv.mono uI),Bv,bM⟩ (fun w8 LN=>?_);have B8:=jA LN.1;have M8:=jA (M7.u.below LN.2.1);have R8:=jA (xe LN.2.1 (xZ R7.u) R7.u);have IO8:=jA (rW.u.below LN.2.1);have K8:=jA LN.2.2;have wU:w7.heap.size<w8.heap.size:=by
    have:=LN.2.2;unfold World.cell? at this;cases h:w8.heap[w7.heap.size]? with
    |none=>rw [h]at this;cases this
    |some o=>exact xZ h
   clear LN Bv bM M7 R7 rW B7;generalize w7.heap.size=Pb at*;have hD8:D<w8.heap.size:=xZ R8.u;have hB8:B≤w8.heap.size:=jU uI (jX wU);clear uI
   as_aux_lemma=>
   have k5:w8.cell? ⟨D,5,none⟩=some (.slice oO O.length cO):=jM _ _ _ _ _ _ R8.u;go_wp2_with fail;clear k5;have gS:=jA (show ∀x∈O,0≤x∧x<(c.op.length:Int)from fun x hx=>HO.u.mem.1 hx);go_loopw [58] (fun v wr=> ∃k:Nat,v=.int .i64 k∧k≤O.length∧(∀x∈O.take k,O.any (Kf W x.toNat)=true)∧O0 w8.heap.size w8 wr) (fun v _=>O.length-(intOf v).toNat);case atStart=>exact⟨0,rfl,ja _,(fun x hx=>by simp at hx),jN _ _⟩
   case round=>
   obtain⟨k,rfl,hk,gR,hb⟩:=hrel;have UX:=jA gR;have BR:=jA hb;have TC:=hb.size;clear gR hb;by_cases ns:k<O.length;case neg=>
    exfalso;obtain⟨i,hi⟩:=ST7.u.top_ex (by omega);have DD:(i:Int)∈O:=HO.u.mem.2 ⟨by omega,by have:=hi.1;omega⟩;have h1:=UX.u (i:Int) (by rw [je (by omega)];exact DD);rw [ke,jeF gS.u hi]at h1;cases h1
   obtain⟨dk,Ms,Py⟩:=Go.yD ns
   obtain⟨a,Us,eu,Ft⟩:=(IO8.u.below BR.u).cells k ns;have Ou:=jA (show O.take (k+1)=O.take k++ [O[k]]from jh ns);have hxb:=gS.u _ (jb ns);subst Us;generalize O[k]=x at*;obtain⟨i,rfl⟩: ∃i:Nat,x=i:=⟨x.toNat,by omega⟩;have bt:i<c.op.length:=by omega
   clear hxb;go_upto_region 15 with(fail);have Bv:O0 wr.heap.size wr (wr.alloc (.cells #[.int .i64 (i:Int)] 3)):=(jN _ _).alloc (jO _) _;have hib:(wr.alloc (.cells #[.int .i64 (i:Int)] 3)).cell? ⟨wr.heap.size,0,none⟩=some (.int .i64 (i:Int)):=jM _ _ 0 _ _ _ (xh rfl);refine xr (fun w9=>O0 w8.heap.size w8 w9∧w9.cell? ⟨wr.heap.size,0,none⟩=some (.int .i64 (i:Int))) ⟨BR.u.trans (Bv.mono TC),hib⟩ (fun w9 WE=>?_);have B9:=jA WE.1;have k6:=WE.2;have K6:=jA WE.2;have k5:w9.cell? ⟨D,5,none⟩=some (.slice (some a) O.length cO):=jM _ _ _ _ _ _ (xe WE.1 hD8 R8.u);have K9:=jA ((WE.1.cell (p:=⟨Pb,0,none⟩) wU).trans K8.u);clear WE Bv hib BR TC eu Ft;generalize wr.heap.size=Ib at*;have QC:=jA (jaD c.op.length i W ⟨G,0,none⟩ c.op.length Pb Ib (some a) O cO w9 (IO8.u.below B9.u) gS.u PD (M8.u.below B9.u) Ws bt K9.u K6.u);cases eu:O.any (Kf W i)with
   |
    true=>
    rw [eu]at QC
    have PX:=jA (show ∀x∈O.take (k+1),O.any (Kf W x.toNat)=true by
     rw [Ou.u];intro x hx;rcases jj.1 hx with h|h;·exact UX.u x h
     ·rw [jm.1 h,ke];exact eu)
    clear eu;go_wp2_with (first
     |go_big_skip
     |(go_at_call 54;refine(QC.u).mono ?_;rintro e du ⟨rfl,m,rfl⟩;dsimp only))
    go_roundw;case rel=>exact⟨k+1,by go_num,by omega,PX.u,ML.yl B9.u m⟩
    case measure=>simp [intOf];omega
   |
    false=>
    rw [eu]at QC;have HT:=jA (jgV gS.u (jhD bt (fun j hj=>HO.u.mem.2 ⟨by omega,by omega⟩) eu) ns Ou.u UX.u);clear eu;go_wp2_with (first
     |go_big_skip
     |(go_at_call 54;refine(QC.u).mono ?_;rintro e du ⟨rfl,m,rfl⟩;dsimp only))
    go_ret2
    exact Ex.u _ W i _ _ (by rw [HB.u];exact(B8.u.trans ((ML.yl B9.u m).mono hB8)).alloc (by have:=B9.u.size;exact jU hB8 this) _) ST7.u HT.u (jef (xh rfl))
  have r4:(c.rl==4)=false:=by rw [jt];exact h4
  have Ex:=jA (fun(w':m0) (v:n0) (E:Int) (hb:O0 w.heap.size w w') iO=>Je.ms (P:=P) (lots:=lots) (v:=v) (E:=E) RF.u h3 h4 hb iO);rw [←UB.u]at Ex;clear h3 h4 UB QP QA CI R5 RM HO PD
  as_aux_lemma=>
  have k1:w5.cell? ⟨B,1,none⟩=some (.slice oa c.op.length cap):=jM _ _ _ _ _ _ X5.u;obtain⟨i0,hi,Is,Ts,Ns⟩:=info_parts YG;have HI:=jA hi;have Dt:=jA Is;have Ct:=jA Ts;have Bt:=jA Ns;clear hi Is Ts Ns;go_upto_region 19 with(refine wpList_make_row _ rfl _ _ 29 rfl 3 i0 (.int .i64 0) underlying29 HI.u Dt.u Ct.u rfl .i64 .i64 c.op.length rfl rfl (by rw [Bt.u];omega) (by omega) ?_);have Bv:O0 w5.heap.size w5 (w5.alloc (.cells (madeCells #[Value.int .i64 0] c.op.length) 3)):=(jN _ _).alloc (jO _) _;have uQ:(w5.alloc (.cells (madeCells #[Value.int .i64 0] c.op.length) 3)).heap[w5.heap.size]?=some (.cells (xq (Qr c.op.length [])).toArray 3 (0,0)):=by rw [xh rfl,jcK]
  generalize hM:w5.heap.size=M at*;refine xr (fun w6=>O0 M w5 w6∧w6.heap[M]?=some (.cells (xq (Qr c.op.length [])).toArray 3 (0,0))) ⟨Bv,uQ⟩ (fun w6 Lw=>?_);have HM:=jA hM;have B6:=jA Lw.1;have T6:=jA Lw.2;clear Lw Bv uQ hM k1 HI Dt Ct Bt
  as_aux_lemma=>
  go_wp2_with fail;go_loopw [76] (fun v wr=> ∃k:Nat,v=.int .i64 k∧k≤K.length∧O0 M w5 wr∧wr.heap[M]?=some (.cells (xq (Qr c.op.length (K.take k))).toArray 3 (0,0))) (fun v _=>K.length-(intOf v).toNat);case atStart=>exact⟨0,rfl,ja _,B6.u,T6.u⟩
  case round=>
  clear B6 T6;obtain⟨k,rfl,hk,hb,ht⟩:=hrel;have B7:=jA hb;have T7:=jA ht;clear hb ht;by_cases ns:k<K.length;case neg=>
   obtain⟨dk,Ms⟩:=Go.yg ns;obtain rfl:k=K.length:=by omega
   rw [jr]at T7;have X7:=jA (xe B7.u gD X5.u);have BW:=jA (B5.u.trans (B7.u.mono (jX gD)));have hTL:=jaj c.op.length K;have Q7:=jA (QM.u (Qr c.op.length K) wr (some ⟨M,0,none⟩) c.op.length (HS.u.below (HB.u.symm▸BW.u)) (jcJ T7.u) hTL);clear hTL ns;go_wp2_with (first
    |go_big_skip
    |((with_reducible refine yE 24 ?_);refine xi ?_ 24 (.tmp 3) ?_ B _ _ _ _ ?_ X7.u underlying24 ?_ xt ?_;rfl;rfl;rfl;rfl)
    |(go_at_call 56;refine(Q7.u).mono ?_;rintro e w8 MQ;obtain⟨v,E,rfl,iO,b8⟩:=Xa.fin MQ;dsimp only;have B8:=jA b8;have M8:=jA iO;clear b8 iO MQ))
   go_ret2
   exact Ex.u _ _ _ (by rw [HB.u];exact BW.u.trans (B8.u.mono (by have:=BW.u.size;rw [HB.u]at this;exact this))) M8.u
  obtain⟨dk,Ms,nu⟩:=Go.yD ns
  obtain⟨q,Us,Wy,Mv⟩:=(P5.u.below (HM.u.symm▸B7.u)).cells k ns;have Ot:=jA (jb ns);obtain⟨or,cr,sw,Ru,Pw⟩:=P5.u.rows K[k] Ot.u;rw [sw]at Mv;have aC:=jA Ru;have hL:K[k].2.length=c.op.length:=AH.u _ Ot.u;have HTN:=jA (show Qr c.op.length (K.take (k+1))=Kt (Qr c.op.length (K.take k)) K[k].2 c.op.length by rw [jh ns,jds]);have eA:=jA (jaj c.op.length (K.take k));subst Us;clear sw Ru Pw Ot;generalize K[k].2=L at*;generalize Qr c.op.length (K.take k)=T at*;rw [hL]at Mv;have NF:=jA hL;clear hL;obtain⟨wo,hwo⟩: ∃wo:m0,wo=wr:=⟨_,rfl⟩;subst hwo;go_wp2_with fail;go_loopw [82] (fun v wi=> ∃j:Nat,v=.int .i64 j∧j≤c.op.length∧O0 M w5 wi∧wi.heap[M]?=some (.cells (xq (Kt T L j)).toArray 3 (0,0))) (fun v _=>c.op.length-(intOf v).toNat);case atStart=>exact⟨0,rfl,ja _,B7.u,T7.u⟩
  case round=>
  clear T7 B7 Wy Mv;obtain⟨j,rfl,hj,hb,ht⟩:=hrel;have B8:=jA hb;have T8:=jA ht;clear hb ht;by_cases ft:j<c.op.length;case neg=>
   obtain⟨fk,wF⟩:=Go.yg ft;obtain rfl:j=c.op.length:=by omega
   go_wp2_with fail;go_roundw;case rel=>exact⟨k+1,by go_num,by omega,B8.u,by rw [HTN.u];exact T8.u⟩
   case measure=>simp [intOf];omega
  obtain⟨fk,wF,lV⟩:=Go.yD ft
  have EJ:j<L.length:=by rw [NF.u];exact ft
  have hjT:j<(Kt T L j).length:=by rw [jbg,eA.u];exact ft
  obtain⟨r,wB,nJ,FG⟩:=(aC.u.below (HM.u.symm▸B8.u)).cells j EJ;subst wB;have rN:=jA (Zy T L j);have HY:=jA (show L.getD j 0=L[j]by simp [EJ]);rw [HY.u]at rN;have kT:wr.cell? ⟨M,j,none⟩=some (.int .i64 ((Kt T L j).getD j 0)):=Zw T8.u j hjT;have fT:wr.frozen? ⟨M,j,none⟩=false:=jc _ _ _ _ _ T8.u;have TS:=jA (fun z=>jes T8.u j z);clear T8 hjT HY;generalize (Kt T L j).getD j 0=x at*;generalize L[j]=y at*;go_wp2_with fail;go_roundw;case rel=>exact⟨j+1,by go_num,by omega,B8.u.setCell (jO _) _,by rw [rN.u];exact TS.u _⟩
  case measure=>simp [intOf];omega
end Go.Proofs.YtnohcdpnnhmpfaaGreatDoor.TR
