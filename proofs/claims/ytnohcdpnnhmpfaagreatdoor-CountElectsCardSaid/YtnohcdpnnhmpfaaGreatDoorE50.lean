/- Chapter 13: the reference's Transfer. -/
import Derived.Test.YtnohcdpnnhmpfaaGreatDoorE33
import Derived.Test.YtnohcdpnnhmpfaaGreatDoorE48
import Derived.Test.YtnohcdpnnhmpfaaGreatDoorE49
set_option linter.all false
set_option maxRecDepth 100000
set_option maxHeartbeats 8000000
namespace Go.Proofs.YtnohcdpnnhmpfaaGreatDoor.TR
open Go.RowKit Tryz ML FRP AU CT FM
theorem jhV {m s:Nat}(hm:m≤4096)(hs:s≤4095):VP (zW m s):=by
 have h1:(zW m s).n≤m:=by
  show jih (m*1) (1* (s+1))≤m;rw [qS];exact Nat.div_le_self _ _
 have h2:(zW m s).d≤s+1:=by
  show jgG (m*1) (1* (s+1))≤s+1;rw [Nat.one_mul];exact Nat.div_le_self _ _
 have hb:m≤2^(m+s+1):=jU (by omega) (jX Nat.lt_two_pow_self);have hc:s+1≤2^(m+s+1):=jU (by omega) (jX Nat.lt_two_pow_self);exact Sml.lens ⟨m+s+1,by omega,(jjb m s).1,jU h1 hb,jU h2 hc⟩
theorem jiH(a b:ByteArray):prog.built 31 [(0,.agg #[.string a,.string b])]=some #[.string a,.string b,.slice none 0 0,.slice none 0 0]:=by kernel_rfl
theorem jbK(c:yH)(P:List (n0×C0))(lots:Bytes)(oa:s0)(cap:Nat)(ob:s0)(cb:Nat)(w:m0)(hs:zg w oa c.op)(hP:Va w ob P)(hf:c.Fits lots)(Gw:c.op.length<9223372036854775807):
 Calls prog 10 #[.agg #[.string ⟨c.nm.toArray⟩,.slice oa c.op.length cap,.int .i64 c.rl,.int .i64 c.se,.int .i64 c.mo],.slice ob P.length cb,.string ⟨lots.toArray⟩] w (jbH c P lots w):=by
 have QD:=jA (show ∀(w:m0) (h:zg w oa c.op),Calls prog 31 #[.agg #[.string ⟨c.nm.toArray⟩,.slice oa c.op.length cap,.int .i64 c.rl,.int .i64 c.se,.int .i64 c.mo],.string ⟨lots.toArray⟩] w (ZY c lots w)from fun w h=>Ys c lots oa cap w h hf Gw);have HS:=jA hs;have HP:=jA hP;have py:=jA (show prE c P=if yz c=true then 2 else KQ c.op.length P from rfl);clear hs hP hf;unfold ZY at QD;cases hW:yz c with
 |
  true=>
  rw [hW]at QD py;have HE:=jA (py.u.trans (jP rfl));clear hW py;go_enter Tryz.func10,Tryz.ntmps10;go_upto_region 1 with(fail);have Bv:O0 w.heap.size w ((w.alloc (.cells #[.string ⟨c.nm.toArray⟩,.slice oa c.op.length cap,.int .i64 c.rl,.int .i64 c.se,.int .i64 c.mo] 24)).alloc (.cells #[.string ⟨#[]⟩,.string ⟨#[]⟩,.slice none 0 0,.slice none 0 0] 31)):=((jN _ _).alloc (jO _) _).alloc (by simp) _;have uu:((w.alloc (.cells #[.string ⟨c.nm.toArray⟩,.slice oa c.op.length cap,.int .i64 c.rl,.int .i64 c.se,.int .i64 c.mo] 24)).alloc (.cells #[.string ⟨#[]⟩,.string ⟨#[]⟩,.slice none 0 0,.slice none 0 0] 31)).heap[w.heap.size]?=some (.cells #[.string ⟨c.nm.toArray⟩,.slice oa c.op.length cap,.int .i64 c.rl,.int .i64 c.se,.int .i64 c.mo] 24 (0,0)):=yM (xh rfl);have Tv:((w.alloc (.cells #[.string ⟨c.nm.toArray⟩,.slice oa c.op.length cap,.int .i64 c.rl,.int .i64 c.se,.int .i64 c.mo] 24)).alloc (.cells #[.string ⟨#[]⟩,.string ⟨#[]⟩,.slice none 0 0,.slice none 0 0] 31)).heap[w.heap.size+1]?=some (.cells #[.string ⟨#[]⟩,.string ⟨#[]⟩,.slice none 0 0,.slice none 0 0] 31 (0,0)):=xh (by simp);generalize hB:w.heap.size=B at*;refine xr (fun w1=>O0 B w w1∧w1.heap[B]?=some (.cells #[.string ⟨c.nm.toArray⟩,.slice oa c.op.length cap,.int .i64 c.rl,.int .i64 c.se,.int .i64 c.mo] 24 (0,0))∧w1.heap[B+1]?=some (.cells #[.string ⟨#[]⟩,.string ⟨#[]⟩,.slice none 0 0,.slice none 0 0] 31 (0,0))) ⟨Bv,uu,Tv⟩ (fun w1 ts=>?_);have HB:=jA hB;have B1:=jA ts.1;have X1:=jA ts.2.1;have Y1:=jA ts.2.2;have mt:B+1<w1.heap.size:=xZ ts.2.2;have Q1:=jA (QD.u w1 (HS.u.below (HB.u.symm▸B1.u)));clear hB ts QD Bv uu Tv;go_upto_region 2 with(first
   |go_big_skip
   |((with_reducible refine yE 24 ?_);refine xi ?_ 24 (.tmp 3) ?_ B _ _ _ _ ?_ X1.u underlying24 ?_ xt ?_;rfl;rfl;rfl;rfl)
   |(go_at_call 31;refine(Q1.u).mono ?_;rintro e w3 ⟨b3,h3⟩;rw [jP rfl]at h3;subst h3;dsimp only;have B3:=jA b3;clear b3))
  refine xr (fun w4=>O0 w3.heap.size w3 w4∧w4.heap[w3.heap.size]?=some (.cells #[.slice none 0 0] 29 (0,0))) ⟨(jN _ _).alloc (jO _) _,xh rfl⟩ (fun w4 Gu=>?_);have ME:O0 w1.heap.size w1 w4:=B3.u.trans (Gu.1.mono B3.u.size);have Y4:=jA (xe ME mt Y1.u);have X4:=jA (xe ME (by omega) X1.u);have B4:=jA (B1.u.trans (ME.mono (jX (by omega))));have O4:=jA Gu.2;have TV:=jA Gu.1;clear ME Gu;go_wp2_with (first
   |go_big_skip
   |(with_reducible refine wpList_build rfl 31 _ rfl [] (by first|(simp;done)|(simp [Act.eval];done)) _ jcQ ?_)
   |(refine xg rfl rfl 31 _ _ rfl (B+1) #[.string ⟨#[]⟩,.string ⟨#[]⟩,.slice none 0 0,.slice none 0 0] #[.string ⟨#[]⟩,.string ⟨#[]⟩,.slice none 0 0,.slice none 0 0] 31 rfl rfl Y4.u rfl Jf (YJ _ _ _ _ rfl rfl) ?_;intro w5 ho hp))
  refine jq (results_cell_tmp rfl _ w5 (B+1) _ _ _ _ _ rfl rfl hp underlying31 rfl Jf) rfl ?_;exact jbH.bad HE.u (by decide) (by rw [HB.u];exact xl B4.u ho (by omega))
 |
  false=>
  rw [hW]at QD py;obtain⟨Sw,Ws,_,_,lJ,Hx⟩:=Xq hW;have HE:=jA (py.u.trans (jQ (by decide)));have QF:=jA (fun w1 h=>Xe c 3 P oa cap ob cb w1 h Ws);clear hW py;unfold Js at QF;go_enter Tryz.func10,Tryz.ntmps10;go_upto_region 1 with(fail);have Bv:O0 w.heap.size w ((w.alloc (.cells #[.string ⟨c.nm.toArray⟩,.slice oa c.op.length cap,.int .i64 c.rl,.int .i64 c.se,.int .i64 c.mo] 24)).alloc (.cells #[.string ⟨#[]⟩,.string ⟨#[]⟩,.slice none 0 0,.slice none 0 0] 31)):=((jN _ _).alloc (jO _) _).alloc (by simp) _;have uu:((w.alloc (.cells #[.string ⟨c.nm.toArray⟩,.slice oa c.op.length cap,.int .i64 c.rl,.int .i64 c.se,.int .i64 c.mo] 24)).alloc (.cells #[.string ⟨#[]⟩,.string ⟨#[]⟩,.slice none 0 0,.slice none 0 0] 31)).heap[w.heap.size]?=some (.cells #[.string ⟨c.nm.toArray⟩,.slice oa c.op.length cap,.int .i64 c.rl,.int .i64 c.se,.int .i64 c.mo] 24 (0,0)):=yM (xh rfl);have Tv:((w.alloc (.cells #[.string ⟨c.nm.toArray⟩,.slice oa c.op.length cap,.int .i64 c.rl,.int .i64 c.se,.int .i64 c.mo] 24)).alloc (.cells #[.string ⟨#[]⟩,.string ⟨#[]⟩,.slice none 0 0,.slice none 0 0] 31)).heap[w.heap.size+1]?=some (.cells #[.string ⟨#[]⟩,.string ⟨#[]⟩,.slice none 0 0,.slice none 0 0] 31 (0,0)):=xh (by simp);generalize hB:w.heap.size=B at*;refine xr (fun w1=>O0 B w w1∧w1.heap[B]?=some (.cells #[.string ⟨c.nm.toArray⟩,.slice oa c.op.length cap,.int .i64 c.rl,.int .i64 c.se,.int .i64 c.mo] 24 (0,0))∧w1.heap[B+1]?=some (.cells #[.string ⟨#[]⟩,.string ⟨#[]⟩,.slice none 0 0,.slice none 0 0] 31 (0,0))) ⟨Bv,uu,Tv⟩ (fun w1 ts=>?_);have HB:=jA hB;have B1:=jA ts.1;have X1:=jA ts.2.1;have Y1:=jA ts.2.2;have mt:B+1<w1.heap.size:=xZ ts.2.2;have Q1:=jA (QD.u w1 (HS.u.below (HB.u.symm▸B1.u)));clear hB ts QD Bv uu Tv;go_upto_region 2 with(first
   |go_big_skip
   |((with_reducible refine yE 24 ?_);refine xi ?_ 24 (.tmp 3) ?_ B _ _ _ _ ?_ X1.u underlying24 ?_ xt ?_;rfl;rfl;rfl;rfl)
   |(go_at_call 31;refine(Q1.u).mono ?_;rintro e w3 ⟨b3,h3⟩;rw [jQ (by decide)]at h3;obtain⟨O,oO,cO,hO,dz,rfl⟩:=h3;dsimp only;have B3:=jA b3;have HO:=jA hO;have BH:=jA dz;clear hO dz b3))
  refine xr (fun w4=>O0 w3.heap.size w3 w4∧w4.heap[w3.heap.size]?=some (.cells #[.slice oO O.length cO] 29 (0,0))) ⟨(jN _ _).alloc (jO _) _,xh rfl⟩ (fun w4 Gu=>?_);have ME:O0 w1.heap.size w1 w4:=B3.u.trans (Gu.1.mono B3.u.size);have Y4:=jA (xe ME mt Y1.u);have X4:=jA (xe ME (by omega) X1.u);have B4:=jA (B1.u.trans (ME.mono (jX (by omega))));have O4:=jA Gu.2;have TV:=jA Gu.1;clear ME Gu;have rx:B+1<w4.heap.size:=xZ Y4.u;have pE:=jA (HP.u.below (HB.u.symm▸B4.u));have Q4:=jA (QF.u w4 pE.u);have Oz:=jA (BH.u.below TV.u);have hOlt:w3.heap.size<w4.heap.size:=xZ O4.u;have hBO:B+1<w3.heap.size:=jW mt B3.u.size;generalize w3.heap.size=OB at*;clear X1 Y1 B1 mt Q1 QF B3 BH TV
  as_aux_lemma=>
  by_cases h0:KQ c.op.length P=0;case neg=>
   have hd:(KQ c.op.length P !=0)=true:=by rw [ju];exact h0
   have H0:=jA h0;clear h0;go_upto_region 6 with(first
    |go_big_skip
    |((with_reducible refine yE 24 ?_);refine xi ?_ 24 (.tmp 3) ?_ B _ _ _ _ ?_ X4.u underlying24 ?_ xt ?_;rfl;rfl;rfl;rfl)
    |(go_at_call 12;refine(Q4.u).mono ?_;rintro e w5 ⟨b5,h5⟩;rw [jQ H0.u]at h5;subst h5;dsimp only;have Y5:=jA (xe b5 rx Y4.u);have B5:=jA (B4.u.trans (b5.mono (by omega)));clear b5))
   go_wp2_with (first
    |go_big_skip
    |(with_reducible refine wpList_build rfl 31 _ rfl [] (by first|(simp;done)|(simp [Act.eval];done)) _ jcQ ?_)
    |(refine xg rfl rfl 31 _ _ rfl (B+1) #[.string ⟨#[]⟩,.string ⟨#[]⟩,.slice none 0 0,.slice none 0 0] #[.string ⟨#[]⟩,.string ⟨#[]⟩,.slice none 0 0,.slice none 0 0] 31 rfl rfl Y5.u rfl Jf (YJ _ _ _ _ rfl rfl) ?_;intro w6 ho hp))
   refine jq (results_cell_tmp rfl _ w6 (B+1) _ _ _ _ _ rfl rfl hp underlying31 rfl Jf) rfl ?_;exact jbH.bad HE.u H0.u (by rw [HB.u];exact xl B5.u ho (by omega))
  have RF:=jA (HE.u.trans h0);obtain⟨hA,uw⟩:=jbW h0;have tL:=jA h0;have hR: ∀p∈P.filter (zB (c.rule 3)),Rnk c.op.length p.2:=fun p hp=>by
   obtain⟨h1,h2⟩:=jz.1 hp;have h3:JN (c.rule 3) p.2=true:=by
    have h4:(JN (c.rule 3) p.2&&XL p.2)=true:=h2;rw [jy]at h4;exact h4.1
   exact jlQ (c:=c.rule 3) rfl (hA p h1) h3
  have lH:(P.filter (zB (c.rule 3))).length≤4096:=jU (qJ _ _) uw;have Dy:(KQ c.op.length P !=0)=false:=by rw [h0];rfl
  have HR:=jA hR;clear h0 hA uw HE hR;go_upto_region 7 with(first
   |go_big_skip
   |((with_reducible refine yE 24 ?_);refine xi ?_ 24 (.tmp 3) ?_ B _ _ _ _ ?_ X4.u underlying24 ?_ xt ?_;rfl;rfl;rfl;rfl)
   |(go_at_call 12;refine(Q4.u).mono ?_;rintro e w5 ⟨b5,h5⟩;rw [jP tL.u]at h5;obtain⟨oo,co,sC,rfl⟩:=h5;dsimp only;have B5:=jA (B4.u.trans (b5.mono (by omega)));have P5:=jA sC;have Y5:=jA (xe b5 rx Y4.u);have X5:=jA (xe b5 (by omega) X4.u);have O5:=jA (xe b5 hOlt O4.u);have CI:=jA (Oz.u.below b5);have S5:=jA b5.size;clear b5 sC))
  have gD:B+1<w5.heap.size:=xZ Y5.u;have hO5:OB<w5.heap.size:=xZ O5.u;clear Q4 tL X4 Y4 B4 pE O4 Oz rx hOlt Dy;generalize mt:P.filter (zB (c.rule 3))=Bs at*;have HBs:=jA mt;clear mt;have c1:=jM w5 B 1 _ _ _ X5.u;go_upto_region 8 with(fail);clear c1;refine xr (fun w6=>O0 w5.heap.size w5 w6∧w6.heap[w5.heap.size]?=some (.cells #[.int .i64 (c.op.length:Int)] 3 (0,0))) ⟨(jN _ _).alloc (jO _) _,xh rfl⟩ (fun w6 Lw=>?_);have SV:=Lw.1;have N6:=jA Lw.2;have Y6:=jA (xe SV gD Y5.u);have X6:=jA (xe SV (by omega) X5.u);have O6:=jA (xe SV hO5 O5.u);have P6:=jA (P5.u.below SV);have IO6:=jA (CI.u.below SV);have B6:=jA (B5.u.trans (SV.mono (by omega)));have hN6:w5.heap.size<w6.heap.size:=xZ N6.u;clear Lw SV Y5 X5 O5 P5 CI B5;generalize w5.heap.size=NB at*;obtain⟨s,hs⟩: ∃s:Nat,c.se=s:=⟨c.se.toNat,by omega⟩;have CG:1≤s∧s≤12:=by omega
  have gA:=jA hs;have d3: ∀x:xj w6.heap.size w6,x.w.cell? ⟨B,3,none⟩=some (.int .i64 (s:Int)):=fun x=>by rw [←gA.u];exact jM _ B 3 _ _ _ (xe x.2 (by omega) X6.u)
  clear hs;obtain⟨M0,DC⟩: ∃M,M=w6.heap.size:=⟨_,rfl⟩;have wH:=jA DC;have PR:=jA (fun w=>YA Bs.length w (by omega));have mW:=jA (fun w=>show Calls prog 33 #[.int .i64 ((s:Int)+1)] w _ from YA (s+1) w (by omega));have QOV:=jA (fun(w:m0) (a b d e:n0) (h1:NrV w (Fr.wh Bs.length) a b) (h2:NrV w (Fr.wh (s+1)) d e)=>jja w h1 h2 (Fr.wh_ok _) (by show 0<s+1;omega) (Sml.wh (n:=Bs.length) (by omega)).lens (Sml.wh (n:=s+1) (by omega)).lens);have nt:O0 M0 w6 w6.drew:=(jN _ _).drew;have Rz:M0≤w6.drew.heap.size:=kh DC;rw [←DC]at d3;clear DC
  as_aux_lemma=>
  go_cut [12] (fun v w'=> ∃(X:Nat) (a b:n0),v=.pointer (some ⟨X,0,none⟩)∧w'.heap[X]?=some (.cells #[a,b] 69 (0,0))∧M0≤X∧NrV w' (zW Bs.length s) a b∧O0 M0 w6 w');case first=>
   refine Seg.Ym (fun w'=> ∃x:xj M0 w6,w'=x.w) (.quiet [0,1,3,4,5] (.alt 2 (.alt 6 (.alt 7 (.one 8 (.last [])) (.one 8 (.one 7 (.last [])))) (.one 8 (.one 6 (.one 7 (.last []))))) (.one 8 (.one 2 (.one 6 (.one 7 (.last []))))))) 9 (by kernel_rfl) (by kernel_rfl) (fun _ _ d _ _ h=>by cases d<;>exact h) (⟨⟨_,nt⟩,rfl⟩) ?_;try simp only [Seg.yS,Seg.opAt,jK]
   repeat (any_goals (first|go_big_quiet_step (fail)|quiet_step (fail)))
   refine jR ?_;try simp only [Seg.yS,Seg.opAt,jK]
   generalize w6.drew=x0 at*;refine⟨?_,?_⟩
   ·try unfold Seg.JB
    intro K hK;first|go_simp|skip
    go_wp2_with (go_at_call 33;refine(PR.u x0).mono ?_;rintro e x1 ⟨a1,b1,rfl,f1,lz,li⟩);have Fw:=nt.trans (lz.mono Rz);have Ty:=jU Rz lz.size;clear li;refine hK _ _ ⟨⟨_,Fw⟩,rfl⟩ ?_;clear hK K nt Rz lz;try simp only [Seg.yS,Seg.opAt,jK]
    refine⟨?_,?_⟩
    ·try unfold Seg.JB
     intro K hK;first|go_simp|skip
     go_wp2_with (go_at_call 33;refine(mW.u x1).mono ?_;rintro e x2 ⟨a2,b2,rfl,f2,rv,li⟩);have Lv:=Fw.trans (rv.mono Ty);have gC:=jU Ty rv.size;clear li;have kk:=f1.below rv;clear f1;have f1:=kk;clear kk;refine hK _ _ ⟨⟨_,Lv⟩,rfl⟩ ?_;clear hK K Fw Ty rv;try simp only [Seg.yS,Seg.opAt,jK]
     refine⟨?_,?_⟩
     ·try unfold Seg.JB
      intro K hK;first|go_simp|skip
      go_wp2_with (go_at_call 32;refine(QOV.u x2 _ _ _ _ f1 f2).mono ?_;rintro e x3 ⟨a3,b3,rfl,f3,Su,li⟩);have Gx:=Lv.trans (Su.mono gC);have SE:=jU gC Su.size;clear li;have kk:=f1.below Su;clear f1;have f1:=kk;clear kk;have kk:=f2.below Su;clear f2;have f2:=kk;clear kk;refine hK _ _ ⟨⟨_,Gx⟩,rfl⟩ ?_;clear hK K Lv gC Su;try simp only [Seg.yS,Seg.opAt,jK]
      try unfold Seg.JB
      intro K hK;first|go_simp|skip
      go_wp2_with fail;have cJ:O0 M0 w6 (x3.alloc (.cells #[.slice none 0 0,.slice none 0 0] 69)):=Gx.alloc SE _;have sx4:M0≤(x3.alloc (.cells #[.slice none 0 0,.slice none 0 0] 69)).heap.size:=by simp;omega
      have Au:O0 x3.heap.size x3 (x3.alloc (.cells #[.slice none 0 0,.slice none 0 0] 69)):=(jN _ _).alloc (jO _) _;have eX:(x3.alloc (.cells #[.slice none 0 0,.slice none 0 0] 69)).heap[x3.heap.size]?=some (.cells #[.slice none 0 0,.slice none 0 0] 69 (0,0)):=xh rfl;have mX:M0≤x3.heap.size:=SE;have kk:=f1.below Au;clear f1;have f1:=kk;clear kk;have kk:=f2.below Au;clear f2;have f2:=kk;clear kk;have kk:=f3.below Au;clear f3;have f3:=kk;clear kk;refine hK _ _ ⟨⟨_,cJ⟩,rfl⟩ ?_;clear hK K Gx SE Au;generalize (x3.alloc (.cells #[.slice none 0 0,.slice none 0 0] 69))=x4 at*;generalize x3.heap.size=X at*;try simp only [Seg.yS,Seg.opAt,jK]
      refine jR ?_;go_wp2_with (refine xg rfl rfl 69 _ _ rfl X #[.slice none 0 0,.slice none 0 0] #[a3,b3] 69 rfl rfl eX rfl zu (zd _ _ f3.one.1 f3.one.2) ?_;intro w9 ho hp);go_meet;exact⟨X,a3,b3,rfl,hp,mX,f3.spare ho eX (by simp [zE]),xl cJ ho mX⟩
     ·try unfold Seg.JB
      intro K hK;first|go_simp|skip
      go_wp2_with fail;have Gx:O0 M0 w6 (x2.alloc (.cells #[.slice none 0 0,.slice none 0 0] 69)):=Lv.alloc gC _;have SE:M0≤(x2.alloc (.cells #[.slice none 0 0,.slice none 0 0] 69)).heap.size:=by simp;omega
      have Su:O0 x2.heap.size x2 (x2.alloc (.cells #[.slice none 0 0,.slice none 0 0] 69)):=(jN _ _).alloc (jO _) _;have eX:(x2.alloc (.cells #[.slice none 0 0,.slice none 0 0] 69)).heap[x2.heap.size]?=some (.cells #[.slice none 0 0,.slice none 0 0] 69 (0,0)):=xh rfl;have mX:M0≤x2.heap.size:=gC;have kk:=f1.below Su;clear f1;have f1:=kk;clear kk;have kk:=f2.below Su;clear f2;have f2:=kk;clear kk;refine hK _ _ ⟨⟨_,Gx⟩,rfl⟩ ?_;clear hK K Lv gC Su;generalize (x2.alloc (.cells #[.slice none 0 0,.slice none 0 0] 69))=x3 at*;generalize x2.heap.size=X at*;try simp only [Seg.yS,Seg.opAt,jK]
      try unfold Seg.JB
      intro K hK;first|go_simp|skip
      go_wp2_with (go_at_call 32;refine(QOV.u x3 _ _ _ _ f1 f2).mono ?_;rintro e x4 ⟨a3,b3,rfl,f3,Au,li⟩);have cJ:=Gx.trans (Au.mono SE);have sx4:=jU SE Au.size;clear li;have kk:=f1.below Au;clear f1;have f1:=kk;clear kk;have kk:=f2.below Au;clear f2;have f2:=kk;clear kk;have kk:=xe Au (xZ eX) eX;clear eX;have eX:=kk;clear kk;refine hK _ _ ⟨⟨_,cJ⟩,rfl⟩ ?_;clear hK K Gx SE Au;try simp only [Seg.yS,Seg.opAt,jK]
      refine jR ?_;go_wp2_with (refine xg rfl rfl 69 _ _ rfl X #[.slice none 0 0,.slice none 0 0] #[a3,b3] 69 rfl rfl eX rfl zu (zd _ _ f3.one.1 f3.one.2) ?_;intro w9 ho hp);go_meet;exact⟨X,a3,b3,rfl,hp,mX,f3.spare ho eX (by simp [zE]),xl cJ ho mX⟩
    ·try unfold Seg.JB
     intro K hK;first|go_simp|skip
     go_wp2_with fail;have Lv:O0 M0 w6 (x1.alloc (.cells #[.slice none 0 0,.slice none 0 0] 69)):=Fw.alloc Ty _;have gC:M0≤(x1.alloc (.cells #[.slice none 0 0,.slice none 0 0] 69)).heap.size:=by simp;omega
     have rv:O0 x1.heap.size x1 (x1.alloc (.cells #[.slice none 0 0,.slice none 0 0] 69)):=(jN _ _).alloc (jO _) _;have eX:(x1.alloc (.cells #[.slice none 0 0,.slice none 0 0] 69)).heap[x1.heap.size]?=some (.cells #[.slice none 0 0,.slice none 0 0] 69 (0,0)):=xh rfl;have mX:M0≤x1.heap.size:=Ty;have kk:=f1.below rv;clear f1;have f1:=kk;clear kk;refine hK _ _ ⟨⟨_,Lv⟩,rfl⟩ ?_;clear hK K Fw Ty rv;generalize (x1.alloc (.cells #[.slice none 0 0,.slice none 0 0] 69))=x2 at*;generalize x1.heap.size=X at*;try simp only [Seg.yS,Seg.opAt,jK]
     try unfold Seg.JB
     intro K hK;first|go_simp|skip
     go_wp2_with (go_at_call 33;refine(mW.u x2).mono ?_;rintro e x3 ⟨a2,b2,rfl,f2,Su,li⟩);have Gx:=Lv.trans (Su.mono gC);have SE:=jU gC Su.size;clear li;have kk:=f1.below Su;clear f1;have f1:=kk;clear kk;have kk:=xe Su (xZ eX) eX;clear eX;have eX:=kk;clear kk;refine hK _ _ ⟨⟨_,Gx⟩,rfl⟩ ?_;clear hK K Lv gC Su;try simp only [Seg.yS,Seg.opAt,jK]
     try unfold Seg.JB
     intro K hK;first|go_simp|skip
     go_wp2_with (go_at_call 32;refine(QOV.u x3 _ _ _ _ f1 f2).mono ?_;rintro e x4 ⟨a3,b3,rfl,f3,Au,li⟩);have cJ:=Gx.trans (Au.mono SE);have sx4:=jU SE Au.size;clear li;have kk:=f1.below Au;clear f1;have f1:=kk;clear kk;have kk:=xe Au (xZ eX) eX;clear eX;have eX:=kk;clear kk;have kk:=f2.below Au;clear f2;have f2:=kk;clear kk;refine hK _ _ ⟨⟨_,cJ⟩,rfl⟩ ?_;clear hK K Gx SE Au;try simp only [Seg.yS,Seg.opAt,jK]
     refine jR ?_;go_wp2_with (refine xg rfl rfl 69 _ _ rfl X #[.slice none 0 0,.slice none 0 0] #[a3,b3] 69 rfl rfl eX rfl zu (zd _ _ f3.one.1 f3.one.2) ?_;intro w9 ho hp);go_meet;exact⟨X,a3,b3,rfl,hp,mX,f3.spare ho eX (by simp [zE]),xl cJ ho mX⟩
   ·try unfold Seg.JB
    intro K hK;first|go_simp|skip
    go_wp2_with fail;have Fw:O0 M0 w6 (x0.alloc (.cells #[.slice none 0 0,.slice none 0 0] 69)):=nt.alloc Rz _;have Ty:M0≤(x0.alloc (.cells #[.slice none 0 0,.slice none 0 0] 69)).heap.size:=by simp;omega
    have lz:O0 x0.heap.size x0 (x0.alloc (.cells #[.slice none 0 0,.slice none 0 0] 69)):=(jN _ _).alloc (jO _) _;have eX:(x0.alloc (.cells #[.slice none 0 0,.slice none 0 0] 69)).heap[x0.heap.size]?=some (.cells #[.slice none 0 0,.slice none 0 0] 69 (0,0)):=xh rfl;have mX:M0≤x0.heap.size:=Rz;refine hK _ _ ⟨⟨_,Fw⟩,rfl⟩ ?_;clear hK K nt Rz lz;generalize (x0.alloc (.cells #[.slice none 0 0,.slice none 0 0] 69))=x1 at*;generalize x0.heap.size=X at*;try simp only [Seg.yS,Seg.opAt,jK]
    try unfold Seg.JB
    intro K hK;first|go_simp|skip
    go_wp2_with (go_at_call 33;refine(PR.u x1).mono ?_;rintro e x2 ⟨a1,b1,rfl,f1,rv,li⟩);have Lv:=Fw.trans (rv.mono Ty);have gC:=jU Ty rv.size;clear li;have kk:=xe rv (xZ eX) eX;clear eX;have eX:=kk;clear kk;refine hK _ _ ⟨⟨_,Lv⟩,rfl⟩ ?_;clear hK K Fw Ty rv;try simp only [Seg.yS,Seg.opAt,jK]
    try unfold Seg.JB
    intro K hK;first|go_simp|skip
    go_wp2_with (go_at_call 33;refine(mW.u x2).mono ?_;rintro e x3 ⟨a2,b2,rfl,f2,Su,li⟩);have Gx:=Lv.trans (Su.mono gC);have SE:=jU gC Su.size;clear li;have kk:=xe Su (xZ eX) eX;clear eX;have eX:=kk;clear kk;have kk:=f1.below Su;clear f1;have f1:=kk;clear kk;refine hK _ _ ⟨⟨_,Gx⟩,rfl⟩ ?_;clear hK K Lv gC Su;try simp only [Seg.yS,Seg.opAt,jK]
    try unfold Seg.JB
    intro K hK;first|go_simp|skip
    go_wp2_with (go_at_call 32;refine(QOV.u x3 _ _ _ _ f1 f2).mono ?_;rintro e x4 ⟨a3,b3,rfl,f3,Au,li⟩);have cJ:=Gx.trans (Au.mono SE);have sx4:=jU SE Au.size;clear li;have kk:=xe Au (xZ eX) eX;clear eX;have eX:=kk;clear kk;have kk:=f1.below Au;clear f1;have f1:=kk;clear kk;have kk:=f2.below Au;clear f2;have f2:=kk;clear kk;refine hK _ _ ⟨⟨_,cJ⟩,rfl⟩ ?_;clear hK K Gx SE Au;try simp only [Seg.yS,Seg.opAt,jK]
    refine jR ?_;go_wp2_with (refine xg rfl rfl 69 _ _ rfl X #[.slice none 0 0,.slice none 0 0] #[a3,b3] 69 rfl rfl eX rfl zu (zd _ _ f3.one.1 f3.one.2) ?_;intro w9 ho hp);go_meet;exact⟨X,a3,b3,rfl,hp,mX,f3.spare ho eX (by simp [zE]),xl cJ ho mX⟩
  case rest=>
  clear nt Rz PR mW QOV d3;generalize wc=w7 at*;obtain⟨X,qa,qb,rfl,eX,mX,fq,bw⟩:=hcut;have ER:O0 w6.heap.size w6 w7:=wH.u▸bw;have X7:=jA (xe ER (by omega) X6.u);have Y7:=jA (xe ER (by omega) Y6.u);have O7:=jA (xe ER (by omega) O6.u);have N7:=jA (xe ER hN6 N6.u);have P7:=jA (P6.u.below ER);have rW:=jA (IO6.u.below ER);have B7:=jA (B6.u.trans (ER.mono (by omega)));have hNX:NB<X:=jW hN6 (wH.u▸mX);have Q7:=jA eX;have hX7:X<w7.heap.size:=xZ eX;have F7:=jA fq;have hBO5:B+1<OB:=hBO;clear eX mX fq bw ER X6 Y6 O6 N6 P6 IO6 B6 wH hN6;have LQ:=jA (show VP (zW Bs.length s)from jhV (m:=Bs.length) (s:=s) (by omega) (by omega));have QS:=jA (jfj w7 F7.u LQ.u);generalize oI:txt (zW Bs.length s)=tx at*;have UR:=jA oI;clear oI;go_upto_region 10 with(first
   |go_big_skip
   |((with_reducible refine yE 69 ?_);refine xi ?_ 69 (.tmp 12) ?_ X _ _ _ _ ?_ Q7.u underlying69 ?_ zu ?_;rfl;rfl;rfl;rfl)
   |(go_at_call 34;refine(QS.u).mono ?_;rintro e w8 ⟨rfl,b8⟩;dsimp only;have B8:=jA b8;clear b8)
   |(with_reducible refine wpList_build rfl 31 _ rfl [(0,.agg #[.string ⟨tx.1.toArray⟩,.string ⟨tx.2.toArray⟩])] (by first|(simp;done)|(simp [Act.eval];done)) _ (jiH _ _) ?_))
  refine xr (fun w9=>O0 w8.heap.size w8 w9∧w9.heap[w8.heap.size]?=some (.cells #[.string ⟨tx.1.toArray⟩,.string ⟨tx.2.toArray⟩,.slice none 0 0,.slice none 0 0] 31 (0,0))) ⟨(jN _ _).alloc (jO _) _,xh rfl⟩ (fun w9 WE=>?_);have PV:O0 w7.heap.size w7 w9:=B8.u.trans (WE.1.mono B8.u.size);have U9:=jA WE.2;have X9:=jA (xe PV (by omega) X7.u);have Y9:=jA (xe PV (by omega) Y7.u);have O9:=jA (xe PV (by omega) O7.u);have N9:=jA (xe PV (by omega) N7.u);have Q9:=jA (xe PV hX7 Q7.u);have F9:=jA (F7.u.below PV);have hXU:X<w8.heap.size:=jW hX7 B8.u.size;have P8:=jA (P7.u.below B8.u);have IO8:=jA (rW.u.below B8.u);have BW8:=jA (B7.u.trans (B8.u.mono (by omega)));have b89:=jA WE.1;have hB8:B+1<w8.heap.size:=jW (by omega) B8.u.size;clear WE PV X7 Y7 O7 N7 Q7 F7 P7 rW B7 B8 QS LQ hX7;obtain⟨OUT,hOUT⟩: ∃OUT,OUT=w8.heap.size:=⟨_,rfl⟩;have CP:=jA hOUT;rw [←hOUT]at U9 hXU b89 hB8 ⊢;clear hOUT;have d5: ∀x:xj w9.heap.size w9,x.w.cell? ⟨NB,0,none⟩=some (.int .i64 (c.op.length:Int)):=fun x=>jM _ NB 0 _ _ _ (xe x.2 (xZ N9.u) N9.u);obtain⟨M9,MM⟩: ∃M,M=w9.heap.size:=⟨_,rfl⟩;rw [←MM]at d5;have HM9:=jA MM;clear d5;refine jjY c.op.length NB M9 w9 w9 _ Ws MM (jN _ _) N9.u (fun _ _ d _ _ h=>by cases d<;>exact h) ?_;rintro tl ul CV WV CA WA du ⟨hcw,BC,mCV,mWV,eCV,eWV,ownC,ownW,b10'⟩;dsimp only [Exit.then];clear MM;have IB:O0 w9.heap.size w9 du:=HM9.u▸b10';have h9O:OUT<w9.heap.size:=xZ U9.u;have MM:=HM9.u;have X10:=jA (xe IB (by omega) X9.u);have Y10:=jA (xe IB (by omega) Y9.u);have O10:=jA (xe IB (by omega) O9.u);have N10:=jA (xe IB (by omega) N9.u);have Q10:=jA (xe IB (by omega) Q9.u);have U10:=jA (xe IB h9O U9.u);have F10:=jA (F9.u.below IB);have rB:=jA (BW8.u.trans (((b89.u.mono (by rw [CP.u];exact jO _)).trans (IB.mono (by rw [CP.u]at h9O;omega))).mono (by have:=BW8.u.size;rw [←HB.u];exact this)));have BL10:=jA (show O0 OUT w8 du from b89.u.trans (IB.mono (by omega)));obtain⟨lCA,eCA⟩:=Vs ownC;obtain⟨lWA,eWA⟩:=Vs ownW;have emk:(madeCells (Value.bool false).cells (c.op.length*1)).toList=zp c.op.length (fun _=>false):=jgE _ rfl _;rw [emk]at eCA eWA;have pY:=jA eCV;have aW:=jA eWV;have rY:=jA eCA;have dW:=jA eWA;have hM9w:M9≤du.heap.size:=by have:=IB.size;omega
  have hOM:OUT<M9:=by omega
  have hXM:X<M9:=by omega
  have hNM:NB<M9:=by omega
  have Gy:OB<M9:=by omega
  clear IB b10' eCV eWV eCA eWA emk ownC ownW X9 Y9 O9 N9 Q9 F9 U9 b89 HM9 MM h9O;obtain⟨f0,uA,Uv,WF,bJ⟩:=info_parts jcB;obtain⟨ew,dF,bQ,hg11⟩:=vK (P:=prog) (w:=du) du.heap.size 73 69 f0 (.agg #[.slice none 0 0,.slice none 0 0]) 2 underlying73 uA Uv WF .i64 .i64 c.op.length (by rw [bJ];omega) (by unfold maxLen;omega) (jO _);have n10:du.cell? ⟨NB,0,none⟩=some (.int .i64 (c.op.length:Int)):=jM du NB 0 _ _ _ N10.u;have OK11:=jA bQ;have HG11:=jA hg11;clear bQ hg11 uA Uv WF bJ;go_upto_block 0 with(fail);have rG:O0 du.heap.size du ew:=(jN _ _).grown HG11.u (jO _) (fun _ h=>by cases h);obtain⟨lKA,eKA⟩:=Vs OK11.u;rw [jdZ]at eKA;have Nz:=jA eKA;obtain⟨KA,nR⟩: ∃KA,KA=du.heap.size:=⟨_,rfl⟩;have X11:=jA (xe rG (xZ X10.u) X10.u);have Y11:=jA (xe rG (xZ Y10.u) Y10.u);have O11:=jA (xe rG (xZ O10.u) O10.u);have N11:=jA (xe rG (xZ N10.u) N10.u);have Q11:=jA (xe rG (xZ Q10.u) Q10.u);have U11:=jA (xe rG (xZ U10.u) U10.u);have FL:=jA (xe rG (xZ pY.u) pY.u);have iP:=jA (xe rG (xZ aW.u) aW.u);have nB:=jA (xe rG (xZ rY.u) rY.u);have cW:=jA (xe rG (xZ dW.u) dW.u);have F11:=jA (F10.u.below rG);have sY:=jA (BL10.u.trans (rG.mono (by omega)));have hKM:M9≤KA:=by omega
  have hKX:KA≠X:=by omega
  rw [←nR]at Nz ⊢;have h1011:=rG.size;clear rG eKA lKA nR X10 Y10 O10 N10 Q10 U10 pY aW rY dW F10 BL10 OK11 HG11 dF n10
  have hnl0:(yy c.op.length (fun _=>zx) (fun _=>zx)).toArray.all zE=true:=jaG (fun u hu=>by
   simp only [yy,qj,jk,jl,kD,kH]at hu;obtain⟨i,_,rfl|rfl⟩:=hu<;>rfl)
  obtain⟨q,hq⟩: ∃q,q=zW Bs.length s:=⟨_,rfl⟩;have HQ:=jA hq;rw [←hq]at F11 UR;clear hq
  as_aux_lemma=>
  refine jnf q c.op.length NB CV CA KA qa qb (fun _=>zx) (fun _=>zx) ew _ Ws N11.u FL.u nB.u Nz.u hnl0 F11.u (fun _ _ d _ _ h=>by cases d<;>exact h) ?_;rintro _ _ _ _ _ _ _ _ _ _ _ _ _ At ka kb ⟨fR,RQ,hz12,hq12,h2⟩;dsimp only [Exit.then];have kp: ∀{b:Nat} {cs:t0} {T:o0},ew.heap[b]?=some (.cells cs T (0,0))→b≠CA→b≠KA→At.heap[b]?=some (.cells cs T (0,0)):=fun hb h1 h3=>(h2.block _ (xZ hb) h1 h3).trans hb;have Cw:O.length=c.op.length:=HO.u.len;have hOUTl:OUT=w8.heap.size:=CP.u;have b0:=sY.u;have it:O0 w8.heap.size w8 At:=hOUTl▸(h2.below b0 (by omega) (by omega) (by have:=sY.u.size;omega));have hU12:=kp U11.u (zD U11.u nB.u (by decide)) (zD U11.u Nz.u (by decide));have wQ:=jjZ (c:=c) (oa:=oa) (cap:=cap) (B:=B) (RB:=B+1) (OB:=OB) (NB:=NB) (X:=X) (OUT:=OUT) (CV:=CV) (WV:=WV) (CA:=CA) (WA:=WA) (KA:=KA) (oO:=oO) (cO:=cO) (O:=O.map Int.toNat) (q:=q) (qa:=qa) (qb:=qb) (ka:=ka) (kb:=kb) (Bs:=Bs) (w0:=w8) (w:=At)
   it (kp X11.u (zD X11.u nB.u (by decide)) (zD X11.u Nz.u (by decide))) (kp Y11.u (zD Y11.u nB.u (by decide)) (zD Y11.u Nz.u (by decide)))
   (by rw [←Cw];exact kp O11.u (zD O11.u nB.u (by decide)) (zD O11.u Nz.u (by decide))) (kp N11.u (zD N11.u nB.u (by decide)) (zD N11.u Nz.u (by decide)))
   (kp Q11.u (zD Q11.u nB.u (by decide)) (fun e=>hKX e.symm)) (kp FL.u (zD FL.u nB.u (by decide)) (zD FL.u Nz.u (by decide))) (kp iP.u (zD iP.u nB.u (by decide)) (zD iP.u Nz.u (by decide)))
   fR (kp cW.u (fun e=>BC e.symm) (zD cW.u Nz.u (by decide))) BC RQ hKX hq12 hz12 (by rw [jmh HO.u];exact IO8.u) (by omega) (by omega) (by omega)
  have Sy:=jA wQ;have U12:=jA hU12;have hoo:OUT≠B+1:=by omega
  clear wQ hU12 it kp fR RQ hz12 hq12 h2 b0 X11 Y11 O11 N11 Q11 U11 FL iP nB cW F11 sY Nz hnl0 Cw;go_upto_block 2 with(fail)
  as_aux_lemma=>
  refine jne _ q _ Bs oo co At _ Sy.u rfl P8.u Sw Ws lH HR.u (fun _ _ d _ _ h=>by cases d<;>exact h) ?_;rintro _ _ _ _ _ _ _ _ _ _ _ _ _ _ _ _ _ _ LL K' G' oV cV mG BA hr13 hv13 hb13;dsimp only [Exit.then];obtain⟨vb,ob',cb',Lf,rfl⟩:=mG;have R13:=jA hr13;have V13:=jA hv13;have bD:G'.ev=zx:=by unfold Yk at BA;rw [BA]
  have hgw:G'.wf=fun _=>false:=by unfold Yk at BA;rw [BA]
  have hOE:=CP.u;have U13:=jA (xe hb13 (xZ U12.u) U12.u);have HOA:=jA (show JG (⟨c,oa,cap,Bs.length,B,B+1,OB,NB,X,OUT,CV,WV,CA,WA,KA,oO,cO,O.map Int.toNat,vb,ob',cb',Lf,qa,qb,w8⟩:RK) q G' LL [] zx []from⟨by rw [bD,UR.u];exact U13.u,kg _ _ _ _,rfl,fun i hi=>by simp at hi,by show w8.heap.size≤OUT;omega,hoo⟩)
  have sE:=jA (show Inv c.op.length s Bs.length q (O.map Int.toNat) (S0 c.op.length (yT Bs) Bs.length)by
   have h1:=jeg (n:=c.op.length) (s:=s) (O:=O.map Int.toNat) (Rs:=yT Bs) (by have:=gA.u;omega) Ws (jgy HO.u).1 (jgy HO.u).2 (fun rk Pu i hi=>by
    unfold yT at Pu;obtain⟨p,hp,rfl⟩:=jo.1 Pu;exact(HR.u p hp).lt i hi)
   have e:(yT Bs).length=Bs.length:=by unfold yT;rw [kS]
   rw [e,←HQ.u]at h1;exact h1)
  have Ux:(O.map Int.toNat).length=c.op.length:=by rw [kS];exact HO.u.len
  have hmu:(S0 c.op.length (yT Bs) Bs.length).mu (O.map Int.toNat)≤36:=by
   have h1:=Zv (l:=O.map Int.toNat) (S0 c.op.length (yT Bs) Bs.length).cont;have h3:((S0 c.op.length (yT Bs) Bs.length).wait (O.map Int.toNat)).length≤(O.map Int.toNat).length:=qJ _ _;show 2* ((O.map Int.toNat).filter (S0 c.op.length (yT Bs) Bs.length).cont).length+((S0 c.op.length (yT Bs) Bs.length).wait (O.map Int.toNat)).length≤36;omega
  clear hr13 hv13 hb13 BA U12 U13 Sy;go_upto_block 4 with(fail)
  as_aux_lemma=>
  refine jnd (⟨c,oa,cap,Bs.length,B,B+1,OB,NB,X,OUT,CV,WV,CA,WA,KA,oO,cO,O.map Int.toNat,vb,ob',cb',Lf,qa,qb,w8⟩:RK) q (S0 c.op.length (yT Bs) Bs.length) G' s oV cV LL _ sE.u gA.u Sw Ws lH hmu Ux ⟨zx,[],.nil,R13.u,HOA.u,(fun y hy=>by cases hy),V13.u,(fun i _=>by rw [hgw];rfl)⟩ (fun _ _ d _ _ h=>by cases d<;>exact h) (by intros;contradiction) ?_;intro _ _ _ _ _ _ _ _ _ _ _ _ _ _ _ _ _ _ _ _ _ _ _ _ _ _ _ _ _ _ _ _ _ _ _ _ _ _ _ _ _ _ _ _ _ _ _ _ _ _ _ _ _ _ _ _ _ _ _ _ _ _ _ _ _ _ _ _ _ _ _ _ _ _ _ _ _ _ _ _ _ _ _ _ _ _ _ _ _ _ _ _ _ _ _ _ _ _ _ _ _ _ _ _ _ _ _ _ _ _ _ _ _ _ _ _ _ _ _ _ _ _ _ _ _ _ _ _ _ _ _ _ _ _ _ _ _ _ _ _ _ _ _ _ _ _ _ _ _ _ _ _ _ _ _ _ _ _ _ _ _ _ _ _ _ _ _ _ _ _ _ _ _ _ _ _ _ _ _ _ _ _ _ _ _ _ _ _ _ _ _ _ _ _ _ _ _ _ _ _ _ _ _ _ _ _ _ _ _ _ _ _ _ _ _ _ _ S R G vR CS wz w' UC wA Us mT UY hpz;obtain⟨oR,cR,oE,cE,e1,e2,CE,AC⟩:=jmf Us mT.els UY mT.res;have oZ:O0 w.heap.size w w':=by
   rw [HB.u];have h1:=mT.bel;exact xl (BW8.u.trans (h1.mono (by show B≤w8.heap.size;omega))) UY (by show B≤B+1;omega)
  show bodyPost _ _ _ _ _ _;rw [e1,e2]at hpz;refine jq (results_cell_tmp rfl _ w' (B+1) _ _ _ _ _ rfl rfl hpz underlying31 rfl Jf) rfl ?_;unfold jbH;refine⟨oZ,?_⟩;rw [jP RF.u,HBs.u];have rC:c.se.toNat=s:=by have:=gA.u;omega
  rw [rC,←HQ.u];exact⟨O,R,S,oR,cR,oE,cE,HO.u,UC,wA,rfl,CE,AC⟩
end Go.Proofs.YtnohcdpnnhmpfaaGreatDoor.TR
