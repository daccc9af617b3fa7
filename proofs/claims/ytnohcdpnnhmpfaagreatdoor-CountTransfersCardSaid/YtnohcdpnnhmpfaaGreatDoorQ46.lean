/-
  Chapter 13: the reference's Transfer. Printed by tools/genrt.py.
-/
import Derived.Test.YtnohcdpnnhmpfaaGreatDoorQ32
import Derived.Test.YtnohcdpnnhmpfaaGreatDoorQ37
import Derived.Test.YtnohcdpnnhmpfaaGreatDoorQ29
import Derived.Test.YtnohcdpnnhmpfaaGreatDoorQ43
import Derived.Test.YtnohcdpnnhmpfaaGreatDoorQ44
import Derived.Test.YtnohcdpnnhmpfaaGreatDoorQ41
import Derived.Test.YtnohcdpnnhmpfaaGreatDoorQ45
set_option linter.unusedVariables false
set_option linter.unusedSimpArgs false
set_option maxRecDepth 100000
set_option maxHeartbeats 8000000
namespace Go.Proofs.YtnohcdpnnhmpfaaGreatDoor.TR
open Go.RowKit Tryz ML FRP AU CT FM
theorem jgd {m s:Nat}(hm:m≤4096)(hs:s≤4095):Qg (zN m s):=by
 have h1:(zN m s).n≤m:=by
  show jgp (m*1) (1* (s+1))≤m;rw [qG];exact Nat.div_le_self _ _
 have h2:(zN m s).d≤s+1:=by
  show jeW (m*1) (1* (s+1))≤s+1;rw [Nat.one_mul];exact Nat.div_le_self _ _
 have hb:m≤2^(m+s+1):=jU (by omega) (jZ Nat.lt_two_pow_self);have hc:s+1≤2^(m+s+1):=jU (by omega) (jZ Nat.lt_two_pow_self);exact Sml.lens ⟨m+s+1,by omega,(jhe m s).1,jU h1 hb,jU h2 hc⟩
theorem jgN(a b:ByteArray):prog.built 31 [(0,.agg #[.string a,.string b])]=some #[.string a,.string b,.slice none 0 0,.slice none 0 0]:=by kernel_rfl
theorem jaE(c:yE)(P:List (Value×List Int))(lots:Bytes)(oa:Option Addr)(cap:Nat)(ob:Option Addr)(cb:Nat)(w:World)(hs:JD w oa c.op)(hP:Yw w ob P)(hf:c.Fits lots)(hnl:c.op.length<9223372036854775807):
 Calls prog 10 #[.agg #[.string ⟨c.nm.toArray⟩,.slice oa c.op.length cap,.int .i64 c.rl,.int .i64 c.se,.int .i64 c.mo],.slice ob P.length cb,.string ⟨lots.toArray⟩] w (Vi c P lots w):=by
 have QD:=jA (show ∀(w:World) (h:JD w oa c.op),Calls prog 31 #[.agg #[.string ⟨c.nm.toArray⟩,.slice oa c.op.length cap,.int .i64 c.rl,.int .i64 c.se,.int .i64 c.mo],.string ⟨lots.toArray⟩] w (jeh c lots w)from fun w h=>jeG c lots oa cap w h hf hnl);have HS:=jA hs;have HP:=jA hP;have HPR:=jA (show prE c P=if zR c=true then 2 else KQ c.op.length P from rfl);clear hs hP hf;unfold jeh at QD;cases hW:zR c with
 |
  true=>
  rw [hW]at QD HPR;have HE:=jA (HPR.u.trans (jR rfl));clear hW HPR;go_enter Tryz.func10,Tryz.ntmps10;go_upto_region 1 with(fail);have hbA:Below w.heap.size w ((w.alloc (.cells #[.string ⟨c.nm.toArray⟩,.slice oa c.op.length cap,.int .i64 c.rl,.int .i64 c.se,.int .i64 c.mo] 24)).alloc (.cells #[.string ⟨#[]⟩,.string ⟨#[]⟩,.slice none 0 0,.slice none 0 0] 31)):=((jN _ _).alloc (jO _) _).alloc (by simp) _;have hc1:((w.alloc (.cells #[.string ⟨c.nm.toArray⟩,.slice oa c.op.length cap,.int .i64 c.rl,.int .i64 c.se,.int .i64 c.mo] 24)).alloc (.cells #[.string ⟨#[]⟩,.string ⟨#[]⟩,.slice none 0 0,.slice none 0 0] 31)).heap[w.heap.size]?=some (.cells #[.string ⟨c.nm.toArray⟩,.slice oa c.op.length cap,.int .i64 c.rl,.int .i64 c.se,.int .i64 c.mo] 24 (0,0)):=xx (xN rfl);have hc2:((w.alloc (.cells #[.string ⟨c.nm.toArray⟩,.slice oa c.op.length cap,.int .i64 c.rl,.int .i64 c.se,.int .i64 c.mo] 24)).alloc (.cells #[.string ⟨#[]⟩,.string ⟨#[]⟩,.slice none 0 0,.slice none 0 0] 31)).heap[w.heap.size+1]?=some (.cells #[.string ⟨#[]⟩,.string ⟨#[]⟩,.slice none 0 0,.slice none 0 0] 31 (0,0)):=xN (by simp);generalize hB:w.heap.size=B at*;refine xP (fun w1=>Below B w w1∧w1.heap[B]?=some (.cells #[.string ⟨c.nm.toArray⟩,.slice oa c.op.length cap,.int .i64 c.rl,.int .i64 c.se,.int .i64 c.mo] 24 (0,0))∧w1.heap[B+1]?=some (.cells #[.string ⟨#[]⟩,.string ⟨#[]⟩,.slice none 0 0,.slice none 0 0] 31 (0,0))) ⟨hbA,hc1,hc2⟩ (fun w1 hw1=>?_);have HB:=jA hB;have B1:=jA hw1.1;have X1:=jA hw1.2.1;have Y1:=jA hw1.2.2;have hBs:B+1<w1.heap.size:=lt_of_heap hw1.2.2;have Q1:=jA (QD.u w1 (HS.u.below (HB.u.symm▸B1.u)));clear hB hw1 QD hbA hc1 hc2;go_upto_region 2 with(first
   |go_big_skip
   |((with_reducible refine xl 24 ?_);refine xO ?_ 24 (.tmp 3) ?_ B _ _ _ _ ?_ X1.u underlying24 ?_ xe ?_;rfl;rfl;rfl;rfl)
   |(go_at_call 31;refine(Q1.u).mono ?_;rintro e w3 ⟨b3,h3⟩;rw [jR rfl]at h3;subst h3;dsimp only;have B3:=jA b3;clear b3))
  refine xP (fun w4=>Below w3.heap.size w3 w4∧w4.heap[w3.heap.size]?=some (.cells #[.slice none 0 0] 29 (0,0))) ⟨(jN _ _).alloc (jO _) _,xN rfl⟩ (fun w4 hw4=>?_);have b14:Below w1.heap.size w1 w4:=B3.u.trans (hw4.1.mono B3.u.size);have Y4:=jA (xK b14 hBs Y1.u);have X4:=jA (xK b14 (by omega) X1.u);have B4:=jA (B1.u.trans (b14.mono (jZ (by omega))));have O4:=jA hw4.2;have b34:=jA hw4.1;clear b14 hw4;go_wp2_with (first
   |go_big_skip
   |(with_reducible refine wpList_build rfl 31 _ rfl [] (by first|(simp;done)|(simp [Act.eval];done)) _ Xn ?_)
   |(refine xM rfl rfl 31 _ _ rfl (B+1) #[.string ⟨#[]⟩,.string ⟨#[]⟩,.slice none 0 0,.slice none 0 0] #[.string ⟨#[]⟩,.string ⟨#[]⟩,.slice none 0 0,.slice none 0 0] 31 rfl rfl Y4.u rfl yG (JR _ _ _ _ rfl rfl) ?_;intro w5 ho hp))
  refine jm (results_cell_tmp rfl _ w5 (B+1) _ _ _ _ _ rfl rfl hp underlying31 rfl yG) rfl ?_;exact Vi.bad HE.u (by decide) (by rw [HB.u];exact xQ B4.u ho (by omega))
 |
  false=>
  rw [hW]at QD HPR;obtain⟨hn1,hn12,_,_,hs1,hsn⟩:=Ze hW;have HE:=jA (HPR.u.trans (jT (by decide)));have QF:=jA (fun w1 h=>jbJ c 3 P oa cap ob cb w1 h hn12);clear hW HPR;unfold Jj at QF;go_enter Tryz.func10,Tryz.ntmps10;go_upto_region 1 with(fail);have hbA:Below w.heap.size w ((w.alloc (.cells #[.string ⟨c.nm.toArray⟩,.slice oa c.op.length cap,.int .i64 c.rl,.int .i64 c.se,.int .i64 c.mo] 24)).alloc (.cells #[.string ⟨#[]⟩,.string ⟨#[]⟩,.slice none 0 0,.slice none 0 0] 31)):=((jN _ _).alloc (jO _) _).alloc (by simp) _;have hc1:((w.alloc (.cells #[.string ⟨c.nm.toArray⟩,.slice oa c.op.length cap,.int .i64 c.rl,.int .i64 c.se,.int .i64 c.mo] 24)).alloc (.cells #[.string ⟨#[]⟩,.string ⟨#[]⟩,.slice none 0 0,.slice none 0 0] 31)).heap[w.heap.size]?=some (.cells #[.string ⟨c.nm.toArray⟩,.slice oa c.op.length cap,.int .i64 c.rl,.int .i64 c.se,.int .i64 c.mo] 24 (0,0)):=xx (xN rfl);have hc2:((w.alloc (.cells #[.string ⟨c.nm.toArray⟩,.slice oa c.op.length cap,.int .i64 c.rl,.int .i64 c.se,.int .i64 c.mo] 24)).alloc (.cells #[.string ⟨#[]⟩,.string ⟨#[]⟩,.slice none 0 0,.slice none 0 0] 31)).heap[w.heap.size+1]?=some (.cells #[.string ⟨#[]⟩,.string ⟨#[]⟩,.slice none 0 0,.slice none 0 0] 31 (0,0)):=xN (by simp);generalize hB:w.heap.size=B at*;refine xP (fun w1=>Below B w w1∧w1.heap[B]?=some (.cells #[.string ⟨c.nm.toArray⟩,.slice oa c.op.length cap,.int .i64 c.rl,.int .i64 c.se,.int .i64 c.mo] 24 (0,0))∧w1.heap[B+1]?=some (.cells #[.string ⟨#[]⟩,.string ⟨#[]⟩,.slice none 0 0,.slice none 0 0] 31 (0,0))) ⟨hbA,hc1,hc2⟩ (fun w1 hw1=>?_);have HB:=jA hB;have B1:=jA hw1.1;have X1:=jA hw1.2.1;have Y1:=jA hw1.2.2;have hBs:B+1<w1.heap.size:=lt_of_heap hw1.2.2;have Q1:=jA (QD.u w1 (HS.u.below (HB.u.symm▸B1.u)));clear hB hw1 QD hbA hc1 hc2;go_upto_region 2 with(first
   |go_big_skip
   |((with_reducible refine xl 24 ?_);refine xO ?_ 24 (.tmp 3) ?_ B _ _ _ _ ?_ X1.u underlying24 ?_ xe ?_;rfl;rfl;rfl;rfl)
   |(go_at_call 31;refine(Q1.u).mono ?_;rintro e w3 ⟨b3,h3⟩;rw [jT (by decide)]at h3;obtain⟨O,oO,cO,hO,hIO,rfl⟩:=h3;dsimp only;have B3:=jA b3;have HO:=jA hO;have HIO:=jA hIO;clear hO hIO b3))
  refine xP (fun w4=>Below w3.heap.size w3 w4∧w4.heap[w3.heap.size]?=some (.cells #[.slice oO O.length cO] 29 (0,0))) ⟨(jN _ _).alloc (jO _) _,xN rfl⟩ (fun w4 hw4=>?_);have b14:Below w1.heap.size w1 w4:=B3.u.trans (hw4.1.mono B3.u.size);have Y4:=jA (xK b14 hBs Y1.u);have X4:=jA (xK b14 (by omega) X1.u);have B4:=jA (B1.u.trans (b14.mono (jZ (by omega))));have O4:=jA hw4.2;have b34:=jA hw4.1;clear b14 hw4;have hB4:B+1<w4.heap.size:=lt_of_heap Y4.u;have HP4:=jA (HP.u.below (HB.u.symm▸B4.u));have Q4:=jA (QF.u w4 HP4.u);have IOr:=jA (HIO.u.below b34.u);have hOlt:w3.heap.size<w4.heap.size:=lt_of_heap O4.u;have hBO:B+1<w3.heap.size:=jV hBs B3.u.size;generalize w3.heap.size=OB at*;clear X1 Y1 B1 hBs Q1 QF B3 HIO b34
  as_aux_lemma=>
  by_cases h0:KQ c.op.length P=0;case neg=>
   have hd:(KQ c.op.length P !=0)=true:=by rw [ku];exact h0
   have H0:=jA h0;clear h0;go_upto_region 6 with(first
    |go_big_skip
    |((with_reducible refine xl 24 ?_);refine xO ?_ 24 (.tmp 3) ?_ B _ _ _ _ ?_ X4.u underlying24 ?_ xe ?_;rfl;rfl;rfl;rfl)
    |(go_at_call 12;refine(Q4.u).mono ?_;rintro e w5 ⟨b5,h5⟩;rw [jT H0.u]at h5;subst h5;dsimp only;have Y5:=jA (xK b5 hB4 Y4.u);have B5:=jA (B4.u.trans (b5.mono (by omega)));clear b5))
   go_wp2_with (first
    |go_big_skip
    |(with_reducible refine wpList_build rfl 31 _ rfl [] (by first|(simp;done)|(simp [Act.eval];done)) _ Xn ?_)
    |(refine xM rfl rfl 31 _ _ rfl (B+1) #[.string ⟨#[]⟩,.string ⟨#[]⟩,.slice none 0 0,.slice none 0 0] #[.string ⟨#[]⟩,.string ⟨#[]⟩,.slice none 0 0,.slice none 0 0] 31 rfl rfl Y5.u rfl yG (JR _ _ _ _ rfl rfl) ?_;intro w6 ho hp))
   refine jm (results_cell_tmp rfl _ w6 (B+1) _ _ _ _ _ rfl rfl hp underlying31 rfl yG) rfl ?_;exact Vi.bad HE.u H0.u (by rw [HB.u];exact xQ B5.u ho (by omega))
  have HE0:=jA (HE.u.trans h0);obtain⟨hA,h4096⟩:=jdW h0;have HFE:=jA h0;have hR: ∀p∈P.filter (yX (c.rule 3)),Rnk c.op.length p.2:=fun p hp=>by
   obtain⟨h1,h2⟩:=kB.1 hp;have h3:zY (c.rule 3) p.2=true:=by
    have h4:(zY (c.rule 3) p.2&&Qk p.2)=true:=h2;rw [jy]at h4;exact h4.1
   exact jfW (c:=c.rule 3) rfl (hA p h1) h3
  have hK4:(P.filter (yX (c.rule 3))).length≤4096:=jU (kt _ _) h4096;have HBS:=jA (show P.filter (yX (c.rule 3))=P.filter (yX (c.rule 3))from rfl);have hd0:(KQ c.op.length P !=0)=false:=by rw [h0];rfl
  have HR:=jA hR;clear h0 hA h4096 HE hR;go_upto_region 7 with(first
   |go_big_skip
   |((with_reducible refine xl 24 ?_);refine xO ?_ 24 (.tmp 3) ?_ B _ _ _ _ ?_ X4.u underlying24 ?_ xe ?_;rfl;rfl;rfl;rfl)
   |(go_at_call 12;refine(Q4.u).mono ?_;rintro e w5 ⟨b5,h5⟩;rw [jR HFE.u]at h5;obtain⟨oo,co,hp5,rfl⟩:=h5;dsimp only;have B5:=jA (B4.u.trans (b5.mono (by omega)));have P5:=jA hp5;have Y5:=jA (xK b5 hB4 Y4.u);have X5:=jA (xK b5 (by omega) X4.u);have O5:=jA (xK b5 hOlt O4.u);have IO5:=jA (IOr.u.below b5);have S5:=jA b5.size;clear b5 hp5))
  have hB5:B+1<w5.heap.size:=lt_of_heap Y5.u;have hO5:OB<w5.heap.size:=lt_of_heap O5.u;clear Q4 HFE X4 Y4 B4 HP4 O4 IOr hB4 hOlt hd0 S5;generalize hBs:P.filter (yX (c.rule 3))=Bs at*;have HBs:=jA hBs;clear hBs HBS;have c1:=jM w5 B 1 _ _ _ X5.u;go_upto_region 8 with(fail);clear c1;refine xP (fun w6=>Below w5.heap.size w5 w6∧w6.heap[w5.heap.size]?=some (.cells #[.int .i64 (c.op.length:Int)] 3 (0,0))) ⟨(jN _ _).alloc (jO _) _,xN rfl⟩ (fun w6 hw6=>?_);have b56:=hw6.1;have N6:=jA hw6.2;have Y6:=jA (xK b56 hB5 Y5.u);have X6:=jA (xK b56 (by omega) X5.u);have O6:=jA (xK b56 hO5 O5.u);have P6:=jA (P5.u.below b56);have IO6:=jA (IO5.u.below b56);have B6:=jA (B5.u.trans (b56.mono (by omega)));have hN6:w5.heap.size<w6.heap.size:=lt_of_heap N6.u;clear hw6 b56 Y5 X5 O5 P5 IO5 B5;generalize w5.heap.size=NB at*;obtain⟨s,hs⟩: ∃s:Nat,c.se=s:=⟨c.se.toNat,by omega⟩;have hs12:1≤s∧s≤12:=by omega
  have HSE:=jA hs;have d3: ∀x:xS w6.heap.size w6,x.w.cell? ⟨B,3,none⟩=some (.int .i64 (s:Int)):=fun x=>by rw [←HSE.u];exact jM _ B 3 _ _ _ (xK x.2 (by omega) X6.u)
  clear hs;obtain⟨M0,hM0⟩: ∃M,M=w6.heap.size:=⟨_,rfl⟩;have HM0:=jA hM0;have QW1:=jA (fun w=>XH Bs.length w (by omega));have QW2:=jA (fun w=>show Calls prog 33 #[.int .i64 ((s:Int)+1)] w _ from XH (s+1) w (by omega));have QOV:=jA (fun(w:World) (a b d e:Value) (h1:NrV w (Fr.wh Bs.length) a b) (h2:NrV w (Fr.wh (s+1)) d e)=>jhd w h1 h2 (Fr.wh_ok _) (by show 0<s+1;omega) (Sml.wh (n:=Bs.length) (by omega)).lens (Sml.wh (n:=s+1) (by omega)).lens);have hx0:Below M0 w6 w6.drew:=(jN _ _).drew;have sx0:M0≤w6.drew.heap.size:=kg hM0;rw [←hM0]at d3;clear hM0
  as_aux_lemma=>
  go_cut [12] (fun v w'=> ∃(X:Nat) (a b:Value),v=.pointer (some ⟨X,0,none⟩)∧w'.heap[X]?=some (.cells #[a,b] 69 (0,0))∧M0≤X∧NrV w' (zN Bs.length s) a b∧Below M0 w6 w');case first=>
   refine Seg.JW (fun w'=> ∃x:xS M0 w6,w'=x.w) (.quiet [0,1,3,4,5] (.alt 2 (.alt 6 (.alt 7 (.one 8 (.last [])) (.one 8 (.one 7 (.last [])))) (.one 8 (.one 6 (.one 7 (.last []))))) (.one 8 (.one 2 (.one 6 (.one 7 (.last []))))))) 9 (by kernel_rfl) (by kernel_rfl) (fun _ _ d _ _ h=>by cases d<;>exact h) (⟨⟨_,hx0⟩,rfl⟩) ?_;try simp only [Seg.xf,Seg.opAt,jK]
   repeat (any_goals (first|go_big_quiet_step (fail)|quiet_step (fail)))
   refine jP ?_;try simp only [Seg.xf,Seg.opAt,jK]
   generalize w6.drew=x0 at*;refine⟨?_,?_⟩
   ·try unfold Seg.yk
    intro K hK;first|go_simp|skip
    go_wp2_with (go_at_call 33;refine(QW1.u x0).mono ?_;rintro e x1 ⟨a1,b1,rfl,f1,twx1,li⟩);have hx1:=hx0.trans (twx1.mono sx0);have sx1:=jU sx0 twx1.size;clear li;refine hK _ _ ⟨⟨_,hx1⟩,rfl⟩ ?_;clear hK K hx0 sx0 twx1;try simp only [Seg.xf,Seg.opAt,jK]
    refine⟨?_,?_⟩
    ·try unfold Seg.yk
     intro K hK;first|go_simp|skip
     go_wp2_with (go_at_call 33;refine(QW2.u x1).mono ?_;rintro e x2 ⟨a2,b2,rfl,f2,twx2,li⟩);have hx2:=hx1.trans (twx2.mono sx1);have sx2:=jU sx1 twx2.size;clear li;have kk:=f1.below twx2;clear f1;have f1:=kk;clear kk;refine hK _ _ ⟨⟨_,hx2⟩,rfl⟩ ?_;clear hK K hx1 sx1 twx2;try simp only [Seg.xf,Seg.opAt,jK]
     refine⟨?_,?_⟩
     ·try unfold Seg.yk
      intro K hK;first|go_simp|skip
      go_wp2_with (go_at_call 32;refine(QOV.u x2 _ _ _ _ f1 f2).mono ?_;rintro e x3 ⟨a3,b3,rfl,f3,twx3,li⟩);have hx3:=hx2.trans (twx3.mono sx2);have sx3:=jU sx2 twx3.size;clear li;have kk:=f1.below twx3;clear f1;have f1:=kk;clear kk;have kk:=f2.below twx3;clear f2;have f2:=kk;clear kk;refine hK _ _ ⟨⟨_,hx3⟩,rfl⟩ ?_;clear hK K hx2 sx2 twx3;try simp only [Seg.xf,Seg.opAt,jK]
      try unfold Seg.yk
      intro K hK;first|go_simp|skip
      go_wp2_with fail;have hx4:Below M0 w6 (x3.alloc (.cells #[.slice none 0 0,.slice none 0 0] 69)):=hx3.alloc sx3 _;have sx4:M0≤(x3.alloc (.cells #[.slice none 0 0,.slice none 0 0] 69)).heap.size:=by simp;omega
      have twx4:Below x3.heap.size x3 (x3.alloc (.cells #[.slice none 0 0,.slice none 0 0] 69)):=(jN _ _).alloc (jO _) _;have eX:(x3.alloc (.cells #[.slice none 0 0,.slice none 0 0] 69)).heap[x3.heap.size]?=some (.cells #[.slice none 0 0,.slice none 0 0] 69 (0,0)):=xN rfl;have mX:M0≤x3.heap.size:=sx3;have kk:=f1.below twx4;clear f1;have f1:=kk;clear kk;have kk:=f2.below twx4;clear f2;have f2:=kk;clear kk;have kk:=f3.below twx4;clear f3;have f3:=kk;clear kk;refine hK _ _ ⟨⟨_,hx4⟩,rfl⟩ ?_;clear hK K hx3 sx3 twx4;generalize (x3.alloc (.cells #[.slice none 0 0,.slice none 0 0] 69))=x4 at*;generalize x3.heap.size=X at*;try simp only [Seg.xf,Seg.opAt,jK]
      refine jP ?_;go_wp2_with (refine xM rfl rfl 69 _ _ rfl X #[.slice none 0 0,.slice none 0 0] #[a3,b3] 69 rfl rfl eX rfl zM (zF _ _ f3.one.1 f3.one.2) ?_;intro w9 ho hp);go_meet;exact⟨X,a3,b3,rfl,hp,mX,f3.spare ho eX (by simp [ym]),xQ hx4 ho mX⟩
     ·try unfold Seg.yk
      intro K hK;first|go_simp|skip
      go_wp2_with fail;have hx3:Below M0 w6 (x2.alloc (.cells #[.slice none 0 0,.slice none 0 0] 69)):=hx2.alloc sx2 _;have sx3:M0≤(x2.alloc (.cells #[.slice none 0 0,.slice none 0 0] 69)).heap.size:=by simp;omega
      have twx3:Below x2.heap.size x2 (x2.alloc (.cells #[.slice none 0 0,.slice none 0 0] 69)):=(jN _ _).alloc (jO _) _;have eX:(x2.alloc (.cells #[.slice none 0 0,.slice none 0 0] 69)).heap[x2.heap.size]?=some (.cells #[.slice none 0 0,.slice none 0 0] 69 (0,0)):=xN rfl;have mX:M0≤x2.heap.size:=sx2;have kk:=f1.below twx3;clear f1;have f1:=kk;clear kk;have kk:=f2.below twx3;clear f2;have f2:=kk;clear kk;refine hK _ _ ⟨⟨_,hx3⟩,rfl⟩ ?_;clear hK K hx2 sx2 twx3;generalize (x2.alloc (.cells #[.slice none 0 0,.slice none 0 0] 69))=x3 at*;generalize x2.heap.size=X at*;try simp only [Seg.xf,Seg.opAt,jK]
      try unfold Seg.yk
      intro K hK;first|go_simp|skip
      go_wp2_with (go_at_call 32;refine(QOV.u x3 _ _ _ _ f1 f2).mono ?_;rintro e x4 ⟨a3,b3,rfl,f3,twx4,li⟩);have hx4:=hx3.trans (twx4.mono sx3);have sx4:=jU sx3 twx4.size;clear li;have kk:=f1.below twx4;clear f1;have f1:=kk;clear kk;have kk:=f2.below twx4;clear f2;have f2:=kk;clear kk;have kk:=xK twx4 (lt_of_heap eX) eX;clear eX;have eX:=kk;clear kk;refine hK _ _ ⟨⟨_,hx4⟩,rfl⟩ ?_;clear hK K hx3 sx3 twx4;try simp only [Seg.xf,Seg.opAt,jK]
      refine jP ?_;go_wp2_with (refine xM rfl rfl 69 _ _ rfl X #[.slice none 0 0,.slice none 0 0] #[a3,b3] 69 rfl rfl eX rfl zM (zF _ _ f3.one.1 f3.one.2) ?_;intro w9 ho hp);go_meet;exact⟨X,a3,b3,rfl,hp,mX,f3.spare ho eX (by simp [ym]),xQ hx4 ho mX⟩
    ·try unfold Seg.yk
     intro K hK;first|go_simp|skip
     go_wp2_with fail;have hx2:Below M0 w6 (x1.alloc (.cells #[.slice none 0 0,.slice none 0 0] 69)):=hx1.alloc sx1 _;have sx2:M0≤(x1.alloc (.cells #[.slice none 0 0,.slice none 0 0] 69)).heap.size:=by simp;omega
     have twx2:Below x1.heap.size x1 (x1.alloc (.cells #[.slice none 0 0,.slice none 0 0] 69)):=(jN _ _).alloc (jO _) _;have eX:(x1.alloc (.cells #[.slice none 0 0,.slice none 0 0] 69)).heap[x1.heap.size]?=some (.cells #[.slice none 0 0,.slice none 0 0] 69 (0,0)):=xN rfl;have mX:M0≤x1.heap.size:=sx1;have kk:=f1.below twx2;clear f1;have f1:=kk;clear kk;refine hK _ _ ⟨⟨_,hx2⟩,rfl⟩ ?_;clear hK K hx1 sx1 twx2;generalize (x1.alloc (.cells #[.slice none 0 0,.slice none 0 0] 69))=x2 at*;generalize x1.heap.size=X at*;try simp only [Seg.xf,Seg.opAt,jK]
     try unfold Seg.yk
     intro K hK;first|go_simp|skip
     go_wp2_with (go_at_call 33;refine(QW2.u x2).mono ?_;rintro e x3 ⟨a2,b2,rfl,f2,twx3,li⟩);have hx3:=hx2.trans (twx3.mono sx2);have sx3:=jU sx2 twx3.size;clear li;have kk:=f1.below twx3;clear f1;have f1:=kk;clear kk;have kk:=xK twx3 (lt_of_heap eX) eX;clear eX;have eX:=kk;clear kk;refine hK _ _ ⟨⟨_,hx3⟩,rfl⟩ ?_;clear hK K hx2 sx2 twx3;try simp only [Seg.xf,Seg.opAt,jK]
     try unfold Seg.yk
     intro K hK;first|go_simp|skip
     go_wp2_with (go_at_call 32;refine(QOV.u x3 _ _ _ _ f1 f2).mono ?_;rintro e x4 ⟨a3,b3,rfl,f3,twx4,li⟩);have hx4:=hx3.trans (twx4.mono sx3);have sx4:=jU sx3 twx4.size;clear li;have kk:=f1.below twx4;clear f1;have f1:=kk;clear kk;have kk:=xK twx4 (lt_of_heap eX) eX;clear eX;have eX:=kk;clear kk;have kk:=f2.below twx4;clear f2;have f2:=kk;clear kk;refine hK _ _ ⟨⟨_,hx4⟩,rfl⟩ ?_;clear hK K hx3 sx3 twx4;try simp only [Seg.xf,Seg.opAt,jK]
     refine jP ?_;go_wp2_with (refine xM rfl rfl 69 _ _ rfl X #[.slice none 0 0,.slice none 0 0] #[a3,b3] 69 rfl rfl eX rfl zM (zF _ _ f3.one.1 f3.one.2) ?_;intro w9 ho hp);go_meet;exact⟨X,a3,b3,rfl,hp,mX,f3.spare ho eX (by simp [ym]),xQ hx4 ho mX⟩
   ·try unfold Seg.yk
    intro K hK;first|go_simp|skip
    go_wp2_with fail;have hx1:Below M0 w6 (x0.alloc (.cells #[.slice none 0 0,.slice none 0 0] 69)):=hx0.alloc sx0 _;have sx1:M0≤(x0.alloc (.cells #[.slice none 0 0,.slice none 0 0] 69)).heap.size:=by simp;omega
    have twx1:Below x0.heap.size x0 (x0.alloc (.cells #[.slice none 0 0,.slice none 0 0] 69)):=(jN _ _).alloc (jO _) _;have eX:(x0.alloc (.cells #[.slice none 0 0,.slice none 0 0] 69)).heap[x0.heap.size]?=some (.cells #[.slice none 0 0,.slice none 0 0] 69 (0,0)):=xN rfl;have mX:M0≤x0.heap.size:=sx0;refine hK _ _ ⟨⟨_,hx1⟩,rfl⟩ ?_;clear hK K hx0 sx0 twx1;generalize (x0.alloc (.cells #[.slice none 0 0,.slice none 0 0] 69))=x1 at*;generalize x0.heap.size=X at*;try simp only [Seg.xf,Seg.opAt,jK]
    try unfold Seg.yk
    intro K hK;first|go_simp|skip
    go_wp2_with (go_at_call 33;refine(QW1.u x1).mono ?_;rintro e x2 ⟨a1,b1,rfl,f1,twx2,li⟩);have hx2:=hx1.trans (twx2.mono sx1);have sx2:=jU sx1 twx2.size;clear li;have kk:=xK twx2 (lt_of_heap eX) eX;clear eX;have eX:=kk;clear kk;refine hK _ _ ⟨⟨_,hx2⟩,rfl⟩ ?_;clear hK K hx1 sx1 twx2;try simp only [Seg.xf,Seg.opAt,jK]
    try unfold Seg.yk
    intro K hK;first|go_simp|skip
    go_wp2_with (go_at_call 33;refine(QW2.u x2).mono ?_;rintro e x3 ⟨a2,b2,rfl,f2,twx3,li⟩);have hx3:=hx2.trans (twx3.mono sx2);have sx3:=jU sx2 twx3.size;clear li;have kk:=xK twx3 (lt_of_heap eX) eX;clear eX;have eX:=kk;clear kk;have kk:=f1.below twx3;clear f1;have f1:=kk;clear kk;refine hK _ _ ⟨⟨_,hx3⟩,rfl⟩ ?_;clear hK K hx2 sx2 twx3;try simp only [Seg.xf,Seg.opAt,jK]
    try unfold Seg.yk
    intro K hK;first|go_simp|skip
    go_wp2_with (go_at_call 32;refine(QOV.u x3 _ _ _ _ f1 f2).mono ?_;rintro e x4 ⟨a3,b3,rfl,f3,twx4,li⟩);have hx4:=hx3.trans (twx4.mono sx3);have sx4:=jU sx3 twx4.size;clear li;have kk:=xK twx4 (lt_of_heap eX) eX;clear eX;have eX:=kk;clear kk;have kk:=f1.below twx4;clear f1;have f1:=kk;clear kk;have kk:=f2.below twx4;clear f2;have f2:=kk;clear kk;refine hK _ _ ⟨⟨_,hx4⟩,rfl⟩ ?_;clear hK K hx3 sx3 twx4;try simp only [Seg.xf,Seg.opAt,jK]
    refine jP ?_;go_wp2_with (refine xM rfl rfl 69 _ _ rfl X #[.slice none 0 0,.slice none 0 0] #[a3,b3] 69 rfl rfl eX rfl zM (zF _ _ f3.one.1 f3.one.2) ?_;intro w9 ho hp);go_meet;exact⟨X,a3,b3,rfl,hp,mX,f3.spare ho eX (by simp [ym]),xQ hx4 ho mX⟩
  case rest=>
  clear hx0 sx0 QW1 QW2 QOV d3;generalize wc=w7 at*;obtain⟨X,qa,qb,rfl,eX,mX,fq,bw⟩:=hcut;have b67:Below w6.heap.size w6 w7:=HM0.u▸bw;have X7:=jA (xK b67 (by omega) X6.u);have Y7:=jA (xK b67 (by omega) Y6.u);have O7:=jA (xK b67 (by omega) O6.u);have N7:=jA (xK b67 hN6 N6.u);have P7:=jA (P6.u.below b67);have IO7:=jA (IO6.u.below b67);have B7:=jA (B6.u.trans (b67.mono (by omega)));have hNX:NB<X:=jV hN6 (HM0.u▸mX);have Q7:=jA eX;have hX7:X<w7.heap.size:=lt_of_heap eX;have F7:=jA fq;have hBO5:B+1<OB:=hBO;clear eX mX fq bw b67 X6 Y6 O6 N6 P6 IO6 B6 HM0 hN6;have LQ:=jA (show Qg (zN Bs.length s)from jgd (m:=Bs.length) (s:=s) (by omega) (by omega));have QS:=jA (jdA w7 F7.u LQ.u);generalize hTX:txt (zN Bs.length s)=tx at*;have HTX:=jA hTX;clear hTX;go_upto_region 10 with(first
   |go_big_skip
   |((with_reducible refine xl 69 ?_);refine xO ?_ 69 (.tmp 12) ?_ X _ _ _ _ ?_ Q7.u underlying69 ?_ zM ?_;rfl;rfl;rfl;rfl)
   |(go_at_call 34;refine(QS.u).mono ?_;rintro e w8 ⟨rfl,b8⟩;dsimp only;have B8:=jA b8;clear b8)
   |(with_reducible refine wpList_build rfl 31 _ rfl [(0,.agg #[.string ⟨tx.1.toArray⟩,.string ⟨tx.2.toArray⟩])] (by first|(simp;done)|(simp [Act.eval];done)) _ (jgN _ _) ?_))
  refine xP (fun w9=>Below w8.heap.size w8 w9∧w9.heap[w8.heap.size]?=some (.cells #[.string ⟨tx.1.toArray⟩,.string ⟨tx.2.toArray⟩,.slice none 0 0,.slice none 0 0] 31 (0,0))) ⟨(jN _ _).alloc (jO _) _,xN rfl⟩ (fun w9 hw9=>?_);have b79:Below w7.heap.size w7 w9:=B8.u.trans (hw9.1.mono B8.u.size);have U9:=jA hw9.2;have X9:=jA (xK b79 (by omega) X7.u);have Y9:=jA (xK b79 (by omega) Y7.u);have O9:=jA (xK b79 (by omega) O7.u);have N9:=jA (xK b79 (by omega) N7.u);have Q9:=jA (xK b79 hX7 Q7.u);have F9:=jA (F7.u.below b79);have P9:=jA (P7.u.below b79);have IO9:=jA (IO7.u.below b79);have B9:=jA (B7.u.trans (b79.mono (by omega)));have hXU:X<w8.heap.size:=jV hX7 B8.u.size;have P8:=jA (P7.u.below B8.u);have IO8:=jA (IO7.u.below B8.u);have BW8:=jA (B7.u.trans (B8.u.mono (by omega)));have b89:=jA hw9.1;have hB8:B+1<w8.heap.size:=jV (by omega) B8.u.size;clear hw9 b79 X7 Y7 O7 N7 Q7 F7 P7 IO7 B7 B8 QS LQ hX7;obtain⟨OUT,hOUT⟩: ∃OUT,OUT=w8.heap.size:=⟨_,rfl⟩;have HOUT:=jA hOUT;rw [←hOUT]at U9 hXU b89 hB8 ⊢;clear hOUT;have d5: ∀x:xS w9.heap.size w9,x.w.cell? ⟨NB,0,none⟩=some (.int .i64 (c.op.length:Int)):=fun x=>jM _ NB 0 _ _ _ (xK x.2 (lt_of_heap N9.u) N9.u);obtain⟨M9,hM9⟩: ∃M,M=w9.heap.size:=⟨_,rfl⟩;rw [←hM9]at d5;have HM9:=jA hM9;clear d5;refine jhZ c.op.length NB M9 w9 w9 _ hn12 hM9 (jN _ _) N9.u (fun _ _ d _ _ h=>by cases d<;>exact h) ?_;rintro v73 v75 CV WV CA WA w10 ⟨hcw,hca,mCV,mWV,eCV,eWV,ownC,ownW,b10'⟩;dsimp only [Exit.then];clear hM9;have b10:Below w9.heap.size w9 w10:=HM9.u▸b10';have h9O:OUT<w9.heap.size:=lt_of_heap U9.u;have hM9:=HM9.u;have X10:=jA (xK b10 (by omega) X9.u);have Y10:=jA (xK b10 (by omega) Y9.u);have O10:=jA (xK b10 (by omega) O9.u);have N10:=jA (xK b10 (by omega) N9.u);have Q10:=jA (xK b10 (by omega) Q9.u);have U10:=jA (xK b10 h9O U9.u);have F10:=jA (F9.u.below b10);have B10:=jA (BW8.u.trans (((b89.u.mono (by rw [HOUT.u];exact jO _)).trans (b10.mono (by rw [HOUT.u]at h9O;omega))).mono (by have:=BW8.u.size;rw [←HB.u];exact this)));have BL10:=jA (show Below OUT w8 w10 from b89.u.trans (b10.mono (by omega)));obtain⟨lCA,eCA⟩:=VJ ownC;obtain⟨lWA,eWA⟩:=VJ ownW;have emk:(madeCells (Value.bool false).cells (c.op.length*1)).toList=zO c.op.length (fun _=>false):=jeU _ rfl _;rw [emk]at eCA eWA;have CV10:=jA eCV;have WV10:=jA eWV;have CA10:=jA eCA;have WA10:=jA eWA;have hM9w:M9≤w10.heap.size:=by have:=b10.size;omega
  have hOM:OUT<M9:=by omega
  have hXM:X<M9:=by omega
  have hNM:NB<M9:=by omega
  have hBM:OB<M9:=by omega
  clear b10 b10' eCV eWV eCA eWA emk ownC ownW X9 Y9 O9 N9 Q9 F9 P9 IO9 B9 U9 b89 HM9 hM9 h9O;obtain⟨f0,hf0,hy0,hy1,hy2⟩:=info_parts jbo;obtain⟨w11,hr11,own11,hg11⟩:=qw (P:=prog) (w:=w10) w10.heap.size 73 69 f0 (.agg #[.slice none 0 0,.slice none 0 0]) 2 underlying73 hf0 hy0 hy1 .i64 .i64 c.op.length (by rw [hy2];omega) (by unfold maxLen;omega) (jO _);have n10:w10.cell? ⟨NB,0,none⟩=some (.int .i64 (c.op.length:Int)):=jM w10 NB 0 _ _ _ N10.u;have OK11:=jA own11;have HG11:=jA hg11;clear own11 hg11 hf0 hy0 hy1 hy2;go_upto_block 0 with(fail);have b11:Below w10.heap.size w10 w11:=(jN _ _).grown HG11.u (jO _) (fun _ h=>by cases h);obtain⟨lKA,eKA⟩:=VJ OK11.u;rw [jcC]at eKA;have KA11:=jA eKA;obtain⟨KA,hKA⟩: ∃KA,KA=w10.heap.size:=⟨_,rfl⟩;have X11:=jA (xK b11 (lt_of_heap X10.u) X10.u);have Y11:=jA (xK b11 (lt_of_heap Y10.u) Y10.u);have O11:=jA (xK b11 (lt_of_heap O10.u) O10.u);have N11:=jA (xK b11 (lt_of_heap N10.u) N10.u);have Q11:=jA (xK b11 (lt_of_heap Q10.u) Q10.u);have U11:=jA (xK b11 (lt_of_heap U10.u) U10.u);have CV11:=jA (xK b11 (lt_of_heap CV10.u) CV10.u);have WV11:=jA (xK b11 (lt_of_heap WV10.u) WV10.u);have CA11:=jA (xK b11 (lt_of_heap CA10.u) CA10.u);have WA11:=jA (xK b11 (lt_of_heap WA10.u) WA10.u);have F11:=jA (F10.u.below b11);have BL11:=jA (BL10.u.trans (b11.mono (by omega)));have hKM:M9≤KA:=by omega
  have hKX:KA≠X:=by omega
  rw [←hKA]at KA11 ⊢;have h1011:=b11.size;clear b11 eKA lKA hKA X10 Y10 O10 N10 Q10 U10 CV10 WV10 CA10 WA10 F10 BL10 OK11 HG11 hr11 n10
  have hnl0:(yg c.op.length (fun _=>zW) (fun _=>zW)).toArray.all ym=true:=Zc (fun u hu=>by
   simp only [yg,qs,jf,jg,jv,jx]at hu;obtain⟨i,_,rfl|rfl⟩:=hu<;>rfl)
  obtain⟨q,hq⟩: ∃q,q=zN Bs.length s:=⟨_,rfl⟩;have HQ:=jA hq;rw [←hq]at F11 HTX;clear hq
  as_aux_lemma=>
  refine jkH q c.op.length NB CV CA KA qa qb (fun _=>zW) (fun _=>zW) w11 _ hn12 N11.u CV11.u CA11.u KA11.u hnl0 F11.u (fun _ _ d _ _ h=>by cases d<;>exact h) ?_;rintro _ _ _ _ _ _ _ _ _ _ _ _ _ w12 ka kb ⟨hca12,hka12,hz12,hq12,h2⟩;dsimp only [Exit.then];have kp: ∀{b:Nat} {cs:Array Value} {T:TypeId},w11.heap[b]?=some (.cells cs T (0,0))→b≠CA→b≠KA→w12.heap[b]?=some (.cells cs T (0,0)):=fun hb h1 h3=>(h2.block _ (lt_of_heap hb) h1 h3).trans hb;have hpl:O.length=c.op.length:=HO.u.len;have hOUTl:OUT=w8.heap.size:=HOUT.u;have b0:=BL11.u;have hbel:Below w8.heap.size w8 w12:=hOUTl▸(h2.below b0 (by omega) (by omega) (by have:=BL11.u.size;omega));have hU12:=kp U11.u (yl U11.u CA11.u (by decide)) (yl U11.u KA11.u (by decide));have hr0:=jia (c:=c) (oa:=oa) (cap:=cap) (B:=B) (RB:=B+1) (OB:=OB) (NB:=NB) (X:=X) (OUT:=OUT) (CV:=CV) (WV:=WV) (CA:=CA) (WA:=WA) (KA:=KA) (oO:=oO) (cO:=cO) (O:=O.map Int.toNat) (q:=q) (qa:=qa) (qb:=qb) (ka:=ka) (kb:=kb) (Bs:=Bs) (w0:=w8) (w:=w12)
   hbel (kp X11.u (yl X11.u CA11.u (by decide)) (yl X11.u KA11.u (by decide))) (kp Y11.u (yl Y11.u CA11.u (by decide)) (yl Y11.u KA11.u (by decide)))
   (by rw [←hpl];exact kp O11.u (yl O11.u CA11.u (by decide)) (yl O11.u KA11.u (by decide))) (kp N11.u (yl N11.u CA11.u (by decide)) (yl N11.u KA11.u (by decide)))
   (kp Q11.u (yl Q11.u CA11.u (by decide)) (fun e=>hKX e.symm)) (kp CV11.u (yl CV11.u CA11.u (by decide)) (yl CV11.u KA11.u (by decide))) (kp WV11.u (yl WV11.u CA11.u (by decide)) (yl WV11.u KA11.u (by decide)))
   hca12 (kp WA11.u (fun e=>hca e.symm) (yl WA11.u KA11.u (by decide))) hca hka12 hKX hq12 hz12 (by rw [jjR HO.u];exact IO8.u) (by omega) (by omega) (by omega)
  have R12:=jA hr0;have U12:=jA hU12;have hoo:OUT≠B+1:=by omega
  clear hr0 hU12 hbel kp hca12 hka12 hz12 hq12 h2 b0 X11 Y11 O11 N11 Q11 U11 CV11 WV11 CA11 WA11 F11 BL11 KA11 hnl0 hpl;go_upto_block 2 with(fail)
  as_aux_lemma=>
  refine jkG _ q _ Bs oo co w12 _ R12.u rfl P8.u hn1 hn12 hK4 HR.u (fun _ _ d _ _ h=>by cases d<;>exact h) ?_;rintro _ _ _ _ _ _ _ _ _ _ _ _ _ _ _ _ _ _ w13 K' G' oV cV hbk hbg hr13 hv13 hb13;dsimp only [Exit.then];obtain⟨vb,ob',cb',Lf,rfl⟩:=hbk;have R13:=jA hr13;have V13:=jA hv13;have hge:G'.ev=zW:=by unfold Xt at hbg;rw [hbg]
  have hgw:G'.wf=fun _=>false:=by unfold Xt at hbg;rw [hbg]
  have hOE:=HOUT.u;have U13:=jA (xK hb13 (lt_of_heap U12.u) U12.u);have HOA:=jA (show zk (⟨c,oa,cap,Bs.length,B,B+1,OB,NB,X,OUT,CV,WV,CA,WA,KA,oO,cO,O.map Int.toNat,vb,ob',cb',Lf,qa,qb,w8⟩:RK) q G' w13 [] zW []from⟨by rw [hge,HTX.u];exact U13.u,qA _ _ _ _,rfl,fun i hi=>by simp at hi,by show w8.heap.size≤OUT;omega,hoo⟩)
  have HINV:=jA (show Inv c.op.length s Bs.length q (O.map Int.toNat) (S0 c.op.length (yB Bs) Bs.length)by
   have h1:=Zp (n:=c.op.length) (s:=s) (O:=O.map Int.toNat) (Rs:=yB Bs) (by have:=HSE.u;omega) hn12 (ZP HO.u).1 (ZP HO.u).2 (fun rk hrk i hi=>by
    unfold yB at hrk;obtain⟨p,hp,rfl⟩:=jl.1 hrk;exact(HR.u p hp).lt i hi)
   have e:(yB Bs).length=Bs.length:=by unfold yB;rw [jz]
   rw [e,←HQ.u]at h1;exact h1)
  have hol:(O.map Int.toNat).length=c.op.length:=by rw [jz];exact HO.u.len
  have hmu:(S0 c.op.length (yB Bs) Bs.length).mu (O.map Int.toNat)≤36:=by
   have h1:=Xi (l:=O.map Int.toNat) (S0 c.op.length (yB Bs) Bs.length).cont;have h3:((S0 c.op.length (yB Bs) Bs.length).wait (O.map Int.toNat)).length≤(O.map Int.toNat).length:=kt _ _;show 2* ((O.map Int.toNat).filter (S0 c.op.length (yB Bs) Bs.length).cont).length+((S0 c.op.length (yB Bs) Bs.length).wait (O.map Int.toNat)).length≤36;omega
  clear hr13 hv13 hb13 hbg U12 U13 R12;go_upto_block 4 with(fail)
  as_aux_lemma=>
  refine jkF (⟨c,oa,cap,Bs.length,B,B+1,OB,NB,X,OUT,CV,WV,CA,WA,KA,oO,cO,O.map Int.toNat,vb,ob',cb',Lf,qa,qb,w8⟩:RK) q (S0 c.op.length (yB Bs) Bs.length) G' s oV cV w13 _ HINV.u HSE.u hn1 hn12 hK4 hmu hol ⟨zW,[],.nil,R13.u,HOA.u,(fun y hy=>by cases hy),V13.u,(fun i _=>by rw [hgw];rfl)⟩ (fun _ _ d _ _ h=>by cases d<;>exact h) (by intros;contradiction) ?_;intro _ _ _ _ _ _ _ _ _ _ _ _ _ _ _ _ _ _ _ _ _ _ _ _ _ _ _ _ _ _ _ _ _ _ _ _ _ _ _ _ _ _ _ _ _ _ _ _ _ _ _ _ _ _ _ _ _ _ _ _ _ _ _ _ _ _ _ _ _ _ _ _ _ _ _ _ _ _ _ _ _ _ _ _ _ _ _ _ _ _ _ _ _ _ _ _ _ _ _ _ _ _ _ _ _ _ _ _ _ _ _ _ _ _ _ _ _ _ _ _ _ _ _ _ _ _ _ _ _ _ _ _ _ _ _ _ _ _ _ _ _ _ _ _ _ _ _ _ _ _ _ _ _ _ _ _ _ _ _ _ _ _ _ _ _ _ _ _ _ _ _ _ _ _ _ _ _ _ _ _ _ _ _ _ _ _ _ _ _ _ _ _ _ _ _ _ _ _ _ _ _ _ _ _ _ _ _ _ _ _ _ _ _ _ _ _ _ S R G vR CS wz w' hru hend hoa hra hoz hpz;obtain⟨oR,cR,oE,cE,e1,e2,hrd,hie⟩:=jjP hoa hra.els hoz hra.res;have hbz:Below w.heap.size w w':=by
   rw [HB.u];have h1:=hra.bel;exact xQ (BW8.u.trans (h1.mono (by show B≤w8.heap.size;omega))) hoz (by show B≤B+1;omega)
  show bodyPost _ _ _ _ _ _;rw [e1,e2]at hpz;refine jm (results_cell_tmp rfl _ w' (B+1) _ _ _ _ _ rfl rfl hpz underlying31 rfl yG) rfl ?_;unfold Vi;refine⟨hbz,?_⟩;rw [jR HE0.u,HBs.u];have hs2:c.se.toNat=s:=by have:=HSE.u;omega
  rw [hs2,←HQ.u];exact⟨O,R,S,oR,cR,oE,cE,HO.u,hru,hend,rfl,hrd,hie⟩
end Go.Proofs.YtnohcdpnnhmpfaaGreatDoor.TR
