/-
  Chapter 13: whole numbers and quotients as fractions, and fractions told (picked out of other templates; count.told's body is nat.told's)
  Chapter 13, the reference's said (turned from told's walk by tools/mkref13.py)
-/
import Derived.Test.YtnohcdpnnhmpfaaGreatDoorQ09
import Derived.Test.YtnohcdpnnhmpfaaGreatDoorQ10
import Derived.Test.YtnohcdpnnhmpfaaGreatDoorQ11
import Derived.Test.YtnohcdpnnhmpfaaGreatDoorQ06
set_option linter.unusedVariables false
set_option linter.unusedSimpArgs false
set_option maxRecDepth 100000
set_option maxHeartbeats 4000000
namespace Go.Proofs.YtnohcdpnnhmpfaaGreatDoor
open Go.RowKit Tryz ML FM NL
theorem jfk(n:Nat)(w:World)(hn:n<18446744073709551616):
 Calls prog 118 #[.int .u64 (n:Int)] w fun e w'=> ∃on od cn cd,e=.returned (.agg #[.slice on (dig n).length cn,.slice od (dig 1).length cd])∧LFr w' n 1 on od∧Below w.heap.size w w':=by
 have QN:=jA (fun w=>ZY n w hn);have QO:=jA (fun w=>ZY 1 w (by decide));have HS:=jA zn;generalize hl:(dig 1).length=l1 at*;clear hl hn;go_enter Tryz.func118,Tryz.ntmps118;go_upto_region 1 with(fail);generalize hB:w.heap.size=B at*;refine xP (fun w1=>Below B w w1∧w1.heap[B]?=some (.cells #[.slice none 0 0,.slice none 0 0] 90 (0,0))) ⟨by rw [←hB];exact(jN _ _).alloc (jO _) _,by rw [←hB];exact xN rfl⟩ (fun w1 hw1=>?_);have B1:=jA hw1.1;have HC1:=jA hw1.2;have HB:=jA hB;clear hw1 hB;go_wp2_with (first
  |(refine xM rfl rfl 90 _ _ rfl B #[.slice none 0 0,.slice none 0 0] #[.slice oa (dig n).length ca,.slice ob l1 cb] 90 rfl rfl HC3.u rfl HS.u (zH _ _ _ _ _ _) ?_;intro w7 ho hp)
  |(go_at_call 96;refine(QO.u w2).mono ?_;rintro e w3 ⟨ob,cb,rfl,h3,_,bel3⟩;have H3:=jA h3;have B3:=jA (B2.u.trans (bel3.mono (HB.u▸B2.u.size)));have HC3:=jA (xK bel3 (lt_of_heap HC2.u) HC2.u);have H23:=jA (H2.u.below bel3);clear h3 bel3)
  |(go_at_call 96;(with_reducible refine(QN.u w1).mono ?_);rintro e w2 ⟨oa,ca,rfl,h2,_,bel2⟩;have H2:=jA h2;have B2:=jA (B1.u.trans (bel2.mono (HB.u▸B1.u.size)));have HC2:=jA (xK bel2 (lt_of_heap HC1.u) HC1.u);clear h2 bel2))
 refine jm (jw rfl _ w7 B _ _ _ _ rfl hp underlying90 rfl HS.u) rfl ⟨oa,ob,ca,cb,rfl,⟨H23.u.spared HC3.u yL ho,H3.u.spared HC3.u yL ho⟩,by rw [HB.u];exact xQ B3.u ho (jO _)⟩
theorem jfm(a b c d:Nat)(oa ob oc od:Option Addr)(ca cb cc cd:Nat)(w:World)(hX:LFr w a b oa ob)(hY:LFr w c d oc od)(h0:0<b*c)(l1:(dig a).length<274877906944)(l2:(dig b).length<274877906944)(l3:(dig c).length<274877906944)(l4:(dig d).length<274877906944):
 Calls prog 119 #[.agg #[.slice oa (dig a).length ca,.slice ob (dig b).length cb],.agg #[.slice oc (dig c).length cc,.slice od (dig d).length cd]] w fun e w'=> ∃on om cn cm,e=.returned (.agg #[.slice on (dig (a*d/Nat.gcd (a*d) (b*c))).length cn,.slice om (dig (b*c/Nat.gcd (a*d) (b*c))).length cm])∧LFr w' (a*d/Nat.gcd (a*d) (b*c)) (b*c/Nat.gcd (a*d) (b*c)) on om∧Below w.heap.size w w':=by
 have QT:=jA (fun w h1 h2=>ZZ a b d c oa ob od oc ca cb cd cc w h1 h2 h0 l1 l2 l4 l3);have HS:=jA zn;have HX:=jA hX;have HY:=jA hY;generalize a*d/Nat.gcd (a*d) (b*c)=N at*;generalize b*c/Nat.gcd (a*d) (b*c)=D at*;clear hX hY h0 l1 l2 l3 l4;go_enter Tryz.func119,Tryz.ntmps119;go_upto_region 1 with(fail);have BX:=Vx.mk' w #[.slice oa (dig a).length ca,.slice ob (dig b).length cb] #[.slice oc (dig c).length cc,.slice od (dig d).length cd] #[.slice none 0 0,.slice none 0 0] 90 90;generalize hB:w.heap.size=B at*;refine xP (fun w1=>Vx B w w1 #[.slice oa (dig a).length ca,.slice ob (dig b).length cb] #[.slice oc (dig c).length cc,.slice od (dig d).length cd] #[.slice none 0 0,.slice none 0 0] 90 90) BX (fun w1 B1=>?_);have HB:=jA hB;have c1:=jM w1 B 0 _ _ _ B1.x;have c2:=jM w1 B 1 _ _ _ B1.x;have c3:=jM w1 (B+1) 0 _ _ _ B1.y;have c4:=jM w1 (B+1) 1 _ _ _ B1.y;have hBs1:B+1+1<w1.heap.size:=lt_of_heap B1.z;have HB1:=jA B1;have W1:=jA (show Below w.heap.size w w1 by rw [HB.u];exact B1.bel);clear BX hB B1;go_wp2_with (first
  |(go_at_call 170;refine(QT.u w1 (HX.u.below W1.u) ⟨HY.u.den.below W1.u,HY.u.num.below W1.u⟩).mono ?_;rintro e w4 ⟨or,os,cr,cs,rfl,hr,bel4⟩;have HR:=jA hr;have HB4:=jA (HB1.u.keep (by omega) bel4);have W4:=jA (W1.u.trans (bel4.mono W1.u.size));clear hr bel4)
  |(refine xM rfl rfl 90 _ _ rfl (B+1+1) #[.slice none 0 0,.slice none 0 0] #[.slice or (dig N).length cr,.slice os (dig D).length cs] 90 rfl rfl HB4.u.z rfl HS.u (zH _ _ _ _ _ _) ?_;intro w5 ho hp))
 refine jm (jw rfl _ w5 (B+1+1) _ _ _ _ rfl hp underlying90 rfl HS.u) rfl ⟨or,os,cr,cs,rfl,⟨HR.u.num.spared HB4.u.z yL ho,HR.u.den.spared HB4.u.z yL ho⟩,xQ W4.u ho (by rw [HB.u];omega)⟩
theorem jev:(prog.info? 27).map (·.size)=some 2:=by kernel_rfl
theorem jae(a b:ByteArray):(#[Value.string a,Value.string b]:Array Value).all (·.oneCell')=true:=by simp [Value.oneCell']
theorem jbO(n d:Nat)(on od:Option Addr)(cn cd:Nat)(w:World)(h:LFr w n d on od)(l1:(dig n).length<1099511627776)(l2:(dig d).length<1099511627776):
 Calls prog 72 #[.agg #[.slice on (dig n).length cn,.slice od (dig d).length cd]] w fun e w'=>e=.returned (.agg #[.string ⟨(Qj n).toArray⟩,.string ⟨(Qj d).toArray⟩])∧Below w.heap.size w w':=by
 have QN:=jA (fun w h=>ZX n on cn w h l1);have QD:=jA (fun w h=>ZX d od cd w h l2);have HS:=jA jev;have H:=jA h;clear h l1 l2;generalize Qj n=N at*;generalize Qj d=D at*;go_enter Tryz.func72,Tryz.ntmps72;go_upto_region 1 with(fail);have BX:=ZB.mk' w #[.slice on (dig n).length cn,.slice od (dig d).length cd] #[.string ⟨#[]⟩,.string ⟨#[]⟩] 90 27;generalize hB:w.heap.size=B at*;refine xP (fun w1=>ZB B w w1 #[.slice on (dig n).length cn,.slice od (dig d).length cd] #[.string ⟨#[]⟩,.string ⟨#[]⟩] 90 27) BX (fun w1 B1=>?_);have HB:=jA hB;have c1:=jM w1 B 0 _ _ _ B1.x;have c2:=jM w1 B 1 _ _ _ B1.x;have HB1:=jA B1;clear BX hB B1;refine Seg.xL (fun w'=> ∃x:xS (B+1) w1,w'=x.w) [([0,1,3,4],2)] [] 5 (by kernel_rfl) (by kernel_rfl) (fun _ _ d _ _ h=>by cases d<;>exact h) (⟨⟨_,(jN _ _).drew⟩,rfl⟩) ?_;simp only [jK,Seg.opAt,Seg.xW];repeat (any_goals (first|go_big_quiet_step (fail)|quiet_step (fail)))
 refine jP ?_;intro K hK;simp only [Region.wanted,jY];have hBs1:B+1<w1.heap.size:=lt_of_heap HB1.u.z;have W1:=jA (show Below w.heap.size w w1 by rw [HB.u];exact HB1.u.bel);have W1d:=jA (show Below w.heap.size w w1.drew from W1.u.drew);go_wp2_with (go_at_call 122;(with_reducible refine(QN.u _ (H.u.num.below W1d.u)).mono ?_);rintro e w2 ⟨rfl,bel2⟩);have bel2':Below w1.heap.size w1 w2:=yV bel2;refine hK _ _ ⟨⟨w2,bel2'.mono (by omega)⟩,rfl⟩ ?_;have W2:=jA (W1.u.trans (bel2'.mono W1.u.size));have HB2:=jA (HB1.u.keep (by omega) bel2');have hBs2:B+1<w2.heap.size:=lt_of_heap HB2.u.z;clear hK K c1 c2 bel2 bel2' QN;repeat (any_goals (first|go_big_quiet_step (fail)|quiet_step (fail)))
 refine jP ?_;go_wp2_with (first
  |(go_at_call 122;refine(QD.u w2 (H.u.den.below W2.u)).mono ?_;rintro e w3 ⟨rfl,bel3⟩;have HB3:=jA (HB2.u.keep (by omega) bel3);have W3:=jA (W2.u.trans (bel3.mono W2.u.size));clear bel3)
  |(refine xM rfl rfl 27 _ _ rfl (B+1) #[.string ⟨#[]⟩,.string ⟨#[]⟩] #[.string ⟨N.toArray⟩,.string ⟨D.toArray⟩] 27 rfl rfl HB3.u.z rfl HS.u (jae _ _) ?_;intro w5 ho hp))
 refine jm (jw rfl _ w5 (B+1) _ _ _ _ rfl hp underlying27 rfl HS.u) rfl ⟨rfl,xQ W3.u ho (by rw [HB.u];omega)⟩
end Go.Proofs.YtnohcdpnnhmpfaaGreatDoor
namespace Go.Proofs.YtnohcdpnnhmpfaaGreatDoor
open Go.RowKit Tryz ML FM ND
theorem jeC(n d:Nat)(on od:Option Addr)(cn cd:Nat)(w:World)(h:NFr w n d on od)(l1:(dig n).length<1099511627776)(l2:(dig d).length<1099511627776):
 Calls prog 34 #[.agg #[.slice on (dig n).length cn,.slice od (dig d).length cd]] w fun e w'=>e=.returned (.agg #[.string ⟨(Qj n).toArray⟩,.string ⟨(Qj d).toArray⟩])∧Below w.heap.size w w':=by
 have QN:=jA (fun w h=>jai n on cn w h l1);have QD:=jA (fun w h=>jai d od cd w h l2);have HS:=jA jev;have H:=jA h;clear h l1 l2;generalize Qj n=N at*;generalize Qj d=D at*;go_enter Tryz.func34,Tryz.ntmps34;go_upto_region 1 with(fail);have BX:=ZB.mk' w #[.slice on (dig n).length cn,.slice od (dig d).length cd] #[.string ⟨#[]⟩,.string ⟨#[]⟩] 69 27;generalize hB:w.heap.size=B at*;refine xP (fun w1=>ZB B w w1 #[.slice on (dig n).length cn,.slice od (dig d).length cd] #[.string ⟨#[]⟩,.string ⟨#[]⟩] 69 27) BX (fun w1 B1=>?_);have HB:=jA hB;have c1:=jM w1 B 0 _ _ _ B1.x;have c2:=jM w1 B 1 _ _ _ B1.x;have HB1:=jA B1;clear BX hB B1;refine Seg.xL (fun w'=> ∃x:xS (B+1) w1,w'=x.w) [([0,1,3,4],2)] [] 5 (by kernel_rfl) (by kernel_rfl) (fun _ _ d _ _ h=>by cases d<;>exact h) (⟨⟨_,(jN _ _).drew⟩,rfl⟩) ?_;simp only [jK,Seg.opAt,Seg.xW];repeat (any_goals (first|go_big_quiet_step (fail)|quiet_step (fail)))
 refine jP ?_;intro K hK;simp only [Region.wanted,jY];have hBs1:B+1<w1.heap.size:=lt_of_heap HB1.u.z;have W1:=jA (show Below w.heap.size w w1 by rw [HB.u];exact HB1.u.bel);have W1d:=jA (show Below w.heap.size w w1.drew from W1.u.drew);go_wp2_with (go_at_call 81;(with_reducible refine(QN.u _ (H.u.num.below W1d.u)).mono ?_);rintro e w2 ⟨rfl,bel2⟩);have bel2':Below w1.heap.size w1 w2:=yV bel2;refine hK _ _ ⟨⟨w2,bel2'.mono (by omega)⟩,rfl⟩ ?_;have W2:=jA (W1.u.trans (bel2'.mono W1.u.size));have HB2:=jA (HB1.u.keep (by omega) bel2');have hBs2:B+1<w2.heap.size:=lt_of_heap HB2.u.z;clear hK K c1 c2 bel2 bel2' QN;repeat (any_goals (first|go_big_quiet_step (fail)|quiet_step (fail)))
 refine jP ?_;go_wp2_with (first
  |(go_at_call 81;refine(QD.u w2 (H.u.den.below W2.u)).mono ?_;rintro e w3 ⟨rfl,bel3⟩;have HB3:=jA (HB2.u.keep (by omega) bel3);have W3:=jA (W2.u.trans (bel3.mono W2.u.size));clear bel3)
  |(refine xM rfl rfl 27 _ _ rfl (B+1) #[.string ⟨#[]⟩,.string ⟨#[]⟩] #[.string ⟨N.toArray⟩,.string ⟨D.toArray⟩] 27 rfl rfl HB3.u.z rfl HS.u (jae _ _) ?_;intro w5 ho hp))
 refine jm (jw rfl _ w5 (B+1) _ _ _ _ rfl hp underlying27 rfl HS.u) rfl ⟨rfl,xQ W3.u ho (by rw [HB.u];omega)⟩
end Go.Proofs.YtnohcdpnnhmpfaaGreatDoor
