/-
  Chapter 13, CountAlike: the closed fact 'alive': mul. Printed by tools/genalive.py.
-/
import Derived.Test.YtnohcdpnnhmpfaaGreatDoorK43A
import Derived.Shelf.Spec.BitsCarry
set_option linter.unusedVariables false
set_option linter.unusedSimpArgs false
set_option maxRecDepth 100000
set_option maxHeartbeats 4000000
namespace Go.Proofs.YtnohcdpnnhmpfaaGreatDoor.TR
open Go.RowKit ML AU CT FM
structure RingAt(w:World)(g:Nat)(r:Nat→Int):Prop where
 lt:g<w.heap.size
 wd: ∀i,Wd (r i)
 cell: ∀i,i<13→w.cell? ⟨g,15+i,none⟩=some (.int .u64 (r i))
theorem RingAt.below {w w1:World}{g:Nat}{r:Nat→Int}(h:RingAt w g r){B:Nat}(hb:Below B w w1)(hB:g<B)(hs:B≤w1.heap.size):RingAt w1 g r:=⟨Nat.lt_of_lt_of_le hB hs,h.wd,fun i hi=>(hb.cell hB).trans (h.cell i hi)⟩
theorem ring4 {w:World}{g:Nat}{r:Nat→Int}(h:RingAt w g r)(k:Nat)(hk:k+3<13): ∀j u,([.int .u64 (r k),.int .u64 (r (k+1)),.int .u64 (r (k+2)),.int .u64 (r (k+3))]:List Value)[j]?=some u→w.cell? ((⟨g,15+k,none⟩:Addr).add j)=some u:=by
 intro j u hu
 match j with
 |0=>exact(h.cell k (by omega)).trans hu
 |1=>exact(h.cell (k+1) (by omega)).trans hu
 |2=>exact(h.cell (k+2) (by omega)).trans hu
 |3=>exact(h.cell (k+3) (by omega)).trans hu
 |_+4=>cases hu
theorem once_any(a:Nat→Int)(ha: ∀i,Wd (a i))(g:Nat)(r:Nat→Int)(w:World)(hr:RingAt w g r):Calls Tryz.prog 207 #[.pointer (some ⟨g,15,none⟩),.agg #[.int .u64 (a 0),.int .u64 (a 1),.int .u64 (a 2),.int .u64 (a 3)]] w fun e w'=> ∃d:Nat→Int,(∀i,Wd (d i))∧e=.returned (.agg #[.int .u64 (d 0),.int .u64 (d 1),.int .u64 (d 2),.int .u64 (d 3)])∧Below w.heap.size w w':=by
 have HA:=Lib.hid ha;have HR:=Lib.hid hr;have QM:=Lib.hid (fun w=>minus_any a r ha hr.wd w);have hgw:=hr.lt;clear ha hr;go_enter Tryz.func207,Tryz.ntmps207;go_upto_region 1 with(fail);have hbA:Below w.heap.size w ((w.alloc (.cells #[.int .u64 (a 0),.int .u64 (a 1),.int .u64 (a 2),.int .u64 (a 3)] 147)).alloc (.cells #[.int .u64 0,.int .u64 0,.int .u64 0,.int .u64 0] 147)):=((Below.refl _ _).alloc (Nat.le_refl _) _).alloc (by simp) _;have hc1:((w.alloc (.cells #[.int .u64 (a 0),.int .u64 (a 1),.int .u64 (a 2),.int .u64 (a 3)] 147)).alloc (.cells #[.int .u64 0,.int .u64 0,.int .u64 0,.int .u64 0] 147)).heap[w.heap.size]?=some (.cells #[.int .u64 (a 0),.int .u64 (a 1),.int .u64 (a 2),.int .u64 (a 3)] 147 (0,0)):=heap_lt (heap_at rfl);have hc2:((w.alloc (.cells #[.int .u64 (a 0),.int .u64 (a 1),.int .u64 (a 2),.int .u64 (a 3)] 147)).alloc (.cells #[.int .u64 0,.int .u64 0,.int .u64 0,.int .u64 0] 147)).heap[w.heap.size+1]?=some (.cells #[.int .u64 0,.int .u64 0,.int .u64 0,.int .u64 0] 147 (0,0)):=heap_at (by simp);generalize hB:w.heap.size=B at*;refine wp_abs (fun w1=>Below B w w1∧w1.heap[B]?=some (.cells #[.int .u64 (a 0),.int .u64 (a 1),.int .u64 (a 2),.int .u64 (a 3)] 147 (0,0))∧w1.heap[B+1]?=some (.cells #[.int .u64 0,.int .u64 0,.int .u64 0,.int .u64 0] 147 (0,0))) ⟨hbA,hc1,hc2⟩ (fun w1 hw1=>?_);have HB:=Lib.hid hB;have B1:=Lib.hid hw1.1;have A1:=Lib.hid hw1.2.1;have A2:=Lib.hid hw1.2.2;have hlt:B+1<w1.heap.size:=lt_of_heap hw1.2.2;have R1:=Lib.hid (HR.out.below hw1.1 hgw (by omega));clear hB hw1 hbA hc1 hc2;obtain⟨M0,hM0⟩: ∃M0,M0=w1.heap.size:=⟨_,rfl⟩;have HM0:=Lib.hid hM0;have hx0:Below M0 w1 w1.drew:=(Below.refl _ _).drew;have sx0:M0≤w1.drew.heap.size:=Nat.le_of_eq hM0;have hBM:B<M0:=by omega
 have HRG:=Lib.hid (fun w' (hw': ∃z:BelowT M0 w1,w'=z.w)=>(show ∀j u,([.int .u64 (r 0),.int .u64 (r 1),.int .u64 (r 2),.int .u64 (r 3)]:List Value)[j]?=some u→w'.cell? ((⟨g,15,none⟩:Addr).add j)=some u by
  obtain⟨z,rfl⟩:=hw';intro j u hu;exact(z.2.cell (by rw [addr_block];show g<M0;omega)).trans (ring4 R1.out 0 (by omega) j u hu)))
 clear hM0;go_cut [5,6] (fun v u w'=> ∃(D:Nat) (d:Nat→Int) (x:Int),v=.pointer (some ⟨D,0,none⟩)∧u=.int .u64 x∧M0≤D∧(∀i,Wd (d i))∧w'.heap[D]?=some (.cells #[.int .u64 (d 0),.int .u64 (d 1),.int .u64 (d 2),.int .u64 (d 3)] 147 (0,0))∧Below M0 w1 w');case first=>
  refine Seg.wp_region_plan (fun w'=> ∃x:BelowT M0 w1,w'=x.w) (.quiet [0,1,2,3,4] (.alt 5 (.quiet [6,7,8] (.one 9 (.one 10 (.last [])))) (.one 9 (.one 5 (.quiet [6,7,8] (.one 10 (.last []))))))) 11 (by kernel_rfl) (by kernel_rfl) (fun _ _ d _ _ h=>by cases d<;>exact h) (⟨⟨_,hx0⟩,rfl⟩) ?_;try simp only [Seg.wpPlan,List.map_cons,List.map_nil,Seg.opAt,List.drop_succ_cons,List.drop_zero,Array.getD_eq_getD_getElem?,List.getElem?_toArray,List.getElem?_cons_succ,List.getElem?_cons_zero,Option.getD_some]
  refine wpQuiet_load_whole rfl 147 _ rfl B #[.int .u64 (a 0),.int .u64 (a 1),.int .u64 (a 2),.int .u64 (a 3)] _ _ _ rfl A1.out hBM Tryz.underlying147 rfl size_limbs ?_;first|go_big_quiet_step (fail)|quiet_step (fail)
  first|go_big_quiet_step (fail)|quiet_step (fail)
  first|go_big_quiet_step (fail)|quiet_step (fail)
  refine wpQuiet_load_at rfl 147 _ rfl ⟨g,15,none⟩ [.int .u64 (r 0),.int .u64 (r 1),.int .u64 (r 2),.int .u64 (r 3)] _ rfl HRG.out Tryz.underlying147 rfl size_limbs ?_;refine wpQuiet_nil ?_;try simp only [Seg.wpPlan,List.map_cons,List.map_nil,Seg.opAt,List.drop_succ_cons,List.drop_zero,Array.getD_eq_getD_getElem?,List.getElem?_toArray,List.getElem?_cons_succ,List.getElem?_cons_zero,Option.getD_some]
  generalize w1.drew=x0 at*;refine⟨?_,?_⟩
  ·try unfold Seg.wpUp
   intro K hK;first|go_simp|skip
   go_wp2_with (go_at_call 220;refine(QM.out x0).mono ?_;rintro e x1 ⟨d,x,hd,rfl,twx1⟩);have hx1:=hx0.trans (twx1.mono sx0);have sx1:=Nat.le_trans sx0 twx1.size;have HD:=Lib.hid hd;clear hd;refine hK _ _ ⟨⟨_,hx1⟩,rfl⟩ ?_;clear hK K hx0 sx0 twx1;try simp only [Seg.wpPlan,List.map_cons,List.map_nil,Seg.opAt,List.drop_succ_cons,List.drop_zero,Array.getD_eq_getD_getElem?,List.getElem?_toArray,List.getElem?_cons_succ,List.getElem?_cons_zero,Option.getD_some]
   repeat (any_goals (first|go_big_quiet_step (fail)|quiet_step (fail)))
   refine wpQuiet_nil ?_;try simp only [Seg.wpPlan,List.map_cons,List.map_nil,Seg.opAt,List.drop_succ_cons,List.drop_zero,Array.getD_eq_getD_getElem?,List.getElem?_toArray,List.getElem?_cons_succ,List.getElem?_cons_zero,Option.getD_some]
   try unfold Seg.wpUp
   intro K hK;first|go_simp|skip
   go_wp2_with fail;have hx2:Below M0 w1 (x1.alloc (.cells #[.int .u64 0,.int .u64 0,.int .u64 0,.int .u64 0] 147)):=hx1.alloc sx1 _;have sx2:M0≤(x1.alloc (.cells #[.int .u64 0,.int .u64 0,.int .u64 0,.int .u64 0] 147)).heap.size:=by simp;omega
   have twx2:Below x1.heap.size x1 (x1.alloc (.cells #[.int .u64 0,.int .u64 0,.int .u64 0,.int .u64 0] 147)):=(Below.refl _ _).alloc (Nat.le_refl _) _;have eD:(x1.alloc (.cells #[.int .u64 0,.int .u64 0,.int .u64 0,.int .u64 0] 147)).heap[x1.heap.size]?=some (.cells #[.int .u64 0,.int .u64 0,.int .u64 0,.int .u64 0] 147 (0,0)):=heap_at rfl;have mD:M0≤x1.heap.size:=sx1;refine hK _ _ ⟨⟨_,hx2⟩,rfl⟩ ?_;clear hK K hx1 sx1 twx2;generalize (x1.alloc (.cells #[.int .u64 0,.int .u64 0,.int .u64 0,.int .u64 0] 147))=x2 at*;generalize x1.heap.size=D at*;try simp only [Seg.wpPlan,List.map_cons,List.map_nil,Seg.opAt,List.drop_succ_cons,List.drop_zero,Array.getD_eq_getD_getElem?,List.getElem?_toArray,List.getElem?_cons_succ,List.getElem?_cons_zero,Option.getD_some]
   try unfold Seg.wpUp
   intro K hK;simp only [Region.wanted,if_true];refine wp_store_whole rfl 147 _ _ rfl D #[.int .u64 0,.int .u64 0,.int .u64 0,.int .u64 0] #[.int .u64 (d 0),.int .u64 (d 1),.int .u64 (d 2),.int .u64 (d 3)] 147 rfl rfl eD rfl size_limbs (words4 d) ?_;intro x3 ho hp;have hx3:Below M0 w1 x3:=bel_only hx2 ho mD;have sx3:M0≤x3.heap.size:=Nat.le_trans sx2 (grown_only ho).size;refine hK _ _ ⟨⟨_,hx3⟩,rfl⟩ ?_;clear hK K hx2 sx2 ho eD;have eD:=hp;clear hp;try simp only [Seg.wpPlan,List.map_cons,List.map_nil,Seg.opAt,List.drop_succ_cons,List.drop_zero,Array.getD_eq_getD_getElem?,List.getElem?_toArray,List.getElem?_cons_succ,List.getElem?_cons_zero,Option.getD_some]
   refine wpQuiet_nil ?_;go_wp2_with fail;go_meet;exact⟨D,d,x,rfl,rfl,mD,HD.out,eD,hx3⟩
  ·try unfold Seg.wpUp
   intro K hK;first|go_simp|skip
   go_wp2_with fail;have hx1:Below M0 w1 (x0.alloc (.cells #[.int .u64 0,.int .u64 0,.int .u64 0,.int .u64 0] 147)):=hx0.alloc sx0 _;have sx1:M0≤(x0.alloc (.cells #[.int .u64 0,.int .u64 0,.int .u64 0,.int .u64 0] 147)).heap.size:=by simp;omega
   have twx1:Below x0.heap.size x0 (x0.alloc (.cells #[.int .u64 0,.int .u64 0,.int .u64 0,.int .u64 0] 147)):=(Below.refl _ _).alloc (Nat.le_refl _) _;have eD:(x0.alloc (.cells #[.int .u64 0,.int .u64 0,.int .u64 0,.int .u64 0] 147)).heap[x0.heap.size]?=some (.cells #[.int .u64 0,.int .u64 0,.int .u64 0,.int .u64 0] 147 (0,0)):=heap_at rfl;have mD:M0≤x0.heap.size:=sx0;refine hK _ _ ⟨⟨_,hx1⟩,rfl⟩ ?_;clear hK K hx0 sx0 twx1;generalize (x0.alloc (.cells #[.int .u64 0,.int .u64 0,.int .u64 0,.int .u64 0] 147))=x1 at*;generalize x0.heap.size=D at*;try simp only [Seg.wpPlan,List.map_cons,List.map_nil,Seg.opAt,List.drop_succ_cons,List.drop_zero,Array.getD_eq_getD_getElem?,List.getElem?_toArray,List.getElem?_cons_succ,List.getElem?_cons_zero,Option.getD_some]
   try unfold Seg.wpUp
   intro K hK;first|go_simp|skip
   go_wp2_with (go_at_call 220;refine(QM.out x1).mono ?_;rintro e x2 ⟨d,x,hd,rfl,twx2⟩);have hx2:=hx1.trans (twx2.mono sx1);have sx2:=Nat.le_trans sx1 twx2.size;have HD:=Lib.hid hd;clear hd;have kk:=bel_keep twx2 (lt_of_heap eD) eD;clear eD;have eD:=kk;clear kk;refine hK _ _ ⟨⟨_,hx2⟩,rfl⟩ ?_;clear hK K hx1 sx1 twx2;try simp only [Seg.wpPlan,List.map_cons,List.map_nil,Seg.opAt,List.drop_succ_cons,List.drop_zero,Array.getD_eq_getD_getElem?,List.getElem?_toArray,List.getElem?_cons_succ,List.getElem?_cons_zero,Option.getD_some]
   repeat (any_goals (first|go_big_quiet_step (fail)|quiet_step (fail)))
   refine wpQuiet_nil ?_;try simp only [Seg.wpPlan,List.map_cons,List.map_nil,Seg.opAt,List.drop_succ_cons,List.drop_zero,Array.getD_eq_getD_getElem?,List.getElem?_toArray,List.getElem?_cons_succ,List.getElem?_cons_zero,Option.getD_some]
   try unfold Seg.wpUp
   intro K hK;simp only [Region.wanted,if_true];refine wp_store_whole rfl 147 _ _ rfl D #[.int .u64 0,.int .u64 0,.int .u64 0,.int .u64 0] #[.int .u64 (d 0),.int .u64 (d 1),.int .u64 (d 2),.int .u64 (d 3)] 147 rfl rfl eD rfl size_limbs (words4 d) ?_;intro x3 ho hp;have hx3:Below M0 w1 x3:=bel_only hx2 ho mD;have sx3:M0≤x3.heap.size:=Nat.le_trans sx2 (grown_only ho).size;refine hK _ _ ⟨⟨_,hx3⟩,rfl⟩ ?_;clear hK K hx2 sx2 ho eD;have eD:=hp;clear hp;try simp only [Seg.wpPlan,List.map_cons,List.map_nil,Seg.opAt,List.drop_succ_cons,List.drop_zero,Array.getD_eq_getD_getElem?,List.getElem?_toArray,List.getElem?_cons_succ,List.getElem?_cons_zero,Option.getD_some]
   refine wpQuiet_nil ?_;go_wp2_with fail;go_meet;exact⟨D,d,x,rfl,rfl,mD,HD.out,eD,hx3⟩
 case rest=>
 clear hx0 sx0 HRG;obtain⟨D,d,x,rfl,rfl,hMD,hd,hD,hb⟩:=hcut;have HD:=Lib.hid hd;have D2:=Lib.hid hD;have B2:=Lib.hid (B1.out.trans (hb.mono (by omega)));have A3:=Lib.hid (bel_keep hb (by omega) A1.out);have A4:=Lib.hid (bel_keep hb (by have:=HM0.out;omega) A2.out);clear hd hD hb A1 A2 B1 R1;by_cases hx:x=0;case pos=>
  subst hx;go_wp2_with (first
   |go_big_skip
   |((with_reducible refine at_load 147 ?_);refine wpList_load_g ?_ 147 (.tmp 5) ?_ D _ _ _ _ ?_ D2.out Tryz.underlying147 ?_ size_limbs ?_;rfl;rfl;rfl;rfl)
   |(refine wpList_store_whole rfl rfl 147 _ _ rfl (B+1) #[.int .u64 0,.int .u64 0,.int .u64 0,.int .u64 0] #[.int .u64 (d 0),.int .u64 (d 1),.int .u64 (d 2),.int .u64 (d 3)] 147 rfl rfl A4.out rfl size_limbs (words4 d) ?_;intro w3 ho hp))
  refine bodyPost_ret (results_cell_row rfl _ w3 (B+1) _ _ _ _ rfl hp Tryz.underlying147 rfl size_limbs) rfl ?_;exact⟨d,HD.out,rfl,by rw [HB.out];exact bel_only B2.out ho (by omega)⟩
 have hx1:(x==0)=false:=by rw [beq_eq_false_iff_ne];exact hx
 go_wp2_with (first
  |go_big_skip
  |((with_reducible refine at_load 147 ?_);refine wpList_load_g ?_ 147 (.tmp 3) ?_ B _ _ _ _ ?_ A3.out Tryz.underlying147 ?_ size_limbs ?_;rfl;rfl;rfl;rfl)
  |(refine wpList_store_whole rfl rfl 147 _ _ rfl (B+1) #[.int .u64 0,.int .u64 0,.int .u64 0,.int .u64 0] #[.int .u64 (a 0),.int .u64 (a 1),.int .u64 (a 2),.int .u64 (a 3)] 147 rfl rfl A4.out rfl size_limbs (words4 a) ?_;intro w3 ho hp))
 refine bodyPost_ret (results_cell_row rfl _ w3 (B+1) _ _ _ _ rfl hp Tryz.underlying147 rfl size_limbs) rfl ?_;exact⟨a,HA.out,rfl,by rw [HB.out];exact bel_only B2.out ho (by omega)⟩
end Go.Proofs.YtnohcdpnnhmpfaaGreatDoor.TR
