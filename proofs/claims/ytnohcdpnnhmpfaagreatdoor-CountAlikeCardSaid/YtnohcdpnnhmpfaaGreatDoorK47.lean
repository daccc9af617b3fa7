/-
  Chapter 13, CountAlike: the closed fact 'alive': Of, Scalar. Printed by tools/genalive.py.
-/
import Derived.Test.YtnohcdpnnhmpfaaGreatDoorK46
import Derived.Test.YtnohcdpnnhmpfaaGreatDoorK21
set_option linter.unusedVariables false
set_option linter.unusedSimpArgs false
set_option maxRecDepth 100000
set_option maxHeartbeats 4000000
namespace Go.Proofs.YtnohcdpnnhmpfaaGreatDoor.TR
open Go.RowKit ML AU CT FM
theorem built_l(x:Int):Tryz.prog.built 147 [(0,.int .u64 x)]=some #[.int .u64 x,.int .u64 0,.int .u64 0,.int .u64 0]:=by kernel_rfl
theorem built_g:Tryz.prog.built 186 [(0,.int .i64 1),(1,.int .i64 2),(3,.agg #[.int .u64 641,.int .u64 0,.int .u64 0,.int .u64 0,.int .u64 1,.int .u64 0,.int .u64 0,.int .u64 0,.int .u64 1,.int .u64 0,.int .u64 0,.int .u64 0,.int .u64 28778071877862015]),(2,.agg #[.int .u64 1283,.int .u64 0,.int .u64 0,.int .u64 0,.int .u64 1100,.int .u64 0,.int .u64 0,.int .u64 0,.int .u64 131,.int .u64 0,.int .u64 0,.int .u64 0,.int .u64 690135397925220949])]=some #[.int .i64 1,.int .i64 2,.int .u64 1283,.int .u64 0,.int .u64 0,.int .u64 0,.int .u64 1100,.int .u64 0,.int .u64 0,.int .u64 0,.int .u64 131,.int .u64 0,.int .u64 0,.int .u64 0,.int .u64 690135397925220949,.int .u64 641,.int .u64 0,.int .u64 0,.int .u64 0,.int .u64 1,.int .u64 0,.int .u64 0,.int .u64 0,.int .u64 1,.int .u64 0,.int .u64 0,.int .u64 0,.int .u64 28778071877862015]:=by kernel_rfl
theorem of1_any(w:World):Calls Tryz.prog 103 #[.int .i64 1] w fun e w'=> ∃g:Nat,e=.returned (.pointer (some ⟨g,0,none⟩))∧Below w.heap.size w w'∧w'.heap[g]?=some (.cells #[.int .i64 1,.int .i64 2,.int .u64 1283,.int .u64 0,.int .u64 0,.int .u64 0,.int .u64 1100,.int .u64 0,.int .u64 0,.int .u64 0,.int .u64 131,.int .u64 0,.int .u64 0,.int .u64 0,.int .u64 690135397925220949,.int .u64 641,.int .u64 0,.int .u64 0,.int .u64 0,.int .u64 1,.int .u64 0,.int .u64 0,.int .u64 0,.int .u64 1,.int .u64 0,.int .u64 0,.int .u64 0,.int .u64 28778071877862015] 186 (0,0)):=by
 go_enter Tryz.func103,Tryz.ntmps103;go_upto_region 3 with(fail);go_wp2_with (first
  |go_big_skip
  |((with_reducible refine wpList_build rfl 147 _ rfl [(0,.int .u64 641)] ?_ _ (built_l 641) ?_); · (first|(simp;done)|(simp [Act.eval];done)))
  |((with_reducible refine wpList_build rfl 147 _ rfl [(0,.int .u64 1)] ?_ _ (built_l 1) ?_); · (first|(simp;done)|(simp [Act.eval];done)))
  |((with_reducible refine wpList_build rfl 147 _ rfl [(0,.int .u64 1283)] ?_ _ (built_l 1283) ?_); · (first|(simp;done)|(simp [Act.eval];done)))
  |((with_reducible refine wpList_build rfl 147 _ rfl [(0,.int .u64 1100)] ?_ _ (built_l 1100) ?_); · (first|(simp;done)|(simp [Act.eval];done)))
  |((with_reducible refine wpList_build rfl 147 _ rfl [(0,.int .u64 131)] ?_ _ (built_l 131) ?_); · (first|(simp;done)|(simp [Act.eval];done)))
  |((with_reducible refine wpList_build rfl 184 _ rfl [(0,.agg #[.int .u64 641,.int .u64 0,.int .u64 0,.int .u64 0]),(1,.agg #[.int .u64 1,.int .u64 0,.int .u64 0,.int .u64 0]),(2,.agg #[.int .u64 1,.int .u64 0,.int .u64 0,.int .u64 0]),(3,.int .u64 28778071877862015)] ?_ _ built_rq ?_); · (first|(simp;done)|(simp [Act.eval];done)))
  |((with_reducible refine wpList_build rfl 184 _ rfl [(0,.agg #[.int .u64 1283,.int .u64 0,.int .u64 0,.int .u64 0]),(1,.agg #[.int .u64 1100,.int .u64 0,.int .u64 0,.int .u64 0]),(2,.agg #[.int .u64 131,.int .u64 0,.int .u64 0,.int .u64 0]),(3,.int .u64 690135397925220949)] ?_ _ built_rp ?_); · (first|(simp;done)|(simp [Act.eval];done)))
  |((with_reducible refine wpList_build rfl 186 _ rfl [(0,.int .i64 1),(1,.int .i64 2),(3,.agg #[.int .u64 641,.int .u64 0,.int .u64 0,.int .u64 0,.int .u64 1,.int .u64 0,.int .u64 0,.int .u64 0,.int .u64 1,.int .u64 0,.int .u64 0,.int .u64 0,.int .u64 28778071877862015]),(2,.agg #[.int .u64 1283,.int .u64 0,.int .u64 0,.int .u64 0,.int .u64 1100,.int .u64 0,.int .u64 0,.int .u64 0,.int .u64 131,.int .u64 0,.int .u64 0,.int .u64 0,.int .u64 690135397925220949])] ?_ _ built_g ?_); · (first|(simp;done)|(simp [Act.eval];done))))
 go_ret;exact⟨_,rfl,(Below.refl _ _).alloc (Nat.le_refl _) _,heap_at rfl⟩
def rq:Nat→Int
 |0=>641
 |1=>0
 |2=>0
 |3=>0
 |4=>1
 |5=>0
 |6=>0
 |7=>0
 |8=>1
 |9=>0
 |10=>0
 |11=>0
 |12=>28778071877862015
 |_+13=>0
theorem rq_at {w:World}{g:Nat}(h:w.heap[g]?=some (.cells #[.int .i64 1,.int .i64 2,.int .u64 1283,.int .u64 0,.int .u64 0,.int .u64 0,.int .u64 1100,.int .u64 0,.int .u64 0,.int .u64 0,.int .u64 131,.int .u64 0,.int .u64 0,.int .u64 0,.int .u64 690135397925220949,.int .u64 641,.int .u64 0,.int .u64 0,.int .u64 0,.int .u64 1,.int .u64 0,.int .u64 0,.int .u64 0,.int .u64 1,.int .u64 0,.int .u64 0,.int .u64 0,.int .u64 28778071877862015] 186 (0,0))):RingAt w g rq:=⟨lt_of_heap h,fun i=>by
 match i with
 |0=>exact⟨by decide,by decide⟩
 |1=>exact⟨by decide,by decide⟩
 |2=>exact⟨by decide,by decide⟩
 |3=>exact⟨by decide,by decide⟩
 |4=>exact⟨by decide,by decide⟩
 |5=>exact⟨by decide,by decide⟩
 |6=>exact⟨by decide,by decide⟩
 |7=>exact⟨by decide,by decide⟩
 |8=>exact⟨by decide,by decide⟩
 |9=>exact⟨by decide,by decide⟩
 |10=>exact⟨by decide,by decide⟩
 |11=>exact⟨by decide,by decide⟩
 |12=>exact⟨by decide,by decide⟩
 |_+13=>exact wd_zero,fun i hi=>by
 refine(cell_of_row w g (15+i) _ _ _ h).trans ?_
 match i,hi with
 |0,_=>rfl
 |1,_=>rfl
 |2,_=>rfl
 |3,_=>rfl
 |4,_=>rfl
 |5,_=>rfl
 |6,_=>rfl
 |7,_=>rfl
 |8,_=>rfl
 |9,_=>rfl
 |10,_=>rfl
 |11,_=>rfl
 |12,_=>rfl⟩
def a5:Nat→Int
 |0=>5
 |_+1=>0
theorem wd_a5: ∀i,Wd (a5 i):=fun i=>by
 match i with
 |0=>exact⟨by decide,by decide⟩
 |_+1=>exact wd_zero
theorem size_scalar:(Tryz.prog.info? 149).map (·.size)=some 4:=by kernel_rfl
theorem built_s(d:Nat→Int):Tryz.prog.built 149 [(0,.agg #[.int .u64 (d 0),.int .u64 (d 1),.int .u64 (d 2),.int .u64 (d 3)])]=some #[.int .u64 (d 0),.int .u64 (d 1),.int .u64 (d 2),.int .u64 (d 3)]:=by kernel_rfl
theorem scalar5_any(g:Nat)(w:World)(hg:w.heap[g]?=some (.cells #[.int .i64 1,.int .i64 2,.int .u64 1283,.int .u64 0,.int .u64 0,.int .u64 0,.int .u64 1100,.int .u64 0,.int .u64 0,.int .u64 0,.int .u64 131,.int .u64 0,.int .u64 0,.int .u64 0,.int .u64 690135397925220949,.int .u64 641,.int .u64 0,.int .u64 0,.int .u64 0,.int .u64 1,.int .u64 0,.int .u64 0,.int .u64 0,.int .u64 1,.int .u64 0,.int .u64 0,.int .u64 0,.int .u64 28778071877862015] 186 (0,0))):Calls Tryz.prog 104 #[.pointer (some ⟨g,0,none⟩),.string ⟨#[0,5]⟩] w fun e w'=> ∃d:Nat→Int,e=.returned (.tuple #[.agg #[.int .u64 (d 0),.int .u64 (d 1),.int .u64 (d 2),.int .u64 (d 3)],.bool true])∧Below w.heap.size w w':=by
 have HG:=Lib.hid hg;have hgw:=lt_of_heap hg;have QI:=Lib.hid (fun w (h:RingAt w g rq)=>(show Calls Tryz.prog 146 #[.pointer (some ⟨g,15,none⟩),.agg #[.int .u64 5,.int .u64 0,.int .u64 0,.int .u64 0]] w _ from in_any a5 wd_a5 g rq w h));clear hg;go_enter Tryz.func104,Tryz.ntmps104;go_upto_region 1 with(fail);have hbA:Below w.heap.size w (w.alloc (.cells #[.int .u64 0,.int .u64 0,.int .u64 0,.int .u64 0] 149)):=(Below.refl _ _).alloc (Nat.le_refl _) _;have hc1:(w.alloc (.cells #[.int .u64 0,.int .u64 0,.int .u64 0,.int .u64 0] 149)).heap[w.heap.size]?=some (.cells #[.int .u64 0,.int .u64 0,.int .u64 0,.int .u64 0] 149 (0,0)):=heap_at rfl;generalize hB:w.heap.size=B at*;refine wp_abs (fun w1=>Below B w w1∧w1.heap[B]?=some (.cells #[.int .u64 0,.int .u64 0,.int .u64 0,.int .u64 0] 149 (0,0))) ⟨hbA,hc1⟩ (fun w1 hw1=>?_);have HB:=Lib.hid hB;have B1:=Lib.hid hw1.1;have X1:=Lib.hid hw1.2;have hBs:B<w1.heap.size:=lt_of_heap hw1.2;clear hB hw1 hbA hc1;go_upto_region 2 with(first
  |go_big_skip
  |(go_at_call 144;refine((read5_any w1)).mono ?_;rintro e w2 ⟨rfl,b2⟩;dsimp only;have B2:=Lib.hid (B1.out.trans (b2.mono (Nat.le_of_lt hBs)));have X2:=Lib.hid (bel_keep b2 hBs X1.out);clear b2)
  |(refine wpList_store_whole rfl rfl 147 _ _ rfl w2.heap.size #[.int .u64 0,.int .u64 0,.int .u64 0,.int .u64 0] #[.int .u64 5,.int .u64 0,.int .u64 0,.int .u64 0] 147 rfl rfl (heap_at rfl) rfl size_limbs (by simp [Value.oneCell']) ?_;intro w3 ho hp))
 have b3:Below w2.heap.size w2 w3:=bel_only ((Below.refl _ _).alloc (Nat.le_refl _) _) ho (Nat.le_refl _);have hB2:B<w2.heap.size:=lt_of_heap X2.out;have X3:=Lib.hid (bel_keep b3 hB2 X2.out);have B3:=Lib.hid (B2.out.trans (b3.mono (Nat.le_of_lt hB2)));have C3:=Lib.hid hp;have G3:=Lib.hid (bel_keep B3.out hgw HG.out);have hC3:w2.heap.size<w3.heap.size:=lt_of_heap hp;clear b3 ho hp B1 X1 X2 B2 hBs;generalize w2.heap.size=C at*;have hg3:g<w3.heap.size:=lt_of_heap G3.out;have R3:=Lib.hid (rq_at G3.out);have k1: ∀x:BelowT w3.heap.size w3,x.w.cell? ⟨g,1,none⟩=some (.int .i64 2):=fun x=>cell_of_row _ g 1 _ _ _ (bel_keep x.2 hg3 G3.out)
 have HRG:=Lib.hid (fun w' (hw': ∃z:BelowT w3.heap.size w3,w'=z.w)=>(show ∀j u,([.int .u64 641,.int .u64 0,.int .u64 0,.int .u64 0]:List Value)[j]?=some u→w'.cell? ((⟨g,15,none⟩:Addr).add j)=some u by
  obtain⟨z,rfl⟩:=hw';intro j u hu;exact(z.2.cell (by rw [addr_block];show g<w3.heap.size;omega)).trans (ring4 R3.out 0 (by omega) j u hu)))
 have hBw:B<w3.heap.size:=by omega
 refine Seg.wp_region_segs (fun w'=> ∃x:BelowT w3.heap.size w3,w'=x.w) [] [0,1,2,3,4,5,6,7,8,9,10,11,12,13,14,15,16,17] 18 (by kernel_rfl) (by kernel_rfl) (fun _ _ d _ _ h=>by cases d<;>exact h) (⟨⟨_,(Below.refl _ _).drew⟩,rfl⟩) ?_;simp only [List.map_cons,List.map_nil,Seg.opAt,List.drop_succ_cons,List.drop_zero,Seg.wpSegs,Array.getD_eq_getD_getElem?,List.getElem?_toArray,List.getElem?_cons_succ,List.getElem?_cons_zero,Option.getD_some];first|go_big_quiet_step (fail)|quiet_step (fail)
 first|go_big_quiet_step (fail)|quiet_step (fail)
 first|go_big_quiet_step (fail)|quiet_step (fail)
 first|go_big_quiet_step (fail)|quiet_step (fail)
 first|go_big_quiet_step (fail)|quiet_step (fail)
 first|go_big_quiet_step (fail)|quiet_step (fail)
 first|go_big_quiet_step (fail)|quiet_step (fail)
 first|go_big_quiet_step (fail)|quiet_step (fail)
 first|go_big_quiet_step (fail)|quiet_step (fail)
 first|go_big_quiet_step (fail)|quiet_step (fail)
 first|go_big_quiet_step (fail)|quiet_step (fail)
 first|go_big_quiet_step (fail)|quiet_step (fail)
 refine wpQuiet_load_whole rfl 147 _ rfl C #[.int .u64 5,.int .u64 0,.int .u64 0,.int .u64 0] _ _ _ rfl C3.out hC3 Tryz.underlying147 rfl size_limbs ?_;first|go_big_quiet_step (fail)|quiet_step (fail)
 first|go_big_quiet_step (fail)|quiet_step (fail)
 first|go_big_quiet_step (fail)|quiet_step (fail)
 first|go_big_quiet_step (fail)|quiet_step (fail)
 refine wpQuiet_load_at rfl 147 _ rfl ⟨g,15,none⟩ [.int .u64 641,.int .u64 0,.int .u64 0,.int .u64 0] _ rfl HRG.out Tryz.underlying147 rfl size_limbs ?_;refine wpQuiet_nil ?_;go_upto_region 4 with(first
  |go_big_skip
  |(go_at_call 145;refine((cmp5_any w3.drew)).mono ?_;rintro e w4 ⟨rfl,b4⟩;dsimp only;have B4:=Lib.hid (undrew b4);clear b4))
 have X4:=Lib.hid (bel_keep B4.out hBw X3.out);have C4:=Lib.hid (bel_keep B4.out hC3 C3.out);have G4:=Lib.hid (bel_keep B4.out hg3 G3.out);have B5:=Lib.hid (B3.out.trans (B4.out.mono (Nat.le_of_lt hBw)));have hB4:B<w4.heap.size:=lt_of_heap X4.out;have hC4:C<w4.heap.size:=lt_of_heap C4.out;clear X3 C3 G3 B4 B3 k1 HRG R3 hBw;have R4:=Lib.hid (rq_at (w:=w4.drew) G4.out);refine Seg.wp_region_segs (fun w'=> ∃x:BelowT w4.heap.size w4,w'=x.w) [] [0,1,2,3] 4 (by kernel_rfl) (by kernel_rfl) (fun _ _ d _ _ h=>by cases d<;>exact h) (⟨⟨_,(Below.refl _ _).drew⟩,rfl⟩) ?_;simp only [List.map_cons,List.map_nil,Seg.opAt,List.drop_succ_cons,List.drop_zero,Seg.wpSegs,Array.getD_eq_getD_getElem?,List.getElem?_toArray,List.getElem?_cons_succ,List.getElem?_cons_zero,Option.getD_some];first|go_big_quiet_step (fail)|quiet_step (fail)
 first|go_big_quiet_step (fail)|quiet_step (fail)
 first|go_big_quiet_step (fail)|quiet_step (fail)
 refine wpQuiet_load_whole rfl 147 _ rfl C #[.int .u64 5,.int .u64 0,.int .u64 0,.int .u64 0] _ _ _ rfl C4.out hC4 Tryz.underlying147 rfl size_limbs ?_;refine wpQuiet_nil ?_;go_wp2_with (first
  |go_big_skip
  |(go_at_call 146;refine(QI.out w4.drew R4.out).mono ?_;rintro e w6 ⟨d,hd,rfl,b6⟩;dsimp only;have B6:=Lib.hid (B5.out.trans ((undrew b6).mono (Nat.le_of_lt hB4)));have X6:=Lib.hid (bel_keep (undrew b6) hB4 X4.out);clear b6 hd)
  |((with_reducible refine wpList_build rfl 149 _ rfl [(0,.agg #[.int .u64 (d 0),.int .u64 (d 1),.int .u64 (d 2),.int .u64 (d 3)])] ?_ _ (built_s d) ?_); · (first|(simp;done)|(simp [Act.eval];done)))
  |(refine wpList_store_whole rfl rfl 149 _ _ rfl B #[.int .u64 0,.int .u64 0,.int .u64 0,.int .u64 0] #[.int .u64 (d 0),.int .u64 (d 1),.int .u64 (d 2),.int .u64 (d 3)] 149 rfl rfl X6.out rfl size_scalar (words4 d) ?_;intro w7 ho hp))
 refine bodyPost_ret (results_cell_tmp rfl _ w7 B _ _ _ _ _ rfl rfl hp Tryz.underlying149 rfl size_scalar) rfl ?_;exact⟨d,rfl,by rw [HB.out];exact bel_only B6.out ho (Nat.le_refl _)⟩
theorem groupScalar5_any(w:World):Calls Tryz.prog 60 #[.int .i64 1,.string ⟨#[0,5]⟩] w fun e w'=>e=.returned (.bool true)∧Below w.heap.size w w':=by
 go_enter Tryz.func60,Tryz.ntmps60;go_upto_region 2 with(first
  |go_big_skip
  |(go_at_call 103;refine((of1_any w)).mono ?_;rintro e w1 ⟨g,rfl,b1,hg⟩;dsimp only;have B1:=Lib.hid b1;have G1:=Lib.hid hg;clear b1 hg))
 have hs:=B1.out.size;go_upto_region 5 with(first
  |go_big_skip
  |(go_at_call 104;refine((scalar5_any g w1 G1.out)).mono ?_;rintro e w2 ⟨d,rfl,b2⟩;dsimp only;have B2:=Lib.hid (B1.out.trans (b2.mono hs));clear b2)
  |(refine wpList_store_whole rfl rfl 149 _ _ rfl w2.heap.size #[.int .u64 0,.int .u64 0,.int .u64 0,.int .u64 0] #[.int .u64 (d 0),.int .u64 (d 1),.int .u64 (d 2),.int .u64 (d 3)] 149 rfl rfl (heap_at rfl) rfl size_scalar (words4 d) ?_;intro w3 ho hp))
 go_wp2_with fail;go_ret;have h2:=B2.out.size;exact⟨rfl,bel_only (B2.out.alloc h2 _) ho h2⟩
theorem alive_any(w:World):Calls Tryz.prog 22 #[] w fun e w'=>e=.returned (.bool true)∧Below w.heap.size w w':=by
 go_enter Tryz.func22,Tryz.ntmps22;go_wp2_with (first
  |go_big_skip
  |(go_at_call 60;refine((groupScalar5_any w)).mono ?_;rintro e w1 ⟨rfl,b1⟩;dsimp only;have B1:=Lib.hid b1;clear b1))
 go_ret;exact⟨rfl,B1.out⟩
end Go.Proofs.YtnohcdpnnhmpfaaGreatDoor.TR
