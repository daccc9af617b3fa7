/-
  Chapter 13, CountAlike: the closed fact 'alive': words. Printed by tools/genalive.py.
-/
import Derived.Test.YtnohcdpnnhmpfaaGreatDoorK20
import Derived.Shelf.Spec.BitsCarry
set_option linter.unusedVariables false
set_option linter.unusedSimpArgs false
set_option maxRecDepth 100000
set_option maxHeartbeats 4000000
namespace Go.Proofs.YtnohcdpnnhmpfaaGreatDoor
open Go.RowKit ML AU CT FM
@[go_sem] theorem GrT.cell {b M : Nat} {w0 : World} (x : GrT b M w0) (k o : Nat) (h : k < M) (hne : k ≠ b) : x.w.cell? ⟨k, o, none⟩ = w0.cell? ⟨k, o, none⟩ := World.cell?_of_block (x.2 k h hne)
end Go.Proofs.YtnohcdpnnhmpfaaGreatDoor
namespace Go.Proofs.YtnohcdpnnhmpfaaGreatDoor.TR
open Go.RowKit ML AU CT FM
def Wd(x:Int):Prop:=0≤x∧x<18446744073709551616
theorem wd_wrap(x:Int):Wd (IntKind.u64.wrap x):=by rw [IntKind.wrap_u64];unfold Wd;omega
theorem wd_zero:Wd 0:=by unfold Wd;omega
def up4(a:Nat→Int)(i:Nat)(x:Int):Nat→Int:=fun j=>if j=i then x else a j
theorem wd_up {a:Nat→Int}(h: ∀i,Wd (a i)){x:Int}(hx:Wd x)(i:Nat): ∀j,Wd (up4 a i x j):=fun j=>by
 unfold up4;split;·exact hx
 ·exact h j
theorem size_limbs:(Tryz.prog.info? 147).map (·.size)=some 4:=by kernel_rfl
theorem words4(a:Nat→Int):(#[.int .u64 (a 0),.int .u64 (a 1),.int .u64 (a 2),.int .u64 (a 3)]:Array Value).all (·.oneCell')=true:=by simp [Value.oneCell']
theorem l4_get(a:Nat→Int){i:Nat}(h:i<4):(#[.int .u64 (a 0),.int .u64 (a 1),.int .u64 (a 2),.int .u64 (a 3)]:Array Value)[i]?=some (.int .u64 (a i)):=by
 match i,h with
 |0,_=>rfl
 |1,_=>rfl
 |2,_=>rfl
 |3,_=>rfl
theorem l5_get(a:Nat→Int){i:Nat}(h:i<5):(#[.int .u64 (a 0),.int .u64 (a 1),.int .u64 (a 2),.int .u64 (a 3),.int .u64 (a 4)]:Array Value)[i]?=some (.int .u64 (a i)):=by
 match i,h with
 |0,_=>rfl
 |1,_=>rfl
 |2,_=>rfl
 |3,_=>rfl
 |4,_=>rfl
theorem l4_set {w:World}{g:Nat}{a:Nat→Int}{t:TypeId}{i:Nat}(hi:i<4)(x:Int)(h:w.heap[g]?=some (.cells #[.int .u64 (a 0),.int .u64 (a 1),.int .u64 (a 2),.int .u64 (a 3)] t (0,0))):(w.setCell ⟨g,i,none⟩ (.int .u64 x)).heap[g]?=some (.cells #[.int .u64 (up4 a i x 0),.int .u64 (up4 a i x 1),.int .u64 (up4 a i x 2),.int .u64 (up4 a i x 3)] t (0,0)):=by
 rw [heap_setCell_same w g i _ _ _ h]
 match i,hi with
 |0,_=>rfl
 |1,_=>rfl
 |2,_=>rfl
 |3,_=>rfl
theorem l5_set {w:World}{g:Nat}{a:Nat→Int}{t:TypeId}{i:Nat}(hi:i<5)(x:Int)(h:w.heap[g]?=some (.cells #[.int .u64 (a 0),.int .u64 (a 1),.int .u64 (a 2),.int .u64 (a 3),.int .u64 (a 4)] t (0,0))):(w.setCell ⟨g,i,none⟩ (.int .u64 x)).heap[g]?=some (.cells #[.int .u64 (up4 a i x 0),.int .u64 (up4 a i x 1),.int .u64 (up4 a i x 2),.int .u64 (up4 a i x 3),.int .u64 (up4 a i x 4)] t (0,0)):=by
 rw [heap_setCell_same w g i _ _ _ h]
 match i,hi with
 |0,_=>rfl
 |1,_=>rfl
 |2,_=>rfl
 |3,_=>rfl
 |4,_=>rfl
theorem add64w {x y c:Int}(hx:Wd x)(hy:Wd y)(hc:0≤c∧c≤1): ∃s k:Int,Wd s∧(0≤k∧k≤1)∧ ∀w:World,(callFunc 206 #[.int .u64 x,.int .u64 y,.int .u64 c]).run Tryz.prog w=.ok (.value (.tuple #[.int .u64 s,.int .u64 k])) w:=by
 unfold Wd at hx hy;refine⟨(x+y+c)%18446744073709551616,(x+y+c)/18446744073709551616,by unfold Wd;omega,by omega,fun w=>?_⟩;rw [run_callFunc_extern Tryz.func206 (by kernel_rfl) (by kernel_rfl) (by kernel_rfl) (e:=add64Entry) (by kernel_rfl),run_add64 x y c hx.1 hy.1 hc.1 hc.2];rfl
theorem sub64w {x y c:Int}(hx:Wd x)(hy:Wd y)(hc:0≤c∧c≤1): ∃s k:Int,Wd s∧(0≤k∧k≤1)∧ ∀w:World,(callFunc 227 #[.int .u64 x,.int .u64 y,.int .u64 c]).run Tryz.prog w=.ok (.value (.tuple #[.int .u64 s,.int .u64 k])) w:=by
 unfold Wd at hx hy;obtain⟨x,rfl⟩:=Int.eq_ofNat_of_zero_le hx.1;obtain⟨y,rfl⟩:=Int.eq_ofNat_of_zero_le hy.1;obtain⟨c,rfl⟩:=Int.eq_ofNat_of_zero_le hc.1;refine⟨(((x+18446744073709551616-y-c)%18446744073709551616:Nat):Int),((if x<y+c then 1 else 0:Nat):Int),by unfold Wd;omega,by split<;>omega,fun w=>?_⟩;rw [run_callFunc_extern Tryz.func227 (by kernel_rfl) (by kernel_rfl) (by kernel_rfl) (e:=sub64Entry) (by kernel_rfl),run_sub64 x y c (by omega)];rfl
theorem mul64w(x y:Int)(w:World):Calls Tryz.prog 205 #[.int .u64 x,.int .u64 y] w fun e w'=> ∃hi lo:Int,Wd hi∧Wd lo∧e=.returned (.tuple #[.int .u64 hi,.int .u64 lo])∧w=w':=by
 go_enter Tryz.func205,Tryz.ntmps205;go_wp2_with fail
 go_ret2
 exact⟨_,_,wd_wrap _,wd_wrap _,rfl,rfl⟩
theorem minus_any(a b:Nat→Int)(ha: ∀i,Wd (a i))(hb: ∀i,Wd (b i))(w:World):Calls Tryz.prog 220 #[.agg #[.int .u64 (a 0),.int .u64 (a 1),.int .u64 (a 2),.int .u64 (a 3)],.agg #[.int .u64 (b 0),.int .u64 (b 1),.int .u64 (b 2),.int .u64 (b 3)]] w fun e w'=> ∃(d:Nat→Int) (u:Int),(∀i,Wd (d i))∧e=.returned (.tuple #[.agg #[.int .u64 (d 0),.int .u64 (d 1),.int .u64 (d 2),.int .u64 (d 3)],.int .u64 u])∧Below w.heap.size w w':=by
 have HA:=Lib.hid ha;have HB':=Lib.hid hb;clear ha hb;go_enter Tryz.func220,Tryz.ntmps220;go_upto_region 1 with(fail);have hbA:Below w.heap.size w (((w.alloc (.cells #[.int .u64 (a 0),.int .u64 (a 1),.int .u64 (a 2),.int .u64 (a 3)] 147)).alloc (.cells #[.int .u64 (b 0),.int .u64 (b 1),.int .u64 (b 2),.int .u64 (b 3)] 147)).alloc (.cells #[.int .u64 0,.int .u64 0,.int .u64 0,.int .u64 0] 147)):=(((Below.refl _ _).alloc (Nat.le_refl _) _).alloc (by simp) _).alloc (by simp;omega) _;have hc1:(((w.alloc (.cells #[.int .u64 (a 0),.int .u64 (a 1),.int .u64 (a 2),.int .u64 (a 3)] 147)).alloc (.cells #[.int .u64 (b 0),.int .u64 (b 1),.int .u64 (b 2),.int .u64 (b 3)] 147)).alloc (.cells #[.int .u64 0,.int .u64 0,.int .u64 0,.int .u64 0] 147)).heap[w.heap.size]?=some (.cells #[.int .u64 (a 0),.int .u64 (a 1),.int .u64 (a 2),.int .u64 (a 3)] 147 (0,0)):=heap_lt (heap_lt (heap_at rfl));have hc2:(((w.alloc (.cells #[.int .u64 (a 0),.int .u64 (a 1),.int .u64 (a 2),.int .u64 (a 3)] 147)).alloc (.cells #[.int .u64 (b 0),.int .u64 (b 1),.int .u64 (b 2),.int .u64 (b 3)] 147)).alloc (.cells #[.int .u64 0,.int .u64 0,.int .u64 0,.int .u64 0] 147)).heap[w.heap.size+1]?=some (.cells #[.int .u64 (b 0),.int .u64 (b 1),.int .u64 (b 2),.int .u64 (b 3)] 147 (0,0)):=heap_lt (heap_at (by simp));have hc3:(((w.alloc (.cells #[.int .u64 (a 0),.int .u64 (a 1),.int .u64 (a 2),.int .u64 (a 3)] 147)).alloc (.cells #[.int .u64 (b 0),.int .u64 (b 1),.int .u64 (b 2),.int .u64 (b 3)] 147)).alloc (.cells #[.int .u64 0,.int .u64 0,.int .u64 0,.int .u64 0] 147)).heap[w.heap.size+1+1]?=some (.cells #[.int .u64 ((fun _=>0:Nat→Int) 0),.int .u64 ((fun _=>0:Nat→Int) 1),.int .u64 ((fun _=>0:Nat→Int) 2),.int .u64 ((fun _=>0:Nat→Int) 3)] 147 (0,0)):=heap_at (by simp);generalize hB:w.heap.size=B at*;refine wp_abs (fun w1=>Below B w w1∧w1.heap[B]?=some (.cells #[.int .u64 (a 0),.int .u64 (a 1),.int .u64 (a 2),.int .u64 (a 3)] 147 (0,0))∧w1.heap[B+1]?=some (.cells #[.int .u64 (b 0),.int .u64 (b 1),.int .u64 (b 2),.int .u64 (b 3)] 147 (0,0))∧w1.heap[B+1+1]?=some (.cells #[.int .u64 ((fun _=>0:Nat→Int) 0),.int .u64 ((fun _=>0:Nat→Int) 1),.int .u64 ((fun _=>0:Nat→Int) 2),.int .u64 ((fun _=>0:Nat→Int) 3)] 147 (0,0))) ⟨hbA,hc1,hc2,hc3⟩ (fun w1 hw1=>?_);have HB:=Lib.hid hB;have H1:=Lib.hid hw1;clear hB hw1 hbA hc1 hc2 hc3;go_wp2_with fail;go_loopw [7,5] (fun v u wr=> ∃(i:Nat) (x:Int) (d:Nat→Int),v=.int .i64 i∧u=.int .u64 x∧(0≤x∧x≤1)∧i≤4∧(∀i,Wd (d i))∧Below B w wr∧wr.heap[B]?=some (.cells #[.int .u64 (a 0),.int .u64 (a 1),.int .u64 (a 2),.int .u64 (a 3)] 147 (0,0))∧wr.heap[B+1]?=some (.cells #[.int .u64 (b 0),.int .u64 (b 1),.int .u64 (b 2),.int .u64 (b 3)] 147 (0,0))∧wr.heap[B+1+1]?=some (.cells #[.int .u64 (d 0),.int .u64 (d 1),.int .u64 (d 2),.int .u64 (d 3)] 147 (0,0))) (fun v _ _=>4-(intOf v).toNat);case atStart=>exact⟨0,0,fun _=>0,rfl,rfl,by omega,by omega,fun _=>wd_zero,H1.out⟩
 case round=>
 clear H1;obtain⟨i,x,d,rfl,rfl,hx,hi,hd,hb,h1,h2,h3⟩:=hrel;have HX:=Lib.hid hx;have HDD:=Lib.hid hd;have BR:=Lib.hid hb;have A1:=Lib.hid h1;have A2:=Lib.hid h2;have A3:=Lib.hid h3;clear hx hd hb h1 h2 h3;have hlt:B+1+1<wr.heap.size:=lt_of_heap A3.out;by_cases hi4:i<4;case neg=>
  obtain rfl:i=4:=by omega
  go_upto_region 6 with(fail);go_wp2_with (first
   |go_big_skip
   |((with_reducible refine at_load 147 ?_);refine wpList_load_g ?_ 147 (.tmp 4) ?_ (B+1+1) _ _ _ _ ?_ A3.out Tryz.underlying147 ?_ size_limbs ?_;rfl;rfl;rfl;rfl)
   |(refine wpList_store_whole rfl rfl 147 _ _ rfl (B+1+1) #[.int .u64 (d 0),.int .u64 (d 1),.int .u64 (d 2),.int .u64 (d 3)] #[.int .u64 (d 0),.int .u64 (d 1),.int .u64 (d 2),.int .u64 (d 3)] 147 rfl rfl A3.out rfl size_limbs (words4 d) ?_;intro w3 ho hp))
  refine bodyPost_ret (results_cell_tmp rfl _ w3 (B+1+1) _ _ _ _ _ rfl rfl hp Tryz.underlying147 rfl size_limbs) rfl ?_;exact⟨d,x,HDD.out,rfl,by rw [HB.out];exact bel_only BR.out ho (by omega)⟩
 have dk:decide ((i:Int)<4)=true:=decide_eq_true (by omega);have dk2:decide (i<4)=true:=decide_eq_true hi4;have hii:(i:Int)<4:=by omega
 obtain⟨s,k,hs,hk,RUN⟩:=sub64w (HA.out i) (HB'.out i) HX.out;have HS:=Lib.hid hs;have HK:=Lib.hid hk;clear hs hk;obtain⟨M,hM⟩: ∃M,M=wr.heap.size:=⟨_,rfl⟩;have HM:=Lib.hid hM;have hBM:B+1+1<M:=by omega
 have k1: ∀z:GrT (B+1+1) M wr,z.w.cell? ⟨B,i,none⟩=some (.int .u64 (a i)):=fun z=>(z.cell B i (by omega) (by omega)).trans ((cell_of_row _ B i _ _ _ A1.out).trans (l4_get a hi4));have k2: ∀z:GrT (B+1+1) M wr,z.w.cell? ⟨B+1,i,none⟩=some (.int .u64 (b i)):=fun z=>(z.cell (B+1) i (by omega) (by omega)).trans ((cell_of_row _ (B+1) i _ _ _ A2.out).trans (l4_get b hi4));clear hM;go_upto_region 4 with(fail);refine Seg.wp_region_segs (fun w'=> ∃z:GrT (B+1+1) M wr,w'=z.w) [([0,1,2,3,4,5,6,7],8),([9,10,11,12],13)] [] 14 (by kernel_rfl) (by kernel_rfl) (fun _ _ d _ _ h=>by cases d<;>exact h) (grT_of HM.out (grown_only (Only.refl _ wr).drew)) ?_;simp only [List.map_cons,List.map_nil,Seg.opAt,List.drop_succ_cons,List.drop_zero,Seg.wpSegs,Array.getD_eq_getD_getElem?,List.getElem?_toArray,List.getElem?_cons_succ,List.getElem?_cons_zero,Option.getD_some];repeat (any_goals (first|go_big_quiet_step (fail)|quiet_step (fail)))
 refine wpQuiet_nil ?_;intro K hK;simp only [Region.wanted,if_true];go_wp2_with fail;refine hK _ _ (grT_of HM.out (grown_only (Only.refl _ wr).drew)) ?_;clear hK K RUN k1 k2;have nm:wr.drew.cell? ⟨B+1+1,i,none⟩=some (.int .u64 (d i)):=(cell_of_row _ (B+1+1) i _ _ _ A3.out).trans (l4_get d hi4);have zm:wr.drew.frozen? ⟨B+1+1,i,none⟩=false:=frozen_of_row wr.drew _ i _ _ A3.out;repeat (any_goals (first|go_big_quiet_step (fail)|quiet_step (fail)))
 refine wpQuiet_nil ?_;intro K hK;simp only [Region.wanted,if_true];go_wp2_with fail;refine hK _ _ (grT_of HM.out (grown_only ((Only.refl (B+1+1) wr).drew.setCell i (.int .u64 s)))) ?_;clear hK K nm zm;have A5:=Lib.hid (l4_set (w:=wr.drew) hi4 s A3.out);have o5:Only (B+1+1) wr (wr.drew.setCell ⟨B+1+1,i,none⟩ (.int .u64 s)):=(Only.refl (B+1+1) wr).drew.setCell i (.int .u64 s);have B5:=Lib.hid (bel_only BR.out o5 (by omega));have A6:=Lib.hid ((o5.block B (by omega)).trans A1.out);have A7:=Lib.hid ((o5.block (B+1) (by omega)).trans A2.out);clear o5;repeat (any_goals (first|go_big_quiet_step (fail)|quiet_step (fail)))
 refine wpQuiet_nil ?_;go_wp2_with fail;go_roundw;case rel=>exact⟨i+1,k,up4 d i s,by go_num,rfl,HK.out,by omega,wd_up HDD.out HS.out i,B5.out,A6.out,A7.out,A5.out⟩
 case measure=>simp [intOf];omega
end Go.Proofs.YtnohcdpnnhmpfaaGreatDoor.TR
