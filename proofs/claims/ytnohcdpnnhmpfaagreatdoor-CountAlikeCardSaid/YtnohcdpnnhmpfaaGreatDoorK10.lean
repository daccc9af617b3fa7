/-
  fold.turn, corners, quarter, back: what each computes, for any words, in whatever world.
  fold.Stir: eighty quarters, for any words.
  fold.start, fold.Press: for any words.
  What is being folded, in memory: one block, eight words, a count, 64 bytes, how many are held. Its parts read and written.
-/
import Derived.Test.YtnohcdpnnhmpfaaGreatDoorProg
import Derived.Test.YtnohcdpnnhmpfaaGreatDoorK01
import Derived.WalkKit
import Derived.BigQuiet
import Derived.Outline
import Derived.Lib.Hide
import Derived.Deep.Cut
import Derived.Deep.DeepCutAuto
import Derived.Test.YtnohcdpnnhmpfaaGreatDoorK08
import Derived.Lib.UnsafeStr
import Derived.Lib.BufferWrite
import Derived.Lib.SliceRun
set_option linter.unusedVariables false
set_option linter.unusedSimpArgs false
set_option maxRecDepth 100000
set_option maxHeartbeats 4000000
namespace Go.Proofs.YtnohcdpnnhmpfaaGreatDoor
open Go.RowKit ML FM
theorem turn_any(x:U)(n:Nat)(w:World)(h0:0<n)(h1:n<32):
 Calls Tryz.prog 231 #[.int .u32 (un x),.int .i64 (n:Int)] w fun e w'=>e=.returned (.int .u32 (un (x.rotateRight n)))∧ ∃m,w'=w.drewN m:=by
 have hr:=r_rot x n h1;have hx0:=un_nonneg x;have hx1:=un_lt x;have e1:(32-(n:Int)).toNat=32-n:=by omega
 go_enter Tryz.func231,Tryz.ntmps231;go_wp2
 go_quiet (fail)
 go_wp2;go_ret;exact⟨rfl,_,rfl⟩
theorem corners_any(b i:Nat)(w:World)(h1:i<8):
 Calls Tryz.prog 230 #[.pointer (some ⟨b,0,none⟩),.int .i64 (i:Int)] w fun e w'=>e=.returned (.tuple #[.pointer (some ⟨b,ca i,none⟩),.pointer (some ⟨b,cb i,none⟩),.pointer (some ⟨b,cc i,none⟩),.pointer (some ⟨b,cd i,none⟩)])∧ ∃m,w'=w.drewN m:=by
 unfold ca cb cc cd;go_enter Tryz.func230,Tryz.ntmps230;go_wp2
 go_quiet (fail)
 go_wp2;refine bodyPost_ret (v:=.tuple #[.pointer (some ⟨b,i%4,none⟩),.pointer (some ⟨b,4+(i+i/4)%4,none⟩),.pointer (some ⟨b,8+(i+2* (i/4))%4,none⟩),.pointer (some ⟨b,12+(i+3* (i/4))%4,none⟩)]) (by simp [results,Tryz.results230,go_sem]) rfl ⟨rfl,_,rfl⟩
theorem place_any(r i:Nat)(w:World)(hr:r<10)(hi:i<16):
 Calls Tryz.prog 223 #[.int .i64 (r:Int),.int .i64 (i:Int)] w fun e w'=>e=.returned (.int .i64 (placeN r i:Int))∧w'=w:=by
 go_enter Tryz.func223,Tryz.ntmps223;go_wp2
 ·go_ret;exact⟨congrArg (fun n=>Ending.returned (Value.int .i64 n)) (place_tab1 (16*r+i) (by rw [ordS_size];omega) (by assumption)),rfl⟩
 ·go_ret;exact⟨congrArg (fun n=>Ending.returned (Value.int .i64 n)) (place_tab2 (16*r+i) (by rw [ordS_size];omega) (by assumption)),rfl⟩
theorem quarter_core(b i:Nat)(w:World)(T:TypeId)(oa ob oc od:Nat)(V:List U)(x y:U)(D:Dist oa ob oc od)(hlen:V.length=16)
 (hblk:w.heap[b]?=some (.cells (vals V) T (0,0)))
 (hcor: ∀w,Calls Tryz.prog 230 #[.pointer (some ⟨b,0,none⟩),.int .i64 (i:Int)] w fun e w'=>e=.returned (.tuple #[.pointer (some ⟨b,oa,none⟩),.pointer (some ⟨b,ob,none⟩),.pointer (some ⟨b,oc,none⟩),.pointer (some ⟨b,od,none⟩)])∧ ∃m,w'=w.drewN m):
  Calls Tryz.prog 222 #[.pointer (some ⟨b,0,none⟩),.int .i64 (i:Int),.int .u32 (un x),.int .u32 (un y)] w fun e w'=>e=.returned (.tuple #[])∧Only b w w'∧w'.heap[b]?=some (.cells (vals (quarterL V oa ob oc od x y)) T (0,0)):=by
 obtain⟨va0,Hva0⟩: ∃v,Hid (V.getD oa 0=v):=⟨_,Lib.hid rfl⟩;obtain⟨vb0,Hvb0⟩: ∃v,Hid (V.getD ob 0=v):=⟨_,Lib.hid rfl⟩;obtain⟨vc0,Hvc0⟩: ∃v,Hid (V.getD oc 0=v):=⟨_,Lib.hid rfl⟩;obtain⟨vd0,Hvd0⟩: ∃v,Hid (V.getD od 0=v):=⟨_,Lib.hid rfl⟩;have SX:Four b T oa ob oc od w w V va0 vb0 vc0 vd0:=⟨Only.refl _ _,hblk,hlen,Hva0.out,Hvb0.out,Hvc0.out,Hvd0.out⟩;clear hblk hlen;have R2:=w_add;have RX:=r_xor;have RS2:=w_sub;have Hcor:=Lib.hid hcor;clear hcor;go_enter Tryz.func222,Tryz.ntmps222;go_wp2_with (go_at_call 230;refine(Hcor.out _).mono ?_;rintro e w' ⟨rfl,m,rfl⟩);refine wp_abs (fun w1=>Four b T oa ob oc od w w1 V va0 vb0 vc0 vd0) ⟨SX.only.drewN _,SX.blk,SX.len,SX.ga,SX.gb,SX.gc,SX.gd⟩ (fun w0 S0=>?_);clear SX;obtain⟨ha,hb,hc,hd,fa,fb,fc,fd⟩:=S0.cells D;refine Seg.wp_region_segs (fun w'=> ∃n,w'=w0.drewN n) [] [0,1,2,3,4,5,6,7] 8 (by kernel_rfl) (by kernel_rfl) (fun _ _ d _ _ h=>by cases d<;>exact h) (⟨1,rfl⟩) ?_;simp only [List.map_cons,List.map_nil,Seg.opAt,List.drop_succ_cons,List.drop_zero,Seg.wpSegs,Array.getD_eq_getD_getElem?,List.getElem?_toArray,List.getElem?_cons_succ,List.getElem?_cons_zero,Option.getD_some];repeat (any_goals (first|go_big_quiet_step (fail)|quiet_step (fail)))
 refine wpQuiet_nil ?_;go_wp2_with fail;refine wp_abs (fun w1=>Four b T oa ob oc od w w1 (V.set oa (va0+(vb0+x))) (va0+(vb0+x)) vb0 vc0 vd0) (S0.seta D _ _) (fun w1 S1=>?_);clear ha hb hc hd fa fb fc fd S0;generalize hva1:va0+(vb0+x)=va1 at*;have Hva1:=Lib.hid hva1;clear hva1;obtain⟨ha,hb,hc,hd,fa,fb,fc,fd⟩:=S1.cells D;refine Seg.wp_region_segs (fun w'=> ∃n,w'=w1.drewN n) [([0,1,2,3,4,5,6,7],8)] [] 9 (by kernel_rfl) (by kernel_rfl) (fun _ _ d _ _ h=>by cases d<;>exact h) (⟨1,rfl⟩) ?_;simp only [List.map_cons,List.map_nil,Seg.opAt,List.drop_succ_cons,List.drop_zero,Seg.wpSegs,Array.getD_eq_getD_getElem?,List.getElem?_toArray,List.getElem?_cons_succ,List.getElem?_cons_zero,Option.getD_some];repeat (any_goals (first|go_big_quiet_step (fail)|quiet_step (fail)))
 refine wpQuiet_nil ?_;intro K hK;simp only [Region.wanted,if_true];go_wp2_with (go_at_call 231;refine(turn_any _ 16 _ (by decide) (by decide)).mono ?_;rintro e w' ⟨rfl,m,rfl⟩);refine hK _ _ ⟨_,rfl⟩ ?_;clear hK K;repeat (any_goals (first|go_big_quiet_step (fail)|quiet_step (fail)))
 refine wpQuiet_nil ?_;go_wp2_with fail;refine wp_abs (fun w1=>Four b T oa ob oc od w w1 ((V.set oa va1).set od ((vd0 ^^^ va1).rotateRight 16)) va1 vb0 vc0 ((vd0 ^^^ va1).rotateRight 16)) (S1.setd D _ _) (fun w2 S2=>?_);clear ha hb hc hd fa fb fc fd S1;generalize hvd1:(vd0 ^^^ va1).rotateRight 16=vd1 at*;have Hvd1:=Lib.hid hvd1;clear hvd1;obtain⟨ha,hb,hc,hd,fa,fb,fc,fd⟩:=S2.cells D;refine Seg.wp_region_segs (fun w'=> ∃n,w'=w2.drewN n) [] [0,1,2,3,4,5] 6 (by kernel_rfl) (by kernel_rfl) (fun _ _ d _ _ h=>by cases d<;>exact h) (⟨1,rfl⟩) ?_;simp only [List.map_cons,List.map_nil,Seg.opAt,List.drop_succ_cons,List.drop_zero,Seg.wpSegs,Array.getD_eq_getD_getElem?,List.getElem?_toArray,List.getElem?_cons_succ,List.getElem?_cons_zero,Option.getD_some];repeat (any_goals (first|go_big_quiet_step (fail)|quiet_step (fail)))
 refine wpQuiet_nil ?_;go_wp2_with fail;refine wp_abs (fun w1=>Four b T oa ob oc od w w1 (((V.set oa va1).set od vd1).set oc (vc0+vd1)) va1 vb0 (vc0+vd1) vd1) (S2.setc D _ _) (fun w3 S3=>?_);clear ha hb hc hd fa fb fc fd S2;generalize hvc1:vc0+vd1=vc1 at*;have Hvc1:=Lib.hid hvc1;clear hvc1;obtain⟨ha,hb,hc,hd,fa,fb,fc,fd⟩:=S3.cells D;refine Seg.wp_region_segs (fun w'=> ∃n,w'=w3.drewN n) [([0,1,2,3,4,5,6,7],8)] [] 9 (by kernel_rfl) (by kernel_rfl) (fun _ _ d _ _ h=>by cases d<;>exact h) (⟨1,rfl⟩) ?_;simp only [List.map_cons,List.map_nil,Seg.opAt,List.drop_succ_cons,List.drop_zero,Seg.wpSegs,Array.getD_eq_getD_getElem?,List.getElem?_toArray,List.getElem?_cons_succ,List.getElem?_cons_zero,Option.getD_some];repeat (any_goals (first|go_big_quiet_step (fail)|quiet_step (fail)))
 refine wpQuiet_nil ?_;intro K hK;simp only [Region.wanted,if_true];go_wp2_with (go_at_call 231;refine(turn_any _ 12 _ (by decide) (by decide)).mono ?_;rintro e w' ⟨rfl,m,rfl⟩);refine hK _ _ ⟨_,rfl⟩ ?_;clear hK K;repeat (any_goals (first|go_big_quiet_step (fail)|quiet_step (fail)))
 refine wpQuiet_nil ?_;go_wp2_with fail;refine wp_abs (fun w1=>Four b T oa ob oc od w w1 ((((V.set oa va1).set od vd1).set oc vc1).set ob ((vb0 ^^^ vc1).rotateRight 12)) va1 ((vb0 ^^^ vc1).rotateRight 12) vc1 vd1) (S3.setb D _ _) (fun w4 S4=>?_);clear ha hb hc hd fa fb fc fd S3;generalize hvb1:(vb0 ^^^ vc1).rotateRight 12=vb1 at*;have Hvb1:=Lib.hid hvb1;clear hvb1;obtain⟨ha,hb,hc,hd,fa,fb,fc,fd⟩:=S4.cells D;refine Seg.wp_region_segs (fun w'=> ∃n,w'=w4.drewN n) [] [0,1,2,3,4,5,6,7] 8 (by kernel_rfl) (by kernel_rfl) (fun _ _ d _ _ h=>by cases d<;>exact h) (⟨1,rfl⟩) ?_;simp only [List.map_cons,List.map_nil,Seg.opAt,List.drop_succ_cons,List.drop_zero,Seg.wpSegs,Array.getD_eq_getD_getElem?,List.getElem?_toArray,List.getElem?_cons_succ,List.getElem?_cons_zero,Option.getD_some];repeat (any_goals (first|go_big_quiet_step (fail)|quiet_step (fail)))
 refine wpQuiet_nil ?_;go_wp2_with fail;refine wp_abs (fun w1=>Four b T oa ob oc od w w1 (((((V.set oa va1).set od vd1).set oc vc1).set ob vb1).set oa (va1+(vb1+y))) (va1+(vb1+y)) vb1 vc1 vd1) (S4.seta D _ _) (fun w5 S5=>?_);clear ha hb hc hd fa fb fc fd S4;generalize hva2:va1+(vb1+y)=va2 at*;have Hva2:=Lib.hid hva2;clear hva2;obtain⟨ha,hb,hc,hd,fa,fb,fc,fd⟩:=S5.cells D;refine Seg.wp_region_segs (fun w'=> ∃n,w'=w5.drewN n) [([0,1,2,3,4,5,6,7],8)] [] 9 (by kernel_rfl) (by kernel_rfl) (fun _ _ d _ _ h=>by cases d<;>exact h) (⟨1,rfl⟩) ?_;simp only [List.map_cons,List.map_nil,Seg.opAt,List.drop_succ_cons,List.drop_zero,Seg.wpSegs,Array.getD_eq_getD_getElem?,List.getElem?_toArray,List.getElem?_cons_succ,List.getElem?_cons_zero,Option.getD_some];repeat (any_goals (first|go_big_quiet_step (fail)|quiet_step (fail)))
 refine wpQuiet_nil ?_;intro K hK;simp only [Region.wanted,if_true];go_wp2_with (go_at_call 231;refine(turn_any _ 8 _ (by decide) (by decide)).mono ?_;rintro e w' ⟨rfl,m,rfl⟩);refine hK _ _ ⟨_,rfl⟩ ?_;clear hK K;repeat (any_goals (first|go_big_quiet_step (fail)|quiet_step (fail)))
 refine wpQuiet_nil ?_;go_wp2_with fail;refine wp_abs (fun w1=>Four b T oa ob oc od w w1 ((((((V.set oa va1).set od vd1).set oc vc1).set ob vb1).set oa va2).set od ((vd1 ^^^ va2).rotateRight 8)) va2 vb1 vc1 ((vd1 ^^^ va2).rotateRight 8)) (S5.setd D _ _) (fun w6 S6=>?_);clear ha hb hc hd fa fb fc fd S5;generalize hvd2:(vd1 ^^^ va2).rotateRight 8=vd2 at*;have Hvd2:=Lib.hid hvd2;clear hvd2;obtain⟨ha,hb,hc,hd,fa,fb,fc,fd⟩:=S6.cells D;refine Seg.wp_region_segs (fun w'=> ∃n,w'=w6.drewN n) [] [0,1,2,3,4,5] 6 (by kernel_rfl) (by kernel_rfl) (fun _ _ d _ _ h=>by cases d<;>exact h) (⟨1,rfl⟩) ?_;simp only [List.map_cons,List.map_nil,Seg.opAt,List.drop_succ_cons,List.drop_zero,Seg.wpSegs,Array.getD_eq_getD_getElem?,List.getElem?_toArray,List.getElem?_cons_succ,List.getElem?_cons_zero,Option.getD_some];repeat (any_goals (first|go_big_quiet_step (fail)|quiet_step (fail)))
 refine wpQuiet_nil ?_;go_wp2_with fail;refine wp_abs (fun w1=>Four b T oa ob oc od w w1 (((((((V.set oa va1).set od vd1).set oc vc1).set ob vb1).set oa va2).set od vd2).set oc (vc1+vd2)) va2 vb1 (vc1+vd2) vd2) (S6.setc D _ _) (fun w7 S7=>?_);clear ha hb hc hd fa fb fc fd S6;generalize hvc2:vc1+vd2=vc2 at*;have Hvc2:=Lib.hid hvc2;clear hvc2;obtain⟨ha,hb,hc,hd,fa,fb,fc,fd⟩:=S7.cells D;refine Seg.wp_region_segs (fun w'=> ∃n,w'=w7.drewN n) [([0,1,2,3,4,5,6,7],8)] [] 9 (by kernel_rfl) (by kernel_rfl) (fun _ _ d _ _ h=>by cases d<;>exact h) (⟨1,rfl⟩) ?_;simp only [List.map_cons,List.map_nil,Seg.opAt,List.drop_succ_cons,List.drop_zero,Seg.wpSegs,Array.getD_eq_getD_getElem?,List.getElem?_toArray,List.getElem?_cons_succ,List.getElem?_cons_zero,Option.getD_some];repeat (any_goals (first|go_big_quiet_step (fail)|quiet_step (fail)))
 refine wpQuiet_nil ?_;intro K hK;simp only [Region.wanted,if_true];go_wp2_with (go_at_call 231;refine(turn_any _ 7 _ (by decide) (by decide)).mono ?_;rintro e w' ⟨rfl,m,rfl⟩);refine hK _ _ ⟨_,rfl⟩ ?_;clear hK K;repeat (any_goals (first|go_big_quiet_step (fail)|quiet_step (fail)))
 refine wpQuiet_nil ?_;go_wp2_with fail;refine post_abs (fun w1=>Four b T oa ob oc od w w1 ((((((((V.set oa va1).set od vd1).set oc vc1).set ob vb1).set oa va2).set od vd2).set oc vc2).set ob ((vb1 ^^^ vc2).rotateRight 7)) va2 ((vb1 ^^^ vc2).rotateRight 7) vc2 vd2) (S7.setb D _ _) (fun w8 S8=>?_);clear ha hb hc hd fa fb fc fd S7
 go_end0
 refine⟨rfl,S8.only,?_⟩;have hfin:=S8.blk;have e0:=Hvd2.out;subst e0;have e1:=Hvd1.out;subst e1;have e2:=Hvc2.out;subst e2;have e3:=Hvc1.out;subst e3;have e4:=Hvb1.out;subst e4;have e5:=Hva2.out;subst e5;have e6:=Hva1.out;subst e6;have f0:=Hva0.out;subst f0;have f1:=Hvb0.out;subst f1;have f2:=Hvc0.out;subst f2;have f3:=Hvd0.out;subst f3;exact hfin
theorem quarter_any(b i:Nat)(w:World)(T:TypeId)(V:List U)(x y:U)(hi:i<8)(hlen:V.length=16)(hblk:w.heap[b]?=some (.cells (vals V) T (0,0))):
 Calls Tryz.prog 222 #[.pointer (some ⟨b,0,none⟩),.int .i64 (i:Int),.int .u32 (un x),.int .u32 (un y)] w fun e w'=>e=.returned (.tuple #[])∧Only b w w'∧w'.heap[b]?=some (.cells (vals (quarterL V (ca i) (cb i) (cc i) (cd i) x y)) T (0,0)):=
 quarter_core b i w T _ _ _ _ V x y (dist i) hlen hblk (fun w=>corners_any b i w hi)
theorem size_words:(Tryz.prog.info? 235).map (·.size)=some 16:=by kernel_rfl
theorem size_pool:(Tryz.prog.info? 266).map (·.size)=some 16:=by kernel_rfl
theorem place_of(r i:Nat)(ri ii:Int)(w:World)(h1:ri=r)(h2:ii=i)(hr:r<10)(hi:i<16):
 Calls Tryz.prog 223 #[.int .i64 ri,.int .i64 ii] w fun e w'=>e=.returned (.int .i64 (placeN r i:Int))∧w'=w:=by
 subst h1;subst h2;exact place_any r i w hr hi
structure StirSt(B:Nat)(w:World)(M Z:List U)(wr:World):Prop where
 below:Below B w wr
 m:wr.heap[B+1]?=some (.cells (vals M) 235 (0,0))
 r:wr.heap[B+2]?=some (.cells (vals (List.replicate 16 0)) 235 (0,0))
 p:wr.heap[B+3]?=some (.cells (vals Z) 266 (0,0))
theorem StirSt.drewN {B:Nat}{w:World}{M Z:List U}{wr:World}(h:StirSt B w M Z wr)(n:Nat):StirSt B w M Z (wr.drewN n):=⟨bel_drewN h.below n,h.m,h.r,h.p⟩
theorem StirSt.turned {B:Nat}{w:World}{M Z Z':List U}{wr w1:World}(h:StirSt B w M Z wr)(ho:Only (B+3) wr w1)
 (hp:w1.heap[B+3]?=some (.cells (vals Z') 266 (0,0))):StirSt B w M Z' w1:=
 ⟨bel_only h.below ho (by omega),(ho.block _ (by omega)).trans h.m,(ho.block _ (by omega)).trans h.r,hp⟩
theorem stir_any(V M:List U)(w:World)(hV:V.length=16)(hM:M.length=16):
 Calls Tryz.prog 212 #[.agg (vals V),.agg (vals M)] w fun e w'=>e=.returned (.agg (vals (stirK V M 80)))∧Below w.heap.size w w':=by
 have HV:=Lib.hid hV;have HM:=Lib.hid hM;clear hV hM;go_enter Tryz.func212,Tryz.ntmps212;go_upto_region 1 with(fail)
 refine wp_abs (fun w1=>Below w.heap.size w w1∧w1.heap.size=w.heap.size+3∧w1.heap[w.heap.size]?=some (.cells (vals V) 235 (0,0))∧
  w1.heap[w.heap.size+1]?=some (.cells (vals M) 235 (0,0))∧w1.heap[w.heap.size+2]?=some (.cells (vals (List.replicate 16 0)) 235 (0,0))) ?_ (fun w1 hw1=>?_)
 ·refine⟨(((Below.refl _ _).alloc (Nat.le_refl _) _).alloc (by simp) _).alloc (by simp;omega) _,by simp,?_,?_,?_⟩;·exact heap_lt (heap_lt (heap_at rfl))
  ·exact heap_lt (heap_at (by simp))
  ·exact heap_at (by simp)
 obtain⟨hbel,hsz,h0,h1,h2⟩:=hw1;generalize hB:w.heap.size=B at*;have HB:=Lib.hid hB;clear hB;apply wp_region_lit;refine wpList_load_whole rfl 235 _ rfl B _ _ _ _ rfl h0 Tryz.underlying235 rfl (by rw [size_vals,HV.out];exact size_words) ?_;have hsp:=Lib.hid (show(Tryz.prog.info? 266).map (·.size)=some (vals V).size by rw [size_vals,HV.out];exact size_pool);go_upto_region 2 with(refine wpList_store_whole rfl rfl 266 _ _ rfl (B+3) (vals (List.replicate 16 0)) (vals V) 266 rfl rfl ?hb ?hs hsp.out (oneCell_vals V) ?_);case hb=>exact heap_at hsz
 case hs=>rw [size_vals,size_vals,HV.out];rfl
 intro w2 ho hp;have S0:StirSt B w M V w2:=⟨bel_only (hbel.alloc (by omega) _) ho (by omega),ho.keep (by omega) (heap_lt h1),ho.keep (by omega) (heap_lt h2),hp⟩;clear ho hp hbel hsz h0 h1 h2 hsp;go_wp2_with fail;go_loopw [9] (fun r wr=> ∃k:Nat,k≤10∧r=.int .i64 k∧StirSt B w M (stirK V M (8*k)) wr) (fun r _=>10-(intOf r).toNat);case atStart=>exact⟨0,by omega,rfl,S0⟩
 case round=>
  obtain⟨k,hk,rfl,S⟩:=hrel;clear S0;by_cases hlt:k<10
  ·have hd10:decide ((k:Int)<10)=true:=by simp;omega
   go_wp2_with fail;obtain⟨wo,rfl⟩: ∃wo:World,wo=wr:=⟨_,rfl⟩;go_loopw [12] (fun i wi=> ∃j:Nat,j≤8∧i=.int .i64 j∧StirSt B w M (stirK V M (8*k+j)) wi) (fun i _=>8-(intOf i).toNat);case atStart=>exact⟨0,by omega,rfl,S⟩
   case round=>
    obtain⟨j,hj,rfl,Si⟩:=hrel;clear S;by_cases hjt:j<8
    ·have hd8:decide ((j:Int)<8)=true:=by simp;omega
     have p1:=placeN_lt k (2*j) hlt (by omega);have p2:=placeN_lt k (2*j+1) hlt (by omega);have c1:wr.cell? ⟨B+1,placeN k (2*j),none⟩=some (.int .u32 (un (M.getD (placeN k (2*j)) 0))):=cell_get Si.m _ (by rw [HM.out];exact p1);have c2:wr.cell? ⟨B+1,placeN k (2*j+1),none⟩=some (.int .u32 (un (M.getD (placeN k (2*j+1)) 0))):=cell_get Si.m _ (by rw [HM.out];exact p2);generalize hx1:M.getD (placeN k (2*j)) 0=x1 at*;generalize hx2:M.getD (placeN k (2*j+1)) 0=x2 at*;generalize hn1:placeN k (2*j)=n1 at*;generalize hn2:placeN k (2*j+1)=n2 at*;have Hx1:=Lib.hid hx1;have Hx2:=Lib.hid hx2;have Hn1:=Lib.hid hn1;have Hn2:=Lib.hid hn2;clear hx1 hx2 hn1 hn2;go_upto_region 8 with(fail);refine Seg.wp_region_segs (fun w'=> ∃n,w'=wr.drewN n) [([0,1,2,3,7,8,9,10],4),([5,6],11)] [12,13] 14 (by kernel_rfl) (by kernel_rfl) (fun _ _ d _ _ h=>by cases d<;>exact h) (⟨1,rfl⟩) ?_;simp only [List.map_cons,List.map_nil,Seg.opAt,List.drop_succ_cons,List.drop_zero,Seg.wpSegs,Array.getD_eq_getD_getElem?,List.getElem?_toArray,List.getElem?_cons_succ,List.getElem?_cons_zero,Option.getD_some];repeat (any_goals (first|go_big_quiet_step (fail)|quiet_step (fail)))
     refine wpQuiet_nil ?_;intro K hK;simp only [Region.wanted,if_true];go_wp2_with (go_at_call 223;refine(place_of k (2*j) _ _ _ (by omega) (by omega) hlt (by omega)).mono ?_;rw [Hn1.out];rintro e w' ⟨rfl,rfl⟩);refine hK _ _ ⟨_,rfl⟩ ?_;clear hK K;repeat (any_goals (first|go_big_quiet_step (fail)|quiet_step (fail)))
     refine wpQuiet_nil ?_;intro K hK;simp only [Region.wanted,if_true];go_wp2_with (go_at_call 223;refine(place_of k (2*j+1) _ _ _ (by omega) (by omega) hlt (by omega)).mono ?_;rw [Hn2.out];rintro e w' ⟨rfl,rfl⟩);refine hK _ _ ⟨_,rfl⟩ ?_;clear hK K;repeat (any_goals (first|go_big_quiet_step (fail)|quiet_step (fail)))
     refine wpQuiet_nil ?_;have QQ:=Lib.hid (quarter_any (B+3) j wr.drew 266 (stirK V M (8*k+j)) x1 x2 hjt (by rw [length_stirK,HV.out]) (by exact Si.p));go_wp2_with fail;refine QQ.out.mono ?_;clear QQ;rintro e w3 ⟨rfl,ho,hp⟩;have S':StirSt B w M (stirK V M (8*k+(j+1))) w3:=by
      rw [show 8*k+(j+1)=8*k+j+1 by omega,stirK_round V M k j hjt,Hn1.out,Hn2.out,Hx1.out,Hx2.out];exact(Si.drewN 1).turned ho hp
     clear ho hp c1 c2 Si;go_wp2_with fail;go_roundw;case rel=>exact⟨j+1,by omega,by go_num,S'⟩
     case measure=>simp [intOf];omega
    ·have hd8:decide ((j:Int)<8)=false:=by simp;omega
     go_wp2_with fail;go_roundw;case rel=>exact⟨k+1,by omega,by go_num,by rw [show 8* (k+1)=8*k+j by omega];exact Si⟩
     case measure=>simp [intOf];omega
  ·have hd10:decide ((k:Int)<10)=false:=by simp;omega
   obtain rfl:k=10:=by omega
   go_upto_region 11 with(fail);apply wp_region_lit;have hl80:(stirK V M 80).length=16:=by rw [length_stirK,HV.out]
   have hs1:=Lib.hid (show(Tryz.prog.info? 266).map (·.size)=some (vals (stirK V M 80)).size by rw [size_vals,hl80];exact size_pool);have hs2:=Lib.hid (show(Tryz.prog.info? 235).map (·.size)=some (vals (stirK V M 80)).size by rw [size_vals,hl80];exact size_words);clear hl80;refine wpList_load_whole rfl 266 _ rfl (B+3) (vals (stirK V M 80)) _ _ _ rfl S.p Tryz.underlying266 rfl hs1.out ?_;refine wpList_store_whole rfl rfl 235 _ _ rfl (B+2) (vals (List.replicate 16 0)) (vals (stirK V M 80)) 235 rfl rfl S.r ?_ hs2.out (oneCell_vals _) ?_;·rw [size_vals,size_vals,length_stirK,HV.out];rfl
   intro w3 ho hp;go_wp2_with fail;refine bodyPost_ret (results_cell_row rfl _ w3 (B+2) _ _ _ _ rfl hp Tryz.underlying235 rfl hs2.out) rfl ⟨rfl,?_⟩;rw [HB.out];exact bel_only S.below ho (by omega)
theorem size_eight:(Tryz.prog.info? 205).map (·.size)=some 8:=by kernel_rfl
theorem size_one:(Tryz.prog.info? 180).map (·.size)=some 1:=by kernel_rfl
theorem start_any(w:World):
 Calls Tryz.prog 190 #[] w fun e w'=>e=.returned (.agg (vals ivL))∧Below w.heap.size w w':=by
 have HF:=Lib.hid (show(Tryz.prog.info? 205).map (·.size)=some (vals ivL).size by kernel_rfl);go_enter Tryz.func190,Tryz.ntmps190;go_wp2_with (refine wpList_store_whole rfl rfl 205 _ _ rfl w.heap.size (vals (List.replicate 8 0)) (vals ivL) 205 rfl rfl (heap_at rfl) rfl HF.out (oneCell_vals _) ?_;intro w2 ho hp);refine bodyPost_ret (results_cell_row rfl _ w2 w.heap.size _ _ _ _ rfl hp Tryz.underlying205 rfl HF.out) rfl ⟨rfl,?_⟩;exact bel_only ((Below.refl _ _).alloc (Nat.le_refl _) _) ho (Nat.le_refl _)
structure PressSt(B:Nat)(w:World)(H M V:List U)(wr:World):Prop where
 below:Below B w wr
 h:wr.heap[B]?=some (.cells (vals H) 205 (0,0))
 m:wr.heap[B+1]?=some (.cells (vals M) 235 (0,0))
 r:wr.heap[B+2]?=some (.cells (vals (List.replicate 8 0)) 205 (0,0))
 v:wr.heap[B+3]?=some (.cells (vals V) 235 (0,0))
theorem PressSt.turnedV {B:Nat}{w:World}{H M V V':List U}{wr w1:World}(h:PressSt B w H M V wr)(ho:Only (B+3) wr w1)
 (hp:w1.heap[B+3]?=some (.cells (vals V') 235 (0,0))):PressSt B w H M V' w1:=
 ⟨bel_only h.below ho (by omega),ho.keep (by omega) h.h,ho.keep (by omega) h.m,ho.keep (by omega) h.r,hp⟩
theorem PressSt.turnedH {B:Nat}{w:World}{H M V H':List U}{wr w1:World}(h:PressSt B w H M V wr)(ho:Only B wr w1)
 (hp:w1.heap[B]?=some (.cells (vals H') 205 (0,0))):PressSt B w H' M V w1:=
 ⟨bel_only h.below ho (Nat.le_refl _),hp,ho.keep (by omega) h.m,ho.keep (by omega) h.r,ho.keep (by omega) h.v⟩
theorem PressSt.kept {B:Nat}{w:World}{H M V:List U}{wr w1:World}(h:PressSt B w H M V wr)(hb:Below (B+4) wr w1):PressSt B w H M V w1:=
 ⟨h.below.trans (hb.mono (by omega)),bel_keep hb (by omega) h.h,bel_keep hb (by omega) h.m,bel_keep hb (by omega) h.r,bel_keep hb (by omega) h.v⟩
theorem press_any(H M:List U)(n:Nat)(last:Bool)(w:World)(hH:H.length=8)(hM:M.length=16)(hn:n<18446744073709551616):
 Calls Tryz.prog 191 #[.agg (vals H),.agg (vals M),.int .u64 (n:Int),.bool last] w fun e w'=>e=.returned (.agg (vals (pressL H M n last)))∧Below w.heap.size w w':=by
 have HH:=Lib.hid hH;have HM:=Lib.hid hM;have HN:=Lib.hid hn;clear hH hM hn;go_enter Tryz.func191,Tryz.ntmps191;go_upto_region 2 with(fail)
 refine wp_abs (fun w1=>Below w.heap.size w w1∧w1.heap.size=w.heap.size+4∧w1.heap[w.heap.size]?=some (.cells (vals H) 205 (0,0))∧
  w1.heap[w.heap.size+1]?=some (.cells (vals M) 235 (0,0))∧w1.heap[w.heap.size+2]?=some (.cells (vals (List.replicate 8 0)) 205 (0,0))∧
  w1.heap[w.heap.size+3]?=some (.cells (vals (List.replicate 16 0)) 235 (0,0))) ?_ (fun w1 hw1=>?_)
 ·refine⟨((((Below.refl _ _).alloc (Nat.le_refl _) _).alloc (by simp) _).alloc (by simp;omega) _).alloc (by simp;omega) _,by simp,?_,?_,?_,?_⟩;·exact heap_lt (heap_lt (heap_lt (heap_at rfl)))
  ·exact heap_lt (heap_lt (heap_at (by simp)))
  ·exact heap_lt (heap_at (by simp))
  ·exact heap_at (by simp)
 obtain⟨hbel,hsz,h0,h1,h2,h3⟩:=hw1;generalize hB:w.heap.size=B at*;have HB:=Lib.hid hB;have H0:=Lib.hid h0;have H1:=Lib.hid h1;have H2:=Lib.hid h2;have H3:=Lib.hid h3;have HBE:=Lib.hid hbel;have HSZ:=Lib.hid hsz;clear hB h0 h1 h2 h3 hbel hsz;have HI8:=Lib.hid (show(Tryz.prog.info? 205).map (·.size)=some (vals ivL).size by kernel_rfl);go_upto_region 3 with(first
  |(go_at_call 190;refine(start_any _).mono ?_;rintro e w2 ⟨rfl,hb2⟩)
  |(refine wpList_store_whole rfl rfl 205 _ _ rfl w2.heap.size (vals (List.replicate 8 0)) (vals ivL) 205 rfl rfl (heap_at rfl) rfl HI8.out (oneCell_vals _) ?_;intro w3 ho3 hp3))
 have b3:Below (B+4) w1 w3:=by
  have:=hb2.size;rw [HSZ.out]at hb2 this;exact(hb2.alloc (by omega) _).trans (ho3.below (by omega))
 have hD:B+4≤w2.heap.size:=by have:=hb2.size;rw [HSZ.out]at this;exact this
 generalize w2.heap.size=D at*;have S3:PressSt B w H M (List.replicate 16 0) w3:=⟨HBE.out.trans (b3.mono (by omega)),bel_keep b3 (by omega) H0.out,bel_keep b3 (by omega) H1.out,bel_keep b3 (by omega) H2.out,bel_keep b3 (by omega) H3.out⟩;have HP3:=Lib.hid hp3;clear hb2 ho3 b3 H0 H1 H2 H3 HBE HSZ hp3;refine Seg.wp_region_segs (fun w'=> ∃n,w'=w3.drewN n) [] [0,1] 2 (by kernel_rfl) (by kernel_rfl) (fun _ _ d _ _ h=>by cases d<;>exact h) (⟨1,rfl⟩) ?_;simp only [List.map_cons,List.map_nil,Seg.opAt,List.drop_succ_cons,List.drop_zero,Seg.wpSegs,Array.getD_eq_getD_getElem?,List.getElem?_toArray,List.getElem?_cons_succ,List.getElem?_cons_zero,Option.getD_some];repeat (any_goals (first|go_big_quiet_step (fail)|quiet_step (fail)))
 refine wpQuiet_nil ?_;refine wpList_copy_only rfl _ _ 87 87 rfl 180 Tryz.underlying87 size_one (B+3) 0 8 16 ⟨B,0,none⟩ 8 8 rfl rfl (vals (List.replicate 16 0)) 235 S3.v (H.map uv) (by rw [List.length_map,HH.out];rfl) ?_ (by rw [List.length_map,HH.out];decide) (uv_oneCell _) ?_;·exact src_vals (w:=w3.drew) S3.h
 intro w4 ho4 hp4;rw [copy_vals]at hp4;have S4:=S3.turnedV ((Only.refl _ w3).drew.trans ho4) hp4;have HP4:=Lib.hid (((Only.refl _ w3).drew.trans ho4).keep (show D≠B+3 by omega) HP3.out);clear ho4 hp4 S3 HP3;go_upto_region 4 with(fail);refine Seg.wp_region_segs (fun w'=> ∃n,w'=w4.drewN n) [] [0,1] 2 (by kernel_rfl) (by kernel_rfl) (fun _ _ d _ _ h=>by cases d<;>exact h) (⟨1,rfl⟩) ?_;simp only [List.map_cons,List.map_nil,Seg.opAt,List.drop_succ_cons,List.drop_zero,Seg.wpSegs,Array.getD_eq_getD_getElem?,List.getElem?_toArray,List.getElem?_cons_succ,List.getElem?_cons_zero,Option.getD_some];repeat (any_goals (first|go_big_quiet_step (fail)|quiet_step (fail)))
 refine wpQuiet_nil ?_;refine wpList_copy_only rfl _ _ 87 87 rfl 180 Tryz.underlying87 size_one (B+3) 8 8 8 ⟨D,0,none⟩ 8 8 rfl rfl (vals _) 235 S4.v (ivL.map uv) (by decide) (src_vals (w:=w4.drew) HP4.out) (by rw [size_vals];simp [ivL,HH.out]) (uv_oneCell _) ?_;intro w5 ho5 hp5;rw [copy_vals]at hp5;have hval:((List.replicate 16 0).take 0++(H++(List.replicate 16 0).drop (0+H.length)):List U).take 8++(ivL++((List.replicate 16 0).take 0++(H++(List.replicate 16 0).drop (0+H.length)):List U).drop (8+ivL.length))=H++ivL:=by
  have h8:=HH.out;simp [h8,ivL]
 rw [hval]at hp5;clear hval;have S5:=S4.turnedV ((Only.refl _ w4).drew.trans ho5) hp5;clear ho5 hp5 S4 HP4 hD;go_upto_region 5 with(fail);refine wp_abs (fun w6=>PressSt B w H M (H++ivL) w6) S5 (fun w6 S6=>?_);clear S5;have hl:(H++ivL).length=16:=by simp [HH.out,ivL]
 have hfin:=fun x12 x13 h12 h13=>pressV_of H _ n last x12 x13 rfl h12 h13;generalize H++ivL=V at*;have c12:=cell_get S6.v 12 (by omega);have c13:=cell_get S6.v 13 (by omega);have f12:=frozen_get S6.v 12;have f13:=frozen_get S6.v 13;have u0:=un_low n;have u1:=un_high n;have RX:=r_xor;have hfin':=hfin _ _ rfl rfl;clear hfin;generalize V.getD 12 0=x12 at*;generalize V.getD 13 0=x13 at*;have HL:=Lib.hid hl;have HFIN:=Lib.hid hfin';clear hl hfin';go_upto_region 7 with(fail);refine wp_abs (fun w7=>PressSt B w H M ((V.set 12 (x12 ^^^ BitVec.ofNat 32 n)).set 13 (x13 ^^^ BitVec.ofNat 32 (n/4294967296))) w7)
  (S6.turnedV (((Only.refl _ w6).setCell _ _).setCell _ _) (heap_set (heap_set S6.v _ _) _ _)) (fun w7 S7=>?_)
 have hfin:=HFIN.out;have hl2:((V.set 12 (x12 ^^^ BitVec.ofNat 32 n)).set 13 (x13 ^^^ BitVec.ofNat 32 (n/4294967296))).length=16:=by simp [HL.out]
 clear S6 c12 c13 f12 f13 u0 u1 HFIN HL;generalize (V.set 12 (x12 ^^^ BitVec.ofNat 32 n)).set 13 (x13 ^^^ BitVec.ofNat 32 (n/4294967296))=V2 at*;have HFIN:=Lib.hid hfin;clear hfin;have c14:=cell_get S7.v 14 (by omega);have f14:=frozen_get S7.v 14;have HLV:=Lib.hid (length_pressV H n last HH.out);clear hl2;generalize V2.getD 14 0=x14 at*;have RN:=un_compl x14
 go_upto_if 33 with(fail)
 go_cut [] (fun w'=>PressSt B w H M (pressV H n last) w');case first=>
  cases last
  ·go_wp2_with fail;go_meet;case rel=>rw [HFIN.out];exact S7
  ·go_wp2_with fail;go_meet;case rel=>rw [HFIN.out];exact S7.turnedV ((Only.refl _ w7).setCell _ _) (heap_set S7.v _ _)
 case rest=>
  have S8:PressSt B w H M (pressV H n last) wc:=hcut;clear hcut S7 c14 f14 RN HFIN;have HZ:=Lib.hid (show pressL H M n last=mixK H (stirK (pressV H n last) M 80) 8 from rfl);generalize pressV H n last=V3 at*;have s1:=Lib.hid (show(Tryz.prog.info? 235).map (·.size)=some (vals V3).size by rw [size_vals,HLV.out];exact size_words);have s2:=Lib.hid (show(Tryz.prog.info? 235).map (·.size)=some (vals M).size by rw [size_vals,HM.out];exact size_words);have s3:=Lib.hid (show(Tryz.prog.info? 235).map (·.size)=some (vals (stirK V3 M 80)).size by rw [size_vals,length_stirK,HLV.out];exact size_words);have hlW:(stirK V3 M 80).length=16:=by rw [length_stirK,HLV.out]
  have hB4:B+4≤wc.heap.size:=lt_of_heap S8.v;go_upto_region 9 with(fail);apply wp_region_lit;refine wpList_load_whole rfl 235 _ rfl (B+3) (vals V3) _ _ _ rfl S8.v Tryz.underlying235 rfl s1.out ?_;refine wpList_load_whole rfl 235 _ rfl (B+1) (vals M) _ _ _ rfl S8.m Tryz.underlying235 rfl s2.out ?_;have QQ:=Lib.hid (stir_any V3 M wc HLV.out HM.out);generalize stirK V3 M 80=Z at*;go_upto_region 10 with(first
   |(go_at_call 212;refine QQ.out.mono ?_;rintro e w2 ⟨rfl,hb2⟩)
   |(refine wpList_store_whole rfl rfl 235 _ _ rfl w2.heap.size (vals (List.replicate 16 0)) (vals Z) 235 rfl rfl (heap_at rfl) (by rw [size_vals,size_vals,hlW];rfl) s3.out (oneCell_vals _) ?_;intro w3 ho3 hp3))
  have hD2:B+4≤w2.heap.size:=Nat.le_trans hB4 hb2.size;have b3:Below (B+4) wc w3:=((hb2.mono hB4).alloc hD2 _).trans (ho3.below hD2);have S9:=S8.kept b3;generalize w2.heap.size=E at*;clear S8 b3 ho3 hb2 QQ hB4 s1 s2 s3;go_wp2_with fail;go_loopw [41] (fun i wr=> ∃k:Nat,k≤8∧i=.int .i64 k∧PressSt B w (mixK H Z k) M V3 wr∧wr.heap[E]?=some (.cells (vals Z) 235 (0,0))) (fun i _=>8-(intOf i).toNat);case atStart=>exact⟨0,by omega,rfl,S9,hp3⟩
  case round=>
   obtain⟨k,hk,rfl,S,hE⟩:=hrel;clear S9 hp3;by_cases hlt:k<8
   ·have hd8:decide ((k:Int)<8)=true:=by simp;omega
    have hlk:(mixK H Z k).length=8:=by rw [length_mixK,HH.out]
    have c0:=cell_get S.h k (by omega);have f0:=frozen_get S.h k;have c1:=cell_get hE k (by omega);have c2:=cell_get hE (k+8) (by omega);have hnext:=mixK_succ H Z k;generalize (mixK H Z k).getD k 0=x0 at*;generalize Z.getD k 0=x1 at*;generalize Z.getD (k+8) 0=x2 at*;have HNX:=Lib.hid hnext;clear hnext hlk;have HE:=Lib.hid hE;clear hE;go_upto_region 13 with(fail);refine Seg.wp_region_segs (fun w'=> ∃n,w'=wr.drewN n) [] [0,1,2,3,4,5,6,7,8,9,10] 11 (by kernel_rfl) (by kernel_rfl) (fun _ _ d _ _ h=>by cases d<;>exact h) (⟨1,rfl⟩) ?_;simp only [List.map_cons,List.map_nil,Seg.opAt,List.drop_succ_cons,List.drop_zero,Seg.wpSegs,Array.getD_eq_getD_getElem?,List.getElem?_toArray,List.getElem?_cons_succ,List.getElem?_cons_zero,Option.getD_some];repeat (any_goals (first|go_big_quiet_step (fail)|quiet_step (fail)))
    refine wpQuiet_nil ?_;go_upto_region 14 with(fail);refine wp_abs (fun w5=>PressSt B w (mixK H Z (k+1)) M V3 w5∧w5.heap[E]?=some (.cells (vals Z) 235 (0,0)))
     ⟨by rw [HNX.out];exact S.turnedH (((Only.refl B wr).drewN 1).setCell _ _) (heap_set (w:=wr.drew) S.h _ _),(((Only.refl B wr).drewN 1).setCell k _).keep (by omega) HE.out⟩ (fun w5 hw5=>?_)
    obtain⟨S5,hE5⟩:=hw5;clear S c0 f0 c1 c2 HE HNX;go_wp2_with fail;go_roundw;case rel=>exact⟨k+1,by omega,by go_num,S5,hE5⟩
    case measure=>simp [intOf];omega
   ·have hd8:decide ((k:Int)<8)=false:=by simp;omega
    obtain rfl:k=8:=by omega
    have hs8:=Lib.hid (show(Tryz.prog.info? 205).map (·.size)=some (vals (mixK H Z 8)).size by rw [size_vals,length_mixK,HH.out];exact size_eight);go_upto_region 15 with(fail);apply wp_region_lit;refine wpList_load_whole rfl 205 _ rfl B (vals (mixK H Z 8)) _ _ _ rfl S.h Tryz.underlying205 rfl hs8.out ?_;refine wpList_store_whole rfl rfl 205 _ _ rfl (B+2) (vals (List.replicate 8 0)) (vals (mixK H Z 8)) 205 rfl rfl S.r ?_ hs8.out (oneCell_vals _) ?_;·rw [size_vals,size_vals,length_mixK,HH.out];rfl
    intro w6 ho hp;go_wp2_with fail;refine bodyPost_ret (results_cell_row rfl _ w6 (B+2) _ _ _ _ rfl hp Tryz.underlying205 rfl hs8.out) rfl ⟨by rw [HZ.out],?_⟩;rw [HB.out];exact bel_only S.below ho (by omega)
theorem run_index_row {P:Program}(w:World)(t e:TypeId)(n:Nat)(cs:Array Value)(k q:IntKind)(i:Nat)(v:Value)(h:P.underlying t=some (.array n e))(hi:i<n)(hs:(P.info? e).map (·.size)=some 1)(hu:P.underlying e=some (.int q))
 (hv:cs[i]?=some v):(Instr.index t (.agg cs) (.int k (i:Int))).run P w=.ok v w:=by
 have hn:(0:Int)≤i∧(i:Int)<(n:Int):=by omega
 cases hq:P.info? e with
 |none=>simp [hq]at hs
 |
  some x=>
  have hx:x.size=1:=by simpa [hq] using hs
  simp [Instr.index,run_underlying h,asIntOf,hn,sizeOf,typeInfo,hq,hx,hi];unfold part;simp [isAgg,Sem.run_bind,run_underlying hu,hv]
theorem run_copy_str {P:Program}(w:World)(dT sT ty elem:TypeId)(b o dLen dCap:Nat)(s:ByteArray)
 (hu:P.underlying dT=some (.slice elem)) (hz:(P.info? elem).map (·.size)=some 1) (ht:w.there b o (Nat.min s.size dLen)):
 (Builtin.copy_ #[dT,sT] ty #[.slice (some ⟨b,o,none⟩) dLen dCap,.string s]).run P w=.ok (goInt (Nat.min s.size dLen)) (w.setCells b o (Lib.byteCells (s.data.toList.take (Nat.min s.size dLen)))):=by
 have hl:(Lib.byteCells (s.data.toList.take (Nat.min s.size dLen))).length=Nat.min s.size dLen:=by
  rw [Lib.byteCells_length,List.length_take,←Lib.size_eq];have:Nat.min s.size dLen≤s.size:=Nat.min_le_left _ _;omega
 have hst:=run_storeCells_cells (P:=P) b o (Lib.byteCells (s.data.toList.take (Nat.min s.size dLen))) 0 w (by rw [hl];intro j hj;simpa using (ht j hj).1) (by rw [hl];intro j hj;simpa using (ht j hj).2) (Lib.byteCells_one _);have htk:List.take (Nat.min s.size dLen) (List.map (fun b:UInt8=>Value.int IntKind.u8 (b.toNat:Int)) s.data.toList)=Lib.byteCells (s.data.toList.take (Nat.min s.size dLen)):=by
  unfold Lib.byteCells;rw [List.map_take]
 simp only [Nat.add_zero]at hst;cases hq:P.info? elem with
 |none=>simp [hq]at hz
 |
  some i=>
  have hi:i.size=1:=by simpa [hq] using hz
  simp [Builtin.copy_,run_underlying hu,Builtin.lenOf,Builtin.firstCells,sizeOf,typeInfo,hq,hi];rw [htk,hst];simp [Result.andThen]
theorem wpList_copy_str {P:Program}{w:World}{ops:Array Oper}{rest:List Oper}{o:Oper}{a:Act}{Q:Exit→Act→World→Prop}(hgd:o.guard=none)(d s:Operand)(dT sT:TypeId)
 (ho:o.op=.call {callee:=.builtin .copy,args:= #[d,s],argTypes:= #[dT,sT]}) (elem:TypeId) (hu:P.underlying dT=some (.slice elem)) (hsz:(P.info? elem).map (·.size)=some 1)
 (g off dLen dCap:Nat) (S:ByteArray) (hd:a.eval d=.slice (some ⟨g,off,none⟩) dLen dCap) (hs:a.eval s=.string S) (ht:w.there g off (Nat.min S.size dLen))
 (h:wpList P ops Q rest (a.put o.dst (goInt (Nat.min S.size dLen))) (w.setCells g off (Lib.byteCells (S.data.toList.take (Nat.min S.size dLen))))):wpList P ops Q (o::rest) a w:=by
 refine wpList_plain hgd fun K hK=>?_;have hrun:=run_copy_str (P:=P) w dT sT o.type elem g off dLen dCap S hu hsz ht;unfold Oper.wp;simp [execOp,ho,resolve,invoke,builtin,hd,hs,hrun,Result.andThen];exact hK _ _ h
theorem wpQuiet_load_mid {P:Program}{ops:Array Oper}{rest:List Oper}{o:Oper}{a:Act}{S:World→Prop}{K:Act→Prop}(hw:Region.wanted o (yielded ops a.tmps)=true)(ty:TypeId)(y:Operand)(ho:o.op=.load ty y)(b off:Nat)(cs:List Value)(d:TypeDesc)
 (hx:a.eval y=.pointer (some ⟨b,off,none⟩)) (hb: ∀w',S w'→w'.rangeAt b off cs) (hu:P.underlying ty=some d) (hd:d.isRow=true)
 (hi:(P.info? ty).map (·.size)=some cs.length) (h:wpQuiet P ops S K rest (a.put o.dst (.agg cs.toArray))):
 wpQuiet P ops S K (o::rest) a:=by
 unfold wpQuiet;rw [if_pos hw];refine⟨.agg cs.toArray,fun w' hw'=>?_,h⟩;have hr:=run_loadVar_mid (P:=P) w' b off ty cs d (hb w' hw') hu hd hi;unfold Oper.quietAt execOp;simp only [ho,hx,Instr.loadAt,Instr.sureAddr,Sem.run_bind,Sem.run_pure,Result.andThen_ok,hr];exact⟨rfl,rfl⟩
def foldRow(H:List U)(n:Nat)(D:Bytes)(t:Nat):List Value:=H.map uv++(Value.int .u64 (n:Int)::(Lib.byteCells D++ [Value.int .i64 (t:Int)]))
structure FoldAt(b:Nat)(H:List U)(n:Nat)(D:Bytes)(t:Nat)(w:World):Prop where
 blk:w.heap[b]?=some (.cells (foldRow H n D t).toArray 208 (0,0))
 hl:H.length=8
 dl:D.length=64
theorem length_foldRow {H:List U}{n:Nat}{D:Bytes}{t:Nat}(hl:H.length=8)(dl:D.length=64):(foldRow H n D t).length=74:=by
 simp [foldRow,length_byteCells,hl,dl]
theorem foldRow_h {H:List U}{n:Nat}{D:Bytes}{t:Nat}(hl:H.length=8)(j:Nat)(hj:j<8):(foldRow H n D t)[j]?=(H.map uv)[j]?:=by
 unfold foldRow;rw [List.getElem?_append_left (by simp [hl];omega)]
theorem foldRow_n {H:List U}{n:Nat}{D:Bytes}{t:Nat}(hl:H.length=8):(foldRow H n D t)[8]?=some (.int .u64 n):=by
 unfold foldRow;rw [List.getElem?_append_right (by simp [hl])];simp [hl]
theorem foldRow_d {H:List U}{n:Nat}{D:Bytes}{t:Nat}(hl:H.length=8)(dl:D.length=64)(j:Nat)(hj:j<64):(foldRow H n D t)[9+j]?=(Lib.byteCells D)[j]?:=by
 unfold foldRow;rw [List.getElem?_append_right (by simp [hl];omega)];rw [show 9+j-(H.map uv).length=j+1 by simp [hl];omega,List.getElem?_cons_succ,List.getElem?_append_left (by rw [length_byteCells,dl];exact hj)]
theorem foldRow_at {H:List U}{n:Nat}{D:Bytes}{t:Nat}(hl:H.length=8)(dl:D.length=64):(foldRow H n D t)[73]?=some (.int .i64 t):=by
 unfold foldRow;rw [List.getElem?_append_right (by simp [hl])];rw [show 73-(H.map uv).length=64+1 by simp [hl],List.getElem?_cons_succ,List.getElem?_append_right (by rw [length_byteCells,dl];exact Nat.le_refl _),length_byteCells,dl];rfl
namespace FoldAt
variable {b:Nat} {H:List U} {n:Nat} {D:Bytes} {t:Nat} {w w1:World}
theorem cell(h:FoldAt b H n D t w)(j:Nat)(_:j<74):w.cell? ⟨b,j,none⟩=(foldRow H n D t)[j]?:=by
 rw [cell_of_row w b j _ _ _ h.blk];simp
theorem frozen(h:FoldAt b H n D t w)(j:Nat):w.frozen? ⟨b,j,none⟩=false:=frozen_of_row w b j _ _ h.blk
theorem cellN(h:FoldAt b H n D t w):w.cell? ⟨b,8,none⟩=some (.int .u64 n):=by rw [h.cell 8 (by omega),foldRow_n h.hl]
theorem cellAt(h:FoldAt b H n D t w):w.cell? ⟨b,73,none⟩=some (.int .i64 t):=by rw [h.cell 73 (by omega),foldRow_at h.hl h.dl]
theorem rangeH(h:FoldAt b H n D t w):w.rangeAt b 0 (H.map uv):=fun j v hv=>by
 have hj:j<8:=by have:=(List.getElem?_eq_some_iff.1 hv).1;simpa [h.hl] using this
 rw [Nat.zero_add,h.cell j (by omega),foldRow_h h.hl j hj,hv]
theorem rangeD(h:FoldAt b H n D t w):w.rangeAt b 9 (Lib.byteCells D):=fun j v hv=>by
 have hj:j<64:=by have:=(List.getElem?_eq_some_iff.1 hv).1;rwa [length_byteCells,h.dl]at this
 rw [h.cell (9+j) (by omega),foldRow_d h.hl h.dl j hj,hv]
theorem there(h:FoldAt b H n D t w)(o k:Nat)(hk:o+k≤74):w.there b o k:=fun j hj=>by
 refine⟨?_,h.frozen _⟩;rw [h.cell (o+j) (by omega)];simp [length_foldRow h.hl h.dl];omega
theorem kept(h:FoldAt b H n D t w)(hb:w1.heap[b]?=w.heap[b]?):FoldAt b H n D t w1:=⟨hb.trans h.blk,h.hl,h.dl⟩
theorem drewN(h:FoldAt b H n D t w)(k:Nat):FoldAt b H n D t (w.drewN k):=⟨h.blk,h.hl,h.dl⟩
theorem below {B:Nat}(h:FoldAt b H n D t w)(hb:Below B w w1)(hlt:b<B):FoldAt b H n D t w1:=h.kept (hb.block b hlt)
theorem only {c:Nat}(h:FoldAt b H n D t w)(ho:Only c w w1)(hne:b≠c):FoldAt b H n D t w1:=h.kept (ho.block b hne)
theorem setN(h:FoldAt b H n D t w)(m:Nat):FoldAt b H m D t (w.setCell ⟨b,8,none⟩ (.int .u64 (m:Int))):=by
 refine⟨?_,h.hl,h.dl⟩;rw [heap_setCell_same w b 8 _ _ _ h.blk];congr 2;simp [foldRow,h.hl]
theorem setAt(h:FoldAt b H n D t w)(m:Nat):FoldAt b H n D m (w.setCell ⟨b,73,none⟩ (.int .i64 (m:Int))):=by
 refine⟨?_,h.hl,h.dl⟩;rw [heap_setCell_same w b 73 _ _ _ h.blk];congr 2;simp [foldRow,h.hl,h.dl,length_byteCells]
theorem setH(h:FoldAt b H n D t w)(H':List U)(hl:H'.length=8):FoldAt b H' n D t (w.setCells b 0 (H'.map uv)):=by
 refine⟨?_,hl,h.dl⟩;rw [setCells_row b _ _ 0 w _ h.blk (by simp [hl,length_foldRow h.hl h.dl])];congr 2;simp [foldRow,hl,h.hl]
theorem setD(h:FoldAt b H n D t w)(o:Nat)(E:Bytes)(ho:o+E.length≤64):FoldAt b H n (D.take o++(E++D.drop (o+E.length))) t (w.setCells b (9+o) (Lib.byteCells E)):=by
 refine⟨?_,h.hl,by simp [h.dl];omega⟩;rw [setCells_row b _ _ (9+o) w _ h.blk (by simp [length_byteCells,length_foldRow h.hl h.dl];omega)];congr 2;have dl:=h.dl;have hl:=h.hl;have e1:List.take (9+o) (foldRow H n D t)=H.map uv++(Value.int .u64 (n:Int)::Lib.byteCells (D.take o)):=by
  unfold foldRow;rw [List.take_append,show 9+o-(H.map uv).length=o+1 by simp [hl];omega,List.take_of_length_le (by simp [hl];omega),List.take_succ_cons,List.take_append_of_le_length (by rw [length_byteCells];omega)];simp [Lib.byteCells,List.map_take]
 have e2:List.drop (9+o+E.length) (foldRow H n D t)=Lib.byteCells (D.drop (o+E.length))++ [.int .i64 (t:Int)]:=by
  unfold foldRow;rw [List.drop_append,show 9+o+E.length-(H.map uv).length=(o+E.length)+1 by simp [hl];omega,List.drop_of_length_le (by simp [hl];omega),List.drop_succ_cons,List.drop_append_of_le_length (by rw [length_byteCells];omega)];simp [Lib.byteCells,List.map_drop]
 rw [List.toList_toArray,length_byteCells,e1,e2];simp [foldRow,Lib.byteCells]
end FoldAt
structure TakenAt(b:Nat)(h0:List U)(T:Bytes)(w:World):Prop where
 ex: ∃p t D,MidL T p t D∧(T= []∨0<t)∧FoldAt b (absorbK h0 T p) (64*p) D t w
theorem grown_only {b:Nat}{w w1:World}(h:Only b w w1):w.grownBy w1 (some b):=⟨h.os,h.tape,h.output,by rw [h.size];exact Nat.le_refl _,fun k _ hk=>h.block k (fun e=>hk (by rw [e]))⟩
theorem grown_below {b:Nat}{w w1:World}(h:Below w.heap.size w w1):w.grownBy w1 (some b):=⟨h.os,h.tape,h.output,h.size,fun k hk _=>h.block k hk⟩
end Go.Proofs.YtnohcdpnnhmpfaaGreatDoor
