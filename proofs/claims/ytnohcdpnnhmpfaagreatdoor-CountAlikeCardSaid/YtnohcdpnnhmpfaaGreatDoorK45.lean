/-
  Chapter 13, CountAlike: the closed fact 'alive': mul, in. Printed by tools/genalive.py.
-/
import Derived.Test.YtnohcdpnnhmpfaaGreatDoorK44
import Derived.Laws.Cover3
set_option linter.unusedVariables false
set_option linter.unusedSimpArgs false
set_option maxRecDepth 100000
set_option maxHeartbeats 8000000
namespace Go.Proofs.YtnohcdpnnhmpfaaGreatDoor.TR
open Go.RowKit ML AU CT FM
structure MulI(B:Nat)(w0:World)(a b:Nat→Int)(g:Nat)(r t:Nat→Int)(w:World):Prop where
 bel:Below B w0 w
 ba:w.heap[B]?=some (.cells #[.int .u64 (a 0),.int .u64 (a 1),.int .u64 (a 2),.int .u64 (a 3)] 147 (0,0))
 bb:w.heap[B+1]?=some (.cells #[.int .u64 (b 0),.int .u64 (b 1),.int .u64 (b 2),.int .u64 (b 3)] 147 (0,0))
 bo:w.heap[B+1+1]?=some (.cells #[.int .u64 0,.int .u64 0,.int .u64 0,.int .u64 0] 147 (0,0))
 bt:w.heap[B+1+1+1]?=some (.cells #[.int .u64 (t 0),.int .u64 (t 1),.int .u64 (t 2),.int .u64 (t 3),.int .u64 (t 4)] 248 (0,0))
 wd: ∀i,Wd (t i)
 rg:RingAt w g r
 gl:g<B
namespace MulI
variable {B:Nat} {w0:World} {a b:Nat→Int} {g:Nat} {r t:Nat→Int} {w:World}
theorem lt(h:MulI B w0 a b g r t w):B+1+1+1<w.heap.size:=lt_of_heap h.bt
theorem drewN(h:MulI B w0 a b g r t w)(m:Nat):MulI B w0 a b g r t (w.drewN m):=by
 have hb:Below w.heap.size w (w.drewN m):=bel_drewN (Below.refl _ _) m;have hl:=h.lt;exact⟨bel_drewN h.bel m,bel_keep hb (by omega) h.ba,bel_keep hb (by omega) h.bb,bel_keep hb (by omega) h.bo,bel_keep hb (by omega) h.bt,h.wd,h.rg.below hb h.rg.lt hb.size,h.gl⟩
theorem set(h:MulI B w0 a b g r t w){i:Nat}(hi:i<5){x:Int}(hx:Wd x):MulI B w0 a b g r (up4 t i x) (w.setCell ⟨B+1+1+1,i,none⟩ (.int .u64 x)):=by
 have ho:Only (B+1+1+1) w (w.setCell ⟨B+1+1+1,i,none⟩ (.int .u64 x)):=(Only.refl _ w).setCell i _;have hb:Below B w0 (w.setCell ⟨B+1+1+1,i,none⟩ (.int .u64 x)):=bel_only h.bel ho (by omega);have hg:=h.gl
 exact⟨hb,(ho.block B (by omega)).trans h.ba,(ho.block (B+1) (by omega)).trans h.bb,(ho.block (B+1+1) (by omega)).trans h.bo,l5_set hi x h.bt,wd_up h.wd hx i,
  ⟨by rw [ho.size];exact h.rg.lt,h.rg.wd,fun i hi=>(World.cell?_of_block (ho.block g (by omega))).trans (h.rg.cell i hi)⟩,hg⟩
theorem ca(h:MulI B w0 a b g r t w){i:Nat}(hi:i<4):w.cell? ⟨B,i,none⟩=some (.int .u64 (a i)):=(cell_of_row _ B i _ _ _ h.ba).trans (l4_get a hi)
theorem cb(h:MulI B w0 a b g r t w){i:Nat}(hi:i<4):w.cell? ⟨B+1,i,none⟩=some (.int .u64 (b i)):=(cell_of_row _ (B+1) i _ _ _ h.bb).trans (l4_get b hi)
theorem ct(h:MulI B w0 a b g r t w){i:Nat}(hi:i<5):w.cell? ⟨B+1+1+1,i,none⟩=some (.int .u64 (t i)):=(cell_of_row _ (B+1+1+1) i _ _ _ h.bt).trans (l5_get t hi)
theorem rt(h:MulI B w0 a b g r t w):w.rangeAt (B+1+1+1) 0 [.int .u64 (t 0),.int .u64 (t 1),.int .u64 (t 2),.int .u64 (t 3)]:=fun j u hu=>by
 match j with
 |0=>exact(h.ct (i:=0) (by omega)).trans hu
 |1=>exact(h.ct (i:=1) (by omega)).trans hu
 |2=>exact(h.ct (i:=2) (by omega)).trans hu
 |3=>exact(h.ct (i:=3) (by omega)).trans hu
 |_+4=>cases hu
theorem ft(h:MulI B w0 a b g r t w)(i:Nat):w.frozen? ⟨B+1+1+1,i,none⟩=false:=frozen_of_row w _ i _ _ h.bt
end MulI
theorem mul_any(a b:Nat→Int)(ha: ∀i,Wd (a i))(hb: ∀i,Wd (b i))(g:Nat)(r:Nat→Int)(w:World)(hr:RingAt w g r):Calls Tryz.prog 182 #[.pointer (some ⟨g,15,none⟩),.agg #[.int .u64 (a 0),.int .u64 (a 1),.int .u64 (a 2),.int .u64 (a 3)],.agg #[.int .u64 (b 0),.int .u64 (b 1),.int .u64 (b 2),.int .u64 (b 3)]] w fun e w'=> ∃d:Nat→Int,(∀i,Wd (d i))∧e=.returned (.agg #[.int .u64 (d 0),.int .u64 (d 1),.int .u64 (d 2),.int .u64 (d 3)])∧Below w.heap.size w w':=by
 have HA:=Lib.hid ha;have HBB:=Lib.hid hb;have HR:=Lib.hid hr;have hgw:=hr.lt;have hrw:=Lib.hid hr.wd;clear ha hb hr;go_enter Tryz.func182,Tryz.ntmps182;go_upto_region 2 with(fail);have hbA:Below w.heap.size w ((((w.alloc (.cells #[.int .u64 (a 0),.int .u64 (a 1),.int .u64 (a 2),.int .u64 (a 3)] 147)).alloc (.cells #[.int .u64 (b 0),.int .u64 (b 1),.int .u64 (b 2),.int .u64 (b 3)] 147)).alloc (.cells #[.int .u64 0,.int .u64 0,.int .u64 0,.int .u64 0] 147)).alloc (.cells #[.int .u64 0,.int .u64 0,.int .u64 0,.int .u64 0,.int .u64 0] 248)):=((((Below.refl _ _).alloc (Nat.le_refl _) _).alloc (by simp) _).alloc (by simp;omega) _).alloc (by simp;omega) _;have hc1:((((w.alloc (.cells #[.int .u64 (a 0),.int .u64 (a 1),.int .u64 (a 2),.int .u64 (a 3)] 147)).alloc (.cells #[.int .u64 (b 0),.int .u64 (b 1),.int .u64 (b 2),.int .u64 (b 3)] 147)).alloc (.cells #[.int .u64 0,.int .u64 0,.int .u64 0,.int .u64 0] 147)).alloc (.cells #[.int .u64 0,.int .u64 0,.int .u64 0,.int .u64 0,.int .u64 0] 248)).heap[w.heap.size]?=some (.cells #[.int .u64 (a 0),.int .u64 (a 1),.int .u64 (a 2),.int .u64 (a 3)] 147 (0,0)):=heap_lt (heap_lt (heap_lt (heap_at rfl)));have hc2:((((w.alloc (.cells #[.int .u64 (a 0),.int .u64 (a 1),.int .u64 (a 2),.int .u64 (a 3)] 147)).alloc (.cells #[.int .u64 (b 0),.int .u64 (b 1),.int .u64 (b 2),.int .u64 (b 3)] 147)).alloc (.cells #[.int .u64 0,.int .u64 0,.int .u64 0,.int .u64 0] 147)).alloc (.cells #[.int .u64 0,.int .u64 0,.int .u64 0,.int .u64 0,.int .u64 0] 248)).heap[w.heap.size+1]?=some (.cells #[.int .u64 (b 0),.int .u64 (b 1),.int .u64 (b 2),.int .u64 (b 3)] 147 (0,0)):=heap_lt (heap_lt (heap_at (by simp)));have hc3:((((w.alloc (.cells #[.int .u64 (a 0),.int .u64 (a 1),.int .u64 (a 2),.int .u64 (a 3)] 147)).alloc (.cells #[.int .u64 (b 0),.int .u64 (b 1),.int .u64 (b 2),.int .u64 (b 3)] 147)).alloc (.cells #[.int .u64 0,.int .u64 0,.int .u64 0,.int .u64 0] 147)).alloc (.cells #[.int .u64 0,.int .u64 0,.int .u64 0,.int .u64 0,.int .u64 0] 248)).heap[w.heap.size+1+1]?=some (.cells #[.int .u64 0,.int .u64 0,.int .u64 0,.int .u64 0] 147 (0,0)):=heap_lt (heap_at (by simp));have hc4:((((w.alloc (.cells #[.int .u64 (a 0),.int .u64 (a 1),.int .u64 (a 2),.int .u64 (a 3)] 147)).alloc (.cells #[.int .u64 (b 0),.int .u64 (b 1),.int .u64 (b 2),.int .u64 (b 3)] 147)).alloc (.cells #[.int .u64 0,.int .u64 0,.int .u64 0,.int .u64 0] 147)).alloc (.cells #[.int .u64 0,.int .u64 0,.int .u64 0,.int .u64 0,.int .u64 0] 248)).heap[w.heap.size+1+1+1]?=some (.cells #[.int .u64 ((fun _=>0:Nat→Int) 0),.int .u64 ((fun _=>0:Nat→Int) 1),.int .u64 ((fun _=>0:Nat→Int) 2),.int .u64 ((fun _=>0:Nat→Int) 3),.int .u64 ((fun _=>0:Nat→Int) 4)] 248 (0,0)):=heap_at (by simp);generalize hB:w.heap.size=B at*;have hM:MulI B w a b g r (fun _=>0) ((((w.alloc (.cells #[.int .u64 (a 0),.int .u64 (a 1),.int .u64 (a 2),.int .u64 (a 3)] 147)).alloc (.cells #[.int .u64 (b 0),.int .u64 (b 1),.int .u64 (b 2),.int .u64 (b 3)] 147)).alloc (.cells #[.int .u64 0,.int .u64 0,.int .u64 0,.int .u64 0] 147)).alloc (.cells #[.int .u64 0,.int .u64 0,.int .u64 0,.int .u64 0,.int .u64 0] 248)):=⟨hbA,hc1,hc2,hc3,hc4,fun _=>wd_zero,HR.out.below hbA hgw (by have:=lt_of_heap hc4;omega),hgw⟩;refine wp_abs (fun w1=>MulI B w a b g r (fun _=>0) w1) hM (fun w1 hw1=>?_);have HB:=Lib.hid hB;have H1:=Lib.hid hw1;clear hB hw1 hM hbA hc1 hc2 hc3 hc4 HR;have QO:=Lib.hid (fun t w1 (h:MulI B w a b g r t w1)=>once_any t h.wd g r w1 h.rg);go_wp2_with fail;go_loopw [18] (fun v wr=> ∃(i:Nat) (t:Nat→Int),v=.int .i64 i∧i≤4∧MulI B w a b g r t wr) (fun v _=>4-(intOf v).toNat);case atStart=>exact⟨0,_,rfl,by omega,H1.out⟩
 case round=>
 clear H1;obtain⟨i,t,rfl,hi,hm⟩:=hrel;have HM:=Lib.hid hm;clear hm;by_cases hi4:i<4;case neg=>
  obtain rfl:i=4:=by omega
  have hAA: ∀w:World,(Instr.arrayAt 147 (Value.slice (some ⟨B+1+1+1,0,none⟩) 4 5)).run Tryz.prog w=.ok (.pointer (some ⟨B+1+1+1,0,none⟩)) w:=fun w=>run_arrayAt w 147 140 4 _ 4 5 Tryz.underlying147 (by omega);have HT:=Lib.hid HM.out.rt;have hB3:=HM.out.lt;go_upto_region 31 with(fail);go_wp2_with (first
   |go_big_skip
   |(go_at_call 207;refine(QO.out t wr HM.out).mono ?_;rintro e w3 ⟨d,hd,rfl,b3⟩;dsimp only;have HBO:=Lib.hid (bel_keep b3 (by omega) HM.out.bo);have B4:=Lib.hid (HM.out.bel.trans (b3.mono (by omega)));have HDD:=Lib.hid hd;clear b3 hd)
   |((with_reducible refine at_load 147 ?_);refine wpList_load_mid rfl 147 _ rfl (B+1+1+1) 0 rfl [.int .u64 (t 0),.int .u64 (t 1),.int .u64 (t 2),.int .u64 (t 3)] _ HT.out Tryz.underlying147 rfl size_limbs ?_)
   |(refine wpList_store_whole rfl rfl 147 _ _ rfl (B+1+1) #[.int .u64 0,.int .u64 0,.int .u64 0,.int .u64 0] #[.int .u64 (d 0),.int .u64 (d 1),.int .u64 (d 2),.int .u64 (d 3)] 147 rfl rfl HBO.out rfl size_limbs (words4 d) ?_;intro w5 ho hp))
  refine bodyPost_ret (results_cell_row rfl _ w5 (B+1+1) _ _ _ _ rfl hp Tryz.underlying147 rfl size_limbs) rfl ?_;exact⟨d,HDD.out,rfl,by rw [HB.out];exact bel_only B4.out ho (by omega)⟩
 have dk:decide ((i:Int)<4)=true:=decide_eq_true (by omega);have dk2:decide (i<4)=true:=decide_eq_true hi4;have hii:(i:Int)<4:=by omega
 obtain⟨wo,hwo⟩: ∃wo:World,wo=wr:=⟨_,rfl⟩;subst hwo;go_wp2_with fail;go_loopw [21,9] (fun v u wr=> ∃(j:Nat) (c:Int) (t:Nat→Int),v=.int .i64 j∧u=.int .u64 c∧Wd c∧j≤4∧MulI B w a b g r t wr) (fun v _ _=>4-(intOf v).toNat);case atStart=>exact⟨0,0,t,rfl,rfl,wd_zero,by omega,HM.out⟩
 case round=>
 clear HM;obtain⟨j,c,t,rfl,rfl,hc,hj,hm⟩:=hrel;have HC:=Lib.hid hc;have HM:=Lib.hid hm;clear hc hm;by_cases hj4:j<4;case pos=>
  have ek:decide ((j:Int)<4)=true:=decide_eq_true (by omega);have ek2:decide (j<4)=true:=decide_eq_true hj4;have hjj:(j:Int)<4:=by omega
  have hj5:(j:Int)<5:=by omega
  have c1:=HM.out.ca hi4;have c2:=HM.out.cb hj4;go_upto_region 9 with(fail);refine Seg.wp_region_segs (fun w'=> ∃m,w'=wr.drewN m) [([0,1,2,3,4,5],6)] [7,8,9,10] 11 (by kernel_rfl) (by kernel_rfl) (fun _ _ d _ _ h=>by cases d<;>exact h) (⟨1,rfl⟩) ?_;simp only [List.map_cons,List.map_nil,Seg.opAt,List.drop_succ_cons,List.drop_zero,Seg.wpSegs,Array.getD_eq_getD_getElem?,List.getElem?_toArray,List.getElem?_cons_succ,List.getElem?_cons_zero,Option.getD_some];repeat (any_goals (first|go_big_quiet_step (fail)|quiet_step (fail)))
  refine wpQuiet_nil ?_;intro K hK;simp only [Region.wanted,if_true];go_wp2_with (go_at_call 205;refine(mul64w _ _ _).mono ?_;rintro e w5 ⟨hi,lo,hh,hl,rfl,rfl⟩);refine hK _ _ ⟨1,rfl⟩ ?_;clear hK K c1 c2;repeat (any_goals (first|go_big_quiet_step (fail)|quiet_step (fail)))
  refine wpQuiet_nil ?_;go_upto_region 10 with(fail);refine wp_abs (fun w5=>MulI B w a b g r t w5) (HM.out.drewN 1) (fun w5 hw5=>?_);have H5:=Lib.hid hw5;clear hw5 HM;obtain⟨s1,k1,hs1,hk1,RUN1⟩:=add64w hl (H5.out.wd j) (c:=0) ⟨by omega,by omega⟩;obtain⟨s2,k2,hs2,hk2,RUN2⟩:=add64w hs1 HC.out (c:=0) ⟨by omega,by omega⟩;have H6:=Lib.hid (H5.out.set (i:=j) (by omega) hs2);have c3:=H5.out.ct (i:=j) (by omega);have f3:=H5.out.ft j;clear hh hl hs1 hk1 hs2 hk2 H5 HC;go_wp2_with fail;go_roundw;case rel=>exact⟨j+1,_,_,by go_num,rfl,wd_wrap _,by omega,H6.out⟩
  case measure=>simp [intOf];omega
 obtain rfl:j=4:=by omega
 have H5:=Lib.hid (HM.out.set (i:=4) (by omega) (wd_wrap (t 4+c)));have c3:=HM.out.ct (i:=4) (by omega);have f3:=HM.out.ft 4;clear hj hj4 HM HC;go_upto_region 16 with(fail);refine wp_abs (fun w5=>MulI B w a b g r (up4 t 4 (IntKind.u64.wrap (t 4+c))) w5) H5.out (fun w5 hw5=>?_);have H6:=Lib.hid hw5;clear hw5 H5 c3 f3;generalize up4 t 4 (IntKind.u64.wrap (t 4+c))=t at*;have c1:=H6.out.ct (i:=0) (by omega);have c2:w5.cell? ⟨g,27,none⟩=some (.int .u64 (r 12)):=H6.out.rg.cell 12 (by omega);refine Seg.wp_region_segs (fun w'=> ∃m,w'=w5.drewN m) [] [0,1,2,3,4,5] 6 (by kernel_rfl) (by kernel_rfl) (fun _ _ d _ _ h=>by cases d<;>exact h) (⟨1,rfl⟩) ?_;simp only [List.map_cons,List.map_nil,Seg.opAt,List.drop_succ_cons,List.drop_zero,Seg.wpSegs,Array.getD_eq_getD_getElem?,List.getElem?_toArray,List.getElem?_cons_succ,List.getElem?_cons_zero,Option.getD_some];repeat (any_goals (first|go_big_quiet_step (fail)|quiet_step (fail)))
 refine wpQuiet_nil ?_;go_upto_region 17 with(fail);refine wp_abs (fun w6=>MulI B w a b g r t w6) (H6.out.drewN 1) (fun w6 hw6=>?_);have H7:=Lib.hid hw6;clear hw6 H6 c1 c2;have hq:=Lib.hid (wd_wrap (t 0*r 12));generalize IntKind.u64.wrap (t 0*r 12)=q at*;have c1:w6.cell? ⟨g,15,none⟩=some (.int .u64 (r 0)):=H7.out.rg.cell 0 (by omega);go_upto_region 18 with(go_at_call 205;refine(mul64w _ _ _).mono ?_;rintro e w7 ⟨hi7,lo7,hh,hl,rfl,rfl⟩);obtain⟨s1,k1,hs1,hk1,RUN1⟩:=add64w hl (H7.out.wd 0) (c:=0) ⟨by omega,by omega⟩;have c2:=H7.out.ct (i:=0) (by omega);go_upto_region 20 with(fail);have HC:=Lib.hid (wd_wrap (hi7+k1));generalize IntKind.u64.wrap (hi7+k1)=c at*;clear hs1 hk1 RUN1 c1 c2 hh hl;go_wp2_with fail;obtain⟨w8,hw8⟩: ∃w8:World,w8=w6:=⟨_,rfl⟩;subst hw8;go_loopw [17,9] (fun v u wr=> ∃(j:Nat) (c:Int) (t:Nat→Int),v=.int .i64 ((j:Int)+1)∧u=.int .u64 c∧Wd c∧j≤3∧MulI B w a b g r t wr) (fun v _ _=>4-(intOf v).toNat);case atStart=>exact⟨0,c,t,rfl,rfl,HC.out,by omega,H7.out⟩
 case round=>
 clear H7 HC;obtain⟨j,c,t,rfl,rfl,hc,hj,hm⟩:=hrel;have HC:=Lib.hid hc;have HM:=Lib.hid hm;clear hc hm;by_cases hj3:j<3;case pos=>
  have ek:decide ((j:Int)+1<4)=true:=decide_eq_true (by omega);have hjj:(j:Int)+1<4:=by omega
  have hj5:(j:Int)+1<5:=by omega
  have hj6:(j:Int)<5:=by omega
  have c1:wr.cell? ⟨g,15+(j+1),none⟩=some (.int .u64 (r (j+1))):=HM.out.rg.cell (j+1) (by omega);have c2:=HM.out.ct (i:=j+1) (by omega);have c3:=HM.out.ct (i:=j) (by omega);have f3:=HM.out.ft j;go_upto_region 24 with(go_at_call 205;refine(mul64w _ _ _).mono ?_;rintro e w7 ⟨hi7,lo7,hh,hl,rfl,rfl⟩);obtain⟨s1,k1,hs1,hk1,RUN1⟩:=add64w hl (HM.out.wd (j+1)) (c:=0) ⟨by omega,by omega⟩;obtain⟨s2,k2,hs2,hk2,RUN2⟩:=add64w hs1 HC.out (c:=0) ⟨by omega,by omega⟩;have H6:=Lib.hid (HM.out.set (i:=j) (by omega) hs2);have ej:(j:Int)+1-1=j:=by omega
  clear hh hl hs1 hk1 hs2 hk2 HM HC c1;go_wp2_with fail;go_roundw;case rel=>exact⟨j+1,_,_,by go_num,rfl,wd_wrap _,by omega,H6.out⟩
  case measure=>simp [intOf];omega
 obtain rfl:j=3:=by omega
 clear hj hj3;obtain⟨s1,k1,hs1,hk1,RUN1⟩:=add64w (HM.out.wd 4) HC.out (c:=0) ⟨by omega,by omega⟩;have H5:=Lib.hid (HM.out.set (i:=3) (by omega) hs1);have c3:=HM.out.ct (i:=4) (by omega);have c4:=HM.out.ct (i:=3) (by omega);have f4:=HM.out.ft 3;clear hs1 HM HC;go_upto_region 29 with(fail);refine wp_abs (fun w5=>MulI B w a b g r (up4 t 3 s1) w5) H5.out (fun w5 hw5=>?_);have H6:=Lib.hid hw5;have c5:=H6.out.ct (i:=4) (by omega);have f5:=H6.out.ft 4;have H7:=Lib.hid (H6.out.set (i:=4) (by omega) (x:=k1) (by unfold Wd;omega));clear hw5 H5 c3 c4 f4 RUN1 H6;go_wp2_with fail;go_roundw;case rel=>exact⟨i+1,_,by go_num,by omega,H7.out⟩
 case measure=>simp [intOf];omega
end Go.Proofs.YtnohcdpnnhmpfaaGreatDoor.TR
