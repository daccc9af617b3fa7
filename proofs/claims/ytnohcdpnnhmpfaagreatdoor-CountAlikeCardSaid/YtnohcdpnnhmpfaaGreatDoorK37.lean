/-
  The reference's rows and steps.
-/
import Derived.Test.YtnohcdpnnhmpfaaGreatDoorK36
set_option linter.unusedVariables false
set_option linter.unusedSimpArgs false
set_option maxRecDepth 100000
set_option maxHeartbeats 4000000
namespace Go.Proofs.YtnohcdpnnhmpfaaGreatDoor
open Go.RowKit ML FM
def rowsS:List ByteArray:= [⟨#[48,49,50,51,52,53,54,55,56,57,97,98,99,100,101,102]⟩,
 ⟨#[101,97,52,56,57,102,100,54,49,99,48,50,98,55,53,51]⟩,
 ⟨#[98,56,99,48,53,50,102,100,97,101,51,54,55,49,57,52]⟩,
 ⟨#[55,57,51,49,100,99,98,101,50,54,53,97,52,48,102,56]⟩,
 ⟨#[57,48,53,55,50,52,97,102,101,49,98,99,54,56,51,100]⟩,
 ⟨#[50,99,54,97,48,98,56,51,52,100,55,53,102,101,49,57]⟩,
 ⟨#[99,53,49,102,101,100,52,97,48,55,54,51,57,50,56,98]⟩,
 ⟨#[100,98,55,101,99,49,51,57,53,48,102,52,56,54,50,97]⟩,
 ⟨#[54,102,101,57,98,51,48,56,99,50,100,55,49,52,97,53]⟩,
 ⟨#[97,50,56,52,55,54,49,53,102,98,57,101,51,99,100,48]⟩]
def rowsV:Array Value:=(rowsS.map Value.string).toArray
theorem rows_any(w:World):
 Calls Tryz.prog 236 #[] w fun e w'=>e=.returned (.slice (some ⟨w.heap.size,0,none⟩) 10 10)∧w'=w.alloc (.cells rowsV 9):=by
 go_enter Tryz.func236,Tryz.ntmps236;go_wp2;go_ret;exact⟨rfl,rfl⟩
def stp(a o m t:Int):List Int:= [a,o,m,t]
def eight(k:Nat):List Int:=
 let a:Int:=ca (k%8);let b:Int:=cb (k%8);let c:Int:=cc (k%8);let d:Int:=cd (k%8)
 let x:Int:=placeN (k/8) (2* (k%8));let y:Int:=placeN (k/8) (2* (k%8)+1)
 (stp a b x 0++stp d a (-1) 16++stp c d (-1) 0++stp b c (-1) 12)++(stp a b y 0++stp d a (-1) 8++stp c d (-1) 0++stp b c (-1) 7)
def stepsK:Nat→List Int
 |0=> []
 |k+1=>stepsK k++eight k
theorem length_stepsK: ∀k,(stepsK k).length=32*k
 |0=>rfl
 |k+1=>by rw [stepsK,List.length_append,length_stepsK k];simp [eight,stp];omega
def rowS(k:Nat):ByteArray:=rowsS.getD k ByteArray.empty
theorem rowS_size: ∀k,k<10→(rowS k).size=16:=by decide+kernel
theorem rowS_tab: ∀k,k<10→ ∀i,(h:i<(rowS k).size)→(((rowS k)[i]'h).toNat:Int)=hexI (placeN k i):=by decide+kernel
theorem rowsV_get: ∀k,k<10→rowsV[k]?=some (.string (rowS k)):=by
 intro k hk;simp only [rowsV,List.getElem?_toArray,List.getElem?_map,rowS,List.getD_eq_getElem?_getD];have:k<rowsS.length:=hk;simp [this]
theorem info_step:(Tryz.prog.info? 273).map (fun i=>(i.zero,i.size,i.bytes))=some (some (.agg (i64s [0,0,0,0]).toArray),4,32):=by kernel_rfl
def half1(j:Nat)(x:Int):List Int:=stp (ca j) (cb j) x 0++stp (cd j) (ca j) (-1) 16++stp (cc j) (cd j) (-1) 0++stp (cb j) (cc j) (-1) 12
def half2(j:Nat)(y:Int):List Int:=stp (ca j) (cb j) y 0++stp (cd j) (ca j) (-1) 8++stp (cc j) (cd j) (-1) 0++stp (cb j) (cc j) (-1) 7
theorem eight_halves(k j:Nat)(hj:j<8):eight (8*k+j)=half1 j (placeN k (2*j))++half2 j (placeN k (2*j+1)):=by
 unfold eight;rw [show(8*k+j)%8=j by omega,show(8*k+j)/8=k by omega];rfl
theorem oneCell_mem(l:List Int): ∀u∈i64s l,u.oneCell'=true:=by
 intro u hu;simp only [i64s,List.mem_map]at hu;obtain⟨x,_,rfl⟩:=hu;rfl
theorem i64s_append(a b:List Int):i64s a++i64s b=i64s (a++b):=by simp [i64s]
structure StepSt(B:Nat)(w:World)(k:Nat)(v:Value)(wr:World):Prop where
 below:Below B w wr
 rows:wr.heap[B]?=some (.cells rowsV 9 (0,0))
 own:wr.ownsRow (B+1) 273 4 v (8*k) (i64s (stepsK k))
theorem steps_any(w:World):
 Calls Tryz.prog 228 #[] w fun e w'=> ∃v,e=.returned v∧Below w.heap.size w w'∧w'.ownsRow (w.heap.size+1) 273 4 v 640 (i64s (stepsK 80)):=by
 obtain⟨i0,hi,hz0,hz1,hz2⟩:=info_parts info_step;have HI:=Lib.hid hi;have HZ0:=Lib.hid hz0;have HZ1:=Lib.hid hz1;have HZ2:=Lib.hid hz2;clear hi hz0 hz1 hz2;go_enter Tryz.func228,Tryz.ntmps228;go_wp2_with (go_at_call 236;refine(rows_any _).mono ?_;rintro e w1 ⟨rfl,rfl⟩);generalize hB:w.heap.size=B at*;have S0:StepSt B w 0 (.slice none 0 0) (w.alloc (.cells rowsV 9)):=
  ⟨(Below.refl _ _).alloc (by omega) _,heap_at hB,World.ownsRow_nil _ _ _ _⟩
 have HB:=Lib.hid hB;clear hB;generalize w.alloc (.cells rowsV 9)=w1 at*;go_loopw [1,10] (fun v r wr=> ∃k:Nat,k≤10∧r=.int .i64 k∧StepSt B w (8*k) v wr) (fun _ r _=>10-(intOf r).toNat);case atStart=>exact⟨0,by omega,rfl,S0⟩
 case round=>
  obtain⟨k,hk,rfl,S⟩:=hrel;clear S0;by_cases hlt:k<10
  ·have hd10:decide ((k:Int)<10)=true:=by simp;omega
   have hc:wr.cell? ⟨B,k,none⟩=some (.string (rowS k)):=by rw [cell_of_row wr B k _ _ _ S.rows];exact rowsV_get k hlt
   have hsz:=rowS_size k hlt;have htab:=rowS_tab k hlt;generalize rowS k=s at*;have HSZ:=Lib.hid hsz;clear hsz;go_wp2_with fail;clear hc;obtain⟨wo,rfl⟩: ∃wo:World,wo=wr:=⟨_,rfl⟩;go_loopw [1,4] (fun v i wi=> ∃j:Nat,j≤8∧i=.int .i64 j∧StepSt B w (8*k+j) v wi) (fun _ i _=>8-(intOf i).toNat);case atStart=>exact⟨0,by omega,rfl,S⟩
   case round=>
    obtain⟨j,hj,rfl,Si⟩:=hrel;clear S;by_cases hjt:j<8
    ·have hd8:decide ((j:Int)<8)=true:=by simp;omega
     have HF:=Lib.hid (show(Tryz.prog.info? 287).map (·.size)=some (i64s (fourRow j)).toArray.size by rw [size_four];rfl);go_upto_region 8 with(fail);go_upto_region 9 with(first
      |(go_at_call 237;refine(four_any j _ hjt).mono ?_;rintro e w2 ⟨rfl,hb2⟩)
      |(refine wpList_store_whole rfl rfl 287 _ _ rfl w2.heap.size (i64s [0,0,0,0]).toArray (i64s (fourRow j)).toArray 287 rfl rfl (heap_at rfl) rfl HF.out (oneCell_i64s _) ?_;intro w3 ho3 hp3))
     have hlt2:wr.heap.size≤w2.heap.size:=hb2.size;have hlB:B+1≤wr.heap.size:=by have:=lt_of_heap Si.rows;omega
     have hlD:w2.heap.size<w3.heap.size:=lt_of_heap hp3;have b3:Below wr.heap.size wr w3:=(hb2.alloc hb2.size _).trans (ho3.below hb2.size);have own3:w3.ownsRow (B+1) 273 4 u1 (8* (8*k+j)) (i64s (stepsK (8*k+j))):=own_below Si.own b3;have rows3:=bel_keep b3 (lt_of_heap Si.rows) Si.rows;have bel3:Below B w w3:=Si.below.trans (b3.mono (by omega));generalize w2.heap.size=D at*;clear b3 ho3 hb2 Si;have own3':=Lib.hid own3;have rows3':=Lib.hid rows3;have bel3':=Lib.hid bel3;have hp3':=Lib.hid hp3;clear own3 rows3 bel3 hp3;have hb1:2* (j:Int)<(s.size:Int):=by have:=HSZ.out;omega
     have hb2:2* (j:Int)+1<(s.size:Int):=by have:=HSZ.out;omega
     refine Seg.wp_region_segs (fun w'=> ∃n,w'=w3.drewN n) [([0,1,2,3,5,6,7,8,9],4)] [] 10 (by kernel_rfl) (by kernel_rfl) (fun _ _ d _ _ h=>by cases d<;>exact h) (⟨1,rfl⟩) ?_;simp only [List.map_cons,List.map_nil,Seg.opAt,List.drop_succ_cons,List.drop_zero,Seg.wpSegs,Array.getD_eq_getD_getElem?,List.getElem?_toArray,List.getElem?_cons_succ,List.getElem?_cons_zero,Option.getD_some];repeat (any_goals (first|go_big_quiet_step (fail)|quiet_step (fail)))
     refine wpQuiet_nil ?_;intro K hK;simp only [Region.wanted,if_true];have p1:=placeN_lt k (2*j) hlt (by omega);have p2:=placeN_lt k (2*j+1) hlt (by omega);have Q1:=Lib.hid (digit_any (placeN k (2*j)) w3.drew p1);have Q2:=Lib.hid (digit_any (placeN k (2*j+1)) w3.drew p2);clear p1 p2 htab;go_wp2_with fail;refine Q1.out.mono ?_;rintro e w4 ⟨rfl,rfl⟩;refine hK _ _ ⟨1,rfl⟩ ?_;clear hK K Q1;repeat (any_goals (first|go_big_quiet_step (fail)|quiet_step (fail)))
     refine wpQuiet_nil ?_;go_wp2_with fail;refine Q2.out.mono ?_;rintro e w4 ⟨rfl,rfl⟩;clear Q2 hb1 hb2;go_upto_region 10 with(fail);refine wp_abs (fun w4=>StepSt B w (8*k+j) u1 w4∧w4.heap[D]?=some (.cells (i64s (fourRow j)).toArray 287 (0,0))∧B+1≤w4.heap.size) ⟨⟨bel3'.out.drew,rows3'.out,own3'.out.drew⟩,hp3'.out,by have:=lt_of_heap hp3'.out;simp;omega⟩ (fun w4 hw4=>?_);obtain⟨S4,hD4,hB4⟩:=hw4;clear own3' rows3' bel3' hp3' hlD hlt2 hlB;have c0:w4.cell? ⟨D,0,none⟩=some (.int .i64 (ca j:Int)):=by rw [cell_of_row w4 D 0 _ _ _ hD4];rfl
     have c1:w4.cell? ⟨D,1,none⟩=some (.int .i64 (cb j:Int)):=by rw [cell_of_row w4 D 1 _ _ _ hD4];rfl
     have c2:w4.cell? ⟨D,2,none⟩=some (.int .i64 (cc j:Int)):=by rw [cell_of_row w4 D 2 _ _ _ hD4];rfl
     have c3:w4.cell? ⟨D,3,none⟩=some (.int .i64 (cd j:Int)):=by rw [cell_of_row w4 D 3 _ _ _ hD4];rfl
     have HD4:=Lib.hid hD4;have hDl:=lt_of_heap hD4;clear hD4;have eX:=Lib.hid (eight_halves k j hjt);generalize (placeN k (2*j):Int)=X at*;generalize (placeN k (2*j+1):Int)=Y at*;go_upto_region 11 with(at_builtin;refine wpList_append_own _ rfl (.tmp 31) (.tmp 53) 270 rfl (B+1) 273 i0 (.agg (i64s [0,0,0,0]).toArray) 4 32 Tryz.underlying270 HI.out HZ0.out HZ1.out HZ2.out rfl (by decide) u1 (8* (8*k+j)) (i64s (stepsK (8*k+j))) rfl (S4.own.alloc _) ⟨w4.heap.size,0,none⟩ 4 4 (i64s (half1 j X)) rfl rfl ?c1 ?c2 ?c3 ?c4 ?c5 ?_);case c1=>exact news_new w4 _ _ _ rfl
     case c2=>exact oneCell_mem _
     case c3=>unfold maxLen;omega
     case c4=>omega
     case c5=>simp;omega
     intro v5 w5 own5 hg5 _;have rows5:=Lib.hid (grown_keep hg5 (own_ge S4.own (by omega)) (heap_lt S4.rows));have hD5:=grown_keep hg5 (own_ne S4.own HD4.out (by decide)) (heap_lt HD4.out);have bel5:=Lib.hid ((S4.below.alloc (by omega) _).grown hg5 (by simp;omega) (fun q hq=>by have:=(S4.own.lt q hq).1;omega));have sz5:B+1≤w5.heap.size:=by have:=hg5.size;simp at this;omega
     have OWN5:=Lib.hid own5;clear own5 hg5 S4 c0 c1 c2 c3 HD4 hDl hB4;have c0:w5.cell? ⟨D,0,none⟩=some (.int .i64 (ca j:Int)):=by rw [cell_of_row w5 D 0 _ _ _ hD5];rfl
     have c1:w5.cell? ⟨D,1,none⟩=some (.int .i64 (cb j:Int)):=by rw [cell_of_row w5 D 1 _ _ _ hD5];rfl
     have c2:w5.cell? ⟨D,2,none⟩=some (.int .i64 (cc j:Int)):=by rw [cell_of_row w5 D 2 _ _ _ hD5];rfl
     have c3:w5.cell? ⟨D,3,none⟩=some (.int .i64 (cd j:Int)):=by rw [cell_of_row w5 D 3 _ _ _ hD5];rfl
     clear hD5;go_upto_region 7 with(at_builtin;refine wpList_append_own _ rfl (.tmp 55) (.tmp 77) 270 rfl (B+1) 273 i0 (.agg (i64s [0,0,0,0]).toArray) 4 32 Tryz.underlying270 HI.out HZ0.out HZ1.out HZ2.out rfl (by decide) v5 (8* (8*k+j)+4) _ rfl (OWN5.out.alloc _) ⟨w5.heap.size,0,none⟩ 4 4 (i64s (half2 j Y)) rfl rfl ?d1 ?d2 ?d3 ?d4 ?d5 ?_);case d1=>exact news_new w5 _ _ _ rfl
     case d2=>exact oneCell_mem _
     case d3=>unfold maxLen;omega
     case d4=>omega
     case d5=>simp;omega
     intro v6 w6 own6 hg6 _;have S6:StepSt B w (8*k+(j+1)) v6 w6:=by
      refine⟨(bel5.out.alloc (by omega) _).grown hg6 (by simp;omega) (fun q hq=>by have:=(OWN5.out.lt q hq).1;omega),grown_keep hg6 (own_ge OWN5.out (by omega)) (heap_lt rows5.out),?_⟩;rw [show 8*k+(j+1)=(8*k+j)+1 by omega,stepsK,eX.out,show 8* (8*k+j+1)=8* (8*k+j)+4+4 by omega,←i64s_append,←i64s_append];exact own6
     clear own6 hg6 bel5 OWN5 rows5 c0 c1 c2 c3 eX;go_wp2_with fail;go_roundw;case rel=>exact⟨j+1,by omega,by go_num,S6⟩
     case measure=>simp [intOf];omega
    ·have hd8:decide ((j:Int)<8)=false:=by simp;omega
     go_wp2_with fail;go_roundw;case rel=>exact⟨k+1,by omega,by go_num,by rw [show 8* (k+1)=8*k+j by omega];exact Si⟩
     case measure=>simp [intOf];omega
  ·have hd10:decide ((k:Int)<10)=false:=by simp;omega
   go_wp2_with fail;go_ret;obtain rfl:k=10:=by omega
   rw [HB.out];exact⟨_,rfl,S.below,S.own⟩
end Go.Proofs.YtnohcdpnnhmpfaaGreatDoor
