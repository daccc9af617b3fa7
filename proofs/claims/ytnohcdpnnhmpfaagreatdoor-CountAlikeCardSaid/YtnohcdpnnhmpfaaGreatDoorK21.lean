/-
  Chapter 13, for Pairs: (ballot.field).fits. Printed by tools/genfits.py.
  Chapter 13, for Pairs: does a choice fit? ballot.Fits and the reference's Fits. Printed by tools/genfit2.py.
  Chapter 13, for Pairs: rows of ints; count.filled and the reference's Filled. Printed by tools/genfill.py.
  Chapter 13: what is wrong with a contest and its ballots, in plain words. Printed by tools/genpp.py.
  Chapter 13: slices.Index and Contains of ints. Printed by tools/gensmith.py.
-/
import Derived.Test.YtnohcdpnnhmpfaaGreatDoorK20
import Derived.Deep.OwnRows
set_option linter.unusedVariables false
set_option linter.unusedSimpArgs false
set_option maxRecDepth 100000
set_option maxHeartbeats 4000000
namespace Go.Proofs.YtnohcdpnnhmpfaaGreatDoor
open Go.RowKit ML FM AU CT
def seenL(L:List Int)(n:Nat):List Value:=(List.range n).map fun v:Nat=>Value.bool (decide ((v:Int)∈L))
theorem seenL_nil(n:Nat):seenL [] n=List.replicate n (.bool false):=by
 unfold seenL;apply List.ext_getElem (by simp);intro i h1 h2;simp
theorem seenL_get(L:List Int)(n v:Nat)(h:v<n):(seenL L n)[v]?=some (.bool (decide ((v:Int)∈L))):=by
 unfold seenL;rw [List.getElem?_map,List.getElem?_range h];rfl
theorem seenL_snoc(L:List Int)(n v:Nat)(h:v<n):(seenL L n).set v (.bool true)=seenL (L++ [(v:Int)]) n:=by
 unfold seenL;apply List.ext_getElem (by simp);intro i h1 h2;rw [List.getElem_set];simp only [List.getElem_map,List.getElem_range];by_cases e:v=i;·subst e;simp
 ·rw [if_neg e];have:((i:Int)∈L++ [(v:Int)])↔((i:Int)∈L):=by
   simp only [List.mem_append,List.mem_singleton];constructor
   ·rintro(h|h);·exact h
    ·omega
   ·exact .inl
  simp only [this]
def posN(L:List Int):Nat:=(L.filter fun x=>decide (0<x)).length
theorem posN_snoc(L:List Int)(x:Int):posN (L++ [x])=posN L+if 0<x then 1 else 0:=by
 unfold posN;rw [List.filter_append,List.length_append];by_cases h:0<x<;>simp [h]
theorem posN_le(L:List Int):posN L≤L.length:=List.length_filter_le _ _
def okX(c:CTest)(L:List Int)(x:Int):Bool:=decide (0≤x∧x≤topI c)&& !(ranksB c.rl&&decide (0<x)&&decide (x∈L))
def okL(c:CTest):List Int→List Int→Bool
 |_,[]=>true
 |L,x::r=>okX c L x&&okL c (L++ [x]) r
def gapL(b:List Int)(m:Nat):Bool:=(List.range m).all fun k:Nat=>decide (((k+1:Nat):Int)∈b)
def fitsB(c:CTest)(b:List Int):Bool:=okL c [] b&&(!ranksB c.rl||gapL b (posN b))&&(decide (c.rl≠1)||decide ((posN b:Int)≤c.mo))
theorem okL_step(c:CTest)(b:List Int)(k:Nat)(h:k<b.length):okL c (b.take k) (b.drop k)=(okX c (b.take k) b[k]&&okL c (b.take (k+1)) (b.drop (k+1))):=by
 rw [List.drop_eq_getElem_cons h,List.take_succ_eq_append_getElem h];rfl
theorem topI_nat(c:CTest): ∃t:Nat,topI c=t∧(t=c.op.length∨t=1):=by
 unfold topI;split;·exact⟨_,rfl,.inl rfl⟩
 ·exact⟨1,rfl,.inr rfl⟩
theorem gapL_succ(b:List Int)(n:Nat):gapL b (n+1)=(gapL b n&&decide (((n+1:Nat):Int)∈b)):=by
 simp [gapL,List.range_succ,List.all_append]
theorem gapL_no(b:List Int)(n m:Nat)(h:n<m)(hb:((n+1:Nat):Int)∉b):gapL b m=false:=by
 rw [←Bool.not_eq_true];intro h2;unfold gapL at h2;rw [List.all_eq_true]at h2;exact hb (of_decide_eq_true (h2 n (List.mem_range.2 h)))
theorem info_bool:(Tryz.prog.info? 4).map (fun i=>(i.zero,i.size,i.bytes))=some (some (.bool false),1,1):=by kernel_rfl
theorem fits_any(c:CTest)(b:List Int)(oa:Option Addr)(cap:Nat)(ob:Option Addr)(cb:Nat)(w:World)(hb:IsAt w ob b)(hn:c.op.length≤12)(hbl:b.length=c.op.length):
 Calls Tryz.prog 116 #[.agg #[.string ⟨c.nm.toArray⟩,.slice oa c.op.length cap,.int .i64 c.rl,.int .i64 c.se,.int .i64 c.mo,.int .i64 0],.slice ob b.length cb] w fun e w'=>e=.returned (.bool (fitsB c b))∧Below w.heap.size w w':=by
 have QT:=Lib.hid (fun w=>top_any c oa cap w);have QR:=Lib.hid (fun w=>ranks_any c oa cap w);obtain⟨t,ht,htn⟩:=topI_nat c;have HTL:=Lib.hid (show ranksB c.rl=true→t=b.length from fun h=>by unfold topI at ht;rw [if_pos h]at ht;omega);rw [ht]at QT;have HTI:=Lib.hid ht;have hb12:b.length≤12:=by omega
 clear hbl;have ht12:t≤12:=by omega
 have HIB:=Lib.hid hb;have HFB:=Lib.hid (show fitsB c b=(okL c [] b&&(!ranksB c.rl||gapL b (posN b))&&(decide (c.rl≠1)||decide ((posN b:Int)≤c.mo)))from rfl);obtain⟨i0,hi,hz0,hz1,hz2⟩:=info_parts info_bool;have HI:=Lib.hid hi;have HZ0:=Lib.hid hz0;have HZ1:=Lib.hid hz1;have HZ2:=Lib.hid hz2;clear hi hz0 hz1 hz2 hb ht htn;generalize hrk:ranksB c.rl=rk at*;have HRK:=Lib.hid hrk;clear hrk;go_enter Tryz.func116,Tryz.ntmps116;go_upto_region 1 with(fail);generalize hB:w.heap.size=B at*;refine wp_abs (fun w1=>Below B w w1∧w1.heap[B]?=some (.cells #[.string ⟨c.nm.toArray⟩,.slice oa c.op.length cap,.int .i64 c.rl,.int .i64 c.se,.int .i64 c.mo,.int .i64 0] 161 (0,0))) ⟨by rw [←hB];exact(Below.refl _ _).alloc (Nat.le_refl _) _,by rw [←hB];exact heap_at rfl⟩ (fun w1 hw1=>?_);have HB:=Lib.hid hB;have B1:=Lib.hid hw1.1;have X1:=Lib.hid hw1.2;have hBs:B<w1.heap.size:=lt_of_heap hw1.2;clear hB hw1;have htz:(t:Int)+1<9223372036854775808:=by omega
 obtain⟨T1,hT1⟩: ∃T1:Nat,(t:Int)+1=(T1:Int):=⟨t+1,by omega⟩;have hT12:T1≤13:=by omega
 have HTT:=Lib.hid (show T1=t+1 by omega);go_upto_region 2 with(first
  |(refine wpList_load_whole rfl 161 _ rfl B _ _ _ _ rfl X1.out Tryz.underlying161 rfl size_field ?_)
  |(go_at_call 168;refine(QT.out w1).mono ?_;rintro e w2 ⟨rfl,b2⟩)
  |(refine wpList_make_row _ rfl _ _ 39 rfl 4 i0 (.bool false) Tryz.underlying39 HI.out HZ0.out HZ1.out rfl .i64 .i64 T1 rfl rfl (by rw [HZ2.out];omega) (by omega) ?_))
 clear hT1;have hs2:=b2.size;have hF0:(w2.alloc (.cells (madeCells #[Value.bool false] T1) 4)).heap[w2.heap.size]?=some (.cells (seenL [] T1).toArray 4 (0,0)):=by
  have e:madeCells #[Value.bool false] T1=(seenL [] T1).toArray:=by
   rw [seenL_nil,←toList_madeCells_one]
  rw [e];exact heap_at rfl
 have bF:Below B w (w2.alloc (.cells (madeCells #[Value.bool false] T1) 4)):=B1.out.trans ((b2.trans ((Below.refl _ _).alloc hs2 _)).mono (Nat.le_of_lt hBs));have xF:(w2.alloc (.cells (madeCells #[Value.bool false] T1) 4)).heap[B]?=some (.cells #[.string ⟨c.nm.toArray⟩,.slice oa c.op.length cap,.int .i64 c.rl,.int .i64 c.se,.int .i64 c.mo,.int .i64 0] 161 (0,0)):=heap_lt (bel_keep b2 hBs X1.out);have hBF:B<w2.heap.size:=by omega
 generalize hF:w2.heap.size=F at*;refine wp_abs (fun w3=>Below B w w3∧w3.heap[B]?=some (.cells #[.string ⟨c.nm.toArray⟩,.slice oa c.op.length cap,.int .i64 c.rl,.int .i64 c.se,.int .i64 c.mo,.int .i64 0] 161 (0,0))∧w3.heap[F]?=some (.cells (seenL [] T1).toArray 4 (0,0))) ⟨bF,xF,hF0⟩ (fun w3 hw3=>?_);have H3:=Lib.hid hw3;clear hw3 bF xF hF0 hF hs2 b2 hBs X1 B1
 as_aux_lemma=>
 go_wp2_with fail;go_loopw [16,6] (fun i v wr=> ∃k m:Nat,k≤b.length∧m≤k∧i=.int .i64 k∧v=.int .i64 m∧m=posN (b.take k)∧okL c [] b=okL c (b.take k) (b.drop k)∧Below B w wr∧wr.heap[B]?=some (.cells #[.string ⟨c.nm.toArray⟩,.slice oa c.op.length cap,.int .i64 c.rl,.int .i64 c.se,.int .i64 c.mo,.int .i64 0] 161 (0,0))∧wr.heap[F]?=some (.cells (seenL (b.take k) T1).toArray 4 (0,0))) (fun i _ _=>b.length-(intOf i).toNat);case atStart=>exact⟨0,0,by omega,by omega,rfl,rfl,rfl,rfl,H3.out.1,H3.out.2.1,H3.out.2.2⟩
 case round=>
 clear H3;obtain⟨k,m,hk,hmk,rfl,rfl,hm,hok,hbel,hx,hf⟩:=hrel;have HM:=Lib.hid hm;have HOK:=Lib.hid hok;have BB:=Lib.hid hbel;have XX:=Lib.hid hx;have FF:=Lib.hid hf;clear hm hok hbel hx hf;by_cases hlt:k<b.length
 ·as_aux_lemma=>
  have dk:decide ((k:Int)<(b.length:Int))=true:=decide_eq_true (by omega);have dk2:decide (k<b.length)=true:=decide_eq_true hlt;have hki:(k:Int)<(b.length:Int):=by omega
  obtain⟨q,hoa,hqb,hqc⟩:=(HIB.out.below (HB.out.symm▸BB.out)).cells k hlt;subst hoa;have HST:=Lib.hid (HOK.out.trans (okL_step c b k hlt));have HTK:=Lib.hid (show b.take (k+1)=b.take k++ [b[k]]from List.take_succ_eq_append_getElem hlt);have HPN:=Lib.hid (show posN (b.take (k+1))=m+if 0<b[k]then 1 else 0 by rw [HTK.out,posN_snoc,←HM.out]);have HOX:=Lib.hid (show okX c (b.take k) b[k]=(decide (0≤b[k]∧b[k]≤topI c)&& !(ranksB c.rl&&decide (0<b[k])&&decide (b[k]∈b.take k)))from rfl);rw [HTI.out,HRK.out]at HOX;generalize b[k]=x at*;have hBr:B<wr.heap.size:=lt_of_heap XX.out;have hFr:F<wr.heap.size:=lt_of_heap FF.out;by_cases hx0:x<0
  ·have d0:decide (x<0)=true:=decide_eq_true hx0;have HE:=Lib.hid (show fitsB c b=false by rw [HFB.out,HST.out,HOX.out,decide_eq_false (by omega)];rfl);clear hx0;go_wp2_with fail;go_ret;exact⟨by rw [HE.out];rfl,by rw [HB.out];exact BB.out⟩
  ·obtain⟨v,rfl⟩: ∃v:Nat,x=v:=⟨x.toNat,by omega⟩;have d0:decide ((v:Int)<0)=false:=decide_eq_false hx0;by_cases hvt:t<v
   ·have d1:decide ((t:Int)<(v:Int))=true:=decide_eq_true (by omega);have d1':decide (t<v)=true:=decide_eq_true hvt;have HE:=Lib.hid (show fitsB c b=false by rw [HFB.out,HST.out,HOX.out,decide_eq_false (by omega)];rfl);clear hx0 hvt;go_wp2_with (first
     |go_big_skip
     |((with_reducible refine at_load 161 ?_);refine wpList_load_g ?_ 161 (.tmp 2) ?_ B _ _ _ _ ?_ XX.out Tryz.underlying161 ?_ size_field ?_;rfl;rfl;rfl;rfl)
     |(go_at_call 168;refine(QT.out wr).mono ?_;rintro e w5 ⟨rfl,b5⟩;dsimp only))
    go_ret;exact⟨by rw [HE.out];rfl,by rw [HB.out];exact BB.out.trans (b5.mono (Nat.le_of_lt hBr))⟩
   ·have d1:decide ((t:Int)<(v:Int))=false:=decide_eq_false (by omega);have d1':decide (t<v)=false:=decide_eq_false hvt;have hvT:v<T1:=by have:=HTT.out;omega
    have hvi:(v:Int)<(T1:Int):=by omega
    have HOX2:=Lib.hid (show okX c (b.take k) v= !(rk&&decide (0<(v:Int))&&decide ((v:Int)∈b.take k))by rw [HOX.out,decide_eq_true (by omega)];rfl);have HKF0:wr.cell? ⟨F,v,none⟩=some (.bool (decide ((v:Int)∈b.take k))):=by rw [cell_of_row _ _ _ _ _ _ FF.out,List.getElem?_toArray];exact seenL_get _ _ _ hvT
    generalize hsv:decide ((v:Int)∈b.take k)=sv at*;have HKF:=Lib.hid HKF0;clear hx0 hvt HKF0 hsv HOX;by_cases hv0:0<v
    ·have d2:decide ((0:Int)<(v:Int))=true:=decide_eq_true (by omega);have d2':decide (0<v)=true:=decide_eq_true hv0;rw [d2]at HOX2;cases rk with
     |
      false=>
      have HOK2:=Lib.hid (show okL c [] b=okL c (b.take (k+1)) (b.drop (k+1))by rw [HST.out,HOX2.out];rfl);clear HOX2;go_upto_region 9 with(first
       |go_big_skip
       |((with_reducible refine at_load 161 ?_);refine wpList_load_g ?_ 161 (.tmp 2) ?_ B _ _ _ _ ?_ X5.out Tryz.underlying161 ?_ size_field ?_;rfl;rfl;rfl;rfl)
       |((with_reducible refine at_load 161 ?_);refine wpList_load_g ?_ 161 (.tmp 2) ?_ B _ _ _ _ ?_ XX.out Tryz.underlying161 ?_ size_field ?_;rfl;rfl;rfl;rfl)
       |(go_at_call 168;refine(QT.out wr).mono ?_;rintro e w5 ⟨rfl,b5⟩;dsimp only;have X5:=Lib.hid (bel_keep b5 hBr XX.out);have B5:=Lib.hid b5;clear b5)
       |(go_at_call 169;refine(QR.out w5).mono ?_;rintro e w6 ⟨rfl,b6⟩;dsimp only;have B6:=Lib.hid (B5.out.trans (b6.mono B5.out.size));clear b6;have kF:=(B6.out.cell (p:=⟨F,v,none⟩) hFr).trans HKF.out;have fF:w6.frozen? ⟨F,v,none⟩=false:=frozen_of_row _ _ _ _ _ (bel_keep B6.out hFr FF.out)))
      have hs6:=B6.out.size;refine wp_abs (fun w7=>Below B w w7∧w7.heap[B]?=some (.cells #[.string ⟨c.nm.toArray⟩,.slice oa c.op.length cap,.int .i64 c.rl,.int .i64 c.se,.int .i64 c.mo,.int .i64 0] 161 (0,0))∧w7.heap[F]?=some (.cells (seenL (b.take (k+1)) T1).toArray 4 (0,0))) ⟨(BB.out.trans (B6.out.mono (Nat.le_of_lt hBr))).setCell (Nat.le_of_lt hBF) _,(heap_setCell_other _ _ _ _ (by simp;omega)).trans (bel_keep B6.out hBr XX.out),by rw [heap_setCell_same _ _ _ _ _ _ (bel_keep B6.out hFr FF.out)];rw [List.setIfInBounds_toArray,seenL_snoc _ _ _ hvT,HTK.out]⟩ (fun w7 hw7=>?_);have H7:=Lib.hid hw7;clear hw7 kF fF;have HPM:=Lib.hid (show m+1=posN (b.take (k+1))by rw [HPN.out,if_pos (by omega)]);go_wp2_with fail;go_roundw;case rel=>exact⟨k+1,m+1,by omega,by omega,by go_num,by go_num,HPM.out,HOK2.out,H7.out.1,H7.out.2.1,H7.out.2.2⟩
      case measure=>simp [intOf];omega
     |
      true=>
      cases sv with
      |
       false=>
       have HOK2:=Lib.hid (show okL c [] b=okL c (b.take (k+1)) (b.drop (k+1))by rw [HST.out,HOX2.out];rfl);clear HOX2;go_upto_region 9 with(first
        |go_big_skip
        |((with_reducible refine at_load 161 ?_);refine wpList_load_g ?_ 161 (.tmp 2) ?_ B _ _ _ _ ?_ X5.out Tryz.underlying161 ?_ size_field ?_;rfl;rfl;rfl;rfl)
        |((with_reducible refine at_load 161 ?_);refine wpList_load_g ?_ 161 (.tmp 2) ?_ B _ _ _ _ ?_ XX.out Tryz.underlying161 ?_ size_field ?_;rfl;rfl;rfl;rfl)
        |(go_at_call 168;refine(QT.out wr).mono ?_;rintro e w5 ⟨rfl,b5⟩;dsimp only;have X5:=Lib.hid (bel_keep b5 hBr XX.out);have B5:=Lib.hid b5;clear b5)
        |(go_at_call 169;refine(QR.out w5).mono ?_;rintro e w6 ⟨rfl,b6⟩;dsimp only;have B6:=Lib.hid (B5.out.trans (b6.mono B5.out.size));clear b6;have kF:=(B6.out.cell (p:=⟨F,v,none⟩) hFr).trans HKF.out;have fF:w6.frozen? ⟨F,v,none⟩=false:=frozen_of_row _ _ _ _ _ (bel_keep B6.out hFr FF.out)))
       have hs6:=B6.out.size;refine wp_abs (fun w7=>Below B w w7∧w7.heap[B]?=some (.cells #[.string ⟨c.nm.toArray⟩,.slice oa c.op.length cap,.int .i64 c.rl,.int .i64 c.se,.int .i64 c.mo,.int .i64 0] 161 (0,0))∧w7.heap[F]?=some (.cells (seenL (b.take (k+1)) T1).toArray 4 (0,0))) ⟨(BB.out.trans (B6.out.mono (Nat.le_of_lt hBr))).setCell (Nat.le_of_lt hBF) _,(heap_setCell_other _ _ _ _ (by simp;omega)).trans (bel_keep B6.out hBr XX.out),by rw [heap_setCell_same _ _ _ _ _ _ (bel_keep B6.out hFr FF.out)];rw [List.setIfInBounds_toArray,seenL_snoc _ _ _ hvT,HTK.out]⟩ (fun w7 hw7=>?_);have H7:=Lib.hid hw7;clear hw7 kF fF;have HPM:=Lib.hid (show m+1=posN (b.take (k+1))by rw [HPN.out,if_pos (by omega)]);go_wp2_with fail;go_roundw;case rel=>exact⟨k+1,m+1,by omega,by omega,by go_num,by go_num,HPM.out,HOK2.out,H7.out.1,H7.out.2.1,H7.out.2.2⟩
       case measure=>simp [intOf];omega
      |
       true=>
       have HE:=Lib.hid (show fitsB c b=false by rw [HFB.out,HST.out,HOX2.out];rfl);clear HOX2;go_wp2_with (first
        |go_big_skip
        |((with_reducible refine at_load 161 ?_);refine wpList_load_g ?_ 161 (.tmp 2) ?_ B _ _ _ _ ?_ X5.out Tryz.underlying161 ?_ size_field ?_;rfl;rfl;rfl;rfl)
        |((with_reducible refine at_load 161 ?_);refine wpList_load_g ?_ 161 (.tmp 2) ?_ B _ _ _ _ ?_ XX.out Tryz.underlying161 ?_ size_field ?_;rfl;rfl;rfl;rfl)
        |(go_at_call 168;refine(QT.out wr).mono ?_;rintro e w5 ⟨rfl,b5⟩;dsimp only;have X5:=Lib.hid (bel_keep b5 hBr XX.out);have B5:=Lib.hid b5;clear b5)
        |(go_at_call 169;refine(QR.out w5).mono ?_;rintro e w6 ⟨rfl,b6⟩;dsimp only;have B6:=Lib.hid (B5.out.trans (b6.mono B5.out.size));clear b6;have kF:=(B6.out.cell (p:=⟨F,v,none⟩) hFr).trans HKF.out;have fF:w6.frozen? ⟨F,v,none⟩=false:=frozen_of_row _ _ _ _ _ (bel_keep B6.out hFr FF.out)))
       go_ret;exact⟨by rw [HE.out];rfl,by rw [HB.out];exact BB.out.trans (B6.out.mono (Nat.le_of_lt hBr))⟩
    ·have d2:decide ((0:Int)<(v:Int))=false:=decide_eq_false (by omega);have d2':decide (0<v)=false:=decide_eq_false hv0;rw [d2]at HOX2;have HOK2:=Lib.hid (show okL c [] b=okL c (b.take (k+1)) (b.drop (k+1))by rw [HST.out,HOX2.out];cases rk<;>rfl);clear HOX2;cases rk with
     |
      false=>
      go_upto_region 9 with(first
       |go_big_skip
       |((with_reducible refine at_load 161 ?_);refine wpList_load_g ?_ 161 (.tmp 2) ?_ B _ _ _ _ ?_ X5.out Tryz.underlying161 ?_ size_field ?_;rfl;rfl;rfl;rfl)
       |((with_reducible refine at_load 161 ?_);refine wpList_load_g ?_ 161 (.tmp 2) ?_ B _ _ _ _ ?_ XX.out Tryz.underlying161 ?_ size_field ?_;rfl;rfl;rfl;rfl)
       |(go_at_call 168;refine(QT.out wr).mono ?_;rintro e w5 ⟨rfl,b5⟩;dsimp only;have X5:=Lib.hid (bel_keep b5 hBr XX.out);have B5:=Lib.hid b5;clear b5)
       |(go_at_call 169;refine(QR.out w5).mono ?_;rintro e w6 ⟨rfl,b6⟩;dsimp only;have B6:=Lib.hid (B5.out.trans (b6.mono B5.out.size));clear b6;have kF:=(B6.out.cell (p:=⟨F,v,none⟩) hFr).trans HKF.out;have fF:w6.frozen? ⟨F,v,none⟩=false:=frozen_of_row _ _ _ _ _ (bel_keep B6.out hFr FF.out)))
      have hs6:=B6.out.size;refine wp_abs (fun w7=>Below B w w7∧w7.heap[B]?=some (.cells #[.string ⟨c.nm.toArray⟩,.slice oa c.op.length cap,.int .i64 c.rl,.int .i64 c.se,.int .i64 c.mo,.int .i64 0] 161 (0,0))∧w7.heap[F]?=some (.cells (seenL (b.take (k+1)) T1).toArray 4 (0,0))) ⟨(BB.out.trans (B6.out.mono (Nat.le_of_lt hBr))).setCell (Nat.le_of_lt hBF) _,(heap_setCell_other _ _ _ _ (by simp;omega)).trans (bel_keep B6.out hBr XX.out),by rw [heap_setCell_same _ _ _ _ _ _ (bel_keep B6.out hFr FF.out)];rw [List.setIfInBounds_toArray,seenL_snoc _ _ _ hvT,HTK.out]⟩ (fun w7 hw7=>?_);have H7:=Lib.hid hw7;clear hw7 kF fF;have HPM:=Lib.hid (show m=posN (b.take (k+1))by rw [HPN.out,if_neg (by omega)];rfl);go_wp2_with fail;go_roundw;case rel=>exact⟨k+1,m,by omega,by omega,by go_num,rfl,HPM.out,HOK2.out,H7.out.1,H7.out.2.1,H7.out.2.2⟩
      case measure=>simp [intOf];omega
     |
      true=>
      go_upto_region 9 with(first
       |go_big_skip
       |((with_reducible refine at_load 161 ?_);refine wpList_load_g ?_ 161 (.tmp 2) ?_ B _ _ _ _ ?_ X5.out Tryz.underlying161 ?_ size_field ?_;rfl;rfl;rfl;rfl)
       |((with_reducible refine at_load 161 ?_);refine wpList_load_g ?_ 161 (.tmp 2) ?_ B _ _ _ _ ?_ XX.out Tryz.underlying161 ?_ size_field ?_;rfl;rfl;rfl;rfl)
       |(go_at_call 168;refine(QT.out wr).mono ?_;rintro e w5 ⟨rfl,b5⟩;dsimp only;have X5:=Lib.hid (bel_keep b5 hBr XX.out);have B5:=Lib.hid b5;clear b5)
       |(go_at_call 169;refine(QR.out w5).mono ?_;rintro e w6 ⟨rfl,b6⟩;dsimp only;have B6:=Lib.hid (B5.out.trans (b6.mono B5.out.size));clear b6;have kF:=(B6.out.cell (p:=⟨F,v,none⟩) hFr).trans HKF.out;have fF:w6.frozen? ⟨F,v,none⟩=false:=frozen_of_row _ _ _ _ _ (bel_keep B6.out hFr FF.out)))
      have hs6:=B6.out.size;refine wp_abs (fun w7=>Below B w w7∧w7.heap[B]?=some (.cells #[.string ⟨c.nm.toArray⟩,.slice oa c.op.length cap,.int .i64 c.rl,.int .i64 c.se,.int .i64 c.mo,.int .i64 0] 161 (0,0))∧w7.heap[F]?=some (.cells (seenL (b.take (k+1)) T1).toArray 4 (0,0))) ⟨(BB.out.trans (B6.out.mono (Nat.le_of_lt hBr))).setCell (Nat.le_of_lt hBF) _,(heap_setCell_other _ _ _ _ (by simp;omega)).trans (bel_keep B6.out hBr XX.out),by rw [heap_setCell_same _ _ _ _ _ _ (bel_keep B6.out hFr FF.out)];rw [List.setIfInBounds_toArray,seenL_snoc _ _ _ hvT,HTK.out]⟩ (fun w7 hw7=>?_);have H7:=Lib.hid hw7;clear hw7 kF fF;have HPM:=Lib.hid (show m=posN (b.take (k+1))by rw [HPN.out,if_neg (by omega)];rfl);go_wp2_with fail;go_roundw;case rel=>exact⟨k+1,m,by omega,by omega,by go_num,rfl,HPM.out,HOK2.out,H7.out.1,H7.out.2.1,H7.out.2.2⟩
      case measure=>simp [intOf];omega
 ·have dk:decide ((k:Int)<(b.length:Int))=false:=decide_eq_false (by omega);have dk2:decide (k<b.length)=false:=decide_eq_false hlt;obtain rfl:k=b.length:=by omega
  rw [List.take_length]at HM FF;rw [List.take_length,List.drop_length]at HOK;have HFB2:=Lib.hid (show fitsB c b=((!rk||gapL b m)&&(decide (c.rl≠1)||decide ((m:Int)≤c.mo)))by rw [HFB.out,HOK.out,show okL c b []=true from rfl,Bool.true_and,←HM.out]);clear HFB HOK
  as_aux_lemma=>
  go_wp2_with fail;go_loopw [9] (fun i wr=> ∃n:Nat,n≤m∧i=.int .i64 ((n:Int)+1)∧gapL b n=true∧(rk=false→n=0)∧Below B w wr∧wr.heap[B]?=some (.cells #[.string ⟨c.nm.toArray⟩,.slice oa c.op.length cap,.int .i64 c.rl,.int .i64 c.se,.int .i64 c.mo,.int .i64 0] 161 (0,0))∧wr.heap[F]?=some (.cells (seenL b T1).toArray 4 (0,0))) (fun i _=>m+2-(intOf i).toNat);case atStart=>exact⟨0,Nat.zero_le _,rfl,rfl,fun _=>rfl,BB.out,XX.out,FF.out⟩
  case round=>
  clear BB XX FF;obtain⟨n,hn2,rfl,hg,hz,hb2,hx2,hf2⟩:=hrel;have HG:=Lib.hid hg;have B2:=Lib.hid hb2;have X2:=Lib.hid hx2;have F2:=Lib.hid hf2;have HZ:=Lib.hid hz;have hBr:B<wr.heap.size:=lt_of_heap hx2;have hFr:F<wr.heap.size:=lt_of_heap hf2;clear hg hb2 hx2 hf2 hz;cases rk with
  |
   false=>
   have HFB3:=Lib.hid (show fitsB c b=(decide (c.rl≠1)||decide ((m:Int)≤c.mo))by rw [HFB2.out];rfl);by_cases hr1:c.rl=1
   ·have e1:(c.rl !=1)=false:=by rw [hr1];rfl
    have HE:=Lib.hid (show fitsB c b=decide ((m:Int)≤c.mo)by rw [HFB3.out,decide_eq_false (by simp [hr1])];rfl);clear hr1;go_wp2_with (first
     |go_big_skip
     |((with_reducible refine at_load 161 ?_);refine wpList_load_g ?_ 161 (.tmp 2) ?_ B _ _ _ _ ?_ X2.out Tryz.underlying161 ?_ size_field ?_;rfl;rfl;rfl;rfl)
     |(go_at_call 169;refine(QR.out wr).mono ?_;rintro e w6 ⟨rfl,b6⟩;dsimp only;have B6:=Lib.hid (B2.out.trans (b6.mono (Nat.le_of_lt hBr)));have X6:=Lib.hid (bel_keep b6 hBr X2.out);have F6:=Lib.hid (bel_keep b6 hFr F2.out);clear b6;have k2:w6.cell? ⟨B,2,none⟩=some (.int .i64 c.rl):=cell_of_row _ _ _ _ _ _ X6.out;have k4:w6.cell? ⟨B,4,none⟩=some (.int .i64 c.mo):=cell_of_row _ _ _ _ _ _ X6.out))
    go_ret;exact⟨by rw [HE.out];rfl,by rw [HB.out];exact B6.out⟩
   ·have e1:(c.rl !=1)=true:=by rw [bne_iff_ne];exact hr1
    have HE:=Lib.hid (show fitsB c b=true by rw [HFB3.out,decide_eq_true hr1];rfl);clear hr1;go_wp2_with (first
     |go_big_skip
     |((with_reducible refine at_load 161 ?_);refine wpList_load_g ?_ 161 (.tmp 2) ?_ B _ _ _ _ ?_ X2.out Tryz.underlying161 ?_ size_field ?_;rfl;rfl;rfl;rfl)
     |(go_at_call 169;refine(QR.out wr).mono ?_;rintro e w6 ⟨rfl,b6⟩;dsimp only;have B6:=Lib.hid (B2.out.trans (b6.mono (Nat.le_of_lt hBr)));have X6:=Lib.hid (bel_keep b6 hBr X2.out);have F6:=Lib.hid (bel_keep b6 hFr F2.out);clear b6;have k2:w6.cell? ⟨B,2,none⟩=some (.int .i64 c.rl):=cell_of_row _ _ _ _ _ _ X6.out;have k4:w6.cell? ⟨B,4,none⟩=some (.int .i64 c.mo):=cell_of_row _ _ _ _ _ _ X6.out))
    go_ret;exact⟨by rw [HE.out];rfl,by rw [HB.out];exact B6.out⟩
  |
   true=>
   by_cases hnm:n<m
   ·have d1:decide ((n:Int)+1≤(m:Int))=true:=decide_eq_true (by omega);have d1':decide (n<m)=true:=decide_eq_true hnm;have hT:=HTT.out;have htb:=HTL.out rfl;have hnT:n+1<T1:=by omega
    have hni:(n:Int)+1<(T1:Int):=by omega
    have HKF0:(seenL b T1).toArray[n+1]?=some (.bool (decide (((n+1:Nat):Int)∈b))):=by rw [List.getElem?_toArray];exact seenL_get _ _ _ hnT
    have HGS:=Lib.hid (gapL_succ b n);have HGN:=Lib.hid (gapL_no b n m hnm);generalize hsv:decide (((n+1:Nat):Int)∈b)=sv at*;have HKF:=Lib.hid HKF0;clear HKF0 hT htb;cases sv with
    |
     true=>
     have HG2:=Lib.hid (show gapL b (n+1)=true by rw [HGS.out,HG.out];rfl);clear hsv HGS HGN;go_wp2_with (first
      |go_big_skip
      |((with_reducible refine at_load 161 ?_);refine wpList_load_g ?_ 161 (.tmp 2) ?_ B _ _ _ _ ?_ X2.out Tryz.underlying161 ?_ size_field ?_;rfl;rfl;rfl;rfl)
      |(go_at_call 169;refine(QR.out wr).mono ?_;rintro e w6 ⟨rfl,b6⟩;dsimp only;have B6:=Lib.hid (B2.out.trans (b6.mono (Nat.le_of_lt hBr)));have X6:=Lib.hid (bel_keep b6 hBr X2.out);have F6:=Lib.hid (bel_keep b6 hFr F2.out);clear b6;have kF:w6.cell? ⟨F,n+1,none⟩=some (.bool true):=(cell_of_row _ _ _ _ _ _ F6.out).trans HKF.out))
     go_roundw;case rel=>exact⟨n+1,by omega,by go_num,HG2.out,(fun h=>by cases h),B6.out,X6.out,F6.out⟩
     case measure=>simp [intOf];omega
    |
     false=>
     have HE:=Lib.hid (show fitsB c b=false by rw [HFB2.out,HGN.out (of_decide_eq_false hsv)];rfl);clear hsv HGS HGN;go_wp2_with (first
      |go_big_skip
      |((with_reducible refine at_load 161 ?_);refine wpList_load_g ?_ 161 (.tmp 2) ?_ B _ _ _ _ ?_ X2.out Tryz.underlying161 ?_ size_field ?_;rfl;rfl;rfl;rfl)
      |(go_at_call 169;refine(QR.out wr).mono ?_;rintro e w6 ⟨rfl,b6⟩;dsimp only;have B6:=Lib.hid (B2.out.trans (b6.mono (Nat.le_of_lt hBr)));have X6:=Lib.hid (bel_keep b6 hBr X2.out);have F6:=Lib.hid (bel_keep b6 hFr F2.out);clear b6;have kF:w6.cell? ⟨F,n+1,none⟩=some (.bool false):=(cell_of_row _ _ _ _ _ _ F6.out).trans HKF.out))
     go_ret;exact⟨by rw [HE.out];rfl,by rw [HB.out];exact B6.out⟩
   ·have d1:decide ((n:Int)+1≤(m:Int))=false:=decide_eq_false (by omega);have d1':decide (n<m)=false:=decide_eq_false hnm;have hnm2:n=m:=by omega
    have HFB3:=Lib.hid (show fitsB c b=(decide (c.rl≠1)||decide ((m:Int)≤c.mo))by rw [HFB2.out,←hnm2,HG.out];rfl);clear hnm2 hnm;by_cases hr1:c.rl=1
    ·have e1:(c.rl !=1)=false:=by rw [hr1];rfl
     have HE:=Lib.hid (show fitsB c b=decide ((m:Int)≤c.mo)by rw [HFB3.out,decide_eq_false (by simp [hr1])];rfl);clear hr1;go_wp2_with (first
      |go_big_skip
      |((with_reducible refine at_load 161 ?_);refine wpList_load_g ?_ 161 (.tmp 2) ?_ B _ _ _ _ ?_ X2.out Tryz.underlying161 ?_ size_field ?_;rfl;rfl;rfl;rfl)
      |(go_at_call 169;refine(QR.out wr).mono ?_;rintro e w6 ⟨rfl,b6⟩;dsimp only;have B6:=Lib.hid (B2.out.trans (b6.mono (Nat.le_of_lt hBr)));have X6:=Lib.hid (bel_keep b6 hBr X2.out);have F6:=Lib.hid (bel_keep b6 hFr F2.out);clear b6;have k2:w6.cell? ⟨B,2,none⟩=some (.int .i64 c.rl):=cell_of_row _ _ _ _ _ _ X6.out;have k4:w6.cell? ⟨B,4,none⟩=some (.int .i64 c.mo):=cell_of_row _ _ _ _ _ _ X6.out))
     go_ret;exact⟨by rw [HE.out];rfl,by rw [HB.out];exact B6.out⟩
    ·have e1:(c.rl !=1)=true:=by rw [bne_iff_ne];exact hr1
     have HE:=Lib.hid (show fitsB c b=true by rw [HFB3.out,decide_eq_true hr1];rfl);clear hr1;go_wp2_with (first
      |go_big_skip
      |((with_reducible refine at_load 161 ?_);refine wpList_load_g ?_ 161 (.tmp 2) ?_ B _ _ _ _ ?_ X2.out Tryz.underlying161 ?_ size_field ?_;rfl;rfl;rfl;rfl)
      |(go_at_call 169;refine(QR.out wr).mono ?_;rintro e w6 ⟨rfl,b6⟩;dsimp only;have B6:=Lib.hid (B2.out.trans (b6.mono (Nat.le_of_lt hBr)));have X6:=Lib.hid (bel_keep b6 hBr X2.out);have F6:=Lib.hid (bel_keep b6 hFr F2.out);clear b6;have k2:w6.cell? ⟨B,2,none⟩=some (.int .i64 c.rl):=cell_of_row _ _ _ _ _ _ X6.out;have k4:w6.cell? ⟨B,4,none⟩=some (.int .i64 c.mo):=cell_of_row _ _ _ _ _ _ X6.out))
     go_ret;exact⟨by rw [HE.out];rfl,by rw [HB.out];exact B6.out⟩
def iotaP(m:Nat):List Int:=(List.range m).map fun k:Nat=>((k+1:Nat):Int)
def posL(b:List Int):List Int:=b.filter fun x=>decide (0<x)
def onceL(b:List Int)(m:Nat):Bool:=(List.range m).all fun k:Nat=>decide (cntI b ((k+1:Nat):Int)=1)
def rangeL(c:CTest)(b:List Int):Bool:=b.all fun x=>decide (0≤x∧x≤topI c)
def refFitsB(c:CTest)(b:List Int):Bool:=rangeL c b&&if ranksB c.rl=true then onceL b (b.length-cntI b 0)else(decide (c.rl≠1)||decide (((b.length-cntI b 0:Nat):Int)≤c.mo))
theorem wpList_build {P:Program}{ops:Array Oper}{rest:List Oper}{o:Oper}{a:Act}{w:World}{Q:Exit→Act→World→Prop}(hw:Region.wanted o (yielded ops a.tmps)=true)(t:TypeId)(parts:Array (Nat×Operand))(ho:o.op=.build t parts)(l:List (Nat×Value))(hp:(parts.map fun(i,x)=>(i,a.eval x)).toList=l)(cells:Array Value)(hf:P.built t l=some cells)
 (h:wpList P ops Q rest (a.put o.dst (.agg cells)) w):wpList P ops Q (o::rest) a w:=
 wpList_step fun K hK=>by
  rw [if_pos hw];have hr:=run_build (P:=P) w t (parts.map fun(i,x)=>(i,a.eval x)) cells (by rw [hp];exact hf);unfold Oper.wp execOp;simp only [ho,Sem.run_bind,hr,Result.andThen_ok];exact hK _ _ h
def fitE(c:CTest)(b:List Int):Int:=if b.length≠c.op.length then 2 else if fitsB c b=true then 0 else 4
theorem balFits_any(c:CTest)(b:List Int)(oa:Option Addr)(cap:Nat)(ob:Option Addr)(cb:Nat)(w:World)(hb:IsAt w ob b)(hn:c.op.length≤12):
 Calls Tryz.prog 69 #[.agg #[.string ⟨c.nm.toArray⟩,.slice oa c.op.length cap,.int .i64 c.rl,.int .i64 c.se,.int .i64 c.mo],.slice ob b.length cb] w fun e w'=>e=.returned (.int .i64 (fitE c b))∧Below w.heap.size w w':=by
 have HIB:=Lib.hid hb;clear hb;by_cases hl:b.length=c.op.length
 ·have QF:=Lib.hid (fun w h=>fits_any c b oa cap ob cb w h hn hl);have HE:=Lib.hid (show fitE c b=if fitsB c b=true then 0 else 4 by unfold fitE;rw [if_neg (fun h=>h hl)]);have d0:((b.length:Int) !=(c.op.length:Int))=false:=by rw [hl];simp
  have d0':(b.length !=c.op.length)=false:=by rw [hl];simp
  clear hl;generalize fitsB c b=f at*;go_enter Tryz.func69,Tryz.ntmps69;go_upto_block 0 with(fail);generalize hB:w.heap.size=B at*;refine wp_abs (fun w1=>Below B w w1∧w1.heap[B]?=some (.cells #[.string ⟨c.nm.toArray⟩,.slice oa c.op.length cap,.int .i64 c.rl,.int .i64 c.se,.int .i64 c.mo] 24 (0,0))) ⟨by rw [←hB];exact(Below.refl _ _).alloc (Nat.le_refl _) _,by rw [←hB];exact heap_at rfl⟩ (fun w1 hw1=>?_);have HB:=Lib.hid hB;have B1:=Lib.hid hw1.1;have X1:=Lib.hid hw1.2;have hBs:B<w1.heap.size:=lt_of_heap hw1.2;have k1:w1.cell? ⟨B,1,none⟩=some (.slice oa c.op.length cap):=cell_of_row w1 B 1 _ _ _ X1.out;clear hB hw1;have HI1:=Lib.hid (HIB.out.below (by rw [HB.out];exact B1.out));cases f with
  |
   true=>
   go_wp2_with (first
    |go_big_skip
    |((with_reducible refine at_load 24 ?_);refine wpList_load_g ?_ 24 (.tmp 2) ?_ B _ _ _ _ ?_ X1.out Tryz.underlying24 ?_ size_contest ?_;rfl;rfl;rfl;rfl)
    |((with_reducible refine at_build 161 ?_);refine wpList_build ?_ 161 _ ?_ _ ?_ _ (built_field _ _ _ _ _ _ _) ?_;rfl;rfl;rfl)
    |(go_at_call 116;refine(QF.out w1 HI1.out).mono ?_;rintro e w2 ⟨rfl,b2⟩;dsimp only))
   go_ret;exact⟨by rw [HE.out];rfl,by rw [HB.out];exact B1.out.trans (b2.mono (Nat.le_of_lt hBs))⟩
  |
   false=>
   go_wp2_with (first
    |go_big_skip
    |((with_reducible refine at_load 24 ?_);refine wpList_load_g ?_ 24 (.tmp 2) ?_ B _ _ _ _ ?_ X1.out Tryz.underlying24 ?_ size_contest ?_;rfl;rfl;rfl;rfl)
    |((with_reducible refine at_build 161 ?_);refine wpList_build ?_ 161 _ ?_ _ ?_ _ (built_field _ _ _ _ _ _ _) ?_;rfl;rfl;rfl)
    |(go_at_call 116;refine(QF.out w1 HI1.out).mono ?_;rintro e w2 ⟨rfl,b2⟩;dsimp only))
   go_ret;exact⟨by rw [HE.out];rfl,by rw [HB.out];exact B1.out.trans (b2.mono (Nat.le_of_lt hBs))⟩
 ·have HE:=Lib.hid (show fitE c b=2 by unfold fitE;rw [if_pos hl]);have d0:((b.length:Int) !=(c.op.length:Int))=true:=by rw [bne_iff_ne];omega
  have d0':(b.length !=c.op.length)=true:=by rw [bne_iff_ne];exact hl
  clear hl;go_enter Tryz.func69,Tryz.ntmps69;go_upto_block 0 with(fail);generalize hB:w.heap.size=B at*;refine wp_abs (fun w1=>Below B w w1∧w1.heap[B]?=some (.cells #[.string ⟨c.nm.toArray⟩,.slice oa c.op.length cap,.int .i64 c.rl,.int .i64 c.se,.int .i64 c.mo] 24 (0,0))) ⟨by rw [←hB];exact(Below.refl _ _).alloc (Nat.le_refl _) _,by rw [←hB];exact heap_at rfl⟩ (fun w1 hw1=>?_);have HB:=Lib.hid hB;have B1:=Lib.hid hw1.1;have X1:=Lib.hid hw1.2;have hBs:B<w1.heap.size:=lt_of_heap hw1.2;have k1:w1.cell? ⟨B,1,none⟩=some (.slice oa c.op.length cap):=cell_of_row w1 B 1 _ _ _ X1.out;clear hB hw1;go_wp2_with fail;go_ret;exact⟨by rw [HE.out];rfl,by rw [HB.out];exact B1.out⟩
def RowV(w:World)(p:Value×List Int):Prop:= ∃ob cb,p.1=.slice ob p.2.length cb∧IsAt w ob p.2∧p.2.length<9223372036854775808
theorem RowV.below {w w1:World}{p:Value×List Int}(h:RowV w p)(hb:Below w.heap.size w w1):RowV w1 p:=by
 obtain⟨ob,cb,h1,h2,h3⟩:=h;exact⟨ob,cb,h1,h2.below hb,h3⟩
structure PsAt(w:World)(oa:Option Addr)(P:List (Value×List Int)):Prop where
 cells: ∀i (h:i<P.length),∃a,oa=some a∧a.block<w.heap.size∧w.cell? (a.add i)=some P[i].1
 rows: ∀p∈P,RowV w p
theorem PsAt.below {w w1:World}{oa:Option Addr}{P:List (Value×List Int)}(h:PsAt w oa P)(hb:Below w.heap.size w w1):PsAt w1 oa P:=⟨fun i hi=>by
 obtain⟨a,h1,h2,h3⟩:=h.cells i hi;exact⟨a,h1,Nat.lt_of_lt_of_le h2 hb.size,by rw [hb.cell (by rw [addr_block];exact h2)];exact h3⟩,fun p hp=>(h.rows p hp).below hb⟩
theorem psAt_own {w:World}{base:Nat}{e:TypeId}{v:Value}{n:Nat}{P:List (Value×List Int)}(h:w.ownsRow base e 1 v n (P.map Prod.fst))(hr: ∀p∈P,RowV w p): ∃oa cap,v=.slice oa P.length cap∧P.length≤cap∧PsAt w oa P:=by
 have hl:P.length=n:=by have:=h.1;simp at this;omega
 rcases h.2 with⟨hv,h0⟩|⟨g,cap,cur,hv,hb,hg,hnc,_,hc,ht⟩
 ·have:P= []:=List.length_eq_zero_iff.1 (by omega);subst this;exact⟨none,0,hv,Nat.le_refl _,⟨fun i hi=>by simp at hi,fun p hp=>by simp at hp⟩⟩
 ·refine⟨some ⟨g,0,none⟩,cap,by rw [hl];exact hv,by rw [hl];exact hnc,⟨fun i hi=>⟨_,rfl,lt_of_heap hg,?_⟩,hr⟩⟩;exact h.cells (g:=g) (by rw [hv];rfl) i P[i].1 (by simp [hi])
theorem info_ints:(Tryz.prog.info? 29).map (fun i=>(i.zero,i.size,i.bytes))=some (some (.slice none 0 0),1,24):=by kernel_rfl
def CTest.rule(c:CTest)(rl:Int):CTest:=⟨c.nm,c.op,rl,c.se,c.mo⟩
def somePos(b:List Int):Bool:=decide (∃x∈b,0<x)
def keepB(c:CTest)(b:List Int):Bool:=fitsB c b&&somePos b
def keepP(c:CTest)(p:Value×List Int):Bool:=keepB c p.2
def allN(n:Nat)(P:List (Value×List Int)):Prop:= ∀p∈P,p.2.length=n
instance (n:Nat) (P:List (Value×List Int)):Decidable (allN n P):=by unfold allN;infer_instance
def filE(n:Nat)(P:List (Value×List Int)):Int:=if 4096<P.length then 3 else if allN n P then 0 else 2
def FilGot(n:Nat)(c:CTest)(P:List (Value×List Int))(w:World)(e:Ending)(w':World):Prop:=
 Below w.heap.size w w'∧if filE n P=0 then ∃oo co,PsAt w' oo (P.filter (keepP c))∧e=.returned (.tuple #[.slice oo (P.filter (keepP c)).length co,.int .i64 0])
 else e=.returned (.tuple #[.slice none 0 0,.int .i64 (filE n P)])
theorem FilGot.bad {n:Nat}{c:CTest}{P:List (Value×List Int)}{w w':World}{E:Int}(hE:filE n P=E)(h0:E≠0)(hb:Below w.heap.size w w'):FilGot n c P w (.returned (.tuple #[.slice none 0 0,.int .i64 E])) w':=by
 unfold FilGot;rw [hE,if_neg h0];exact⟨hb,rfl⟩
theorem FilGot.ok {n:Nat}{c:CTest}{P:List (Value×List Int)}{w w':World}(hE:filE n P=0)(hb:Below w.heap.size w w'){oo:Option Addr}{co:Nat}(hp:PsAt w' oo (P.filter (keepP c))):FilGot n c P w (.returned (.tuple #[.slice oo (P.filter (keepP c)).length co,.int .i64 0])) w':=by
 unfold FilGot;rw [hE,if_pos rfl];exact⟨hb,oo,co,hp,rfl⟩
theorem filter_snoc {α:Type}(P:List α)(f:α→Bool)(k:Nat)(h:k<P.length):(P.take (k+1)).filter f=(P.take k).filter f++if f P[k]=true then [P[k]]else []:=by
 rw [List.take_succ_eq_append_getElem h,List.filter_append];by_cases hf:f P[k]=true<;>simp [hf]
theorem fitE_zero {c:CTest}{b:List Int}(hl:b.length=c.op.length):fitE c b=if fitsB c b=true then 0 else 4:=by unfold fitE;rw [if_neg (fun h=>h hl)]
theorem most_pos {b:List Int}{m:Int}(h:Most b m):somePos b=decide (0<m):=by
 unfold somePos;by_cases hm:0<m;·rw [decide_eq_true hm,decide_eq_true ⟨m,h.mem,hm⟩]
 ·rw [decide_eq_false hm,decide_eq_false];rintro⟨x,hx,h0⟩;have:=h.le x hx;omega
theorem filled_any(c:CTest)(rl:Int)(P:List (Value×List Int))(oa:Option Addr)(cap:Nat)(ob:Option Addr)(cb:Nat)(w:World)(hP:PsAt w ob P)(hn:c.op.length≤12)(hn0:1≤c.op.length):
 Calls Tryz.prog 29 #[.agg #[.string ⟨c.nm.toArray⟩,.slice oa c.op.length cap,.int .i64 c.rl,.int .i64 c.se,.int .i64 c.mo],.int .i64 rl,.slice ob P.length cb] w (FilGot c.op.length (c.rule rl) P w):=by
 have HP:=Lib.hid hP;have QF:=Lib.hid (show ∀(w:World) (b:List Int) (ob:Option Addr) (cb:Nat) (h:IsAt w ob b),Calls Tryz.prog 69 #[.agg #[.string ⟨c.nm.toArray⟩,.slice oa c.op.length cap,.int .i64 rl,.int .i64 c.se,.int .i64 c.mo],.slice ob b.length cb] w (fun e w'=>e=.returned (.int .i64 (fitE (c.rule rl) b))∧Below w.heap.size w w')from fun w b ob cb h=>balFits_any (c.rule rl) b oa cap ob cb w h hn);have hnop:(c.rule rl).op.length=c.op.length:=rfl;have HNO:=Lib.hid hnop;clear hP hnop;have HC:=Lib.hid (fun b:List Int=>fitE_zero (c:=c.rule rl) (b:=b));rw [HNO.out]at HC;generalize c.rule rl=cr at*;obtain⟨i0,hi,hz0,hz1,hz2⟩:=info_parts info_ints;have HI:=Lib.hid hi;have HZ0:=Lib.hid hz0;have HZ1:=Lib.hid hz1;have HZ2:=Lib.hid hz2;clear hi hz0 hz1 hz2;by_cases hl:4096<P.length
 ·have d0:decide ((4096:Int)<(P.length:Int))=true:=decide_eq_true (by omega);have d0':decide (4096<P.length)=true:=decide_eq_true hl;have HE:=Lib.hid (show filE c.op.length P=3 by unfold filE;rw [if_pos hl]);clear hl;go_enter Tryz.func29,Tryz.ntmps29;go_upto_region 1 with(fail);generalize hB:w.heap.size=B at*;refine wp_abs (fun w1=>Below B w w1∧w1.heap[B]?=some (.cells #[.string ⟨c.nm.toArray⟩,.slice oa c.op.length cap,.int .i64 c.rl,.int .i64 c.se,.int .i64 c.mo] 24 (0,0))) ⟨by rw [←hB];exact(Below.refl _ _).alloc (Nat.le_refl _) _,by rw [←hB];exact heap_at rfl⟩ (fun w1 hw1=>?_);have HB:=Lib.hid hB;have B1:=Lib.hid hw1.1;have X1:=Lib.hid hw1.2;have hBs:B<w1.heap.size:=lt_of_heap hw1.2;clear hB hw1;go_wp2_with fail
  go_ret2
  exact FilGot.bad HE.out (by decide) (by rw [HB.out];exact B1.out)
 ·have d0:decide ((4096:Int)<(P.length:Int))=false:=decide_eq_false (by omega);have d0':decide (4096<P.length)=false:=decide_eq_false hl;have hp4:P.length≤4096:=by omega
  have HE:=Lib.hid (show filE c.op.length P=if allN c.op.length P then 0 else 2 by unfold filE;rw [if_neg hl]);clear hl;go_enter Tryz.func29,Tryz.ntmps29;go_upto_region 1 with(fail);generalize hB:w.heap.size=B at*;refine wp_abs (fun w1=>Below B w w1∧w1.heap[B]?=some (.cells #[.string ⟨c.nm.toArray⟩,.slice oa c.op.length cap,.int .i64 c.rl,.int .i64 c.se,.int .i64 c.mo] 24 (0,0))) ⟨by rw [←hB];exact(Below.refl _ _).alloc (Nat.le_refl _) _,by rw [←hB];exact heap_at rfl⟩ (fun w1 hw1=>?_);have HB:=Lib.hid hB;have B1:=Lib.hid hw1.1;have X1:=Lib.hid hw1.2;have hBs:B<w1.heap.size:=lt_of_heap hw1.2;clear hB hw1;have k2:w1.cell? ⟨B,2,none⟩=some (.int .i64 c.rl):=cell_of_row w1 B 2 _ _ _ X1.out;have f2:w1.frozen? ⟨B,2,none⟩=false:=frozen_of_row w1 B 2 _ _ X1.out;go_upto_region 4 with(fail);refine wp_abs (fun w2=>Below B w w2∧w2.heap[B]?=some (.cells #[.string ⟨c.nm.toArray⟩,.slice oa c.op.length cap,.int .i64 rl,.int .i64 c.se,.int .i64 c.mo] 24 (0,0))) ⟨B1.out.setCell (Nat.le_refl _) _,by rw [heap_setCell_same _ _ _ _ _ _ X1.out];rfl⟩ (fun w2 hw2=>?_);have B2:=Lib.hid hw2.1;have X2:=Lib.hid hw2.2;have hBs:B<w2.heap.size:=lt_of_heap hw2.2;clear hw2 k2 f2 B1 X1;clear d0 d0';go_wp2_with fail;go_loopw [18,8] (fun i v wr=> ∃(k:Nat) (vo:Value),k≤P.length∧i=.int .i64 k∧vo=v∧allN c.op.length (P.take k)∧Below B w wr∧wr.heap[B]?=some (.cells #[.string ⟨c.nm.toArray⟩,.slice oa c.op.length cap,.int .i64 rl,.int .i64 c.se,.int .i64 c.mo] 24 (0,0))∧wr.ownsRow (B+1) 29 1 vo ((P.take k).filter (keepP cr)).length (((P.take k).filter (keepP cr)).map Prod.fst)) (fun i _ _=>P.length-(intOf i).toNat);case atStart=>exact⟨0,_,Nat.zero_le _,rfl,rfl,(fun x hx=>by simp at hx),B2.out,X2.out,World.ownsRow_nil _ _ _ _⟩
  case round=>
  clear B2 X2 hBs;obtain⟨k,vo,hk,rfl,rfl,ha,hb3,hx3,ho3⟩:=hrel;have HA:=Lib.hid ha;have B3:=Lib.hid hb3;have X3:=Lib.hid hx3;have O3:=Lib.hid ho3;have hBr:B<wr.heap.size:=lt_of_heap hx3;have HP3:=Lib.hid (HP.out.below (HB.out.symm▸hb3));have k1:wr.cell? ⟨B,1,none⟩=some (.slice oa c.op.length cap):=cell_of_row wr B 1 _ _ _ hx3;clear ha hb3 hx3 ho3;by_cases hlt:k<P.length
  ·have dk:decide ((k:Int)<(P.length:Int))=true:=decide_eq_true (by omega);have dk2:decide (k<P.length)=true:=decide_eq_true hlt;have hki:(k:Int)<(P.length:Int):=by omega
   obtain⟨q,hoa,hqb,hqc⟩:=HP3.out.cells k hlt;subst hoa;have HFS0:=Lib.hid (filter_snoc P (keepP cr) k hlt);have HTK:=Lib.hid (show P.take (k+1)=P.take k++ [P[k]]from List.take_succ_eq_append_getElem hlt);have HMEM:=Lib.hid (List.getElem_mem hlt);have hOl:((P.take k).filter (keepP cr)).length≤k:=Nat.le_trans (List.length_filter_le _ _) (List.length_take_le _ _);generalize P[k]=p at*;obtain⟨or,cr2,hp1,hp2,hp3⟩:=HP3.out.rows p HMEM.out;rw [hp1]at hqc;have HIS:=Lib.hid hp2;have HK:=Lib.hid (show keepP cr p=(fitsB cr p.2&&somePos p.2)from rfl);have HP1:=Lib.hid hp1;clear hp1 hp2;by_cases hln:p.2.length=c.op.length
   ·have e0:((p.2.length:Int) !=(c.op.length:Int))=false:=by rw [hln];simp
    have e0':(p.2.length !=c.op.length)=false:=by rw [hln];simp
    have HAN:=Lib.hid (show allN c.op.length (P.take (k+1))by
     rw [HTK.out];intro x hx;rcases List.mem_append.1 hx with h|h;·exact HA.out x h
     ·rw [List.mem_singleton.1 h];exact hln)
    have QM:=Lib.hid (fun w h=>max_any or p.2 cr2 w h (by omega) (by omega));have HF:=Lib.hid (HC.out p.2 hln);clear hln;generalize p.2=L at*;have QFL:=Lib.hid (QF.out wr L or cr2 HIS.out);generalize fitsB cr L=f at*;cases f with
    |
     false=>
     have HFS:=Lib.hid (show(P.take (k+1)).filter (keepP cr)=(P.take k).filter (keepP cr)by rw [HFS0.out,HK.out];simp);rw [show fitE cr L=4 by rw [HF.out];rfl]at QFL;clear HFS0 HK HF QF HC;go_wp2_with (first
      |go_big_skip
      |((with_reducible refine at_load 24 ?_);refine wpList_load_g ?_ 24 (.tmp 3) ?_ B _ _ _ _ ?_ X3.out Tryz.underlying24 ?_ size_contest ?_;rfl;rfl;rfl;rfl)
      |(go_at_call 69;refine(QFL.out).mono ?_;rintro e w4 ⟨rfl,b4⟩;dsimp only;have B4:=Lib.hid b4;clear b4))
     go_roundw;case rel=>exact⟨k+1,vo,by omega,by go_num,rfl,HAN.out,B3.out.trans (B4.out.mono (Nat.le_of_lt hBr)),bel_keep B4.out hBr X3.out,by rw [HFS.out];exact own_below O3.out B4.out⟩
     case measure=>simp [intOf];omega
    |
     true=>
     rw [show fitE cr L=0 by rw [HF.out];rfl]at QFL;generalize hsp:somePos L=sp at*;have HSP:=Lib.hid hsp;clear hsp;cases sp with
     |
      false=>
      have HFS:=Lib.hid (show(P.take (k+1)).filter (keepP cr)=(P.take k).filter (keepP cr)by rw [HFS0.out,HK.out];simp);clear HFS0 HK HF QF HC;go_wp2_with (first
       |go_big_skip
       |((with_reducible refine at_load 24 ?_);refine wpList_load_g ?_ 24 (.tmp 3) ?_ B _ _ _ _ ?_ X3.out Tryz.underlying24 ?_ size_contest ?_;rfl;rfl;rfl;rfl)
       |(go_at_call 69;refine(QFL.out).mono ?_;rintro e w4 ⟨rfl,b4⟩;dsimp only;have B4:=Lib.hid b4;clear b4)
       |(go_at_call 70;refine(QM.out w4 (HIS.out.below B4.out)).mono ?_;rintro e w5 ⟨⟨m,rfl,hm⟩,rfl⟩;dsimp only;have e5:=(most_pos hm).symm.trans HSP.out;clear hm))
      go_roundw;case rel=>exact⟨k+1,vo,by omega,by go_num,rfl,HAN.out,B3.out.trans (B4.out.mono (Nat.le_of_lt hBr)),bel_keep B4.out hBr X3.out,by rw [HFS.out];exact own_below O3.out B4.out⟩
      case measure=>simp [intOf];omega
     |
      true=>
      have HFS:=Lib.hid (show(P.take (k+1)).filter (keepP cr)=(P.take k).filter (keepP cr)++ [p]by rw [HFS0.out,HK.out];simp);clear HFS0 HK HF QF HC;generalize (P.take k).filter (keepP cr)=O at*;go_upto_region 11 with(first
       |go_big_skip
       |((with_reducible refine at_load 24 ?_);refine wpList_load_g ?_ 24 (.tmp 3) ?_ B _ _ _ _ ?_ X3.out Tryz.underlying24 ?_ size_contest ?_;rfl;rfl;rfl;rfl)
       |(go_at_call 69;refine(QFL.out).mono ?_;rintro e w4 ⟨rfl,b4⟩;dsimp only;have B4:=Lib.hid b4;clear b4)
       |(go_at_call 70;refine(QM.out w4 (HIS.out.below B4.out)).mono ?_;rintro e w5 ⟨⟨m,rfl,hm⟩,rfl⟩;dsimp only;have e5:=(most_pos hm).symm.trans HSP.out;clear hm))
      have B34:=Lib.hid (B3.out.trans (B4.out.mono (Nat.le_of_lt hBr)));have hB4:=B34.out.size;have hBw4:B<w4.heap.size:=Nat.lt_of_lt_of_le hBr B4.out.size;go_wp2_with (at_builtin;go_loud (refine wpList_append_lies _ rfl (.tmp 37) (.tmp 39) 25 rfl (B+1) 29 i0 (.slice none 0 0) 1 24 Tryz.underlying25 HI.out HZ0.out HZ1.out HZ2.out rfl (by decide) vo O.length (O.map Prod.fst) rfl ((own_below O3.out B4.out).alloc _) ⟨_,0,none⟩ 1 1 [.slice or L.length cr2] rfl rfl (news_blk (heap_at rfl)) (by simp [Value.oneCell']) (by decide) (by unfold maxLen;omega) (by omega) (by simp;omega) _ rfl (fun g cp w7 own7 hg7 hf7 hlt7=>?_)));have hne7: ∀j,vo.ownBlock=some j→B+1≤j:=fun j hj=>(O3.out.lt j hj).1;have B7:=Lib.hid ((B34.out.alloc (by omega) (.cells #[.slice or L.length cr2] 29)).grown hg7 (by simp;omega) (fun j hj=>by have:=hne7 j hj;omega));have X7:=Lib.hid (grown_keep hg7 (fun e=>by have:=hne7 _ e;omega) (heap_lt (bel_keep B4.out hBr X3.out)));have O7:=Lib.hid own7;clear own7 hg7 hf7 hlt7;go_wp2_with fail;go_roundw;case rel=>exact⟨k+1,_,by omega,by go_num,rfl,HAN.out,B7.out,X7.out,by rw [HFS.out,List.length_append,List.map_append,List.map_singleton,HP1.out];exact O7.out⟩
      case measure=>simp [intOf];omega
   ·have e0:((p.2.length:Int) !=(c.op.length:Int))=true:=by rw [bne_iff_ne];omega
    have e0':(p.2.length !=c.op.length)=true:=by rw [bne_iff_ne];exact hln
    have HE2:=Lib.hid (show filE c.op.length P=2 by rw [HE.out,if_neg (fun h=>hln (h p HMEM.out))]);clear hln;go_wp2_with fail
    go_ret2
    exact FilGot.bad HE2.out (by decide) (by rw [HB.out];exact B3.out)
  ·have dk:decide ((k:Int)<(P.length:Int))=false:=decide_eq_false (by omega);have dk2:decide (k<P.length)=false:=decide_eq_false hlt;obtain rfl:k=P.length:=by omega
   rw [List.take_length]at HA O3;have HE2:=Lib.hid (show filE c.op.length P=0 by rw [HE.out,if_pos HA.out]);obtain⟨oo,co,rfl,hco,hps⟩:=psAt_own O3.out (fun p hp=>HP3.out.rows p (List.mem_filter.1 hp).1);have HPS:=Lib.hid hps;clear hps;go_wp2_with fail
   go_ret2
   exact FilGot.ok HE2.out (by rw [HB.out];exact B3.out) HPS.out
def anyL(b:List Int):Bool:=b.any fun x=>x !=0
def prE(c:CTest)(P:List (Value×List Int)):Int:=if wrongC c=true then 2 else filE c.op.length P
theorem wrongC_no {c:CTest}(h:wrongC c=false):1≤c.op.length∧c.op.length≤12∧1≤c.rl∧c.rl≤4∧1≤c.se∧c.se≤c.op.length:=by
 unfold wrongC at h;have:=of_decide_eq_false h;omega
theorem allN_filter {n:Nat}{P:List (Value×List Int)}(f:Value×List Int→Bool)(h:allN n P):allN n (P.filter f):=fun p hp=>h p (List.mem_filter.1 hp).1
theorem filE_ok {n:Nat}{P:List (Value×List Int)}(h:filE n P=0):allN n P∧P.length≤4096:=by
 unfold filE at h;split at h;·cases h
 ·split at h;·rename_i h1 h2;exact⟨h2,by omega⟩
  ·cases h
def memI(L:List Int)(v:Int):Bool:=decide (v∈L)
theorem index_any(oa:Option Addr)(L:List Int)(cap:Nat)(v:Int)(w:World)(h:IsAt w oa L)(hl:L.length<9223372036854775808):
 Calls Tryz.prog 110 #[.slice oa L.length cap,.int .i64 v] w fun e w'=>(∃r:Int,e=.returned (.int .i64 r)∧decide (0≤r)=memI L v)∧w=w':=by
 have H:=Lib.hid h;clear h;go_enter Tryz.func110,Tryz.ntmps110;go_upto_region 2 with(fail)
 go_loop [8] (fun i=> ∃k:Nat,k≤L.length∧i=.int .i64 k∧v∉L.take k) (fun i=>L.length-(intOf i).toNat)
 case atStart=>exact⟨0,by omega,rfl,by simp⟩
 case round=>
 obtain⟨k,hk,rfl,hpre⟩:=hrel;have HP:=Lib.hid hpre;clear hpre;by_cases hlt:k<L.length
 ·have dk:decide ((k:Int)<(L.length:Int))=true:=decide_eq_true (by omega);have dk2:decide (k<L.length)=true:=decide_eq_true hlt;have hki:(k:Int)<(L.length:Int):=by omega
  obtain⟨a,hoa,hab,hac⟩:=H.out.cells k hlt
  have hsn:=Lib.hid (fun(hb: ¬L[k]=v)=>(show v∉L.take (k+1)by
   rw [List.take_succ_eq_append_getElem hlt,List.mem_append,List.mem_singleton];exact fun h=>h.elim HP.out (fun h=>hb h.symm)))
  have hyes:=Lib.hid (fun(hb:L[k]=v)=>(show memI L v=true from decide_eq_true (hb▸List.getElem_mem hlt)));subst hoa;generalize L[k]=x at*;by_cases hb:x=v
  ·have d1:(v==x)=true:=by rw [beq_iff_eq];exact hb.symm
   have h2:=Lib.hid (hyes.out hb);clear hb hsn hyes;go_wp2_with fail;go_ret;exact⟨⟨_,rfl,by rw [h2.out];exact decide_eq_true (by omega)⟩,rfl⟩
  ·have d1:(v==x)=false:=by rw [beq_eq_false_iff_ne];exact fun h=>hb h.symm
   have h2:=Lib.hid (hsn.out hb);clear hb hsn hyes;go_wp2_with fail
   go_round
   case rel=>exact⟨k+1,by omega,by go_num,h2.out⟩
   case measure=>simp [intOf];omega
 ·have dk:decide ((k:Int)<(L.length:Int))=false:=decide_eq_false (by omega);have dk2:decide (k<L.length)=false:=decide_eq_false hlt;obtain rfl:k=L.length:=by omega
  rw [List.take_length]at HP;have h2:=Lib.hid (show memI L v=false from decide_eq_false HP.out);go_wp2_with fail;go_ret;exact⟨⟨_,rfl,by rw [h2.out];decide⟩,rfl⟩
theorem contains_any(oa:Option Addr)(L:List Int)(cap:Nat)(v:Int)(w:World)(h:IsAt w oa L)(hl:L.length<9223372036854775808):
 Calls Tryz.prog 63 #[.slice oa L.length cap,.int .i64 v] w fun e w'=>e=.returned (.bool (memI L v))∧w=w':=by
 have Q:=Lib.hid (index_any oa L cap v w h hl);clear h hl;generalize memI L v=b at*;go_enter Tryz.func63,Tryz.ntmps63;go_wp2_with (go_at_call 110;refine Q.out.mono ?_;rintro e w1 ⟨⟨r,rfl,hr⟩,rfl⟩);go_ret;exact⟨rfl,rfl⟩
end Go.Proofs.YtnohcdpnnhmpfaaGreatDoor
