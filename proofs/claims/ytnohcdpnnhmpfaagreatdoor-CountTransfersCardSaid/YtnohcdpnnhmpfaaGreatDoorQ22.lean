/-
  Chapter 13, for Pairs: (ballot.field).fits. Printed by tools/genfits.py.
  Chapter 13, for Pairs: does a choice fit? ballot.Fits and the reference's Fits. Printed by tools/genfit2.py.
  Chapter 13, for Pairs: rows of ints; count.filled and the reference's Filled. Printed by tools/genfill.py.
  Chapter 13: what is wrong with a contest and its ballots, in plain words. Printed by tools/genpp.py.
  Chapter 13: slices.Index and Contains of ints. Printed by tools/gensmith.py.
-/
import Derived.Test.YtnohcdpnnhmpfaaGreatDoorQ21
import Derived.Deep.OwnRows
set_option linter.unusedVariables false
set_option linter.unusedSimpArgs false
set_option maxRecDepth 100000
set_option maxHeartbeats 8000000
namespace Go.Proofs.YtnohcdpnnhmpfaaGreatDoor
open Go.RowKit Tryz ML FM AU CT
def Kv(L:List Int)(n:Nat):List Value:=(List.range n).map fun v:Nat=>Value.bool (decide ((v:Int)∈L))
theorem jhP(n:Nat):Kv [] n=List.replicate n (.bool false):=by
 unfold Kv;apply vI (by simp);intro i h1 h2;simp
theorem jcc(L:List Int)(n v:Nat)(h:v<n):(Kv L n)[v]?=some (.bool (decide ((v:Int)∈L))):=by
 unfold Kv;rw [qK,xC h];rfl
theorem XW(L:List Int)(n v:Nat)(h:v<n):(Kv L n).set v (.bool true)=Kv (L++ [(v:Int)]) n:=by
 unfold Kv;apply vI (by simp);intro i h1 h2;rw [List.getElem_set];simp only [List.getElem_map,List.getElem_range];by_cases e:v=i;·subst e;simp
 ·rw [jT e];have:((i:Int)∈L++ [(v:Int)])↔((i:Int)∈L):=by
   simp only [jh,jo];constructor
   ·rintro(h|h);·exact h
    ·omega
   ·exact .inl
  simp only [this]
def zo(L:List Int):Nat:=(L.filter fun x=>decide (0<x)).length
theorem jcu(L:List Int)(x:Int):zo (L++ [x])=zo L+if 0<x then 1 else 0:=by
 unfold zo;rw [qP,ja];by_cases h:0<x<;>simp [h]
theorem jdD(L:List Int):zo L≤L.length:=kt _ _
def okX(c:yE)(L:List Int)(x:Int):Bool:=decide (0≤x∧x≤XD c)&& !(zD c.rl&&decide (0<x)&&decide (x∈L))
def okL(c:yE):List Int→List Int→Bool
 |_,[]=>true
 |L,x::r=>okX c L x&&okL c (L++ [x]) r
def Zt(b:List Int)(m:Nat):Bool:=(List.range m).all fun k:Nat=>decide (((k+1:Nat):Int)∈b)
def zY(c:yE)(b:List Int):Bool:=okL c [] b&&(!zD c.rl||Zt b (zo b))&&(decide (c.rl≠1)||decide ((zo b:Int)≤c.mo))
theorem jeR(c:yE)(b:List Int)(k:Nat)(h:k<b.length):okL c (b.take k) (b.drop k)=(okX c (b.take k) b[k]&&okL c (b.take (k+1)) (b.drop (k+1))):=by
 rw [kh h,jk h];rfl
theorem jeq(c:yE): ∃t:Nat,XD c=t∧(t=c.op.length∨t=1):=by
 unfold XD;split;·exact⟨_,rfl,.inl rfl⟩
 ·exact⟨1,rfl,.inr rfl⟩
theorem jiH(b:List Int)(n:Nat):Zt b (n+1)=(Zt b n&&decide (((n+1:Nat):Int)∈b)):=by
 simp [Zt,qi,List.all_append]
theorem jlq(b:List Int)(n m:Nat)(h:n<m)(hb:((n+1:Nat):Int)∉b):Zt b m=false:=by
 rw [←Bool.not_eq_true];intro h2;unfold Zt at h2;rw [kr]at h2;exact hb (qY (h2 n (jf.2 h)))
theorem XM:(prog.info? 4).map (fun i=>(i.zero,i.size,i.bytes))=some (some (.bool false),1,1):=by kernel_rfl
theorem jku(c:yE)(b:List Int)(oa:Option Addr)(cap:Nat)(ob:Option Addr)(cb:Nat)(w:World)(hb:yj w ob b)(hn:c.op.length≤12)(hbl:b.length=c.op.length):
 Calls prog 116 #[.agg #[.string ⟨c.nm.toArray⟩,.slice oa c.op.length cap,.int .i64 c.rl,.int .i64 c.se,.int .i64 c.mo,.int .i64 0],.slice ob b.length cb] w fun e w'=>e=.returned (.bool (zY c b))∧Below w.heap.size w w':=by
 have QT:=jA (fun w=>jkQ c oa cap w);have QR:=jA (fun w=>jcl c oa cap w);obtain⟨t,ht,htn⟩:=jeq c;have HTL:=jA (show zD c.rl=true→t=b.length from fun h=>by unfold XD at ht;rw [jR h]at ht;omega);rw [ht]at QT;have HTI:=jA ht;have hb12:b.length≤12:=by omega
 clear hbl;have ht12:t≤12:=by omega
 have HIB:=jA hb;have HFB:=jA (show zY c b=(okL c [] b&&(!zD c.rl||Zt b (zo b))&&(decide (c.rl≠1)||decide ((zo b:Int)≤c.mo)))from rfl);obtain⟨i0,hi,hz0,hz1,hz2⟩:=info_parts XM;have HI:=jA hi;have HZ0:=jA hz0;have HZ1:=jA hz1;have HZ2:=jA hz2;clear hi hz0 hz1 hz2 hb ht htn;generalize hrk:zD c.rl=rk at*;have HRK:=jA hrk;clear hrk;go_enter Tryz.func116,Tryz.ntmps116;go_upto_region 1 with(fail);generalize hB:w.heap.size=B at*;refine xP (fun w1=>Below B w w1∧w1.heap[B]?=some (.cells #[.string ⟨c.nm.toArray⟩,.slice oa c.op.length cap,.int .i64 c.rl,.int .i64 c.se,.int .i64 c.mo,.int .i64 0] 161 (0,0))) ⟨by rw [←hB];exact(jN _ _).alloc (jO _) _,by rw [←hB];exact xN rfl⟩ (fun w1 hw1=>?_);have HB:=jA hB;have B1:=jA hw1.1;have X1:=jA hw1.2;have hBs:B<w1.heap.size:=lt_of_heap hw1.2;clear hB hw1;have htz:(t:Int)+1<9223372036854775808:=by omega
 obtain⟨T1,hT1⟩: ∃T1:Nat,(t:Int)+1=(T1:Int):=⟨t+1,by omega⟩;have hT12:T1≤13:=by omega
 have HTT:=jA (show T1=t+1 by omega);go_upto_region 2 with(first
  |(refine xi rfl 161 _ rfl B _ _ _ _ rfl X1.u underlying161 rfl yW ?_)
  |(go_at_call 168;refine(QT.u w1).mono ?_;rintro e w2 ⟨rfl,b2⟩)
  |(refine wpList_make_row _ rfl _ _ 39 rfl 4 i0 (.bool false) underlying39 HI.u HZ0.u HZ1.u rfl .i64 .i64 T1 rfl rfl (by rw [HZ2.u];omega) (by omega) ?_))
 clear hT1;have hs2:=b2.size;have hF0:(w2.alloc (.cells (madeCells #[Value.bool false] T1) 4)).heap[w2.heap.size]?=some (.cells (Kv [] T1).toArray 4 (0,0)):=by
  have e:madeCells #[Value.bool false] T1=(Kv [] T1).toArray:=by
   rw [jhP,←toList_madeCells_one]
  rw [e];exact xN rfl
 have bF:Below B w (w2.alloc (.cells (madeCells #[Value.bool false] T1) 4)):=B1.u.trans ((b2.trans ((jN _ _).alloc hs2 _)).mono (jZ hBs));have xF:(w2.alloc (.cells (madeCells #[Value.bool false] T1) 4)).heap[B]?=some (.cells #[.string ⟨c.nm.toArray⟩,.slice oa c.op.length cap,.int .i64 c.rl,.int .i64 c.se,.int .i64 c.mo,.int .i64 0] 161 (0,0)):=xx (xK b2 hBs X1.u);have hBF:B<w2.heap.size:=by omega
 generalize hF:w2.heap.size=F at*;refine xP (fun w3=>Below B w w3∧w3.heap[B]?=some (.cells #[.string ⟨c.nm.toArray⟩,.slice oa c.op.length cap,.int .i64 c.rl,.int .i64 c.se,.int .i64 c.mo,.int .i64 0] 161 (0,0))∧w3.heap[F]?=some (.cells (Kv [] T1).toArray 4 (0,0))) ⟨bF,xF,hF0⟩ (fun w3 hw3=>?_);have H3:=jA hw3;clear hw3 bF xF hF0 hF hs2 b2 hBs X1 B1
 as_aux_lemma=>
 go_wp2_with fail;go_loopw [16,6] (fun i v wr=> ∃k m:Nat,k≤b.length∧m≤k∧i=.int .i64 k∧v=.int .i64 m∧m=zo (b.take k)∧okL c [] b=okL c (b.take k) (b.drop k)∧Below B w wr∧wr.heap[B]?=some (.cells #[.string ⟨c.nm.toArray⟩,.slice oa c.op.length cap,.int .i64 c.rl,.int .i64 c.se,.int .i64 c.mo,.int .i64 0] 161 (0,0))∧wr.heap[F]?=some (.cells (Kv (b.take k) T1).toArray 4 (0,0))) (fun i _ _=>b.length-(intOf i).toNat);case atStart=>exact⟨0,0,by omega,by omega,rfl,rfl,rfl,rfl,H3.u.1,H3.u.2.1,H3.u.2.2⟩
 case round=>
 clear H3;obtain⟨k,m,hk,hmk,rfl,rfl,hm,hok,hbel,hx,hf⟩:=hrel;have HM:=jA hm;have HOK:=jA hok;have BB:=jA hbel;have XX:=jA hx;have FF:=jA hf;clear hm hok hbel hx hf;by_cases hlt:k<b.length
 ·as_aux_lemma=>
  have dk:decide ((k:Int)<(b.length:Int))=true:=jQ (by omega);have dk2:decide (k<b.length)=true:=jQ hlt;have hki:(k:Int)<(b.length:Int):=by omega
  obtain⟨q,hoa,hqb,hqc⟩:=(HIB.u.below (HB.u.symm▸BB.u)).cells k hlt;subst hoa;have HST:=jA (HOK.u.trans (jeR c b k hlt));have HTK:=jA (show b.take (k+1)=b.take k++ [b[k]]from jk hlt);have HPN:=jA (show zo (b.take (k+1))=m+if 0<b[k]then 1 else 0 by rw [HTK.u,jcu,←HM.u]);have HOX:=jA (show okX c (b.take k) b[k]=(decide (0≤b[k]∧b[k]≤XD c)&& !(zD c.rl&&decide (0<b[k])&&decide (b[k]∈b.take k)))from rfl);rw [HTI.u,HRK.u]at HOX;generalize b[k]=x at*;have hBr:B<wr.heap.size:=lt_of_heap XX.u;have hFr:F<wr.heap.size:=lt_of_heap FF.u;by_cases hx0:x<0
  ·have d0:decide (x<0)=true:=jQ hx0;have HE:=jA (show zY c b=false by rw [HFB.u,HST.u,HOX.u,jS (by omega)];rfl);clear hx0;go_wp2_with fail;go_ret;exact⟨by rw [HE.u];rfl,by rw [HB.u];exact BB.u⟩
  ·obtain⟨v,rfl⟩: ∃v:Nat,x=v:=⟨x.toNat,by omega⟩;have d0:decide ((v:Int)<0)=false:=jS hx0;by_cases hvt:t<v
   ·have d1:decide ((t:Int)<(v:Int))=true:=jQ (by omega);have d1':decide (t<v)=true:=jQ hvt;have HE:=jA (show zY c b=false by rw [HFB.u,HST.u,HOX.u,jS (by omega)];rfl);clear hx0 hvt;go_wp2_with (first
     |go_big_skip
     |((with_reducible refine xl 161 ?_);refine xO ?_ 161 (.tmp 2) ?_ B _ _ _ _ ?_ XX.u underlying161 ?_ yW ?_;rfl;rfl;rfl;rfl)
     |(go_at_call 168;refine(QT.u wr).mono ?_;rintro e w5 ⟨rfl,b5⟩;dsimp only))
    go_ret;exact⟨by rw [HE.u];rfl,by rw [HB.u];exact BB.u.trans (b5.mono (jZ hBr))⟩
   ·have d1:decide ((t:Int)<(v:Int))=false:=jS (by omega);have d1':decide (t<v)=false:=jS hvt;have hvT:v<T1:=by have:=HTT.u;omega
    have hvi:(v:Int)<(T1:Int):=by omega
    have HOX2:=jA (show okX c (b.take k) v= !(rk&&decide (0<(v:Int))&&decide ((v:Int)∈b.take k))by rw [HOX.u,jQ (by omega)];rfl);have HKF0:wr.cell? ⟨F,v,none⟩=some (.bool (decide ((v:Int)∈b.take k))):=by rw [jM _ _ _ _ _ _ FF.u,jE];exact jcc _ _ _ hvT
    generalize hsv:decide ((v:Int)∈b.take k)=sv at*;have HKF:=jA HKF0;clear hx0 hvt HKF0 hsv HOX;by_cases hv0:0<v
    ·have d2:decide ((0:Int)<(v:Int))=true:=jQ (by omega);have d2':decide (0<v)=true:=jQ hv0;rw [d2]at HOX2;cases rk with
     |
      false=>
      have HOK2:=jA (show okL c [] b=okL c (b.take (k+1)) (b.drop (k+1))by rw [HST.u,HOX2.u];rfl);clear HOX2;go_upto_region 9 with(first
       |go_big_skip
       |((with_reducible refine xl 161 ?_);refine xO ?_ 161 (.tmp 2) ?_ B _ _ _ _ ?_ X5.u underlying161 ?_ yW ?_;rfl;rfl;rfl;rfl)
       |((with_reducible refine xl 161 ?_);refine xO ?_ 161 (.tmp 2) ?_ B _ _ _ _ ?_ XX.u underlying161 ?_ yW ?_;rfl;rfl;rfl;rfl)
       |(go_at_call 168;refine(QT.u wr).mono ?_;rintro e w5 ⟨rfl,b5⟩;dsimp only;have X5:=jA (xK b5 hBr XX.u);have B5:=jA b5;clear b5)
       |(go_at_call 169;refine(QR.u w5).mono ?_;rintro e w6 ⟨rfl,b6⟩;dsimp only;have B6:=jA (B5.u.trans (b6.mono B5.u.size));clear b6;have kF:=(B6.u.cell (p:=⟨F,v,none⟩) hFr).trans HKF.u;have fF:w6.frozen? ⟨F,v,none⟩=false:=jb _ _ _ _ _ (xK B6.u hFr FF.u)))
      have hs6:=B6.u.size;refine xP (fun w7=>Below B w w7∧w7.heap[B]?=some (.cells #[.string ⟨c.nm.toArray⟩,.slice oa c.op.length cap,.int .i64 c.rl,.int .i64 c.se,.int .i64 c.mo,.int .i64 0] 161 (0,0))∧w7.heap[F]?=some (.cells (Kv (b.take (k+1)) T1).toArray 4 (0,0))) ⟨(BB.u.trans (B6.u.mono (jZ hBr))).setCell (jZ hBF) _,(qm _ _ _ _ (by simp;omega)).trans (xK B6.u hBr XX.u),by rw [jd _ _ _ _ _ _ (xK B6.u hFr FF.u)];rw [vt,XW _ _ _ hvT,HTK.u]⟩ (fun w7 hw7=>?_);have H7:=jA hw7;clear hw7 kF fF;have HPM:=jA (show m+1=zo (b.take (k+1))by rw [HPN.u,jR (by omega)]);go_wp2_with fail;go_roundw;case rel=>exact⟨k+1,m+1,by omega,by omega,by go_num,by go_num,HPM.u,HOK2.u,H7.u.1,H7.u.2.1,H7.u.2.2⟩
      case measure=>simp [intOf];omega
     |
      true=>
      cases sv with
      |
       false=>
       have HOK2:=jA (show okL c [] b=okL c (b.take (k+1)) (b.drop (k+1))by rw [HST.u,HOX2.u];rfl);clear HOX2;go_upto_region 9 with(first
        |go_big_skip
        |((with_reducible refine xl 161 ?_);refine xO ?_ 161 (.tmp 2) ?_ B _ _ _ _ ?_ X5.u underlying161 ?_ yW ?_;rfl;rfl;rfl;rfl)
        |((with_reducible refine xl 161 ?_);refine xO ?_ 161 (.tmp 2) ?_ B _ _ _ _ ?_ XX.u underlying161 ?_ yW ?_;rfl;rfl;rfl;rfl)
        |(go_at_call 168;refine(QT.u wr).mono ?_;rintro e w5 ⟨rfl,b5⟩;dsimp only;have X5:=jA (xK b5 hBr XX.u);have B5:=jA b5;clear b5)
        |(go_at_call 169;refine(QR.u w5).mono ?_;rintro e w6 ⟨rfl,b6⟩;dsimp only;have B6:=jA (B5.u.trans (b6.mono B5.u.size));clear b6;have kF:=(B6.u.cell (p:=⟨F,v,none⟩) hFr).trans HKF.u;have fF:w6.frozen? ⟨F,v,none⟩=false:=jb _ _ _ _ _ (xK B6.u hFr FF.u)))
       have hs6:=B6.u.size;refine xP (fun w7=>Below B w w7∧w7.heap[B]?=some (.cells #[.string ⟨c.nm.toArray⟩,.slice oa c.op.length cap,.int .i64 c.rl,.int .i64 c.se,.int .i64 c.mo,.int .i64 0] 161 (0,0))∧w7.heap[F]?=some (.cells (Kv (b.take (k+1)) T1).toArray 4 (0,0))) ⟨(BB.u.trans (B6.u.mono (jZ hBr))).setCell (jZ hBF) _,(qm _ _ _ _ (by simp;omega)).trans (xK B6.u hBr XX.u),by rw [jd _ _ _ _ _ _ (xK B6.u hFr FF.u)];rw [vt,XW _ _ _ hvT,HTK.u]⟩ (fun w7 hw7=>?_);have H7:=jA hw7;clear hw7 kF fF;have HPM:=jA (show m+1=zo (b.take (k+1))by rw [HPN.u,jR (by omega)]);go_wp2_with fail;go_roundw;case rel=>exact⟨k+1,m+1,by omega,by omega,by go_num,by go_num,HPM.u,HOK2.u,H7.u.1,H7.u.2.1,H7.u.2.2⟩
       case measure=>simp [intOf];omega
      |
       true=>
       have HE:=jA (show zY c b=false by rw [HFB.u,HST.u,HOX2.u];rfl);clear HOX2;go_wp2_with (first
        |go_big_skip
        |((with_reducible refine xl 161 ?_);refine xO ?_ 161 (.tmp 2) ?_ B _ _ _ _ ?_ X5.u underlying161 ?_ yW ?_;rfl;rfl;rfl;rfl)
        |((with_reducible refine xl 161 ?_);refine xO ?_ 161 (.tmp 2) ?_ B _ _ _ _ ?_ XX.u underlying161 ?_ yW ?_;rfl;rfl;rfl;rfl)
        |(go_at_call 168;refine(QT.u wr).mono ?_;rintro e w5 ⟨rfl,b5⟩;dsimp only;have X5:=jA (xK b5 hBr XX.u);have B5:=jA b5;clear b5)
        |(go_at_call 169;refine(QR.u w5).mono ?_;rintro e w6 ⟨rfl,b6⟩;dsimp only;have B6:=jA (B5.u.trans (b6.mono B5.u.size));clear b6;have kF:=(B6.u.cell (p:=⟨F,v,none⟩) hFr).trans HKF.u;have fF:w6.frozen? ⟨F,v,none⟩=false:=jb _ _ _ _ _ (xK B6.u hFr FF.u)))
       go_ret;exact⟨by rw [HE.u];rfl,by rw [HB.u];exact BB.u.trans (B6.u.mono (jZ hBr))⟩
    ·have d2:decide ((0:Int)<(v:Int))=false:=jS (by omega);have d2':decide (0<v)=false:=jS hv0;rw [d2]at HOX2;have HOK2:=jA (show okL c [] b=okL c (b.take (k+1)) (b.drop (k+1))by rw [HST.u,HOX2.u];cases rk<;>rfl);clear HOX2;cases rk with
     |
      false=>
      go_upto_region 9 with(first
       |go_big_skip
       |((with_reducible refine xl 161 ?_);refine xO ?_ 161 (.tmp 2) ?_ B _ _ _ _ ?_ X5.u underlying161 ?_ yW ?_;rfl;rfl;rfl;rfl)
       |((with_reducible refine xl 161 ?_);refine xO ?_ 161 (.tmp 2) ?_ B _ _ _ _ ?_ XX.u underlying161 ?_ yW ?_;rfl;rfl;rfl;rfl)
       |(go_at_call 168;refine(QT.u wr).mono ?_;rintro e w5 ⟨rfl,b5⟩;dsimp only;have X5:=jA (xK b5 hBr XX.u);have B5:=jA b5;clear b5)
       |(go_at_call 169;refine(QR.u w5).mono ?_;rintro e w6 ⟨rfl,b6⟩;dsimp only;have B6:=jA (B5.u.trans (b6.mono B5.u.size));clear b6;have kF:=(B6.u.cell (p:=⟨F,v,none⟩) hFr).trans HKF.u;have fF:w6.frozen? ⟨F,v,none⟩=false:=jb _ _ _ _ _ (xK B6.u hFr FF.u)))
      have hs6:=B6.u.size;refine xP (fun w7=>Below B w w7∧w7.heap[B]?=some (.cells #[.string ⟨c.nm.toArray⟩,.slice oa c.op.length cap,.int .i64 c.rl,.int .i64 c.se,.int .i64 c.mo,.int .i64 0] 161 (0,0))∧w7.heap[F]?=some (.cells (Kv (b.take (k+1)) T1).toArray 4 (0,0))) ⟨(BB.u.trans (B6.u.mono (jZ hBr))).setCell (jZ hBF) _,(qm _ _ _ _ (by simp;omega)).trans (xK B6.u hBr XX.u),by rw [jd _ _ _ _ _ _ (xK B6.u hFr FF.u)];rw [vt,XW _ _ _ hvT,HTK.u]⟩ (fun w7 hw7=>?_);have H7:=jA hw7;clear hw7 kF fF;have HPM:=jA (show m=zo (b.take (k+1))by rw [HPN.u,jT (by omega)];rfl);go_wp2_with fail;go_roundw;case rel=>exact⟨k+1,m,by omega,by omega,by go_num,rfl,HPM.u,HOK2.u,H7.u.1,H7.u.2.1,H7.u.2.2⟩
      case measure=>simp [intOf];omega
     |
      true=>
      go_upto_region 9 with(first
       |go_big_skip
       |((with_reducible refine xl 161 ?_);refine xO ?_ 161 (.tmp 2) ?_ B _ _ _ _ ?_ X5.u underlying161 ?_ yW ?_;rfl;rfl;rfl;rfl)
       |((with_reducible refine xl 161 ?_);refine xO ?_ 161 (.tmp 2) ?_ B _ _ _ _ ?_ XX.u underlying161 ?_ yW ?_;rfl;rfl;rfl;rfl)
       |(go_at_call 168;refine(QT.u wr).mono ?_;rintro e w5 ⟨rfl,b5⟩;dsimp only;have X5:=jA (xK b5 hBr XX.u);have B5:=jA b5;clear b5)
       |(go_at_call 169;refine(QR.u w5).mono ?_;rintro e w6 ⟨rfl,b6⟩;dsimp only;have B6:=jA (B5.u.trans (b6.mono B5.u.size));clear b6;have kF:=(B6.u.cell (p:=⟨F,v,none⟩) hFr).trans HKF.u;have fF:w6.frozen? ⟨F,v,none⟩=false:=jb _ _ _ _ _ (xK B6.u hFr FF.u)))
      have hs6:=B6.u.size;refine xP (fun w7=>Below B w w7∧w7.heap[B]?=some (.cells #[.string ⟨c.nm.toArray⟩,.slice oa c.op.length cap,.int .i64 c.rl,.int .i64 c.se,.int .i64 c.mo,.int .i64 0] 161 (0,0))∧w7.heap[F]?=some (.cells (Kv (b.take (k+1)) T1).toArray 4 (0,0))) ⟨(BB.u.trans (B6.u.mono (jZ hBr))).setCell (jZ hBF) _,(qm _ _ _ _ (by simp;omega)).trans (xK B6.u hBr XX.u),by rw [jd _ _ _ _ _ _ (xK B6.u hFr FF.u)];rw [vt,XW _ _ _ hvT,HTK.u]⟩ (fun w7 hw7=>?_);have H7:=jA hw7;clear hw7 kF fF;have HPM:=jA (show m=zo (b.take (k+1))by rw [HPN.u,jT (by omega)];rfl);go_wp2_with fail;go_roundw;case rel=>exact⟨k+1,m,by omega,by omega,by go_num,rfl,HPM.u,HOK2.u,H7.u.1,H7.u.2.1,H7.u.2.2⟩
      case measure=>simp [intOf];omega
 ·have dk:decide ((k:Int)<(b.length:Int))=false:=jS (by omega);have dk2:decide (k<b.length)=false:=jS hlt;obtain rfl:k=b.length:=by omega
  rw [kG]at HM FF;rw [kG,List.drop_length]at HOK;have HFB2:=jA (show zY c b=((!rk||Zt b m)&&(decide (c.rl≠1)||decide ((m:Int)≤c.mo)))by rw [HFB.u,HOK.u,show okL c b []=true from rfl,Bool.true_and,←HM.u]);clear HFB HOK
  as_aux_lemma=>
  go_wp2_with fail;go_loopw [9] (fun i wr=> ∃n:Nat,n≤m∧i=.int .i64 ((n:Int)+1)∧Zt b n=true∧(rk=false→n=0)∧Below B w wr∧wr.heap[B]?=some (.cells #[.string ⟨c.nm.toArray⟩,.slice oa c.op.length cap,.int .i64 c.rl,.int .i64 c.se,.int .i64 c.mo,.int .i64 0] 161 (0,0))∧wr.heap[F]?=some (.cells (Kv b T1).toArray 4 (0,0))) (fun i _=>m+2-(intOf i).toNat);case atStart=>exact⟨0,ji _,rfl,rfl,fun _=>rfl,BB.u,XX.u,FF.u⟩
  case round=>
  clear BB XX FF;obtain⟨n,hn2,rfl,hg,hz,hb2,hx2,hf2⟩:=hrel;have HG:=jA hg;have B2:=jA hb2;have X2:=jA hx2;have F2:=jA hf2;have HZ:=jA hz;have hBr:B<wr.heap.size:=lt_of_heap hx2;have hFr:F<wr.heap.size:=lt_of_heap hf2;clear hg hb2 hx2 hf2 hz;cases rk with
  |
   false=>
   have HFB3:=jA (show zY c b=(decide (c.rl≠1)||decide ((m:Int)≤c.mo))by rw [HFB2.u];rfl);by_cases hr1:c.rl=1
   ·have e1:(c.rl !=1)=false:=by rw [hr1];rfl
    have HE:=jA (show zY c b=decide ((m:Int)≤c.mo)by rw [HFB3.u,jS (by simp [hr1])];rfl);clear hr1;go_wp2_with (first
     |go_big_skip
     |((with_reducible refine xl 161 ?_);refine xO ?_ 161 (.tmp 2) ?_ B _ _ _ _ ?_ X2.u underlying161 ?_ yW ?_;rfl;rfl;rfl;rfl)
     |(go_at_call 169;refine(QR.u wr).mono ?_;rintro e w6 ⟨rfl,b6⟩;dsimp only;have B6:=jA (B2.u.trans (b6.mono (jZ hBr)));have X6:=jA (xK b6 hBr X2.u);have F6:=jA (xK b6 hFr F2.u);clear b6;have k2:w6.cell? ⟨B,2,none⟩=some (.int .i64 c.rl):=jM _ _ _ _ _ _ X6.u;have k4:w6.cell? ⟨B,4,none⟩=some (.int .i64 c.mo):=jM _ _ _ _ _ _ X6.u))
    go_ret;exact⟨by rw [HE.u];rfl,by rw [HB.u];exact B6.u⟩
   ·have e1:(c.rl !=1)=true:=by rw [ku];exact hr1
    have HE:=jA (show zY c b=true by rw [HFB3.u,jQ hr1];rfl);clear hr1;go_wp2_with (first
     |go_big_skip
     |((with_reducible refine xl 161 ?_);refine xO ?_ 161 (.tmp 2) ?_ B _ _ _ _ ?_ X2.u underlying161 ?_ yW ?_;rfl;rfl;rfl;rfl)
     |(go_at_call 169;refine(QR.u wr).mono ?_;rintro e w6 ⟨rfl,b6⟩;dsimp only;have B6:=jA (B2.u.trans (b6.mono (jZ hBr)));have X6:=jA (xK b6 hBr X2.u);have F6:=jA (xK b6 hFr F2.u);clear b6;have k2:w6.cell? ⟨B,2,none⟩=some (.int .i64 c.rl):=jM _ _ _ _ _ _ X6.u;have k4:w6.cell? ⟨B,4,none⟩=some (.int .i64 c.mo):=jM _ _ _ _ _ _ X6.u))
    go_ret;exact⟨by rw [HE.u];rfl,by rw [HB.u];exact B6.u⟩
  |
   true=>
   by_cases hnm:n<m
   ·have d1:decide ((n:Int)+1≤(m:Int))=true:=jQ (by omega);have d1':decide (n<m)=true:=jQ hnm;have hT:=HTT.u;have htb:=HTL.u rfl;have hnT:n+1<T1:=by omega
    have hni:(n:Int)+1<(T1:Int):=by omega
    have HKF0:(Kv b T1).toArray[n+1]?=some (.bool (decide (((n+1:Nat):Int)∈b))):=by rw [jE];exact jcc _ _ _ hnT
    have HGS:=jA (jiH b n);have HGN:=jA (jlq b n m hnm);generalize hsv:decide (((n+1:Nat):Int)∈b)=sv at*;have HKF:=jA HKF0;clear HKF0 hT htb;cases sv with
    |
     true=>
     have HG2:=jA (show Zt b (n+1)=true by rw [HGS.u,HG.u];rfl);clear hsv HGS HGN;go_wp2_with (first
      |go_big_skip
      |((with_reducible refine xl 161 ?_);refine xO ?_ 161 (.tmp 2) ?_ B _ _ _ _ ?_ X2.u underlying161 ?_ yW ?_;rfl;rfl;rfl;rfl)
      |(go_at_call 169;refine(QR.u wr).mono ?_;rintro e w6 ⟨rfl,b6⟩;dsimp only;have B6:=jA (B2.u.trans (b6.mono (jZ hBr)));have X6:=jA (xK b6 hBr X2.u);have F6:=jA (xK b6 hFr F2.u);clear b6;have kF:w6.cell? ⟨F,n+1,none⟩=some (.bool true):=(jM _ _ _ _ _ _ F6.u).trans HKF.u))
     go_roundw;case rel=>exact⟨n+1,by omega,by go_num,HG2.u,(fun h=>by cases h),B6.u,X6.u,F6.u⟩
     case measure=>simp [intOf];omega
    |
     false=>
     have HE:=jA (show zY c b=false by rw [HFB2.u,HGN.u (vn hsv)];rfl);clear hsv HGS HGN;go_wp2_with (first
      |go_big_skip
      |((with_reducible refine xl 161 ?_);refine xO ?_ 161 (.tmp 2) ?_ B _ _ _ _ ?_ X2.u underlying161 ?_ yW ?_;rfl;rfl;rfl;rfl)
      |(go_at_call 169;refine(QR.u wr).mono ?_;rintro e w6 ⟨rfl,b6⟩;dsimp only;have B6:=jA (B2.u.trans (b6.mono (jZ hBr)));have X6:=jA (xK b6 hBr X2.u);have F6:=jA (xK b6 hFr F2.u);clear b6;have kF:w6.cell? ⟨F,n+1,none⟩=some (.bool false):=(jM _ _ _ _ _ _ F6.u).trans HKF.u))
     go_ret;exact⟨by rw [HE.u];rfl,by rw [HB.u];exact B6.u⟩
   ·have d1:decide ((n:Int)+1≤(m:Int))=false:=jS (by omega);have d1':decide (n<m)=false:=jS hnm;have hnm2:n=m:=by omega
    have HFB3:=jA (show zY c b=(decide (c.rl≠1)||decide ((m:Int)≤c.mo))by rw [HFB2.u,←hnm2,HG.u];rfl);clear hnm2 hnm;by_cases hr1:c.rl=1
    ·have e1:(c.rl !=1)=false:=by rw [hr1];rfl
     have HE:=jA (show zY c b=decide ((m:Int)≤c.mo)by rw [HFB3.u,jS (by simp [hr1])];rfl);clear hr1;go_wp2_with (first
      |go_big_skip
      |((with_reducible refine xl 161 ?_);refine xO ?_ 161 (.tmp 2) ?_ B _ _ _ _ ?_ X2.u underlying161 ?_ yW ?_;rfl;rfl;rfl;rfl)
      |(go_at_call 169;refine(QR.u wr).mono ?_;rintro e w6 ⟨rfl,b6⟩;dsimp only;have B6:=jA (B2.u.trans (b6.mono (jZ hBr)));have X6:=jA (xK b6 hBr X2.u);have F6:=jA (xK b6 hFr F2.u);clear b6;have k2:w6.cell? ⟨B,2,none⟩=some (.int .i64 c.rl):=jM _ _ _ _ _ _ X6.u;have k4:w6.cell? ⟨B,4,none⟩=some (.int .i64 c.mo):=jM _ _ _ _ _ _ X6.u))
     go_ret;exact⟨by rw [HE.u];rfl,by rw [HB.u];exact B6.u⟩
    ·have e1:(c.rl !=1)=true:=by rw [ku];exact hr1
     have HE:=jA (show zY c b=true by rw [HFB3.u,jQ hr1];rfl);clear hr1;go_wp2_with (first
      |go_big_skip
      |((with_reducible refine xl 161 ?_);refine xO ?_ 161 (.tmp 2) ?_ B _ _ _ _ ?_ X2.u underlying161 ?_ yW ?_;rfl;rfl;rfl;rfl)
      |(go_at_call 169;refine(QR.u wr).mono ?_;rintro e w6 ⟨rfl,b6⟩;dsimp only;have B6:=jA (B2.u.trans (b6.mono (jZ hBr)));have X6:=jA (xK b6 hBr X2.u);have F6:=jA (xK b6 hFr F2.u);clear b6;have k2:w6.cell? ⟨B,2,none⟩=some (.int .i64 c.rl):=jM _ _ _ _ _ _ X6.u;have k4:w6.cell? ⟨B,4,none⟩=some (.int .i64 c.mo):=jM _ _ _ _ _ _ X6.u))
     go_ret;exact⟨by rw [HE.u];rfl,by rw [HB.u];exact B6.u⟩
def jeY(m:Nat):List Int:=(List.range m).map fun k:Nat=>((k+1:Nat):Int)
theorem jah {α:Type} [DecidableEq α]: ∀{A B:List α},A.Nodup→(∀x∈A,x∈B)→A.length≤B.length∧(B.length≤A.length→A.Perm B)
 |
  [],B,_,_=>⟨ji _,fun h=>by
  have:B= []:=kY.1 (Nat.le_zero.1 h);rw [this]⟩
 |
  a::A,B,hA,h=>by
  obtain⟨h1,h2⟩:=vM.1 hA;have haB:a∈B:=h a (by simp);have hp:=List.perm_cons_erase haB;have hl:(B.erase a).length=B.length-1:=List.length_erase_of_mem haB;have hB0:0<B.length:=List.length_pos_of_mem haB
  have ih:=jah (B:=B.erase a) h2 (fun x hx=>by
   have hne:x≠a:=fun e=>h1 (e▸hx);exact(List.mem_erase_of_ne hne).2 (h x (by simp [hx])))
  refine⟨by rw [kR];omega,fun hle=>?_⟩;rw [kR]at hle;exact((ih.2 (by omega)).cons a).trans hp.symm
theorem jar(m:Nat):(jeY m).Nodup:=by
 unfold jeY;rw [List.nodup_iff_pairwise_ne,List.pairwise_map];exact(qt (n:=m)).imp (fun {a b} h e=>h (by omega))
theorem jis(m:Nat)(x:Int):x∈jeY m↔1≤x∧x≤m:=by
 unfold jeY;rw [jl];constructor
 ·rintro⟨k,hk,rfl⟩;have:=jf.1 hk;omega
 ·rintro⟨h1,h2⟩;exact⟨(x-1).toNat,jf.2 (by omega),by omega⟩
def VH(b:List Int):List Int:=b.filter fun x=>decide (0<x)
theorem jcW(L:List Int)(n:Int):Kg L n=L.count n:=by
 unfold Kg;rw [←List.countP_eq_length_filter];rfl
theorem jjT(b:List Int):((VH b).Nodup∧ ∀n,1≤n→n≤(VH b).length→(n:Int)∈b)↔ ∀n,1≤n→n≤(VH b).length→Kg b (n:Nat)=1:=by
 constructor
 ·rintro⟨h1,h2⟩ n hn hm;rw [jcW];have hc:(VH b).count (n:Int)=b.count (n:Int):=by
   unfold VH;rw [List.count_filter];simp;omega
  rw [←hc];have a:=List.nodup_iff_count.1 h1 (n:Int);have hp:(n:Int)∈VH b:=kB.2 ⟨h2 n hn hm,by simp;omega⟩;have:=List.count_pos_iff.2 hp;omega
 ·intro h;have hin: ∀n:Nat,1≤n→n≤(VH b).length→(n:Int)∈b:=fun n h1 h2=>by
   have:=h n h1 h2;rw [jcW]at this;exact List.count_pos_iff.1 (by omega)
  refine⟨?_,hin⟩
  have hp:=(jah (B:=VH b) (jar (VH b).length) (fun x hx=>by
   obtain⟨h1,h2⟩:=(jis _ _).1 hx;obtain⟨n,rfl⟩: ∃n:Nat,x=n:=⟨x.toNat,by omega⟩;exact kB.2 ⟨hin n (by omega) (by omega),by simp;omega⟩)).2 (by simp [jeY])
  exact hp.nodup_iff.1 (jar _)
theorem jih(L:List Int)(x:Int):VH (L++ [x])=VH L++if 0<x then [x]else []:=by
 unfold VH;rw [qP];by_cases h:0<x<;>simp [h]
theorem jdJ(c:yE): ∀(r L:List Int),((VH L).Nodup∨zD c.rl=false)→(okL c L r=true↔(∀x∈r,0≤x∧x≤XD c)∧(zD c.rl=true→(VH (L++r)).Nodup))
 |
  [],L,h=>by
  simp only [okL,qD,jv,false_imp_iff,implies_true,true_and,true_iff];intro h1;rcases h with h|h;·exact h
  ·rw [h]at h1;cases h1
 |
  x::r,L,h=>by
  have key:okX c L x=true↔(0≤x∧x≤XD c)∧(zD c.rl=true→(VH (L++ [x])).Nodup):=by
   unfold okX;rw [jih];cases hr:zD c.rl with
   |false=>simp
   |
    true=>
    have hL:(VH L).Nodup:=by rcases h with h|h;exact h;rw [hr]at h;cases h
    by_cases hx:0<x
    ·have:x∈VH L↔x∈L:=by unfold VH;simp [hx]
     simp only [hx,jY,vB];simp [hL,this,hx];intro _ _;constructor;·intro h a ha e;subst e;exact h (this.1 ha)
     ·intro h hm;exact h x (this.2 hm) rfl
    ·simp [hx,hL]
  have e:L++x::r=(L++ [x])++r:=by simp
  simp only [okL,jy];rw [key,e];constructor
  ·rintro⟨⟨h1,h2⟩,h3⟩;have hh:(VH (L++ [x])).Nodup∨zD c.rl=false:=by
    cases hr:zD c.rl with
    |false=>exact .inr rfl
    |true=>exact .inl (h2 hr)
   have:=(jdJ c r (L++ [x]) hh).1 h3;refine⟨fun y hy=>?_,this.2⟩;rcases jg.1 hy with rfl|hy;·exact h1
   ·exact this.1 y hy
  ·rintro⟨h1,h2⟩;have h2':zD c.rl=true→(VH (L++ [x])).Nodup:=fun hr=>by
    have:=h2 hr;unfold VH at this ⊢;rw [qP]at this;exact(vB.1 this).1
   have hh:(VH (L++ [x])).Nodup∨zD c.rl=false:=by
    cases hr:zD c.rl with
    |false=>exact .inr rfl
    |true=>exact .inl (h2' hr)
   exact⟨⟨h1 x (by simp),h2'⟩,(jdJ c r (L++ [x]) hh).2 ⟨fun y hy=>h1 y (by simp [hy]),h2⟩⟩
def XI(b:List Int)(m:Nat):Bool:=(List.range m).all fun k:Nat=>decide (Kg b ((k+1:Nat):Int)=1)
def jbb(c:yE)(b:List Int):Bool:=b.all fun x=>decide (0≤x∧x≤XD c)
def XG(c:yE)(b:List Int):Bool:=jbb c b&&if zD c.rl=true then XI b (b.length-Kg b 0)else(decide (c.rl≠1)||decide (((b.length-Kg b 0:Nat):Int)≤c.mo))
theorem jka(b:List Int)(h: ∀x∈b,0≤x):b.length-Kg b 0=zo b:=by
 unfold Kg zo
 induction b with
 |nil=>rfl
 |
  cons x r ih=>
  have ih:=ih (fun y hy=>h y (by simp [hy]));have hx:=h x (by simp);have h1:=kt (fun y:Int=>y==0) r;by_cases h0:x=0;·subst h0;simp at ih ⊢;omega
  ·have:0<x:=by omega
   simp [h0,this]at ih ⊢;omega
theorem jkq(b:List Int)(m:Nat):Zt b m=true↔ ∀n:Nat,1≤n→n≤m→(n:Int)∈b:=by
 unfold Zt;rw [kr];constructor
 ·intro h n h1 h2;have:=h (n-1) (jf.2 (by omega));have e:n-1+1=n:=by omega
  rw [e]at this;exact qY this
 ·intro h k hk;have:=jf.1 hk;exact jQ (h (k+1) (by omega) (by omega))
theorem jio(b:List Int)(m:Nat):XI b m=true↔ ∀n:Nat,1≤n→n≤m→Kg b (n:Nat)=1:=by
 unfold XI;rw [kr];constructor
 ·intro h n h1 h2;have:=h (n-1) (jf.2 (by omega));have e:n-1+1=n:=by omega
  rw [e]at this;exact qY this
 ·intro h k hk;have:=jf.1 hk;exact jQ (h (k+1) (by omega) (by omega))
theorem XZ(c:yE)(b:List Int):jbb c b=true↔ ∀x∈b,0≤x∧x≤XD c:=by
 unfold jbb;rw [kr];exact⟨fun h x hx=>qY (h x hx),fun h x hx=>jQ (h x hx)⟩
theorem jfj(c:yE)(b:List Int):zY c b=XG c b:=by
 rw [Bool.eq_iff_iff];unfold zY XG;simp only [jy,qS];rw [jdJ c b [] (.inl (by simp [VH])),XZ,kj];by_cases hR: ∀x∈b,0≤x∧x≤XD c
 ·have hm:=jka b (fun x hx=>(hR x hx).1);rw [hm];cases hr:zD c.rl with
  |false=>simp
  |
   true=>
   have h1:c.rl≠1:=by intro e;rw [e]at hr;revert hr;decide
   have:=jjT b;rw [jR rfl,jio,jkq];simp [h1];constructor
   ·rintro⟨⟨h1,h2⟩,h3⟩;exact⟨h1,this.1 ⟨h2,h3⟩⟩
   ·rintro⟨h1,h2⟩;have:=this.2 h2;exact⟨⟨h1,this.1⟩,this.2⟩
 ·simp [hR]
def Ke(c:yE)(b:List Int):Int:=if b.length≠c.op.length then 2 else if zY c b=true then 0 else 4
theorem jfA(c:yE)(b:List Int)(oa:Option Addr)(cap:Nat)(ob:Option Addr)(cb:Nat)(w:World)(hb:yj w ob b)(hn:c.op.length≤12):
 Calls prog 69 #[.agg #[.string ⟨c.nm.toArray⟩,.slice oa c.op.length cap,.int .i64 c.rl,.int .i64 c.se,.int .i64 c.mo],.slice ob b.length cb] w fun e w'=>e=.returned (.int .i64 (Ke c b))∧Below w.heap.size w w':=by
 have HIB:=jA hb;clear hb;by_cases hl:b.length=c.op.length
 ·have QF:=jA (fun w h=>jku c b oa cap ob cb w h hn hl);have HE:=jA (show Ke c b=if zY c b=true then 0 else 4 by unfold Ke;rw [jT (fun h=>h hl)]);have d0:((b.length:Int) !=(c.op.length:Int))=false:=by rw [hl];simp
  have d0':(b.length !=c.op.length)=false:=by rw [hl];simp
  clear hl;generalize zY c b=f at*;go_enter Tryz.func69,Tryz.ntmps69;go_upto_block 0 with(fail);generalize hB:w.heap.size=B at*;refine xP (fun w1=>Below B w w1∧w1.heap[B]?=some (.cells #[.string ⟨c.nm.toArray⟩,.slice oa c.op.length cap,.int .i64 c.rl,.int .i64 c.se,.int .i64 c.mo] 24 (0,0))) ⟨by rw [←hB];exact(jN _ _).alloc (jO _) _,by rw [←hB];exact xN rfl⟩ (fun w1 hw1=>?_);have HB:=jA hB;have B1:=jA hw1.1;have X1:=jA hw1.2;have hBs:B<w1.heap.size:=lt_of_heap hw1.2;have k1:w1.cell? ⟨B,1,none⟩=some (.slice oa c.op.length cap):=jM w1 B 1 _ _ _ X1.u;clear hB hw1;have HI1:=jA (HIB.u.below (by rw [HB.u];exact B1.u));cases f with
  |
   true=>
   go_wp2_with (first
    |go_big_skip
    |((with_reducible refine xl 24 ?_);refine xO ?_ 24 (.tmp 2) ?_ B _ _ _ _ ?_ X1.u underlying24 ?_ xe ?_;rfl;rfl;rfl;rfl)
    |((with_reducible refine at_build 161 ?_);refine wpList_build ?_ 161 _ ?_ _ ?_ _ (built_field _ _ _ _ _ _ _) ?_;rfl;rfl;rfl)
    |(go_at_call 116;refine(QF.u w1 HI1.u).mono ?_;rintro e w2 ⟨rfl,b2⟩;dsimp only))
   go_ret;exact⟨by rw [HE.u];rfl,by rw [HB.u];exact B1.u.trans (b2.mono (jZ hBs))⟩
  |
   false=>
   go_wp2_with (first
    |go_big_skip
    |((with_reducible refine xl 24 ?_);refine xO ?_ 24 (.tmp 2) ?_ B _ _ _ _ ?_ X1.u underlying24 ?_ xe ?_;rfl;rfl;rfl;rfl)
    |((with_reducible refine at_build 161 ?_);refine wpList_build ?_ 161 _ ?_ _ ?_ _ (built_field _ _ _ _ _ _ _) ?_;rfl;rfl;rfl)
    |(go_at_call 116;refine(QF.u w1 HI1.u).mono ?_;rintro e w2 ⟨rfl,b2⟩;dsimp only))
   go_ret;exact⟨by rw [HE.u];rfl,by rw [HB.u];exact B1.u.trans (b2.mono (jZ hBs))⟩
 ·have HE:=jA (show Ke c b=2 by unfold Ke;rw [jR hl]);have d0:((b.length:Int) !=(c.op.length:Int))=true:=by rw [ku];omega
  have d0':(b.length !=c.op.length)=true:=by rw [ku];exact hl
  clear hl;go_enter Tryz.func69,Tryz.ntmps69;go_upto_block 0 with(fail);generalize hB:w.heap.size=B at*;refine xP (fun w1=>Below B w w1∧w1.heap[B]?=some (.cells #[.string ⟨c.nm.toArray⟩,.slice oa c.op.length cap,.int .i64 c.rl,.int .i64 c.se,.int .i64 c.mo] 24 (0,0))) ⟨by rw [←hB];exact(jN _ _).alloc (jO _) _,by rw [←hB];exact xN rfl⟩ (fun w1 hw1=>?_);have HB:=jA hB;have B1:=jA hw1.1;have X1:=jA hw1.2;have hBs:B<w1.heap.size:=lt_of_heap hw1.2;have k1:w1.cell? ⟨B,1,none⟩=some (.slice oa c.op.length cap):=jM w1 B 1 _ _ _ X1.u;clear hB hw1;go_wp2_with fail;go_ret;exact⟨by rw [HE.u];rfl,by rw [HB.u];exact B1.u⟩
theorem jgn(b:List Int)(n:Nat):XI b (n+1)=(XI b n&&decide (Kg b ((n+1:Nat):Int)=1)):=by
 simp [XI,qi,List.all_append]
theorem jjU(b:List Int)(n m:Nat)(h:n<m)(hb: ¬Kg b ((n+1:Nat):Int)=1):XI b m=false:=by
 rw [←Bool.not_eq_true];intro h2;unfold XI at h2;rw [kr]at h2;exact hb (qY (h2 n (jf.2 h)))
theorem jcm {c:yE}{b:List Int}{x:Int}(hx:x∈b)(h: ¬(0≤x∧x≤XD c)):jbb c b=false:=by
 rw [←Bool.not_eq_true,XZ];exact fun h2=>h (h2 x hx)
theorem jhq(b:List Int)(n:Int):Kg b n≤b.length:=kt _ _
theorem jeH(c:yE)(b:List Int)(oa:Option Addr)(cap:Nat)(ob:Option Addr)(cb:Nat)(w:World)(hb:yj w ob b)(hn:c.op.length≤12):
 Calls prog 46 #[.agg #[.string ⟨c.nm.toArray⟩,.slice oa c.op.length cap,.int .i64 c.rl,.int .i64 c.se,.int .i64 c.mo],.slice ob b.length cb] w fun e w'=>e=.returned (.int .i64 (Ke c b))∧Below w.heap.size w w':=by
 have HIB:=jA hb;clear hb;by_cases hl:b.length=c.op.length
 ·have QT:=jA (fun w=>jfX c oa cap w);have QR:=jA (fun w=>ZN c oa cap w);have hb12:b.length≤12:=by omega
  have QC:=jA (fun w n h=>jhB ob b cb n w h (by omega));have HE:=jA (show Ke c b=if XG c b=true then 0 else 4 by unfold Ke;rw [jT (fun h=>h hl),jfj]);have d0:((b.length:Int) !=(c.op.length:Int))=false:=by rw [hl];simp
  have d0':(b.length !=c.op.length)=false:=by rw [hl];simp
  have HRF:=jA (show XG c b=(jbb c b&&if zD c.rl=true then XI b (b.length-Kg b 0)else(decide (c.rl≠1)||decide (((b.length-Kg b 0:Nat):Int)≤c.mo)))from rfl);obtain⟨t,ht,htn⟩:=jeq c;rw [ht]at QT;have HTI:=jA ht;have ht12:t≤12:=by omega
  clear hl ht htn;go_enter Tryz.func46,Tryz.ntmps46;go_upto_region 1 with(fail);generalize hB:w.heap.size=B at*;refine xP (fun w1=>Below B w w1∧w1.heap[B]?=some (.cells #[.string ⟨c.nm.toArray⟩,.slice oa c.op.length cap,.int .i64 c.rl,.int .i64 c.se,.int .i64 c.mo] 24 (0,0))) ⟨by rw [←hB];exact(jN _ _).alloc (jO _) _,by rw [←hB];exact xN rfl⟩ (fun w1 hw1=>?_);have HB:=jA hB;have B1:=jA hw1.1;have X1:=jA hw1.2;have hBs:B<w1.heap.size:=lt_of_heap hw1.2;have k1:w1.cell? ⟨B,1,none⟩=some (.slice oa c.op.length cap):=jM w1 B 1 _ _ _ X1.u;clear hB hw1;go_wp2_with fail;go_loopw [17] (fun i wr=> ∃k:Nat,k≤b.length∧i=.int .i64 k∧(∀x∈b.take k,0≤x∧x≤XD c)∧Below B w wr∧wr.heap[B]?=some (.cells #[.string ⟨c.nm.toArray⟩,.slice oa c.op.length cap,.int .i64 c.rl,.int .i64 c.se,.int .i64 c.mo] 24 (0,0))) (fun i _=>b.length-(intOf i).toNat);case atStart=>exact⟨0,ji _,rfl,(fun x hx=>by simp at hx),B1.u,X1.u⟩
  case round=>
  clear B1 X1 k1 hBs;obtain⟨k,hk,rfl,hr,hb2,hx2⟩:=hrel;have HR:=jA hr;have B2:=jA hb2;have X2:=jA hx2;have hBr:B<wr.heap.size:=lt_of_heap hx2;have HI2:=jA (HIB.u.below (HB.u.symm▸hb2));clear hr hb2 hx2;by_cases hlt:k<b.length
  ·have dk:decide ((k:Int)<(b.length:Int))=true:=jQ (by omega);have dk2:decide (k<b.length)=true:=jQ hlt;have hki:(k:Int)<(b.length:Int):=by omega
   obtain⟨q,hoa,hqb,hqc⟩:=HI2.u.cells k hlt;subst hoa;have HM:=jA (jj hlt);have HTK:=jA (show b.take (k+1)=b.take k++ [b[k]]from jk hlt);generalize b[k]=x at*;by_cases hx0:x<0
   ·have e0:decide (x<0)=true:=jQ hx0;have HE2:=jA (show Ke c b=4 by rw [HE.u,HRF.u,jcm HM.u (by omega)];rfl);clear hx0;go_wp2_with (first
     |go_big_skip
     |((with_reducible refine xl 24 ?_);refine xO ?_ 24 (.tmp 2) ?_ B _ _ _ _ ?_ X2.u underlying24 ?_ xe ?_;rfl;rfl;rfl;rfl)
     |(go_at_call 85;refine(QT.u wr).mono ?_;rintro e w3 ⟨rfl,b3⟩;dsimp only))
    go_ret;exact⟨by rw [HE2.u];rfl,by rw [HB.u];exact B2.u⟩
   ·obtain⟨v,rfl⟩: ∃v:Nat,x=v:=⟨x.toNat,by omega⟩;have e0:decide ((v:Int)<0)=false:=jS hx0;by_cases hvt:t<v
    ·have e1:decide ((t:Int)<(v:Int))=true:=jQ (by omega);have e1':decide (t<v)=true:=jQ hvt;have HE2:=jA (show Ke c b=4 by rw [HE.u,HRF.u,jcm HM.u (by rw [HTI.u];omega)];rfl);clear hx0 hvt;go_wp2_with (first
      |go_big_skip
      |((with_reducible refine xl 24 ?_);refine xO ?_ 24 (.tmp 2) ?_ B _ _ _ _ ?_ X2.u underlying24 ?_ xe ?_;rfl;rfl;rfl;rfl)
      |(go_at_call 85;refine(QT.u wr).mono ?_;rintro e w3 ⟨rfl,b3⟩;dsimp only))
     go_ret;exact⟨by rw [HE2.u];rfl,by rw [HB.u];exact B2.u.trans (b3.mono (jZ hBr))⟩
    ·have e1:decide ((t:Int)<(v:Int))=false:=jS (by omega);have e1':decide (t<v)=false:=jS hvt
     have HR2:=jA (show ∀x∈b.take (k+1),0≤x∧x≤XD c by
      rw [HTK.u];intro x hx;rcases jh.1 hx with h|h;·exact HR.u x h
      ·rw [jo.1 h,HTI.u];omega)
     clear hx0 hvt;go_wp2_with (first
      |go_big_skip
      |((with_reducible refine xl 24 ?_);refine xO ?_ 24 (.tmp 2) ?_ B _ _ _ _ ?_ X2.u underlying24 ?_ xe ?_;rfl;rfl;rfl;rfl)
      |(go_at_call 85;refine(QT.u wr).mono ?_;rintro e w3 ⟨rfl,b3⟩;dsimp only))
     go_roundw;case rel=>exact⟨k+1,by omega,by go_num,HR2.u,B2.u.trans (b3.mono (jZ hBr)),xK b3 hBr X2.u⟩
     case measure=>simp [intOf];omega
  ·have dk:decide ((k:Int)<(b.length:Int))=false:=jS (by omega);have dk2:decide (k<b.length)=false:=jS hlt;obtain rfl:k=b.length:=by omega
   rw [kG]at HR;have hz:=jhq b 0;have HRF2:=jA (show XG c b=if zD c.rl=true then XI b (b.length-Kg b 0)else(decide (c.rl≠1)||decide (((b.length-Kg b 0:Nat):Int)≤c.mo))by rw [HRF.u,(XZ c b).2 HR.u,Bool.true_and]);have QC0:=jA (QC.u wr 0 HI2.u);clear HRF HR;generalize Kg b 0=z at*;have hsub:(b.length:Int)-(z:Int)=((b.length-z:Nat):Int):=by omega
   have hsle:b.length-z≤12:=by omega
   generalize b.length-z=m at*;go_upto_region 10 with(go_at_call 86;refine(QC0.u).mono ?_;rintro e w3 ⟨rfl,rfl⟩;dsimp only);clear hsub hz
   as_aux_lemma=>
   generalize hrk:zD c.rl=rk at*;clear hrk;cases rk with
   |
    true=>
    have HE3:=jA (show Ke c b=if XI b m=true then 0 else 4 by rw [HE.u,HRF2.u];rfl);clear HRF2 HE;go_wp2_with (first
     |go_big_skip
     |((with_reducible refine xl 24 ?_);refine xO ?_ 24 (.tmp 2) ?_ B _ _ _ _ ?_ X2.u underlying24 ?_ xe ?_;rfl;rfl;rfl;rfl)
     |(go_at_call 87;refine(QR.u wr).mono ?_;rintro e w4 ⟨rfl,b4⟩;dsimp only;have HI4:=jA (HI2.u.below b4);have B4:=jA (B2.u.trans (b4.mono (jZ hBr)));clear b4))
    go_loop [8] (fun i=> ∃n:Nat,n≤m∧i=.int .i64 ((n:Int)+1)∧XI b n=true) (fun i=>m+2-(intOf i).toNat)
    case atStart=>exact⟨0,ji _,rfl,rfl⟩
    case round=>
    obtain⟨n,hn2,rfl,hg⟩:=hrel;have HG:=jA hg;clear hg;by_cases hnm:n<m
    ·have d1:decide ((n:Int)+1≤(m:Int))=true:=jQ (by omega);have d1':decide (n<m)=true:=jQ hnm;have HGS:=jA (jgn b n);have HGN:=jA (jjU b n m hnm);have QCN:=jA (QC.u w4 ((n:Int)+1) HI4.u);have hc12:=jhq b ((n:Int)+1);rw [show((n+1:Nat):Int)=(n:Int)+1 from rfl]at HGS HGN;generalize Kg b ((n:Int)+1)=y at*;by_cases hy:y=1
     ·have d2:((y:Int) !=1)=false:=by rw [hy];rfl
      have d2':(y !=1)=false:=by rw [hy];rfl
      have HG2:=jA (show XI b (n+1)=true by rw [HGS.u,HG.u,jQ hy];rfl);clear hy HGS HGN;go_wp2_with (go_at_call 86;refine(QCN.u).mono ?_;rintro e w5 ⟨rfl,rfl⟩;dsimp only)
      go_round
      case rel=>exact⟨n+1,by omega,by go_num,HG2.u⟩
      case measure=>simp [intOf];omega
     ·have d2:((y:Int) !=1)=true:=by rw [ku];omega
      have d2':(y !=1)=true:=by rw [ku];exact hy
      have HE4:=jA (show Ke c b=4 by rw [HE3.u,HGN.u hy];rfl);clear hy HGS HGN;go_wp2_with (go_at_call 86;refine(QCN.u).mono ?_;rintro e w5 ⟨rfl,rfl⟩;dsimp only);go_ret;exact⟨by rw [HE4.u];rfl,by rw [HB.u];exact B4.u⟩
    ·have d1:decide ((n:Int)+1≤(m:Int))=false:=jS (by omega);have d1':decide (n<m)=false:=jS hnm;obtain rfl:n=m:=by omega
     have HE4:=jA (show Ke c b=0 by rw [HE3.u,HG.u];rfl);clear hnm;go_wp2_with fail;go_ret;exact⟨by rw [HE4.u];rfl,by rw [HB.u];exact B4.u⟩
   |
    false=>
    have HE3:=jA (show Ke c b=if(decide (c.rl≠1)||decide ((m:Int)≤c.mo))=true then 0 else 4 by rw [HE.u,HRF2.u];rfl);clear HRF2 HE;by_cases hr1:c.rl=1
    ·have e1:(c.rl==1)=true:=by rw [hr1];rfl
     by_cases hmo:(m:Int)≤c.mo
     ·have e2:decide (c.mo<(m:Int))=false:=jS (by omega);have HE4:=jA (show Ke c b=0 by rw [HE3.u,jQ hmo,Bool.or_true];rfl);clear hr1 hmo;go_wp2_with (first
       |go_big_skip
       |((with_reducible refine xl 24 ?_);refine xO ?_ 24 (.tmp 2) ?_ B _ _ _ _ ?_ X2.u underlying24 ?_ xe ?_;rfl;rfl;rfl;rfl)
       |(go_at_call 87;refine(QR.u wr).mono ?_;rintro e w4 ⟨rfl,b4⟩;dsimp only;have B4:=jA (B2.u.trans (b4.mono (jZ hBr)));have k2:w4.cell? ⟨B,2,none⟩=some (.int .i64 c.rl):=jM _ _ _ _ _ _ (xK b4 hBr X2.u);have k4:w4.cell? ⟨B,4,none⟩=some (.int .i64 c.mo):=jM _ _ _ _ _ _ (xK b4 hBr X2.u);clear b4))
      go_ret;exact⟨by rw [HE4.u];rfl,by rw [HB.u];exact B4.u⟩
     ·have e2:decide (c.mo<(m:Int))=true:=jQ (by omega);have HE4:=jA (show Ke c b=4 by rw [HE3.u,jS hmo,jS (fun h=>h hr1)];rfl);clear hr1 hmo;go_wp2_with (first
       |go_big_skip
       |((with_reducible refine xl 24 ?_);refine xO ?_ 24 (.tmp 2) ?_ B _ _ _ _ ?_ X2.u underlying24 ?_ xe ?_;rfl;rfl;rfl;rfl)
       |(go_at_call 87;refine(QR.u wr).mono ?_;rintro e w4 ⟨rfl,b4⟩;dsimp only;have B4:=jA (B2.u.trans (b4.mono (jZ hBr)));have k2:w4.cell? ⟨B,2,none⟩=some (.int .i64 c.rl):=jM _ _ _ _ _ _ (xK b4 hBr X2.u);have k4:w4.cell? ⟨B,4,none⟩=some (.int .i64 c.mo):=jM _ _ _ _ _ _ (xK b4 hBr X2.u);clear b4))
      go_ret;exact⟨by rw [HE4.u];rfl,by rw [HB.u];exact B4.u⟩
    ·have e1:(c.rl==1)=false:=by rw [kE];exact hr1
     have HE4:=jA (show Ke c b=0 by rw [HE3.u,jQ hr1];rfl);clear hr1;go_wp2_with (first
      |go_big_skip
      |((with_reducible refine xl 24 ?_);refine xO ?_ 24 (.tmp 2) ?_ B _ _ _ _ ?_ X2.u underlying24 ?_ xe ?_;rfl;rfl;rfl;rfl)
      |(go_at_call 87;refine(QR.u wr).mono ?_;rintro e w4 ⟨rfl,b4⟩;dsimp only;have B4:=jA (B2.u.trans (b4.mono (jZ hBr)));have k2:w4.cell? ⟨B,2,none⟩=some (.int .i64 c.rl):=jM _ _ _ _ _ _ (xK b4 hBr X2.u);have k4:w4.cell? ⟨B,4,none⟩=some (.int .i64 c.mo):=jM _ _ _ _ _ _ (xK b4 hBr X2.u);clear b4))
     go_ret;exact⟨by rw [HE4.u];rfl,by rw [HB.u];exact B4.u⟩
 ·have HE:=jA (show Ke c b=2 by unfold Ke;rw [jR hl]);have d0:((b.length:Int) !=(c.op.length:Int))=true:=by rw [ku];omega
  have d0':(b.length !=c.op.length)=true:=by rw [ku];exact hl
  clear hl;go_enter Tryz.func46,Tryz.ntmps46;go_upto_region 1 with(fail);generalize hB:w.heap.size=B at*;refine xP (fun w1=>Below B w w1∧w1.heap[B]?=some (.cells #[.string ⟨c.nm.toArray⟩,.slice oa c.op.length cap,.int .i64 c.rl,.int .i64 c.se,.int .i64 c.mo] 24 (0,0))) ⟨by rw [←hB];exact(jN _ _).alloc (jO _) _,by rw [←hB];exact xN rfl⟩ (fun w1 hw1=>?_);have HB:=jA hB;have B1:=jA hw1.1;have X1:=jA hw1.2;have hBs:B<w1.heap.size:=lt_of_heap hw1.2;have k1:w1.cell? ⟨B,1,none⟩=some (.slice oa c.op.length cap):=jM w1 B 1 _ _ _ X1.u;clear hB hw1;go_wp2_with fail;go_ret;exact⟨by rw [HE.u];rfl,by rw [HB.u];exact B1.u⟩
def jjf(w:World)(p:Value×List Int):Prop:= ∃ob cb,p.1=.slice ob p.2.length cb∧yj w ob p.2∧p.2.length<9223372036854775808
theorem jjf.below {w w1:World}{p:Value×List Int}(h:jjf w p)(hb:Below w.heap.size w w1):jjf w1 p:=by
 obtain⟨ob,cb,h1,h2,h3⟩:=h;exact⟨ob,cb,h1,h2.below hb,h3⟩
structure Yw(w:World)(oa:Option Addr)(P:List (Value×List Int)):Prop where
 cells: ∀i (h:i<P.length),∃a,oa=some a∧a.block<w.heap.size∧w.cell? (a.add i)=some P[i].1
 rows: ∀p∈P,jjf w p
theorem Yw.below {w w1:World}{oa:Option Addr}{P:List (Value×List Int)}(h:Yw w oa P)(hb:Below w.heap.size w w1):Yw w1 oa P:=⟨fun i hi=>by
 obtain⟨a,h1,h2,h3⟩:=h.cells i hi;exact⟨a,h1,jV h2 hb.size,by rw [hb.cell (by rw [xy];exact h2)];exact h3⟩,fun p hp=>(h.rows p hp).below hb⟩
theorem jeM {w:World}{base:Nat}{e:TypeId}{v:Value}{n:Nat}{P:List (Value×List Int)}(h:w.ownsRow base e 1 v n (P.map Prod.fst))(hr: ∀p∈P,jjf w p): ∃oa cap,v=.slice oa P.length cap∧P.length≤cap∧Yw w oa P:=by
 have hl:P.length=n:=by have:=h.1;simp at this;omega
 rcases h.2 with⟨hv,h0⟩|⟨g,cap,cur,hv,hb,hg,hnc,_,hc,ht⟩
 ·have:P= []:=kY.1 (by omega);subst this;exact⟨none,0,hv,jO _,⟨fun i hi=>by simp at hi,fun p hp=>by simp at hp⟩⟩
 ·refine⟨some ⟨g,0,none⟩,cap,by rw [hl];exact hv,by rw [hl];exact hnc,⟨fun i hi=>⟨_,rfl,lt_of_heap hg,?_⟩,hr⟩⟩;exact h.cells (g:=g) (by rw [hv];rfl) i P[i].1 (by simp [hi])
theorem jcM:(prog.info? 29).map (fun i=>(i.zero,i.size,i.bytes))=some (some (.slice none 0 0),1,24):=by kernel_rfl
def yE.rule(c:yE)(rl:Int):yE:=⟨c.nm,c.op,rl,c.se,c.mo⟩
def Qk(b:List Int):Bool:=decide (∃x∈b,0<x)
def jlA(c:yE)(b:List Int):Bool:=zY c b&&Qk b
def yX(c:yE)(p:Value×List Int):Bool:=jlA c p.2
def jbQ(n:Nat)(P:List (Value×List Int)):Prop:= ∀p∈P,p.2.length=n
instance (n:Nat) (P:List (Value×List Int)):Decidable (jbQ n P):=by unfold jbQ;infer_instance
def KQ(n:Nat)(P:List (Value×List Int)):Int:=if 4096<P.length then 3 else if jbQ n P then 0 else 2
def Jj(n:Nat)(c:yE)(P:List (Value×List Int))(w:World)(e:Ending)(w':World):Prop:=
 Below w.heap.size w w'∧if KQ n P=0 then ∃oo co,Yw w' oo (P.filter (yX c))∧e=.returned (.tuple #[.slice oo (P.filter (yX c)).length co,.int .i64 0])
 else e=.returned (.tuple #[.slice none 0 0,.int .i64 (KQ n P)])
theorem Jj.bad {n:Nat}{c:yE}{P:List (Value×List Int)}{w w':World}{E:Int}(hE:KQ n P=E)(h0:E≠0)(hb:Below w.heap.size w w'):Jj n c P w (.returned (.tuple #[.slice none 0 0,.int .i64 E])) w':=by
 unfold Jj;rw [hE,jT h0];exact⟨hb,rfl⟩
theorem Jj.ok {n:Nat}{c:yE}{P:List (Value×List Int)}{w w':World}(hE:KQ n P=0)(hb:Below w.heap.size w w'){oo:Option Addr}{co:Nat}(hp:Yw w' oo (P.filter (yX c))):Jj n c P w (.returned (.tuple #[.slice oo (P.filter (yX c)).length co,.int .i64 0])) w':=by
 unfold Jj;rw [hE,jR rfl];exact⟨hb,oo,co,hp,rfl⟩
theorem jaw {α:Type}(P:List α)(f:α→Bool)(k:Nat)(h:k<P.length):(P.take (k+1)).filter f=(P.take k).filter f++if f P[k]=true then [P[k]]else []:=by
 rw [jk h,qP];by_cases hf:f P[k]=true<;>simp [hf]
theorem jcR {c:yE}{b:List Int}(hl:b.length=c.op.length):Ke c b=if zY c b=true then 0 else 4:=by unfold Ke;rw [jT (fun h=>h hl)]
theorem jeT {b:List Int}{m:Int}(h:jfF b m):Qk b=decide (0<m):=by
 unfold Qk;by_cases hm:0<m;·rw [jQ hm,jQ ⟨m,h.mem,hm⟩]
 ·rw [jS hm,jS];rintro⟨x,hx,h0⟩;have:=h.le x hx;omega
theorem jgB(c:yE)(rl:Int)(P:List (Value×List Int))(oa:Option Addr)(cap:Nat)(ob:Option Addr)(cb:Nat)(w:World)(hP:Yw w ob P)(hn:c.op.length≤12)(hn0:1≤c.op.length):
 Calls prog 29 #[.agg #[.string ⟨c.nm.toArray⟩,.slice oa c.op.length cap,.int .i64 c.rl,.int .i64 c.se,.int .i64 c.mo],.int .i64 rl,.slice ob P.length cb] w (Jj c.op.length (c.rule rl) P w):=by
 have HP:=jA hP;have QF:=jA (show ∀(w:World) (b:List Int) (ob:Option Addr) (cb:Nat) (h:yj w ob b),Calls prog 69 #[.agg #[.string ⟨c.nm.toArray⟩,.slice oa c.op.length cap,.int .i64 rl,.int .i64 c.se,.int .i64 c.mo],.slice ob b.length cb] w (fun e w'=>e=.returned (.int .i64 (Ke (c.rule rl) b))∧Below w.heap.size w w')from fun w b ob cb h=>jfA (c.rule rl) b oa cap ob cb w h hn);have hnop:(c.rule rl).op.length=c.op.length:=rfl;have HNO:=jA hnop;clear hP hnop;have HC:=jA (fun b:List Int=>jcR (c:=c.rule rl) (b:=b));rw [HNO.u]at HC;generalize c.rule rl=cr at*;obtain⟨i0,hi,hz0,hz1,hz2⟩:=info_parts jcM;have HI:=jA hi;have HZ0:=jA hz0;have HZ1:=jA hz1;have HZ2:=jA hz2;clear hi hz0 hz1 hz2;by_cases hl:4096<P.length
 ·have d0:decide ((4096:Int)<(P.length:Int))=true:=jQ (by omega);have d0':decide (4096<P.length)=true:=jQ hl;have HE:=jA (show KQ c.op.length P=3 by unfold KQ;rw [jR hl]);clear hl;go_enter Tryz.func29,Tryz.ntmps29;go_upto_region 1 with(fail);generalize hB:w.heap.size=B at*;refine xP (fun w1=>Below B w w1∧w1.heap[B]?=some (.cells #[.string ⟨c.nm.toArray⟩,.slice oa c.op.length cap,.int .i64 c.rl,.int .i64 c.se,.int .i64 c.mo] 24 (0,0))) ⟨by rw [←hB];exact(jN _ _).alloc (jO _) _,by rw [←hB];exact xN rfl⟩ (fun w1 hw1=>?_);have HB:=jA hB;have B1:=jA hw1.1;have X1:=jA hw1.2;have hBs:B<w1.heap.size:=lt_of_heap hw1.2;clear hB hw1;go_wp2_with fail
  go_ret2
  exact Jj.bad HE.u (by decide) (by rw [HB.u];exact B1.u)
 ·have d0:decide ((4096:Int)<(P.length:Int))=false:=jS (by omega);have d0':decide (4096<P.length)=false:=jS hl;have hp4:P.length≤4096:=by omega
  have HE:=jA (show KQ c.op.length P=if jbQ c.op.length P then 0 else 2 by unfold KQ;rw [jT hl]);clear hl;go_enter Tryz.func29,Tryz.ntmps29;go_upto_region 1 with(fail);generalize hB:w.heap.size=B at*;refine xP (fun w1=>Below B w w1∧w1.heap[B]?=some (.cells #[.string ⟨c.nm.toArray⟩,.slice oa c.op.length cap,.int .i64 c.rl,.int .i64 c.se,.int .i64 c.mo] 24 (0,0))) ⟨by rw [←hB];exact(jN _ _).alloc (jO _) _,by rw [←hB];exact xN rfl⟩ (fun w1 hw1=>?_);have HB:=jA hB;have B1:=jA hw1.1;have X1:=jA hw1.2;have hBs:B<w1.heap.size:=lt_of_heap hw1.2;clear hB hw1;have k2:w1.cell? ⟨B,2,none⟩=some (.int .i64 c.rl):=jM w1 B 2 _ _ _ X1.u;have f2:w1.frozen? ⟨B,2,none⟩=false:=jb w1 B 2 _ _ X1.u;go_upto_region 4 with(fail);refine xP (fun w2=>Below B w w2∧w2.heap[B]?=some (.cells #[.string ⟨c.nm.toArray⟩,.slice oa c.op.length cap,.int .i64 rl,.int .i64 c.se,.int .i64 c.mo] 24 (0,0))) ⟨B1.u.setCell (jO _) _,by rw [jd _ _ _ _ _ _ X1.u];rfl⟩ (fun w2 hw2=>?_);have B2:=jA hw2.1;have X2:=jA hw2.2;have hBs:B<w2.heap.size:=lt_of_heap hw2.2;clear hw2 k2 f2 B1 X1;clear d0 d0';go_wp2_with fail;go_loopw [18,8] (fun i v wr=> ∃(k:Nat) (vo:Value),k≤P.length∧i=.int .i64 k∧vo=v∧jbQ c.op.length (P.take k)∧Below B w wr∧wr.heap[B]?=some (.cells #[.string ⟨c.nm.toArray⟩,.slice oa c.op.length cap,.int .i64 rl,.int .i64 c.se,.int .i64 c.mo] 24 (0,0))∧wr.ownsRow (B+1) 29 1 vo ((P.take k).filter (yX cr)).length (((P.take k).filter (yX cr)).map Prod.fst)) (fun i _ _=>P.length-(intOf i).toNat);case atStart=>exact⟨0,_,ji _,rfl,rfl,(fun x hx=>by simp at hx),B2.u,X2.u,qA _ _ _ _⟩
  case round=>
  clear B2 X2 hBs;obtain⟨k,vo,hk,rfl,rfl,ha,hb3,hx3,ho3⟩:=hrel;have HA:=jA ha;have B3:=jA hb3;have X3:=jA hx3;have O3:=jA ho3;have hBr:B<wr.heap.size:=lt_of_heap hx3;have HP3:=jA (HP.u.below (HB.u.symm▸hb3));have k1:wr.cell? ⟨B,1,none⟩=some (.slice oa c.op.length cap):=jM wr B 1 _ _ _ hx3;clear ha hb3 hx3 ho3;by_cases hlt:k<P.length
  ·have dk:decide ((k:Int)<(P.length:Int))=true:=jQ (by omega);have dk2:decide (k<P.length)=true:=jQ hlt;have hki:(k:Int)<(P.length:Int):=by omega
   obtain⟨q,hoa,hqb,hqc⟩:=HP3.u.cells k hlt;subst hoa;have HFS0:=jA (jaw P (yX cr) k hlt);have HTK:=jA (show P.take (k+1)=P.take k++ [P[k]]from jk hlt);have HMEM:=jA (jj hlt);have hOl:((P.take k).filter (yX cr)).length≤k:=jU (kt _ _) (List.length_take_le _ _);generalize P[k]=p at*;obtain⟨or,cr2,hp1,hp2,hp3⟩:=HP3.u.rows p HMEM.u;rw [hp1]at hqc;have HIS:=jA hp2;have HK:=jA (show yX cr p=(zY cr p.2&&Qk p.2)from rfl);have HP1:=jA hp1;clear hp1 hp2;by_cases hln:p.2.length=c.op.length
   ·have e0:((p.2.length:Int) !=(c.op.length:Int))=false:=by rw [hln];simp
    have e0':(p.2.length !=c.op.length)=false:=by rw [hln];simp
    have HAN:=jA (show jbQ c.op.length (P.take (k+1))by
     rw [HTK.u];intro x hx;rcases jh.1 hx with h|h;·exact HA.u x h
     ·rw [jo.1 h];exact hln)
    have QM:=jA (fun w h=>jlf or p.2 cr2 w h (by omega) (by omega));have HF:=jA (HC.u p.2 hln);clear hln;generalize p.2=L at*;have QFL:=jA (QF.u wr L or cr2 HIS.u);generalize zY cr L=f at*;cases f with
    |
     false=>
     have HFS:=jA (show(P.take (k+1)).filter (yX cr)=(P.take k).filter (yX cr)by rw [HFS0.u,HK.u];simp);rw [show Ke cr L=4 by rw [HF.u];rfl]at QFL;clear HFS0 HK HF QF HC;go_wp2_with (first
      |go_big_skip
      |((with_reducible refine xl 24 ?_);refine xO ?_ 24 (.tmp 3) ?_ B _ _ _ _ ?_ X3.u underlying24 ?_ xe ?_;rfl;rfl;rfl;rfl)
      |(go_at_call 69;refine(QFL.u).mono ?_;rintro e w4 ⟨rfl,b4⟩;dsimp only;have B4:=jA b4;clear b4))
     go_roundw;case rel=>exact⟨k+1,vo,by omega,by go_num,rfl,HAN.u,B3.u.trans (B4.u.mono (jZ hBr)),xK B4.u hBr X3.u,by rw [HFS.u];exact xk O3.u B4.u⟩
     case measure=>simp [intOf];omega
    |
     true=>
     rw [show Ke cr L=0 by rw [HF.u];rfl]at QFL;generalize hsp:Qk L=sp at*;have HSP:=jA hsp;clear hsp;cases sp with
     |
      false=>
      have HFS:=jA (show(P.take (k+1)).filter (yX cr)=(P.take k).filter (yX cr)by rw [HFS0.u,HK.u];simp);clear HFS0 HK HF QF HC;go_wp2_with (first
       |go_big_skip
       |((with_reducible refine xl 24 ?_);refine xO ?_ 24 (.tmp 3) ?_ B _ _ _ _ ?_ X3.u underlying24 ?_ xe ?_;rfl;rfl;rfl;rfl)
       |(go_at_call 69;refine(QFL.u).mono ?_;rintro e w4 ⟨rfl,b4⟩;dsimp only;have B4:=jA b4;clear b4)
       |(go_at_call 70;refine(QM.u w4 (HIS.u.below B4.u)).mono ?_;rintro e w5 ⟨⟨m,rfl,hm⟩,rfl⟩;dsimp only;have e5:=(jeT hm).symm.trans HSP.u;clear hm))
      go_roundw;case rel=>exact⟨k+1,vo,by omega,by go_num,rfl,HAN.u,B3.u.trans (B4.u.mono (jZ hBr)),xK B4.u hBr X3.u,by rw [HFS.u];exact xk O3.u B4.u⟩
      case measure=>simp [intOf];omega
     |
      true=>
      have HFS:=jA (show(P.take (k+1)).filter (yX cr)=(P.take k).filter (yX cr)++ [p]by rw [HFS0.u,HK.u];simp);clear HFS0 HK HF QF HC;generalize (P.take k).filter (yX cr)=O at*;go_upto_region 11 with(first
       |go_big_skip
       |((with_reducible refine xl 24 ?_);refine xO ?_ 24 (.tmp 3) ?_ B _ _ _ _ ?_ X3.u underlying24 ?_ xe ?_;rfl;rfl;rfl;rfl)
       |(go_at_call 69;refine(QFL.u).mono ?_;rintro e w4 ⟨rfl,b4⟩;dsimp only;have B4:=jA b4;clear b4)
       |(go_at_call 70;refine(QM.u w4 (HIS.u.below B4.u)).mono ?_;rintro e w5 ⟨⟨m,rfl,hm⟩,rfl⟩;dsimp only;have e5:=(jeT hm).symm.trans HSP.u;clear hm))
      have B34:=jA (B3.u.trans (B4.u.mono (jZ hBr)));have hB4:=B34.u.size;have hBw4:B<w4.heap.size:=jV hBr B4.u.size;go_wp2_with (at_builtin;go_loud (refine wpList_append_lies _ rfl (.tmp 37) (.tmp 39) 25 rfl (B+1) 29 i0 (.slice none 0 0) 1 24 underlying25 HI.u HZ0.u HZ1.u HZ2.u rfl (by decide) vo O.length (O.map Prod.fst) rfl ((xk O3.u B4.u).alloc _) ⟨_,0,none⟩ 1 1 [.slice or L.length cr2] rfl rfl (zG (xN rfl)) (by simp [Value.oneCell']) (by decide) (by unfold maxLen;omega) (by omega) (by simp;omega) _ rfl (fun g cp w7 own7 hg7 hf7 hlt7=>?_)));have hne7: ∀j,vo.ownBlock=some j→B+1≤j:=fun j hj=>(O3.u.lt j hj).1;have B7:=jA ((B34.u.alloc (by omega) (.cells #[.slice or L.length cr2] 29)).grown hg7 (by simp;omega) (fun j hj=>by have:=hne7 j hj;omega));have X7:=jA (yA hg7 (fun e=>by have:=hne7 _ e;omega) (xx (xK B4.u hBr X3.u)));have O7:=jA own7;clear own7 hg7 hf7 hlt7;go_wp2_with fail;go_roundw;case rel=>exact⟨k+1,_,by omega,by go_num,rfl,HAN.u,B7.u,X7.u,by rw [HFS.u,ja,qx,List.map_singleton,HP1.u];exact O7.u⟩
      case measure=>simp [intOf];omega
   ·have e0:((p.2.length:Int) !=(c.op.length:Int))=true:=by rw [ku];omega
    have e0':(p.2.length !=c.op.length)=true:=by rw [ku];exact hln
    have HE2:=jA (show KQ c.op.length P=2 by rw [HE.u,jT (fun h=>hln (h p HMEM.u))]);clear hln;go_wp2_with fail
    go_ret2
    exact Jj.bad HE2.u (by decide) (by rw [HB.u];exact B3.u)
  ·have dk:decide ((k:Int)<(P.length:Int))=false:=jS (by omega);have dk2:decide (k<P.length)=false:=jS hlt;obtain rfl:k=P.length:=by omega
   rw [kG]at HA O3;have HE2:=jA (show KQ c.op.length P=0 by rw [HE.u,jR HA.u]);obtain⟨oo,co,rfl,hco,hps⟩:=jeM O3.u (fun p hp=>HP3.u.rows p (kB.1 hp).1);have HPS:=jA hps;clear hps;go_wp2_with fail
   go_ret2
   exact Jj.ok HE2.u (by rw [HB.u];exact B3.u) HPS.u
def jaL(b:List Int):Bool:=b.any fun x=>x !=0
theorem jjc(b:List Int)(x:Int):jaL (b++ [x])=(jaL b||x !=0):=by simp [jaL,List.any_append]
theorem jiy(c:yE)(p:Value×List Int):yX c p=(jaL p.2&&zY c p.2):=by
 unfold yX jlA;cases hf:zY c p.2 with
 |false=>simp
 |
  true=>
  rw [Bool.true_and,Bool.and_true];have h0: ∀x∈p.2,0≤x:=by
   rw [jfj]at hf;unfold XG at hf;rw [jy,XZ]at hf;exact fun x hx=>(hf.1 x hx).1
  unfold Qk jaL;rw [Bool.eq_iff_iff,kK,List.any_eq_true];constructor;·rintro⟨x,hx,h⟩;exact⟨x,hx,by rw [ku];omega⟩
  ·rintro⟨x,hx,h⟩;rw [ku]at h;have:=h0 x hx;exact⟨x,hx,by omega⟩
theorem jbJ(c:yE)(rl:Int)(P:List (Value×List Int))(oa:Option Addr)(cap:Nat)(ob:Option Addr)(cb:Nat)(w:World)(hP:Yw w ob P)(hn:c.op.length≤12):
 Calls prog 12 #[.agg #[.string ⟨c.nm.toArray⟩,.slice oa c.op.length cap,.int .i64 c.rl,.int .i64 c.se,.int .i64 c.mo],.int .i64 rl,.slice ob P.length cb] w (Jj c.op.length (c.rule rl) P w):=by
 have HP:=jA hP;have QF:=jA (show ∀(w:World) (b:List Int) (ob:Option Addr) (cb:Nat) (h:yj w ob b),Calls prog 46 #[.agg #[.string ⟨c.nm.toArray⟩,.slice oa c.op.length cap,.int .i64 rl,.int .i64 c.se,.int .i64 c.mo],.slice ob b.length cb] w (fun e w'=>e=.returned (.int .i64 (Ke (c.rule rl) b))∧Below w.heap.size w w')from fun w b ob cb h=>jeH (c.rule rl) b oa cap ob cb w h hn);have hnop:(c.rule rl).op.length=c.op.length:=rfl;have HNO:=jA hnop;clear hP hnop;have HC:=jA (fun b:List Int=>jcR (c:=c.rule rl) (b:=b));rw [HNO.u]at HC;generalize c.rule rl=cr at*;obtain⟨i0,hi,hz0,hz1,hz2⟩:=info_parts jcM;have HI:=jA hi;have HZ0:=jA hz0;have HZ1:=jA hz1;have HZ2:=jA hz2;clear hi hz0 hz1 hz2;by_cases hl:4096<P.length
 ·have d0:decide ((4096:Int)<(P.length:Int))=true:=jQ (by omega);have d0':decide (4096<P.length)=true:=jQ hl;have HE:=jA (show KQ c.op.length P=3 by unfold KQ;rw [jR hl]);clear hl;go_enter Tryz.func12,Tryz.ntmps12;go_upto_region 1 with(fail);generalize hB:w.heap.size=B at*;refine xP (fun w1=>Below B w w1∧w1.heap[B]?=some (.cells #[.string ⟨c.nm.toArray⟩,.slice oa c.op.length cap,.int .i64 c.rl,.int .i64 c.se,.int .i64 c.mo] 24 (0,0))) ⟨by rw [←hB];exact(jN _ _).alloc (jO _) _,by rw [←hB];exact xN rfl⟩ (fun w1 hw1=>?_);have HB:=jA hB;have B1:=jA hw1.1;have X1:=jA hw1.2;have hBs:B<w1.heap.size:=lt_of_heap hw1.2;clear hB hw1;go_wp2_with fail
  go_ret2
  exact Jj.bad HE.u (by decide) (by rw [HB.u];exact B1.u)
 ·have d0:decide ((4096:Int)<(P.length:Int))=false:=jS (by omega);have d0':decide (4096<P.length)=false:=jS hl;have hp4:P.length≤4096:=by omega
  have HE:=jA (show KQ c.op.length P=if jbQ c.op.length P then 0 else 2 by unfold KQ;rw [jT hl]);clear hl;go_enter Tryz.func12,Tryz.ntmps12;go_upto_region 1 with(fail);generalize hB:w.heap.size=B at*;refine xP (fun w1=>Below B w w1∧w1.heap[B]?=some (.cells #[.string ⟨c.nm.toArray⟩,.slice oa c.op.length cap,.int .i64 c.rl,.int .i64 c.se,.int .i64 c.mo] 24 (0,0))) ⟨by rw [←hB];exact(jN _ _).alloc (jO _) _,by rw [←hB];exact xN rfl⟩ (fun w1 hw1=>?_);have HB:=jA hB;have B1:=jA hw1.1;have X1:=jA hw1.2;have hBs:B<w1.heap.size:=lt_of_heap hw1.2;clear hB hw1;have k2:w1.cell? ⟨B,2,none⟩=some (.int .i64 c.rl):=jM w1 B 2 _ _ _ X1.u;have f2:w1.frozen? ⟨B,2,none⟩=false:=jb w1 B 2 _ _ X1.u;go_upto_region 4 with(fail);refine xP (fun w2=>Below B w w2∧w2.heap[B]?=some (.cells #[.string ⟨c.nm.toArray⟩,.slice oa c.op.length cap,.int .i64 rl,.int .i64 c.se,.int .i64 c.mo] 24 (0,0))) ⟨B1.u.setCell (jO _) _,by rw [jd _ _ _ _ _ _ X1.u];rfl⟩ (fun w2 hw2=>?_);have B2:=jA hw2.1;have X2:=jA hw2.2;have hBs:B<w2.heap.size:=lt_of_heap hw2.2;clear hw2 k2 f2 B1 X1;clear d0 d0';have HP2:=jA (HP.u.below (HB.u.symm▸B2.u));have k1:w2.cell? ⟨B,1,none⟩=some (.slice oa c.op.length cap):=jM w2 B 1 _ _ _ X2.u;go_wp2_with fail
  go_loop [23] (fun i=> ∃k:Nat,k≤P.length∧i=.int .i64 k∧jbQ c.op.length (P.take k)) (fun i=>P.length-(intOf i).toNat)
  case atStart=>exact⟨0,ji _,rfl,(fun x hx=>by simp at hx)⟩
  case round=>
  obtain⟨k,hk,rfl,ha⟩:=hrel;have HA:=jA ha;clear ha;by_cases hlt:k<P.length
  ·have dk:decide ((k:Int)<(P.length:Int))=true:=jQ (by omega);have dk2:decide (k<P.length)=true:=jQ hlt;have hki:(k:Int)<(P.length:Int):=by omega
   obtain⟨q,hoa,hqb,hqc⟩:=HP2.u.cells k hlt;subst hoa;have HTK:=jA (show P.take (k+1)=P.take k++ [P[k]]from jk hlt);have HMEM:=jA (jj hlt);generalize P[k]=p at*;obtain⟨or,cr2,hp1,hp2,hp3⟩:=HP2.u.rows p HMEM.u;rw [hp1]at hqc;clear hp1 hp2;by_cases hln:p.2.length=c.op.length
   ·have e0:((p.2.length:Int) !=(c.op.length:Int))=false:=by rw [hln];simp
    have e0':(p.2.length !=c.op.length)=false:=by rw [hln];simp
    have HAN:=jA (show jbQ c.op.length (P.take (k+1))by
     rw [HTK.u];intro x hx;rcases jh.1 hx with h|h;·exact HA.u x h
     ·rw [jo.1 h];exact hln)
    clear hln;go_wp2_with fail
    go_round
    case rel=>exact⟨k+1,by omega,by go_num,HAN.u⟩
    case measure=>simp [intOf];omega
   ·have e0:((p.2.length:Int) !=(c.op.length:Int))=true:=by rw [ku];omega
    have e0':(p.2.length !=c.op.length)=true:=by rw [ku];exact hln
    have HE2:=jA (show KQ c.op.length P=2 by rw [HE.u,jT (fun h=>hln (h p HMEM.u))]);clear hln;go_wp2_with fail
    go_ret2
    exact Jj.bad HE2.u (by decide) (by rw [HB.u];exact B2.u)
  ·have dk:decide ((k:Int)<(P.length:Int))=false:=jS (by omega);have dk2:decide (k<P.length)=false:=jS hlt;obtain rfl:k=P.length:=by omega
   rw [kG]at HA;have HE2:=jA (show KQ c.op.length P=0 by rw [HE.u,jR HA.u]);clear HE
   as_aux_lemma=>
   go_wp2_with fail;clear k1 hlt dk dk2 hk;go_loopw [36,8] (fun i v wr=> ∃(k:Nat) (vo:Value),k≤P.length∧i=.int .i64 k∧vo=v∧Below B w wr∧wr.heap[B]?=some (.cells #[.string ⟨c.nm.toArray⟩,.slice oa c.op.length cap,.int .i64 rl,.int .i64 c.se,.int .i64 c.mo] 24 (0,0))∧wr.ownsRow (B+1) 29 1 vo ((P.take k).filter (yX cr)).length (((P.take k).filter (yX cr)).map Prod.fst)) (fun i _ _=>P.length-(intOf i).toNat);case atStart=>exact⟨0,_,ji _,rfl,rfl,B2.u,X2.u,qA _ _ _ _⟩
   case round=>
   clear B2 X2 hBs HP2;obtain⟨k,vo,hk,rfl,rfl,hb3,hx3,ho3⟩:=hrel;have B3:=jA hb3;have X3:=jA hx3;have O3:=jA ho3;have hBr:B<wr.heap.size:=lt_of_heap hx3;have HP3:=jA (HP.u.below (HB.u.symm▸hb3));clear hb3 hx3 ho3;by_cases hlt:k<P.length
   ·have dk:decide ((k:Int)<(P.length:Int))=true:=jQ (by omega);have dk2:decide (k<P.length)=true:=jQ hlt;have hki:(k:Int)<(P.length:Int):=by omega
    obtain⟨q,hoa,hqb,hqc⟩:=HP3.u.cells k hlt;subst hoa;have HFS0:=jA (jaw P (yX cr) k hlt);have HMEM:=jA (jj hlt);have hOl:((P.take k).filter (yX cr)).length≤k:=jU (kt _ _) (List.length_take_le _ _);generalize P[k]=p at*;obtain⟨or,cr2,hp1,hp2,hp3⟩:=HP3.u.rows p HMEM.u;rw [hp1]at hqc;have HIS:=jA hp2;have HK:=jA (jiy cr p);have HP1:=jA hp1;have HF:=jA (HC.u p.2 (HA.u p HMEM.u));have hl12:p.2.length≤12:=by rw [HA.u p HMEM.u];exact hn
    clear hp1 hp2 hp3;generalize p.2=L at*;have QFL:=jA (QF.u wr L or cr2 HIS.u);generalize (P.take k).filter (yX cr)=O at*;go_wp2_with fail;obtain⟨wo,hwo⟩: ∃wo:World,wo=wr:=⟨_,rfl⟩;subst hwo
    go_loop [42,13] (fun i v=> ∃j:Nat,j≤L.length∧i=.int .i64 j∧v=.bool (jaL (L.take j))) (fun i _=>L.length-(intOf i).toNat)
    case atStart=>exact⟨0,ji _,rfl,rfl⟩
    case round=>
    obtain⟨j,hj,rfl,rfl⟩:=hrel;by_cases hjt:j<L.length
    ·have ek:decide ((j:Int)<(L.length:Int))=true:=jQ (by omega);have ek2:decide (j<L.length)=true:=jQ hjt;have hji:(j:Int)<(L.length:Int):=by omega
     obtain⟨r,hor,hrb,hrc⟩:=HIS.u.cells j hjt;subst hor;have HAS:=jA (show jaL (L.take (j+1))=(jaL (L.take j)||L[j] !=0)by rw [jk hjt,jjc]);generalize L[j]=y at*;generalize jaL (L.take j)=sb at*;cases sb with
     |
      true=>
      have HA2:=jA (show true=jaL (L.take (j+1))by rw [HAS.u];rfl);clear HAS;go_wp2_with fail
      go_round
      case rel=>exact⟨j+1,by omega,by go_num,by rw [←HA2.u]⟩
      case measure=>simp [intOf];omega
     |
      false=>
      have HA2:=jA (show(y !=0)=jaL (L.take (j+1))by rw [HAS.u];rfl);clear HAS;go_wp2_with fail
      go_round
      case rel=>exact⟨j+1,by omega,by go_num,by rw [←HA2.u]⟩
      case measure=>simp [intOf];omega
    ·have ek:decide ((j:Int)<(L.length:Int))=false:=jS (by omega);have ek2:decide (j<L.length)=false:=jS hjt;obtain rfl:j=L.length:=by omega
     rw [kG];generalize jaL L=sb at*;clear hjt ek ek2 hj;cases sb with
     |
      false=>
      have HFS:=jA (show(P.take (k+1)).filter (yX cr)=O by rw [HFS0.u,HK.u];simp);clear HFS0 HK HF QF HC;go_wp2_with (first
       |go_big_skip
       |((with_reducible refine xl 24 ?_);refine xO ?_ 24 (.tmp 3) ?_ B _ _ _ _ ?_ X3.u underlying24 ?_ xe ?_;rfl;rfl;rfl;rfl)
       |(go_at_call 46;refine(QFL.u).mono ?_;rintro e w4 ⟨rfl,b4⟩;dsimp only;have B4:=jA b4;clear b4))
      go_roundw;case rel=>exact⟨k+1,vo,by omega,by go_num,rfl,B3.u,X3.u,by rw [HFS.u];exact O3.u⟩
      case measure=>simp [intOf];omega
     |
      true=>
      generalize zY cr L=f at*;cases f with
      |
       false=>
       have HFS:=jA (show(P.take (k+1)).filter (yX cr)=O by rw [HFS0.u,HK.u];simp);rw [show Ke cr L=4 by rw [HF.u];rfl]at QFL;clear HFS0 HK HF QF HC;go_wp2_with (first
        |go_big_skip
        |((with_reducible refine xl 24 ?_);refine xO ?_ 24 (.tmp 3) ?_ B _ _ _ _ ?_ X3.u underlying24 ?_ xe ?_;rfl;rfl;rfl;rfl)
        |(go_at_call 46;refine(QFL.u).mono ?_;rintro e w4 ⟨rfl,b4⟩;dsimp only;have B4:=jA b4;clear b4))
       go_roundw;case rel=>exact⟨k+1,vo,by omega,by go_num,rfl,B3.u.trans (B4.u.mono (jZ hBr)),xK B4.u hBr X3.u,by rw [HFS.u];exact xk O3.u B4.u⟩
       case measure=>simp [intOf];omega
      |
       true=>
       have HFS:=jA (show(P.take (k+1)).filter (yX cr)=O++ [p]by rw [HFS0.u,HK.u];simp);rw [show Ke cr L=0 by rw [HF.u];rfl]at QFL;clear HFS0 HK HF QF HC;go_upto_region 21 with(first
        |go_big_skip
        |((with_reducible refine xl 24 ?_);refine xO ?_ 24 (.tmp 3) ?_ B _ _ _ _ ?_ X3.u underlying24 ?_ xe ?_;rfl;rfl;rfl;rfl)
        |(go_at_call 46;refine(QFL.u).mono ?_;rintro e w4 ⟨rfl,b4⟩;dsimp only;have B4:=jA b4;clear b4))
       have B34:=jA (B3.u.trans (B4.u.mono (jZ hBr)));have hB4:=B34.u.size;have hBw4:B<w4.heap.size:=jV hBr B4.u.size;go_wp2_with (at_builtin;go_loud (refine wpList_append_lies _ rfl (.tmp 59) (.tmp 61) 25 rfl (B+1) 29 i0 (.slice none 0 0) 1 24 underlying25 HI.u HZ0.u HZ1.u HZ2.u rfl (by decide) vo O.length (O.map Prod.fst) rfl ((xk O3.u B4.u).alloc _) ⟨_,0,none⟩ 1 1 [.slice or L.length cr2] rfl rfl (zG (xN rfl)) (by simp [Value.oneCell']) (by decide) (by unfold maxLen;omega) (by omega) (by simp;omega) _ rfl (fun g cp w7 own7 hg7 hf7 hlt7=>?_)));have hne7: ∀j,vo.ownBlock=some j→B+1≤j:=fun j hj=>(O3.u.lt j hj).1;have B7:=jA ((B34.u.alloc (by omega) (.cells #[.slice or L.length cr2] 29)).grown hg7 (by simp;omega) (fun j hj=>by have:=hne7 j hj;omega));have X7:=jA (yA hg7 (fun e=>by have:=hne7 _ e;omega) (xx (xK B4.u hBr X3.u)));have O7:=jA own7;clear own7 hg7 hf7 hlt7;go_wp2_with fail;go_roundw;case rel=>exact⟨k+1,_,by omega,by go_num,rfl,B7.u,X7.u,by rw [HFS.u,ja,qx,List.map_singleton,HP1.u];exact O7.u⟩
       case measure=>simp [intOf];omega
   ·have dk:decide ((k:Int)<(P.length:Int))=false:=jS (by omega);have dk2:decide (k<P.length)=false:=jS hlt;obtain rfl:k=P.length:=by omega
    rw [kG]at O3;obtain⟨oo,co,rfl,hco,hps⟩:=jeM O3.u (fun p hp=>HP3.u.rows p (kB.1 hp).1);have HPS:=jA hps;clear hps;go_wp2_with fail
    go_ret2
    exact Jj.ok HE2.u (by rw [HB.u];exact B3.u) HPS.u
def prE(c:yE)(P:List (Value×List Int)):Int:=if zR c=true then 2 else KQ c.op.length P
theorem Ze {c:yE}(h:zR c=false):1≤c.op.length∧c.op.length≤12∧1≤c.rl∧c.rl≤4∧1≤c.se∧c.se≤c.op.length:=by
 unfold zR at h;have:=vn h;omega
theorem jdW {n:Nat}{P:List (Value×List Int)}(h:KQ n P=0):jbQ n P∧P.length≤4096:=by
 unfold KQ at h;split at h;·cases h
 ·split at h;·rename_i h1 h2;exact⟨h2,by omega⟩
  ·cases h
def jgo(L:List Int)(v:Int):Bool:=decide (v∈L)
theorem jiC(oa:Option Addr)(L:List Int)(cap:Nat)(v:Int)(w:World)(h:yj w oa L)(hl:L.length<9223372036854775808):
 Calls prog 110 #[.slice oa L.length cap,.int .i64 v] w fun e w'=>(∃r:Int,e=.returned (.int .i64 r)∧decide (0≤r)=jgo L v)∧w=w':=by
 have H:=jA h;clear h;go_enter Tryz.func110,Tryz.ntmps110;go_upto_region 2 with(fail)
 go_loop [8] (fun i=> ∃k:Nat,k≤L.length∧i=.int .i64 k∧v∉L.take k) (fun i=>L.length-(intOf i).toNat)
 case atStart=>exact⟨0,by omega,rfl,by simp⟩
 case round=>
 obtain⟨k,hk,rfl,hpre⟩:=hrel;have HP:=jA hpre;clear hpre;by_cases hlt:k<L.length
 ·have dk:decide ((k:Int)<(L.length:Int))=true:=jQ (by omega);have dk2:decide (k<L.length)=true:=jQ hlt;have hki:(k:Int)<(L.length:Int):=by omega
  obtain⟨a,hoa,hab,hac⟩:=H.u.cells k hlt
  have hsn:=jA (fun(hb: ¬L[k]=v)=>(show v∉L.take (k+1)by
   rw [jk hlt,jh,jo];exact fun h=>h.elim HP.u (fun h=>hb h.symm)))
  have hyes:=jA (fun(hb:L[k]=v)=>(show jgo L v=true from jQ (hb▸jj hlt)));subst hoa;generalize L[k]=x at*;by_cases hb:x=v
  ·have d1:(v==x)=true:=by rw [beq_iff_eq];exact hb.symm
   have h2:=jA (hyes.u hb);clear hb hsn hyes;go_wp2_with fail;go_ret;exact⟨⟨_,rfl,by rw [h2.u];exact jQ (by omega)⟩,rfl⟩
  ·have d1:(v==x)=false:=by rw [kE];exact fun h=>hb h.symm
   have h2:=jA (hsn.u hb);clear hb hsn hyes;go_wp2_with fail
   go_round
   case rel=>exact⟨k+1,by omega,by go_num,h2.u⟩
   case measure=>simp [intOf];omega
 ·have dk:decide ((k:Int)<(L.length:Int))=false:=jS (by omega);have dk2:decide (k<L.length)=false:=jS hlt;obtain rfl:k=L.length:=by omega
  rw [kG]at HP;have h2:=jA (show jgo L v=false from jS HP.u);go_wp2_with fail;go_ret;exact⟨⟨_,rfl,by rw [h2.u];decide⟩,rfl⟩
theorem jeb(oa:Option Addr)(L:List Int)(cap:Nat)(v:Int)(w:World)(h:yj w oa L)(hl:L.length<9223372036854775808):
 Calls prog 63 #[.slice oa L.length cap,.int .i64 v] w fun e w'=>e=.returned (.bool (jgo L v))∧w=w':=by
 have Q:=jA (jiC oa L cap v w h hl);clear h hl;generalize jgo L v=b at*;go_enter Tryz.func63,Tryz.ntmps63;go_wp2_with (go_at_call 110;refine Q.u.mono ?_;rintro e w1 ⟨⟨r,rfl,hr⟩,rfl⟩);go_ret;exact⟨rfl,rfl⟩
end Go.Proofs.YtnohcdpnnhmpfaaGreatDoor
