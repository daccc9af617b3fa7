/- Chapter 13, for Pairs: (ballot.field).fits. -/
import Derived.Test.YtnohcdpnnhmpfaaGreatDoorE17
set_option linter.all false
set_option maxRecDepth 100000
set_option maxHeartbeats 8000000
namespace Go.Proofs.YtnohcdpnnhmpfaaGreatDoor
open Go.RowKit Tryz ML FM AU CT
variable{b:C0}{n:Nat}{w w' w1:m0}
def Qs(L:C0)(n:Nat):A0:=(List.range n).map fun v:Nat=>Value.bool (decide ((v:Int)∈L))
theorem jjN(n:Nat):Qs [] n=List.replicate n (.bool false):=by
 unfold Qs;apply vM (by simp);intro i h1 h2;simp
theorem jdA(L:C0)(n v:Nat)(h:v<n):(Qs L n)[v]?=some (.bool (decide ((v:Int)∈L))):=by
 unfold Qs;rw [qe,xQ h];rfl
theorem YS(L:C0)(n v:Nat)(h:v<n):(Qs L n).set v (.bool true)=Qs (L++ [(v:Int)]) n:=by
 unfold Qs;apply vM (by simp);intro i h1 h2;rw [List.getElem_set];simp only [List.getElem_map,List.getElem_range];by_cases e:v=i;·subst e;simp
 ·rw [jQ e];have:((i:Int)∈L++ [(v:Int)])↔((i:Int)∈L):=by
   simp only [jj,jm];constructor
   ·rintro(h|h);·exact h
    ·omega
   ·exact .inl
  simp only [this]
def JK(L:C0):Nat:=(L.filter fun x=>decide (0<x)).length
theorem jdR(L:C0)(x:Int):JK (L++ [x])=JK L+if 0<x then 1 else 0:=by
 unfold JK;rw [qY,jZ];by_cases h:0<x<;>simp [h]
theorem jfm(L:C0):JK L≤L.length:=qJ _ _
def okX(c:yH)(L:C0)(x:Int):Bool:=decide (0≤x∧x≤Xx c)&& !(zV c.rl&&decide (0<x)&&decide (x∈L))
def okL(c:yH):C0→C0→Bool
 |_,[]=>true
 |L,x::r=>okX c L x&&okL c (L++ [x]) r
def jaX(b:C0)(m:Nat):Bool:=(List.range m).all fun k:Nat=>decide (((k+1:Nat):Int)∈b)
def JN(c:yH)(b:C0):Bool:=okL c [] b&&(!zV c.rl||jaX b (JK b))&&(decide (c.rl≠1)||decide ((JK b:Int)≤c.mo))
theorem jgB(c:yH)(b:C0)(k:Nat)(h:k<b.length):okL c (b.take k) (b.drop k)=(okX c (b.take k) b[k]&&okL c (b.take (k+1)) (b.drop (k+1))):=by
 rw [qA h,jh h];rfl
theorem jfX(c:yH): ∃t:Nat,Xx c=t∧(t=c.op.length∨t=1):=by
 unfold Xx;split;·exact⟨_,rfl,.inl rfl⟩
 ·exact⟨1,rfl,.inr rfl⟩
theorem jkP(b:C0)(n:Nat):jaX b (n+1)=(jaX b n&&decide (((n+1:Nat):Int)∈b)):=by
 simp [jaX,qI,List.all_append]
theorem joi(b:C0)(n m:Nat)(h:n<m)(hb:((n+1:Nat):Int)∉b):jaX b m=false:=by
 rw [←Bool.not_eq_true];intro h2;unfold jaX at h2;rw [kw]at h2;exact hb (qP (h2 n (jk.2 h)))
theorem YI:(prog.info? 4).map (fun i=>(i.zero,i.size,i.bytes))=some (some (.bool false),1,1):=by kernel_rfl
theorem jmP(c:yH)(b:C0)(oa:s0)(cap:Nat)(ob:s0)(cb:Nat)(w:m0)(hb:yW w ob b)(hn:c.op.length≤12)(Ox:b.length=c.op.length):
 Calls prog 116 #[.agg #[.string ⟨c.nm.toArray⟩,.slice oa c.op.length cap,.int .i64 c.rl,.int .i64 c.se,.int .i64 c.mo,.int .i64 0],.slice ob b.length cb] w fun e w'=>e=.returned (.bool (JN c b))∧O0 w.heap.size w w':=by
 have QT:=jA (fun w=>jnt c oa cap w);have QR:=jA (fun w=>jdI c oa cap w);obtain⟨t,ht,htn⟩:=jfX c;have eA:=jA (show zV c.rl=true→t=b.length from fun h=>by unfold Xx at ht;rw [jP h]at ht;omega);rw [ht]at QT;have HTI:=jA ht;have hb12:b.length≤12:=by omega
 clear Ox;have ht12:t≤12:=by omega
 have rS:=jA hb;have HFB:=jA (show JN c b=(okL c [] b&&(!zV c.rl||jaX b (JK b))&&(decide (c.rl≠1)||decide ((JK b:Int)≤c.mo)))from rfl);obtain⟨i0,hi,Is,Ts,Ns⟩:=info_parts YI;have HI:=jA hi;have Dt:=jA Is;have Ct:=jA Ts;have Bt:=jA Ns;clear hi Is Ts Ns hb ht htn;generalize Pu:zV c.rl=rk at*;have eS:=jA Pu;clear Pu;go_enter Tryz.func116,Tryz.ntmps116;go_upto_region 1 with(fail);generalize hB:w.heap.size=B at*;refine Go.bxE hB ?_;intro w1 ts;have HB:=jA hB;have B1:=jA ts.1;have X1:=jA ts.2;have mt:B<w1.heap.size:=xZ ts.2;clear hB ts;have htz:(t:Int)+1<9223372036854775808:=by omega
 obtain⟨T1,hT1⟩: ∃T1:Nat,(t:Int)+1=(T1:Int):=⟨t+1,by omega⟩;have eH:T1≤13:=by omega
 have fz:=jA (show T1=t+1 by omega);go_upto_region 2 with(first
  |(refine xy rfl 161 _ rfl B _ _ _ _ rfl X1.u underlying161 rfl yr ?_)
  |(go_at_call 168;refine(QT.u w1).mono ?_;rintro e w2 ⟨rfl,b2⟩)
  |(refine wpList_make_row _ rfl _ _ 39 rfl 4 i0 (.bool false) underlying39 HI.u Dt.u Ct.u rfl .i64 .i64 T1 rfl rfl (by rw [Bt.u];omega) (by omega) ?_))
 clear hT1;have rC:=b2.size;have hF0:(w2.alloc (.cells (madeCells #[Value.bool false] T1) 4)).heap[w2.heap.size]?=some (.cells (Qs [] T1).toArray 4 (0,0)):=by
  have e:madeCells #[Value.bool false] T1=(Qs [] T1).toArray:=by
   rw [jjN,←vW]
  rw [e];exact xh rfl
 have bF:O0 B w (w2.alloc (.cells (madeCells #[Value.bool false] T1) 4)):=B1.u.trans ((b2.trans ((jN _ _).alloc rC _)).mono (jX mt));have xF:(w2.alloc (.cells (madeCells #[Value.bool false] T1) 4)).heap[B]?=some (.cells #[.string ⟨c.nm.toArray⟩,.slice oa c.op.length cap,.int .i64 c.rl,.int .i64 c.se,.int .i64 c.mo,.int .i64 0] 161 (0,0)):=yM (xe b2 mt X1.u);have hBF:B<w2.heap.size:=by omega
 generalize hF:w2.heap.size=F at*;refine xr (fun w3=>O0 B w w3∧w3.heap[B]?=some (.cells #[.string ⟨c.nm.toArray⟩,.slice oa c.op.length cap,.int .i64 c.rl,.int .i64 c.se,.int .i64 c.mo,.int .i64 0] 161 (0,0))∧w3.heap[F]?=some (.cells (Qs [] T1).toArray 4 (0,0))) ⟨bF,xF,hF0⟩ (fun w3 mw=>?_);have H3:=jA mw;clear mw bF xF hF0 hF rC b2 mt X1 B1
 as_aux_lemma=>
 go_wp2_with fail;go_loopw [16,6] (fun i v wr=> ∃k m:Nat,k≤b.length∧m≤k∧i=.int .i64 k∧v=.int .i64 m∧m=JK (b.take k)∧okL c [] b=okL c (b.take k) (b.drop k)∧O0 B w wr∧wr.heap[B]?=some (.cells #[.string ⟨c.nm.toArray⟩,.slice oa c.op.length cap,.int .i64 c.rl,.int .i64 c.se,.int .i64 c.mo,.int .i64 0] 161 (0,0))∧wr.heap[F]?=some (.cells (Qs (b.take k) T1).toArray 4 (0,0))) (fun i _ _=>b.length-(intOf i).toNat);case atStart=>exact⟨0,0,by omega,by omega,rfl,rfl,rfl,rfl,H3.u.1,H3.u.2.1,H3.u.2.2⟩
 case round=>
 clear H3;obtain⟨k,m,hk,hmk,rfl,rfl,hm,gu,it,hx,hf⟩:=hrel;have HM:=jA hm;have Ex:=jA gu;have BB:=jA it;have XX:=jA hx;have FF:=jA hf;clear hm gu it hx hf;by_cases ns:k<b.length
 ·as_aux_lemma=>
  obtain⟨dk,Ms,nu⟩:=Go.yD ns
  obtain⟨q,Us,Wy,Mv⟩:=(rS.u.below (HB.u.symm▸BB.u)).cells k ns;subst Us;have av:=jA (Ex.u.trans (jgB c b k ns));have Ou:=jA (show b.take (k+1)=b.take k++ [b[k]]from jh ns);have HPN:=jA (show JK (b.take (k+1))=m+if 0<b[k]then 1 else 0 by rw [Ou.u,jdR,←HM.u]);have HOX:=jA (show okX c (b.take k) b[k]=(decide (0≤b[k]∧b[k]≤Xx c)&& !(zV c.rl&&decide (0<b[k])&&decide (b[k]∈b.take k)))from rfl);rw [HTI.u,eS.u]at HOX;generalize b[k]=x at*;have Lt:B<wr.heap.size:=xZ XX.u;have FA:F<wr.heap.size:=xZ FF.u;by_cases nt:x<0
  ·have d0:decide (x<0)=true:=jT nt;have HE:=jA (show JN c b=false by rw [HFB.u,av.u,HOX.u,jS (by omega)];rfl);clear nt;go_wp2_with fail;go_ret;exact⟨by rw [HE.u];rfl,by rw [HB.u];exact BB.u⟩
  ·obtain⟨v,rfl⟩: ∃v:Nat,x=v:=⟨x.toNat,by omega⟩;have d0:decide ((v:Int)<0)=false:=jS nt;by_cases aG:t<v
   ·have d1:decide ((t:Int)<(v:Int))=true:=jT (by omega);have wR:decide (t<v)=true:=jT aG;have HE:=jA (show JN c b=false by rw [HFB.u,av.u,HOX.u,jS (by omega)];rfl);clear nt aG;go_wp2_with (first
     |go_big_skip
     |((with_reducible refine yE 161 ?_);refine xi ?_ 161 (.tmp 2) ?_ B _ _ _ _ ?_ XX.u underlying161 ?_ yr ?_;rfl;rfl;rfl;rfl)
     |(go_at_call 168;refine(QT.u wr).mono ?_;rintro e w5 ⟨rfl,b5⟩;dsimp only))
    go_ret;exact⟨by rw [HE.u];rfl,by rw [HB.u];exact BB.u.trans (b5.mono (jX Lt))⟩
   ·have d1:decide ((t:Int)<(v:Int))=false:=jS (by omega);have wR:decide (t<v)=false:=jS aG;have hvT:v<T1:=by have:=fz.u;omega
    have hvi:(v:Int)<(T1:Int):=by omega
    have eB:=jA (show okX c (b.take k) v= !(rk&&decide (0<(v:Int))&&decide ((v:Int)∈b.take k))by rw [HOX.u,jT (by omega)];rfl);have rL:wr.cell? ⟨F,v,none⟩=some (.bool (decide ((v:Int)∈b.take k))):=by rw [jM _ _ _ _ _ _ FF.u,jE];exact jdA _ _ _ hvT
    generalize hsv:decide ((v:Int)∈b.take k)=sv at*;have nS:=jA rL;clear nt aG rL hsv HOX;by_cases sD:0<v
    ·have d2:decide ((0:Int)<(v:Int))=true:=jT (by omega);have d2':decide (0<v)=true:=jT sD;rw [d2]at eB;cases rk with
     |
      false=>
      have uH:=jA (show okL c [] b=okL c (b.take (k+1)) (b.drop (k+1))by rw [av.u,eB.u];rfl);clear eB;go_upto_region 9 with(first
       |go_big_skip
       |((with_reducible refine yE 161 ?_);refine xi ?_ 161 (.tmp 2) ?_ B _ _ _ _ ?_ X5.u underlying161 ?_ yr ?_;rfl;rfl;rfl;rfl)
       |((with_reducible refine yE 161 ?_);refine xi ?_ 161 (.tmp 2) ?_ B _ _ _ _ ?_ XX.u underlying161 ?_ yr ?_;rfl;rfl;rfl;rfl)
       |(go_at_call 168;refine(QT.u wr).mono ?_;rintro e w5 ⟨rfl,b5⟩;dsimp only;have X5:=jA (xe b5 Lt XX.u);have B5:=jA b5;clear b5)
       |(go_at_call 169;refine(QR.u w5).mono ?_;rintro e w6 ⟨rfl,b6⟩;dsimp only;have B6:=jA (B5.u.trans (b6.mono B5.u.size));clear b6;have kF:=(B6.u.cell (p:=⟨F,v,none⟩) FA).trans nS.u;have fF:w6.frozen? ⟨F,v,none⟩=false:=jc _ _ _ _ _ (xe B6.u FA FF.u)))
      have PY:=B6.u.size;refine xr (fun w7=>O0 B w w7∧w7.heap[B]?=some (.cells #[.string ⟨c.nm.toArray⟩,.slice oa c.op.length cap,.int .i64 c.rl,.int .i64 c.se,.int .i64 c.mo,.int .i64 0] 161 (0,0))∧w7.heap[F]?=some (.cells (Qs (b.take (k+1)) T1).toArray 4 (0,0))) ⟨(BB.u.trans (B6.u.mono (jX Lt))).setCell (jX hBF) _,(qf _ _ _ _ (by simp;omega)).trans (xe B6.u Lt XX.u),by rw [jd _ _ _ _ _ _ (xe B6.u FA FF.u)];rw [vJ,YS _ _ _ hvT,Ou.u]⟩ (fun w7 AG=>?_);have H7:=jA AG;clear AG kF fF;have LW:=jA (show m+1=JK (b.take (k+1))by rw [HPN.u,jP (by omega)]);go_wp2_with fail;go_roundw;case rel=>exact⟨k+1,m+1,by omega,by omega,by go_num,by go_num,LW.u,uH.u,H7.u.1,H7.u.2.1,H7.u.2.2⟩
      case measure=>simp [intOf];omega
     |
      true=>
      cases sv with
      |
       false=>
       have uH:=jA (show okL c [] b=okL c (b.take (k+1)) (b.drop (k+1))by rw [av.u,eB.u];rfl);clear eB;go_upto_region 9 with(first
        |go_big_skip
        |((with_reducible refine yE 161 ?_);refine xi ?_ 161 (.tmp 2) ?_ B _ _ _ _ ?_ X5.u underlying161 ?_ yr ?_;rfl;rfl;rfl;rfl)
        |((with_reducible refine yE 161 ?_);refine xi ?_ 161 (.tmp 2) ?_ B _ _ _ _ ?_ XX.u underlying161 ?_ yr ?_;rfl;rfl;rfl;rfl)
        |(go_at_call 168;refine(QT.u wr).mono ?_;rintro e w5 ⟨rfl,b5⟩;dsimp only;have X5:=jA (xe b5 Lt XX.u);have B5:=jA b5;clear b5)
        |(go_at_call 169;refine(QR.u w5).mono ?_;rintro e w6 ⟨rfl,b6⟩;dsimp only;have B6:=jA (B5.u.trans (b6.mono B5.u.size));clear b6;have kF:=(B6.u.cell (p:=⟨F,v,none⟩) FA).trans nS.u;have fF:w6.frozen? ⟨F,v,none⟩=false:=jc _ _ _ _ _ (xe B6.u FA FF.u)))
       have PY:=B6.u.size;refine xr (fun w7=>O0 B w w7∧w7.heap[B]?=some (.cells #[.string ⟨c.nm.toArray⟩,.slice oa c.op.length cap,.int .i64 c.rl,.int .i64 c.se,.int .i64 c.mo,.int .i64 0] 161 (0,0))∧w7.heap[F]?=some (.cells (Qs (b.take (k+1)) T1).toArray 4 (0,0))) ⟨(BB.u.trans (B6.u.mono (jX Lt))).setCell (jX hBF) _,(qf _ _ _ _ (by simp;omega)).trans (xe B6.u Lt XX.u),by rw [jd _ _ _ _ _ _ (xe B6.u FA FF.u)];rw [vJ,YS _ _ _ hvT,Ou.u]⟩ (fun w7 AG=>?_);have H7:=jA AG;clear AG kF fF;have LW:=jA (show m+1=JK (b.take (k+1))by rw [HPN.u,jP (by omega)]);go_wp2_with fail;go_roundw;case rel=>exact⟨k+1,m+1,by omega,by omega,by go_num,by go_num,LW.u,uH.u,H7.u.1,H7.u.2.1,H7.u.2.2⟩
       case measure=>simp [intOf];omega
      |
       true=>
       have HE:=jA (show JN c b=false by rw [HFB.u,av.u,eB.u];rfl);clear eB;go_wp2_with (first
        |go_big_skip
        |((with_reducible refine yE 161 ?_);refine xi ?_ 161 (.tmp 2) ?_ B _ _ _ _ ?_ X5.u underlying161 ?_ yr ?_;rfl;rfl;rfl;rfl)
        |((with_reducible refine yE 161 ?_);refine xi ?_ 161 (.tmp 2) ?_ B _ _ _ _ ?_ XX.u underlying161 ?_ yr ?_;rfl;rfl;rfl;rfl)
        |(go_at_call 168;refine(QT.u wr).mono ?_;rintro e w5 ⟨rfl,b5⟩;dsimp only;have X5:=jA (xe b5 Lt XX.u);have B5:=jA b5;clear b5)
        |(go_at_call 169;refine(QR.u w5).mono ?_;rintro e w6 ⟨rfl,b6⟩;dsimp only;have B6:=jA (B5.u.trans (b6.mono B5.u.size));clear b6;have kF:=(B6.u.cell (p:=⟨F,v,none⟩) FA).trans nS.u;have fF:w6.frozen? ⟨F,v,none⟩=false:=jc _ _ _ _ _ (xe B6.u FA FF.u)))
       go_ret;exact⟨by rw [HE.u];rfl,by rw [HB.u];exact BB.u.trans (B6.u.mono (jX Lt))⟩
    ·have d2:decide ((0:Int)<(v:Int))=false:=jS (by omega);have d2':decide (0<v)=false:=jS sD;rw [d2]at eB;have uH:=jA (show okL c [] b=okL c (b.take (k+1)) (b.drop (k+1))by rw [av.u,eB.u];cases rk<;>rfl);clear eB;cases rk with
     |
      false=>
      go_upto_region 9 with(first
       |go_big_skip
       |((with_reducible refine yE 161 ?_);refine xi ?_ 161 (.tmp 2) ?_ B _ _ _ _ ?_ X5.u underlying161 ?_ yr ?_;rfl;rfl;rfl;rfl)
       |((with_reducible refine yE 161 ?_);refine xi ?_ 161 (.tmp 2) ?_ B _ _ _ _ ?_ XX.u underlying161 ?_ yr ?_;rfl;rfl;rfl;rfl)
       |(go_at_call 168;refine(QT.u wr).mono ?_;rintro e w5 ⟨rfl,b5⟩;dsimp only;have X5:=jA (xe b5 Lt XX.u);have B5:=jA b5;clear b5)
       |(go_at_call 169;refine(QR.u w5).mono ?_;rintro e w6 ⟨rfl,b6⟩;dsimp only;have B6:=jA (B5.u.trans (b6.mono B5.u.size));clear b6;have kF:=(B6.u.cell (p:=⟨F,v,none⟩) FA).trans nS.u;have fF:w6.frozen? ⟨F,v,none⟩=false:=jc _ _ _ _ _ (xe B6.u FA FF.u)))
      have PY:=B6.u.size;refine xr (fun w7=>O0 B w w7∧w7.heap[B]?=some (.cells #[.string ⟨c.nm.toArray⟩,.slice oa c.op.length cap,.int .i64 c.rl,.int .i64 c.se,.int .i64 c.mo,.int .i64 0] 161 (0,0))∧w7.heap[F]?=some (.cells (Qs (b.take (k+1)) T1).toArray 4 (0,0))) ⟨(BB.u.trans (B6.u.mono (jX Lt))).setCell (jX hBF) _,(qf _ _ _ _ (by simp;omega)).trans (xe B6.u Lt XX.u),by rw [jd _ _ _ _ _ _ (xe B6.u FA FF.u)];rw [vJ,YS _ _ _ hvT,Ou.u]⟩ (fun w7 AG=>?_);have H7:=jA AG;clear AG kF fF;have LW:=jA (show m=JK (b.take (k+1))by rw [HPN.u,jQ (by omega)];rfl);go_wp2_with fail;go_roundw;case rel=>exact⟨k+1,m,by omega,by omega,by go_num,rfl,LW.u,uH.u,H7.u.1,H7.u.2.1,H7.u.2.2⟩
      case measure=>simp [intOf];omega
     |
      true=>
      go_upto_region 9 with(first
       |go_big_skip
       |((with_reducible refine yE 161 ?_);refine xi ?_ 161 (.tmp 2) ?_ B _ _ _ _ ?_ X5.u underlying161 ?_ yr ?_;rfl;rfl;rfl;rfl)
       |((with_reducible refine yE 161 ?_);refine xi ?_ 161 (.tmp 2) ?_ B _ _ _ _ ?_ XX.u underlying161 ?_ yr ?_;rfl;rfl;rfl;rfl)
       |(go_at_call 168;refine(QT.u wr).mono ?_;rintro e w5 ⟨rfl,b5⟩;dsimp only;have X5:=jA (xe b5 Lt XX.u);have B5:=jA b5;clear b5)
       |(go_at_call 169;refine(QR.u w5).mono ?_;rintro e w6 ⟨rfl,b6⟩;dsimp only;have B6:=jA (B5.u.trans (b6.mono B5.u.size));clear b6;have kF:=(B6.u.cell (p:=⟨F,v,none⟩) FA).trans nS.u;have fF:w6.frozen? ⟨F,v,none⟩=false:=jc _ _ _ _ _ (xe B6.u FA FF.u)))
      have PY:=B6.u.size;refine xr (fun w7=>O0 B w w7∧w7.heap[B]?=some (.cells #[.string ⟨c.nm.toArray⟩,.slice oa c.op.length cap,.int .i64 c.rl,.int .i64 c.se,.int .i64 c.mo,.int .i64 0] 161 (0,0))∧w7.heap[F]?=some (.cells (Qs (b.take (k+1)) T1).toArray 4 (0,0))) ⟨(BB.u.trans (B6.u.mono (jX Lt))).setCell (jX hBF) _,(qf _ _ _ _ (by simp;omega)).trans (xe B6.u Lt XX.u),by rw [jd _ _ _ _ _ _ (xe B6.u FA FF.u)];rw [vJ,YS _ _ _ hvT,Ou.u]⟩ (fun w7 AG=>?_);have H7:=jA AG;clear AG kF fF;have LW:=jA (show m=JK (b.take (k+1))by rw [HPN.u,jQ (by omega)];rfl);go_wp2_with fail;go_roundw;case rel=>exact⟨k+1,m,by omega,by omega,by go_num,rfl,LW.u,uH.u,H7.u.1,H7.u.2.1,H7.u.2.2⟩
      case measure=>simp [intOf];omega
 ·obtain⟨dk,Ms⟩:=Go.yg ns;obtain rfl:k=b.length:=by omega
  rw [jr]at HM FF;rw [jr,List.drop_length]at Ex;have CX:=jA (show JN c b=((!rk||jaX b m)&&(decide (c.rl≠1)||decide ((m:Int)≤c.mo)))by rw [HFB.u,Ex.u,show okL c b []=true from rfl,Bool.true_and,←HM.u]);clear HFB Ex
  as_aux_lemma=>
  go_wp2_with fail;go_loopw [9] (fun i wr=> ∃n:Nat,n≤m∧i=.int .i64 ((n:Int)+1)∧jaX b n=true∧(rk=false→n=0)∧O0 B w wr∧wr.heap[B]?=some (.cells #[.string ⟨c.nm.toArray⟩,.slice oa c.op.length cap,.int .i64 c.rl,.int .i64 c.se,.int .i64 c.mo,.int .i64 0] 161 (0,0))∧wr.heap[F]?=some (.cells (Qs b T1).toArray 4 (0,0))) (fun i _=>m+2-(intOf i).toNat);case atStart=>exact⟨0,ja _,rfl,rfl,fun _=>rfl,BB.u,XX.u,FF.u⟩
  case round=>
  clear BB XX FF;obtain⟨n,cI,rfl,hg,hz,Ut,Lv,hf2⟩:=hrel;have HG:=jA hg;have B2:=jA Ut;have X2:=jA Lv;have F2:=jA hf2;have Lt:B<wr.heap.size:=xZ Lv;have FA:F<wr.heap.size:=xZ hf2;clear hg Ut Lv hf2 hz;cases rk with
  |
   false=>
   have uL:=jA (show JN c b=(decide (c.rl≠1)||decide ((m:Int)≤c.mo))by rw [CX.u];rfl);by_cases Uz:c.rl=1
   ·have e1:(c.rl !=1)=false:=by rw [Uz];rfl
    have HE:=jA (show JN c b=decide ((m:Int)≤c.mo)by rw [uL.u,jS (by simp [Uz])];rfl);clear Uz;go_wp2_with (first
     |go_big_skip
     |((with_reducible refine yE 161 ?_);refine xi ?_ 161 (.tmp 2) ?_ B _ _ _ _ ?_ X2.u underlying161 ?_ yr ?_;rfl;rfl;rfl;rfl)
     |(go_at_call 169;refine(QR.u wr).mono ?_;rintro e w6 ⟨rfl,b6⟩;dsimp only;have B6:=jA (B2.u.trans (b6.mono (jX Lt)));have X6:=jA (xe b6 Lt X2.u);have F6:=jA (xe b6 FA F2.u);clear b6;have k2:w6.cell? ⟨B,2,none⟩=some (.int .i64 c.rl):=jM _ _ _ _ _ _ X6.u;have k4:w6.cell? ⟨B,4,none⟩=some (.int .i64 c.mo):=jM _ _ _ _ _ _ X6.u))
    go_ret;exact⟨by rw [HE.u];rfl,by rw [HB.u];exact B6.u⟩
   ·have e1:(c.rl !=1)=true:=by rw [ju];exact Uz
    have HE:=jA (show JN c b=true by rw [uL.u,jT Uz];rfl);clear Uz;go_wp2_with (first
     |go_big_skip
     |((with_reducible refine yE 161 ?_);refine xi ?_ 161 (.tmp 2) ?_ B _ _ _ _ ?_ X2.u underlying161 ?_ yr ?_;rfl;rfl;rfl;rfl)
     |(go_at_call 169;refine(QR.u wr).mono ?_;rintro e w6 ⟨rfl,b6⟩;dsimp only;have B6:=jA (B2.u.trans (b6.mono (jX Lt)));have X6:=jA (xe b6 Lt X2.u);have F6:=jA (xe b6 FA F2.u);clear b6;have k2:w6.cell? ⟨B,2,none⟩=some (.int .i64 c.rl):=jM _ _ _ _ _ _ X6.u;have k4:w6.cell? ⟨B,4,none⟩=some (.int .i64 c.mo):=jM _ _ _ _ _ _ X6.u))
    go_ret;exact⟨by rw [HE.u];rfl,by rw [HB.u];exact B6.u⟩
  |
   true=>
   by_cases aI:n<m
   ·have d1:decide ((n:Int)+1≤(m:Int))=true:=jT (by omega);have wR:decide (n<m)=true:=jT aI;have hT:=fz.u;have htb:=eA.u rfl;have hnT:n+1<T1:=by omega
    have AJ:(n:Int)+1<(T1:Int):=by omega
    have rL:(Qs b T1).toArray[n+1]?=some (.bool (decide (((n+1:Nat):Int)∈b))):=by rw [jE];exact jdA _ _ _ hnT
    have nD:=jA (jkP b n);have PF:=jA (joi b n m aI);generalize hsv:decide (((n+1:Nat):Int)∈b)=sv at*;have nS:=jA rL;clear rL hT htb;cases sv with
    |
     true=>
     have uX:=jA (show jaX b (n+1)=true by rw [nD.u,HG.u];rfl);clear hsv nD PF;go_wp2_with (first
      |go_big_skip
      |((with_reducible refine yE 161 ?_);refine xi ?_ 161 (.tmp 2) ?_ B _ _ _ _ ?_ X2.u underlying161 ?_ yr ?_;rfl;rfl;rfl;rfl)
      |(go_at_call 169;refine(QR.u wr).mono ?_;rintro e w6 ⟨rfl,b6⟩;dsimp only;have B6:=jA (B2.u.trans (b6.mono (jX Lt)));have X6:=jA (xe b6 Lt X2.u);have F6:=jA (xe b6 FA F2.u);clear b6;have kF:w6.cell? ⟨F,n+1,none⟩=some (.bool true):=(jM _ _ _ _ _ _ F6.u).trans nS.u))
     go_roundw;case rel=>exact⟨n+1,by omega,by go_num,uX.u,(fun h=>by cases h),B6.u,X6.u,F6.u⟩
     case measure=>simp [intOf];omega
    |
     false=>
     have HE:=jA (show JN c b=false by rw [CX.u,PF.u (qr hsv)];rfl);clear hsv nD PF;go_wp2_with (first
      |go_big_skip
      |((with_reducible refine yE 161 ?_);refine xi ?_ 161 (.tmp 2) ?_ B _ _ _ _ ?_ X2.u underlying161 ?_ yr ?_;rfl;rfl;rfl;rfl)
      |(go_at_call 169;refine(QR.u wr).mono ?_;rintro e w6 ⟨rfl,b6⟩;dsimp only;have B6:=jA (B2.u.trans (b6.mono (jX Lt)));have X6:=jA (xe b6 Lt X2.u);have F6:=jA (xe b6 FA F2.u);clear b6;have kF:w6.cell? ⟨F,n+1,none⟩=some (.bool false):=(jM _ _ _ _ _ _ F6.u).trans nS.u))
     go_ret;exact⟨by rw [HE.u];rfl,by rw [HB.u];exact B6.u⟩
   ·have d1:decide ((n:Int)+1≤(m:Int))=false:=jS (by omega);have wR:decide (n<m)=false:=jS aI;have hnm2:n=m:=by omega
    have uL:=jA (show JN c b=(decide (c.rl≠1)||decide ((m:Int)≤c.mo))by rw [CX.u,←hnm2,HG.u];rfl);clear hnm2 aI;by_cases Uz:c.rl=1
    ·have e1:(c.rl !=1)=false:=by rw [Uz];rfl
     have HE:=jA (show JN c b=decide ((m:Int)≤c.mo)by rw [uL.u,jS (by simp [Uz])];rfl);clear Uz;go_wp2_with (first
      |go_big_skip
      |((with_reducible refine yE 161 ?_);refine xi ?_ 161 (.tmp 2) ?_ B _ _ _ _ ?_ X2.u underlying161 ?_ yr ?_;rfl;rfl;rfl;rfl)
      |(go_at_call 169;refine(QR.u wr).mono ?_;rintro e w6 ⟨rfl,b6⟩;dsimp only;have B6:=jA (B2.u.trans (b6.mono (jX Lt)));have X6:=jA (xe b6 Lt X2.u);have F6:=jA (xe b6 FA F2.u);clear b6;have k2:w6.cell? ⟨B,2,none⟩=some (.int .i64 c.rl):=jM _ _ _ _ _ _ X6.u;have k4:w6.cell? ⟨B,4,none⟩=some (.int .i64 c.mo):=jM _ _ _ _ _ _ X6.u))
     go_ret;exact⟨by rw [HE.u];rfl,by rw [HB.u];exact B6.u⟩
    ·have e1:(c.rl !=1)=true:=by rw [ju];exact Uz
     have HE:=jA (show JN c b=true by rw [uL.u,jT Uz];rfl);clear Uz;go_wp2_with (first
      |go_big_skip
      |((with_reducible refine yE 161 ?_);refine xi ?_ 161 (.tmp 2) ?_ B _ _ _ _ ?_ X2.u underlying161 ?_ yr ?_;rfl;rfl;rfl;rfl)
      |(go_at_call 169;refine(QR.u wr).mono ?_;rintro e w6 ⟨rfl,b6⟩;dsimp only;have B6:=jA (B2.u.trans (b6.mono (jX Lt)));have X6:=jA (xe b6 Lt X2.u);have F6:=jA (xe b6 FA F2.u);clear b6;have k2:w6.cell? ⟨B,2,none⟩=some (.int .i64 c.rl):=jM _ _ _ _ _ _ X6.u;have k4:w6.cell? ⟨B,4,none⟩=some (.int .i64 c.mo):=jM _ _ _ _ _ _ X6.u))
     go_ret;exact⟨by rw [HE.u];rfl,by rw [HB.u];exact B6.u⟩
def jgJ(m:Nat):C0:=(List.range m).map fun k:Nat=>((k+1:Nat):Int)
theorem jbn {α:Type} [DecidableEq α]: ∀{A B:List α},A.Nodup→(∀x∈A,x∈B)→A.length≤B.length∧(B.length≤A.length→A.Perm B)
 |
  [],B,_,_=>⟨ja _,fun h=>by
  have:B= []:=kt.1 (Nat.le_zero.1 h);rw [this]⟩
 |
  a::A,B,hA,h=>by
  obtain⟨h1,h2⟩:=vh.1 hA;have haB:a∈B:=h a (by simp);have hp:=List.perm_cons_erase haB;have hl:(B.erase a).length=B.length-1:=List.length_erase_of_mem haB;have hB0:0<B.length:=List.length_pos_of_mem haB
  have ih:=jbn (B:=B.erase a) h2 (fun x hx=>by
   have Cs:x≠a:=fun e=>h1 (e▸hx);exact(List.mem_erase_of_ne Cs).2 (h x (by simp [hx])))
  refine⟨by rw [kW];omega,fun Az=>?_⟩;rw [kW]at Az;exact((ih.2 (by omega)).cons a).trans hp.symm
theorem jbx(m:Nat):(jgJ m).Nodup:=by
 unfold jgJ;rw [List.nodup_iff_pairwise_ne,List.pairwise_map];exact(vG (n:=m)).imp (fun {a b} h e=>h (by omega))
theorem jky(m:Nat)(x:Int):x∈jgJ m↔1≤x∧x≤m:=by
 unfold jgJ;rw [jo];constructor
 ·rintro⟨k,hk,rfl⟩;have:=jk.1 hk;omega
 ·rintro⟨h1,h2⟩;exact⟨(x-1).toNat,jk.2 (by omega),by omega⟩
def Vq(b:C0):C0:=b.filter fun x=>decide (0<x)
theorem jev(L:C0)(n:Int):Qa L n=L.count n:=by
 unfold Qa;rw [←List.countP_eq_length_filter];rfl
theorem jmk(b:C0):((Vq b).Nodup∧ ∀n,1≤n→n≤(Vq b).length→(n:Int)∈b)↔ ∀n,1≤n→n≤(Vq b).length→Qa b (n:Nat)=1:=by
 constructor
 ·rintro⟨h1,h2⟩ n hn hm;rw [jev];have hc:(Vq b).count (n:Int)=b.count (n:Int):=by
   unfold Vq;rw [List.count_filter];simp;omega
  rw [←hc];have a:=List.nodup_iff_count.1 h1 (n:Int);have hp:(n:Int)∈Vq b:=jz.2 ⟨h2 n hn hm,by simp;omega⟩;have:=List.count_pos_iff.2 hp;omega
 ·intro h;have bt: ∀n:Nat,1≤n→n≤(Vq b).length→(n:Int)∈b:=fun n h1 h2=>by
   have:=h n h1 h2;rw [jev]at this;exact List.count_pos_iff.1 (by omega)
  refine⟨?_,bt⟩
  have hp:=(jbn (B:=Vq b) (jbx (Vq b).length) (fun x hx=>by
   obtain⟨h1,h2⟩:=(jky _ _).1 hx;obtain⟨n,rfl⟩: ∃n:Nat,x=n:=⟨x.toNat,by omega⟩;exact jz.2 ⟨bt n (by omega) (by omega),by simp;omega⟩)).2 (by simp [jgJ])
  exact hp.nodup_iff.1 (jbx _)
theorem jki(L:C0)(x:Int):Vq (L++ [x])=Vq L++if 0<x then [x]else []:=by
 unfold Vq;rw [qY];by_cases h:0<x<;>simp [h]
theorem jfs(c:yH): ∀(r L:C0),((Vq L).Nodup∨zV c.rl=false)→(okL c L r=true↔(∀x∈r,0≤x∧x≤Xx c)∧(zV c.rl=true→(Vq (L++r)).Nodup))
 |
  [],L,h=>by
  simp only [okL,qG,kD,false_imp_iff,implies_true,true_and,true_iff];intro h1;rcases h with h|h;·exact h
  ·rw [h]at h1;cases h1
 |
  x::r,L,h=>by
  have Rv:okX c L x=true↔(0≤x∧x≤Xx c)∧(zV c.rl=true→(Vq (L++ [x])).Nodup):=by
   unfold okX;rw [jki];cases hr:zV c.rl with
   |false=>simp
   |
    true=>
    have hL:(Vq L).Nodup:=by rcases h with h|h;exact h;rw [hr]at h;cases h
    by_cases hx:0<x
    ·have:x∈Vq L↔x∈L:=by unfold Vq;simp [hx]
     simp only [hx,jY,vH];simp [hL,this,hx];intro _ _;constructor;·intro h a ha e;subst e;exact h (this.1 ha)
     ·intro h hm;exact h x (this.2 hm) rfl
    ·simp [hx,hL]
  have e:L++x::r=(L++ [x])++r:=by simp
  simp only [okL,jy];rw [Rv,e];constructor
  ·rintro⟨⟨h1,h2⟩,h3⟩;have hh:(Vq (L++ [x])).Nodup∨zV c.rl=false:=by
    cases hr:zV c.rl with
    |false=>exact .inr rfl
    |true=>exact .inl (h2 hr)
   have:=(jfs c r (L++ [x]) hh).1 h3;refine⟨fun y hy=>?_,this.2⟩;rcases jl.1 hy with rfl|hy;·exact h1
   ·exact this.1 y hy
  ·rintro⟨h1,h2⟩;have dP:zV c.rl=true→(Vq (L++ [x])).Nodup:=fun hr=>by
    have:=h2 hr;unfold Vq at this ⊢;rw [qY]at this;exact(vH.1 this).1
   have hh:(Vq (L++ [x])).Nodup∨zV c.rl=false:=by
    cases hr:zV c.rl with
    |false=>exact .inr rfl
    |true=>exact .inl (dP hr)
   exact⟨⟨h1 x (by simp),dP⟩,(jfs c r (L++ [x]) hh).2 ⟨fun y hy=>h1 y (by simp [hy]),h2⟩⟩
def YB(b:C0)(m:Nat):Bool:=(List.range m).all fun k:Nat=>decide (Qa b ((k+1:Nat):Int)=1)
def jcm(c:yH)(b:C0):Bool:=b.all fun x=>decide (0≤x∧x≤Xx c)
def Vl(c:yH)(b:C0):Bool:=jcm c b&&if zV c.rl=true then YB b (b.length-Qa b 0)else(decide (c.rl≠1)||decide (((b.length-Qa b 0:Nat):Int)≤c.mo))
theorem jmt(b:C0)(h: ∀x∈b,0≤x):b.length-Qa b 0=JK b:=by
 unfold Qa JK
 induction b with
 |nil=>rfl
 |
  cons x r ih=>
  have ih:=ih (fun y hy=>h y (by simp [hy]));have hx:=h x (by simp);have h1:=qJ (fun y:Int=>y==0) r;by_cases h0:x=0;·subst h0;simp at ih ⊢;omega
  ·have:0<x:=by omega
   simp [h0,this]at ih ⊢;omega
theorem jmL(b:C0)(m:Nat):jaX b m=true↔ ∀n:Nat,1≤n→n≤m→(n:Int)∈b:=by
 unfold jaX;rw [kw];constructor
 ·intro h n h1 h2;have:=h (n-1) (jk.2 (by omega));have e:n-1+1=n:=by omega
  rw [e]at this;exact qP this
 ·intro h k hk;have:=jk.1 hk;exact jT (h (k+1) (by omega) (by omega))
theorem jkt(b:C0)(m:Nat):YB b m=true↔ ∀n:Nat,1≤n→n≤m→Qa b (n:Nat)=1:=by
 unfold YB;rw [kw];constructor
 ·intro h n h1 h2;have:=h (n-1) (jk.2 (by omega));have e:n-1+1=n:=by omega
  rw [e]at this;exact qP this
 ·intro h k hk;have:=jk.1 hk;exact jT (h (k+1) (by omega) (by omega))
theorem Vn(c:yH)(b:C0):jcm c b=true↔ ∀x∈b,0≤x∧x≤Xx c:=by
 unfold jcm;rw [kw];exact⟨fun h x hx=>qP (h x hx),fun h x hx=>jT (h x hx)⟩
theorem jcH(c:yH)(b:C0):JN c b=Vl c b:=by
 rw [Bool.eq_iff_iff];unfold JN Vl;simp only [jy,qo];rw [jfs c b [] (.inl (by simp [Vq])),Vn,vQ];by_cases hR: ∀x∈b,0≤x∧x≤Xx c
 ·have hm:=jmt b (fun x hx=>(hR x hx).1);rw [hm];cases hr:zV c.rl with
  |false=>simp
  |
   true=>
   have h1:c.rl≠1:=by intro e;rw [e]at hr;revert hr;decide
   have:=jmk b;rw [jP rfl,jkt,jmL];simp [h1];constructor
   ·rintro⟨⟨h1,h2⟩,h3⟩;exact⟨h1,this.1 ⟨h2,h3⟩⟩
   ·rintro⟨h1,h2⟩;have:=this.2 h2;exact⟨⟨h1,this.1⟩,this.2⟩
 ·simp [hR]
def QV(c:yH)(b:C0):Int:=if b.length≠c.op.length then 2 else if JN c b=true then 0 else 4
theorem jhu(c:yH)(b:C0)(oa:s0)(cap:Nat)(ob:s0)(cb:Nat)(w:m0)(hb:yW w ob b)(hn:c.op.length≤12):
 Calls prog 69 #[.agg #[.string ⟨c.nm.toArray⟩,.slice oa c.op.length cap,.int .i64 c.rl,.int .i64 c.se,.int .i64 c.mo],.slice ob b.length cb] w fun e w'=>e=.returned (.int .i64 (QV c b))∧O0 w.heap.size w w':=by
 have rS:=jA hb;clear hb;by_cases hl:b.length=c.op.length
 ·have QF:=jA (fun w h=>jmP c b oa cap ob cb w h hn hl);have HE:=jA (show QV c b=if JN c b=true then 0 else 4 by unfold QV;rw [jQ (fun h=>h hl)]);have d0:((b.length:Int) !=(c.op.length:Int))=false:=by rw [hl];simp
  have Mz:(b.length !=c.op.length)=false:=by rw [hl];simp
  clear hl;generalize JN c b=f at*;go_enter Tryz.func69,Tryz.ntmps69;go_upto_block 0 with(fail);generalize hB:w.heap.size=B at*;refine Go.bxE hB ?_;intro w1 ts;have HB:=jA hB;have B1:=jA ts.1;have X1:=jA ts.2;have mt:B<w1.heap.size:=xZ ts.2;have k1:w1.cell? ⟨B,1,none⟩=some (.slice oa c.op.length cap):=jM w1 B 1 _ _ _ X1.u;clear hB ts;have EH:=jA (rS.u.below (by rw [HB.u];exact B1.u));cases f with
  |
   true=>
   go_wp2_with (first
    |go_big_skip
    |((with_reducible refine yE 24 ?_);refine xi ?_ 24 (.tmp 2) ?_ B _ _ _ _ ?_ X1.u underlying24 ?_ xt ?_;rfl;rfl;rfl;rfl)
    |((with_reducible refine at_build 161 ?_);refine wpList_build ?_ 161 _ ?_ _ ?_ _ (built_field _ _ _ _ _ _ _) ?_;rfl;rfl;rfl)
    |(go_at_call 116;refine(QF.u w1 EH.u).mono ?_;rintro e w2 ⟨rfl,b2⟩;dsimp only))
   go_ret;exact⟨by rw [HE.u];rfl,by rw [HB.u];exact B1.u.trans (b2.mono (jX mt))⟩
  |
   false=>
   go_wp2_with (first
    |go_big_skip
    |((with_reducible refine yE 24 ?_);refine xi ?_ 24 (.tmp 2) ?_ B _ _ _ _ ?_ X1.u underlying24 ?_ xt ?_;rfl;rfl;rfl;rfl)
    |((with_reducible refine at_build 161 ?_);refine wpList_build ?_ 161 _ ?_ _ ?_ _ (built_field _ _ _ _ _ _ _) ?_;rfl;rfl;rfl)
    |(go_at_call 116;refine(QF.u w1 EH.u).mono ?_;rintro e w2 ⟨rfl,b2⟩;dsimp only))
   go_ret;exact⟨by rw [HE.u];rfl,by rw [HB.u];exact B1.u.trans (b2.mono (jX mt))⟩
 ·have HE:=jA (show QV c b=2 by unfold QV;rw [jP hl]);have d0:((b.length:Int) !=(c.op.length:Int))=true:=by rw [ju];omega
  have Mz:(b.length !=c.op.length)=true:=by rw [ju];exact hl
  clear hl;go_enter Tryz.func69,Tryz.ntmps69;go_upto_block 0 with(fail);generalize hB:w.heap.size=B at*;refine Go.bxE hB ?_;intro w1 ts;have HB:=jA hB;have B1:=jA ts.1;have X1:=jA ts.2;have mt:B<w1.heap.size:=xZ ts.2;have k1:w1.cell? ⟨B,1,none⟩=some (.slice oa c.op.length cap):=jM w1 B 1 _ _ _ X1.u;clear hB ts;go_wp2_with fail;go_ret;exact⟨by rw [HE.u];rfl,by rw [HB.u];exact B1.u⟩
theorem jif(b:C0)(n:Nat):YB b (n+1)=(YB b n&&decide (Qa b ((n+1:Nat):Int)=1)):=by
 simp [YB,qI,List.all_append]
theorem jml(b:C0)(n m:Nat)(h:n<m)(hb: ¬Qa b ((n+1:Nat):Int)=1):YB b m=false:=by
 rw [←Bool.not_eq_true];intro h2;unfold YB at h2;rw [kw]at h2;exact hb (qP (h2 n (jk.2 h)))
theorem jdJ {c:yH}{x:Int}(hx:x∈b)(h: ¬(0≤x∧x≤Xx c)):jcm c b=false:=by
 rw [←Bool.not_eq_true,Vn];exact fun h2=>h (h2 x hx)
theorem jjo(b:C0)(n:Int):Qa b n≤b.length:=qJ _ _
theorem jgp(c:yH)(b:C0)(oa:s0)(cap:Nat)(ob:s0)(cb:Nat)(w:m0)(hb:yW w ob b)(hn:c.op.length≤12):
 Calls prog 46 #[.agg #[.string ⟨c.nm.toArray⟩,.slice oa c.op.length cap,.int .i64 c.rl,.int .i64 c.se,.int .i64 c.mo],.slice ob b.length cb] w fun e w'=>e=.returned (.int .i64 (QV c b))∧O0 w.heap.size w w':=by
 have rS:=jA hb;clear hb;by_cases hl:b.length=c.op.length
 ·have QT:=jA (fun w=>jhP c oa cap w);have QR:=jA (fun w=>jas c oa cap w);have hb12:b.length≤12:=by omega
  have QC:=jA (fun w n h=>jjz ob b cb n w h (by omega));have HE:=jA (show QV c b=if Vl c b=true then 0 else 4 by unfold QV;rw [jQ (fun h=>h hl),jcH]);have d0:((b.length:Int) !=(c.op.length:Int))=false:=by rw [hl];simp
  have Mz:(b.length !=c.op.length)=false:=by rw [hl];simp
  have HRF:=jA (show Vl c b=(jcm c b&&if zV c.rl=true then YB b (b.length-Qa b 0)else(decide (c.rl≠1)||decide (((b.length-Qa b 0:Nat):Int)≤c.mo)))from rfl);obtain⟨t,ht,htn⟩:=jfX c;rw [ht]at QT;have HTI:=jA ht;have ht12:t≤12:=by omega
  clear hl ht htn;go_enter Tryz.func46,Tryz.ntmps46;go_upto_region 1 with(fail);generalize hB:w.heap.size=B at*;refine Go.bxE hB ?_;intro w1 ts;have HB:=jA hB;have B1:=jA ts.1;have X1:=jA ts.2;have mt:B<w1.heap.size:=xZ ts.2;have k1:w1.cell? ⟨B,1,none⟩=some (.slice oa c.op.length cap):=jM w1 B 1 _ _ _ X1.u;clear hB ts;go_wp2_with fail;go_loopw [17] (fun i wr=> ∃k:Nat,k≤b.length∧i=.int .i64 k∧(∀x∈b.take k,0≤x∧x≤Xx c)∧O0 B w wr∧wr.heap[B]?=some (.cells #[.string ⟨c.nm.toArray⟩,.slice oa c.op.length cap,.int .i64 c.rl,.int .i64 c.se,.int .i64 c.mo] 24 (0,0))) (fun i _=>b.length-(intOf i).toNat);case atStart=>exact⟨0,ja _,rfl,(fun x hx=>by simp at hx),B1.u,X1.u⟩
  case round=>
  clear B1 X1 k1 mt;obtain⟨k,hk,rfl,hr,Ut,Lv⟩:=hrel;have HR:=jA hr;have B2:=jA Ut;have X2:=jA Lv;have Lt:B<wr.heap.size:=xZ Lv;have DH:=jA (rS.u.below (HB.u.symm▸Ut));clear hr Ut Lv;by_cases ns:k<b.length
  ·obtain⟨dk,Ms,nu⟩:=Go.yD ns
   obtain⟨q,Us,Wy,Mv⟩:=DH.u.cells k ns;subst Us;have HM:=jA (jb ns);have Ou:=jA (show b.take (k+1)=b.take k++ [b[k]]from jh ns);generalize b[k]=x at*;by_cases nt:x<0
   ·have e0:decide (x<0)=true:=jT nt;have iB:=jA (show QV c b=4 by rw [HE.u,HRF.u,jdJ HM.u (by omega)];rfl);clear nt;go_wp2_with (first
     |go_big_skip
     |((with_reducible refine yE 24 ?_);refine xi ?_ 24 (.tmp 2) ?_ B _ _ _ _ ?_ X2.u underlying24 ?_ xt ?_;rfl;rfl;rfl;rfl)
     |(go_at_call 85;refine(QT.u wr).mono ?_;rintro e w3 ⟨rfl,b3⟩;dsimp only))
    go_ret;exact⟨by rw [iB.u];rfl,by rw [HB.u];exact B2.u⟩
   ·obtain⟨v,rfl⟩: ∃v:Nat,x=v:=⟨x.toNat,by omega⟩;have e0:decide ((v:Int)<0)=false:=jS nt;by_cases aG:t<v
    ·have e1:decide ((t:Int)<(v:Int))=true:=jT (by omega);have e1':decide (t<v)=true:=jT aG;have iB:=jA (show QV c b=4 by rw [HE.u,HRF.u,jdJ HM.u (by rw [HTI.u];omega)];rfl);clear nt aG;go_wp2_with (first
      |go_big_skip
      |((with_reducible refine yE 24 ?_);refine xi ?_ 24 (.tmp 2) ?_ B _ _ _ _ ?_ X2.u underlying24 ?_ xt ?_;rfl;rfl;rfl;rfl)
      |(go_at_call 85;refine(QT.u wr).mono ?_;rintro e w3 ⟨rfl,b3⟩;dsimp only))
     go_ret;exact⟨by rw [iB.u];rfl,by rw [HB.u];exact B2.u.trans (b3.mono (jX Lt))⟩
    ·have e1:decide ((t:Int)<(v:Int))=false:=jS (by omega);have e1':decide (t<v)=false:=jS aG
     have IC:=jA (show ∀x∈b.take (k+1),0≤x∧x≤Xx c by
      rw [Ou.u];intro x hx;rcases jj.1 hx with h|h;·exact HR.u x h
      ·rw [jm.1 h,HTI.u];omega)
     clear nt aG;go_wp2_with (first
      |go_big_skip
      |((with_reducible refine yE 24 ?_);refine xi ?_ 24 (.tmp 2) ?_ B _ _ _ _ ?_ X2.u underlying24 ?_ xt ?_;rfl;rfl;rfl;rfl)
      |(go_at_call 85;refine(QT.u wr).mono ?_;rintro e w3 ⟨rfl,b3⟩;dsimp only))
     go_roundw;case rel=>exact⟨k+1,by omega,by go_num,IC.u,B2.u.trans (b3.mono (jX Lt)),xe b3 Lt X2.u⟩
     case measure=>simp [intOf];omega
  ·obtain⟨dk,Ms⟩:=Go.yg ns;obtain rfl:k=b.length:=by omega
   rw [jr]at HR;have hz:=jjo b 0;have BP:=jA (show Vl c b=if zV c.rl=true then YB b (b.length-Qa b 0)else(decide (c.rl≠1)||decide (((b.length-Qa b 0:Nat):Int)≤c.mo))by rw [HRF.u,(Vn c b).2 HR.u,Bool.true_and]);have QC0:=jA (QC.u wr 0 DH.u);clear HRF HR;generalize Qa b 0=z at*;have aT:(b.length:Int)-(z:Int)=((b.length-z:Nat):Int):=by omega
   have hsle:b.length-z≤12:=by omega
   generalize b.length-z=m at*;go_upto_region 10 with(go_at_call 86;refine(QC0.u).mono ?_;rintro e w3 ⟨rfl,rfl⟩;dsimp only);clear aT hz
   as_aux_lemma=>
   generalize Pu:zV c.rl=rk at*;clear Pu;cases rk with
   |
    true=>
    have HE3:=jA (show QV c b=if YB b m=true then 0 else 4 by rw [HE.u,BP.u];rfl);clear BP HE;go_wp2_with (first
     |go_big_skip
     |((with_reducible refine yE 24 ?_);refine xi ?_ 24 (.tmp 2) ?_ B _ _ _ _ ?_ X2.u underlying24 ?_ xt ?_;rfl;rfl;rfl;rfl)
     |(go_at_call 87;refine(QR.u wr).mono ?_;rintro e w4 ⟨rfl,b4⟩;dsimp only;have GP:=jA (DH.u.below b4);have B4:=jA (B2.u.trans (b4.mono (jX Lt)));clear b4))
    go_loop [8] (fun i=> ∃n:Nat,n≤m∧i=.int .i64 ((n:Int)+1)∧YB b n=true) (fun i=>m+2-(intOf i).toNat)
    case atStart=>exact⟨0,ja _,rfl,rfl⟩
    case round=>
    obtain⟨n,cI,rfl,hg⟩:=hrel;have HG:=jA hg;clear hg;by_cases aI:n<m
    ·have d1:decide ((n:Int)+1≤(m:Int))=true:=jT (by omega);have wR:decide (n<m)=true:=jT aI;have nD:=jA (jif b n);have PF:=jA (jml b n m aI);have QCN:=jA (QC.u w4 ((n:Int)+1) GP.u);have hc12:=jjo b ((n:Int)+1);rw [show((n+1:Nat):Int)=(n:Int)+1 from rfl]at nD PF;generalize Qa b ((n:Int)+1)=y at*;by_cases hy:y=1
     ·have d2:((y:Int) !=1)=false:=by rw [hy];rfl
      have d2':(y !=1)=false:=by rw [hy];rfl
      have uX:=jA (show YB b (n+1)=true by rw [nD.u,HG.u,jT hy];rfl);clear hy nD PF;go_wp2_with (go_at_call 86;refine(QCN.u).mono ?_;rintro e w5 ⟨rfl,rfl⟩;dsimp only)
      go_round
      case rel=>exact⟨n+1,by omega,by go_num,uX.u⟩
      case measure=>simp [intOf];omega
     ·have d2:((y:Int) !=1)=true:=by rw [ju];omega
      have d2':(y !=1)=true:=by rw [ju];exact hy
      have PP:=jA (show QV c b=4 by rw [HE3.u,PF.u hy];rfl);clear hy nD PF;go_wp2_with (go_at_call 86;refine(QCN.u).mono ?_;rintro e w5 ⟨rfl,rfl⟩;dsimp only);go_ret;exact⟨by rw [PP.u];rfl,by rw [HB.u];exact B4.u⟩
    ·have d1:decide ((n:Int)+1≤(m:Int))=false:=jS (by omega);have wR:decide (n<m)=false:=jS aI;obtain rfl:n=m:=by omega
     have PP:=jA (show QV c b=0 by rw [HE3.u,HG.u];rfl);clear aI;go_wp2_with fail;go_ret;exact⟨by rw [PP.u];rfl,by rw [HB.u];exact B4.u⟩
   |
    false=>
    have HE3:=jA (show QV c b=if(decide (c.rl≠1)||decide ((m:Int)≤c.mo))=true then 0 else 4 by rw [HE.u,BP.u];rfl);clear BP HE;by_cases Uz:c.rl=1
    ·have e1:(c.rl==1)=true:=by rw [Uz];rfl
     by_cases hmo:(m:Int)≤c.mo
     ·have e2:decide (c.mo<(m:Int))=false:=jS (by omega);have PP:=jA (show QV c b=0 by rw [HE3.u,jT hmo,Bool.or_true];rfl);clear Uz hmo;go_wp2_with (first
       |go_big_skip
       |((with_reducible refine yE 24 ?_);refine xi ?_ 24 (.tmp 2) ?_ B _ _ _ _ ?_ X2.u underlying24 ?_ xt ?_;rfl;rfl;rfl;rfl)
       |(go_at_call 87;refine(QR.u wr).mono ?_;rintro e w4 ⟨rfl,b4⟩;dsimp only;have B4:=jA (B2.u.trans (b4.mono (jX Lt)));have k2:w4.cell? ⟨B,2,none⟩=some (.int .i64 c.rl):=jM _ _ _ _ _ _ (xe b4 Lt X2.u);have k4:w4.cell? ⟨B,4,none⟩=some (.int .i64 c.mo):=jM _ _ _ _ _ _ (xe b4 Lt X2.u);clear b4))
      go_ret;exact⟨by rw [PP.u];rfl,by rw [HB.u];exact B4.u⟩
     ·have e2:decide (c.mo<(m:Int))=true:=jT (by omega);have PP:=jA (show QV c b=4 by rw [HE3.u,jS hmo,jS (fun h=>h Uz)];rfl);clear Uz hmo;go_wp2_with (first
       |go_big_skip
       |((with_reducible refine yE 24 ?_);refine xi ?_ 24 (.tmp 2) ?_ B _ _ _ _ ?_ X2.u underlying24 ?_ xt ?_;rfl;rfl;rfl;rfl)
       |(go_at_call 87;refine(QR.u wr).mono ?_;rintro e w4 ⟨rfl,b4⟩;dsimp only;have B4:=jA (B2.u.trans (b4.mono (jX Lt)));have k2:w4.cell? ⟨B,2,none⟩=some (.int .i64 c.rl):=jM _ _ _ _ _ _ (xe b4 Lt X2.u);have k4:w4.cell? ⟨B,4,none⟩=some (.int .i64 c.mo):=jM _ _ _ _ _ _ (xe b4 Lt X2.u);clear b4))
      go_ret;exact⟨by rw [PP.u];rfl,by rw [HB.u];exact B4.u⟩
    ·have e1:(c.rl==1)=false:=by rw [jt];exact Uz
     have PP:=jA (show QV c b=0 by rw [HE3.u,jT Uz];rfl);clear Uz;go_wp2_with (first
      |go_big_skip
      |((with_reducible refine yE 24 ?_);refine xi ?_ 24 (.tmp 2) ?_ B _ _ _ _ ?_ X2.u underlying24 ?_ xt ?_;rfl;rfl;rfl;rfl)
      |(go_at_call 87;refine(QR.u wr).mono ?_;rintro e w4 ⟨rfl,b4⟩;dsimp only;have B4:=jA (B2.u.trans (b4.mono (jX Lt)));have k2:w4.cell? ⟨B,2,none⟩=some (.int .i64 c.rl):=jM _ _ _ _ _ _ (xe b4 Lt X2.u);have k4:w4.cell? ⟨B,4,none⟩=some (.int .i64 c.mo):=jM _ _ _ _ _ _ (xe b4 Lt X2.u);clear b4))
     go_ret;exact⟨by rw [PP.u];rfl,by rw [HB.u];exact B4.u⟩
 ·have HE:=jA (show QV c b=2 by unfold QV;rw [jP hl]);have d0:((b.length:Int) !=(c.op.length:Int))=true:=by rw [ju];omega
  have Mz:(b.length !=c.op.length)=true:=by rw [ju];exact hl
  clear hl;go_enter Tryz.func46,Tryz.ntmps46;go_upto_region 1 with(fail);generalize hB:w.heap.size=B at*;refine Go.bxE hB ?_;intro w1 ts;have HB:=jA hB;have B1:=jA ts.1;have X1:=jA ts.2;have mt:B<w1.heap.size:=xZ ts.2;have k1:w1.cell? ⟨B,1,none⟩=some (.slice oa c.op.length cap):=jM w1 B 1 _ _ _ X1.u;clear hB ts;go_wp2_with fail;go_ret;exact⟨by rw [HE.u];rfl,by rw [HB.u];exact B1.u⟩
def jiO(w:m0)(p:n0×C0):Prop:= ∃ob cb,p.1=.slice ob p.2.length cb∧yW w ob p.2∧p.2.length<9223372036854775808
theorem jiO.below{p:n0×C0}(h:jiO w p)(hb:O0 w.heap.size w w1):jiO w1 p:=by
 obtain⟨ob,cb,h1,h2,h3⟩:=h;exact⟨ob,cb,h1,h2.below hb,h3⟩
structure Va(w:m0)(oa:s0)(P:List (n0×C0)):Prop where
 cells: ∀i (h:i<P.length),∃a,oa=some a∧a.block<w.heap.size∧w.cell? (a.add i)=some P[i].1
 rows: ∀p∈P,jiO w p
theorem Va.below{oa:s0}{P:List (n0×C0)}(h:Va w oa P)(hb:O0 w.heap.size w w1):Va w1 oa P:=⟨fun i hi=>by
 obtain⟨a,h1,h2,h3⟩:=h.cells i hi;exact⟨a,h1,jW h2 hb.size,by rw [hb.cell (by rw [yI];exact h2)];exact h3⟩,fun p hp=>(h.rows p hp).below hb⟩
theorem jcp{base:Nat}{e:o0}{v:n0}{P:List (n0×C0)}(h:w.ownsRow base e 1 v n (P.map Prod.fst))(hr: ∀p∈P,jiO w p): ∃oa cap,v=.slice oa P.length cap∧P.length≤cap∧Va w oa P:=by
 have hl:P.length=n:=by have:=h.1;simp at this;omega
 rcases h.2 with⟨hv,h0⟩|⟨g,cap,Es,hv,hb,hg,px,_,hc,ht⟩
 ·have:P= []:=kt.1 (by omega);subst this;exact⟨none,0,hv,jO _,⟨fun i hi=>by simp at hi,fun p hp=>by simp at hp⟩⟩
 ·refine⟨some ⟨g,0,none⟩,cap,by rw [hl];exact hv,by rw [hl];exact px,⟨fun i hi=>⟨_,rfl,xZ hg,?_⟩,hr⟩⟩;exact h.cells (g:=g) (by rw [hv];rfl) i P[i].1 (by simp [hi])
theorem YF:(prog.info? 29).map (fun i=>(i.zero,i.size,i.bytes))=some (some (.slice none 0 0),1,24):=by kernel_rfl
def yH.rule(c:yH)(rl:Int):yH:=⟨c.nm,c.op,rl,c.se,c.mo⟩
def XL(b:C0):Bool:=decide (∃x∈b,0<x)
def jmA(c:yH)(b:C0):Bool:=JN c b&&XL b
def zB(c:yH)(p:n0×C0):Bool:=jmA c p.2
def XE(n:Nat)(P:List (n0×C0)):Prop:= ∀p∈P,p.2.length=n
instance (n:Nat) (P:List (n0×C0)):Decidable (XE n P):=by unfold XE;infer_instance
def KQ(n:Nat)(P:List (n0×C0)):Int:=if 4096<P.length then 3 else if XE n P then 0 else 2
def Js(n:Nat)(c:yH)(P:List (n0×C0))(w:m0)(e:Ending)(w':m0):Prop:=
 O0 w.heap.size w w'∧if KQ n P=0 then ∃oo co,Va w' oo (P.filter (zB c))∧e=.returned (.tuple #[.slice oo (P.filter (zB c)).length co,.int .i64 0])
 else e=.returned (.tuple #[.slice none 0 0,.int .i64 (KQ n P)])
theorem Js.bad{c:yH}{P:List (n0×C0)}{E:Int}(hE:KQ n P=E)(h0:E≠0)(hb:O0 w.heap.size w w'):Js n c P w (.returned (.tuple #[.slice none 0 0,.int .i64 E])) w':=by
 unfold Js;rw [hE,jQ h0];exact⟨hb,rfl⟩
theorem Js.ok{c:yH}{P:List (n0×C0)}(hE:KQ n P=0)(hb:O0 w.heap.size w w'){oo:s0}{co:Nat}(hp:Va w' oo (P.filter (zB c))):Js n c P w (.returned (.tuple #[.slice oo (P.filter (zB c)).length co,.int .i64 0])) w':=by
 unfold Js;rw [hE,jP rfl];exact⟨hb,oo,co,hp,rfl⟩
theorem jbC {α:Type}(P:List α)(f:α→Bool)(k:Nat)(h:k<P.length):(P.take (k+1)).filter f=(P.take k).filter f++if f P[k]=true then [P[k]]else []:=by
 rw [jh h,qY];by_cases hf:f P[k]=true<;>simp [hf]
theorem jep {c:yH}(hl:b.length=c.op.length):QV c b=if JN c b=true then 0 else 4:=by unfold QV;rw [jQ (fun h=>h hl)]
theorem jgD{m:Int}(h:jhx b m):XL b=decide (0<m):=by
 unfold XL;by_cases hm:0<m;·rw [jT hm,jT ⟨m,h.mem,hm⟩]
 ·rw [jS hm,jS];rintro⟨x,hx,h0⟩;have:=h.le x hx;omega
theorem jiu(c:yH)(rl:Int)(P:List (n0×C0))(oa:s0)(cap:Nat)(ob:s0)(cb:Nat)(w:m0)(hP:Va w ob P)(hn:c.op.length≤12)(IQ:1≤c.op.length):
 Calls prog 29 #[.agg #[.string ⟨c.nm.toArray⟩,.slice oa c.op.length cap,.int .i64 c.rl,.int .i64 c.se,.int .i64 c.mo],.int .i64 rl,.slice ob P.length cb] w (Js c.op.length (c.rule rl) P w):=by
 have HP:=jA hP;have QF:=jA (show ∀(w:m0) (b:C0) (ob:s0) (cb:Nat) (h:yW w ob b),Calls prog 69 #[.agg #[.string ⟨c.nm.toArray⟩,.slice oa c.op.length cap,.int .i64 rl,.int .i64 c.se,.int .i64 c.mo],.slice ob b.length cb] w (fun e w'=>e=.returned (.int .i64 (QV (c.rule rl) b))∧O0 w.heap.size w w')from fun w b ob cb h=>jhu (c.rule rl) b oa cap ob cb w h hn);have wJ:(c.rule rl).op.length=c.op.length:=rfl;have lN:=jA wJ;clear hP wJ;have HC:=jA (fun b:C0=>jep (c:=c.rule rl) (b:=b));rw [lN.u]at HC;generalize c.rule rl=cr at*;obtain⟨i0,hi,Is,Ts,Ns⟩:=info_parts YF;have HI:=jA hi;have Dt:=jA Is;have Ct:=jA Ts;have Bt:=jA Ns;clear hi Is Ts Ns;by_cases hl:4096<P.length
 ·have d0:decide ((4096:Int)<(P.length:Int))=true:=jT (by omega);have Mz:decide (4096<P.length)=true:=jT hl;have HE:=jA (show KQ c.op.length P=3 by unfold KQ;rw [jP hl]);clear hl;go_enter Tryz.func29,Tryz.ntmps29;go_upto_region 1 with(fail);generalize hB:w.heap.size=B at*;refine Go.bxE hB ?_;intro w1 ts;have HB:=jA hB;have B1:=jA ts.1;have X1:=jA ts.2;have mt:B<w1.heap.size:=xZ ts.2;clear hB ts;go_wp2_with fail
  go_ret2
  exact Js.bad HE.u (by decide) (by rw [HB.u];exact B1.u)
 ·have d0:decide ((4096:Int)<(P.length:Int))=false:=jS (by omega);have Mz:decide (4096<P.length)=false:=jS hl;have AQ:P.length≤4096:=by omega
  have HE:=jA (show KQ c.op.length P=if XE c.op.length P then 0 else 2 by unfold KQ;rw [jQ hl]);clear hl;go_enter Tryz.func29,Tryz.ntmps29;go_upto_region 1 with(fail);generalize hB:w.heap.size=B at*;refine Go.bxE hB ?_;intro w1 ts;have HB:=jA hB;have B1:=jA ts.1;have X1:=jA ts.2;have mt:B<w1.heap.size:=xZ ts.2;clear hB ts;have k2:w1.cell? ⟨B,2,none⟩=some (.int .i64 c.rl):=jM w1 B 2 _ _ _ X1.u;have f2:w1.frozen? ⟨B,2,none⟩=false:=jc w1 B 2 _ _ X1.u;go_upto_region 4 with(fail);refine xr (fun w2=>O0 B w w2∧w2.heap[B]?=some (.cells #[.string ⟨c.nm.toArray⟩,.slice oa c.op.length cap,.int .i64 rl,.int .i64 c.se,.int .i64 c.mo] 24 (0,0))) ⟨B1.u.setCell (jO _) _,by rw [jd _ _ _ _ _ _ X1.u];rfl⟩ (fun w2 lu=>?_);have B2:=jA lu.1;have X2:=jA lu.2;have mt:B<w2.heap.size:=xZ lu.2;clear lu k2 f2 B1 X1;clear d0 Mz;go_wp2_with fail;go_loopw [18,8] (fun i v wr=> ∃(k:Nat) (vo:n0),k≤P.length∧i=.int .i64 k∧vo=v∧XE c.op.length (P.take k)∧O0 B w wr∧wr.heap[B]?=some (.cells #[.string ⟨c.nm.toArray⟩,.slice oa c.op.length cap,.int .i64 rl,.int .i64 c.se,.int .i64 c.mo] 24 (0,0))∧wr.ownsRow (B+1) 29 1 vo ((P.take k).filter (zB cr)).length (((P.take k).filter (zB cr)).map Prod.fst)) (fun i _ _=>P.length-(intOf i).toNat);case atStart=>exact⟨0,_,ja _,rfl,rfl,(fun x hx=>by simp at hx),B2.u,X2.u,kg _ _ _ _⟩
  case round=>
  clear B2 X2 mt;obtain⟨k,vo,hk,rfl,rfl,ha,Dx,Gx,Ax⟩:=hrel;have HA:=jA ha;have B3:=jA Dx;have X3:=jA Gx;have O3:=jA Ax;have Lt:B<wr.heap.size:=xZ Gx;have PB:=jA (HP.u.below (HB.u.symm▸Dx));have k1:wr.cell? ⟨B,1,none⟩=some (.slice oa c.op.length cap):=jM wr B 1 _ _ _ Gx;clear ha Dx Gx Ax;by_cases ns:k<P.length
  ·obtain⟨dk,Ms,nu⟩:=Go.yD ns
   obtain⟨q,Us,Wy,Mv⟩:=PB.u.cells k ns;subst Us;have ry:=jA (jbC P (zB cr) k ns);have Ou:=jA (show P.take (k+1)=P.take k++ [P[k]]from jh ns);have Ot:=jA (jb ns);have Oy:((P.take k).filter (zB cr)).length≤k:=jU (qJ _ _) (List.length_take_le _ _);generalize P[k]=p at*;obtain⟨or,MK,sw,Ru,Pw⟩:=PB.u.rows p Ot.u;rw [sw]at Mv;have aC:=jA Ru;have HK:=jA (show zB cr p=(JN cr p.2&&XL p.2)from rfl);have HP1:=jA sw;clear sw Ru;by_cases Ix:p.2.length=c.op.length
   ·have e0:((p.2.length:Int) !=(c.op.length:Int))=false:=by rw [Ix];simp
    have e0':(p.2.length !=c.op.length)=false:=by rw [Ix];simp
    have AS:=jA (show XE c.op.length (P.take (k+1))by
     rw [Ou.u];intro x hx;rcases jj.1 hx with h|h;·exact HA.u x h
     ·rw [jm.1 h];exact Ix)
    have QM:=jA (fun w h=>jnW or p.2 MK w h (by omega) (by omega));have HF:=jA (HC.u p.2 Ix);clear Ix;generalize p.2=L at*;have bL:=jA (QF.u wr L or MK aC.u);generalize JN cr L=f at*;cases f with
    |
     false=>
     have uG:=jA (show(P.take (k+1)).filter (zB cr)=(P.take k).filter (zB cr)by rw [ry.u,HK.u];simp);rw [show QV cr L=4 by rw [HF.u];rfl]at bL;clear ry HK HF QF HC;go_wp2_with (first
      |go_big_skip
      |((with_reducible refine yE 24 ?_);refine xi ?_ 24 (.tmp 3) ?_ B _ _ _ _ ?_ X3.u underlying24 ?_ xt ?_;rfl;rfl;rfl;rfl)
      |(go_at_call 69;refine(bL.u).mono ?_;rintro e w4 ⟨rfl,b4⟩;dsimp only;have B4:=jA b4;clear b4))
     go_roundw;case rel=>exact⟨k+1,vo,by omega,by go_num,rfl,AS.u,B3.u.trans (B4.u.mono (jX Lt)),xe B4.u Lt X3.u,by rw [uG.u];exact yA O3.u B4.u⟩
     case measure=>simp [intOf];omega
    |
     true=>
     rw [show QV cr L=0 by rw [HF.u];rfl]at bL;generalize hsp:XL L=sp at*;have HSP:=jA hsp;clear hsp;cases sp with
     |
      false=>
      have uG:=jA (show(P.take (k+1)).filter (zB cr)=(P.take k).filter (zB cr)by rw [ry.u,HK.u];simp);clear ry HK HF QF HC;go_wp2_with (first
       |go_big_skip
       |((with_reducible refine yE 24 ?_);refine xi ?_ 24 (.tmp 3) ?_ B _ _ _ _ ?_ X3.u underlying24 ?_ xt ?_;rfl;rfl;rfl;rfl)
       |(go_at_call 69;refine(bL.u).mono ?_;rintro e w4 ⟨rfl,b4⟩;dsimp only;have B4:=jA b4;clear b4)
       |(go_at_call 70;refine(QM.u w4 (aC.u.below B4.u)).mono ?_;rintro e w5 ⟨⟨m,rfl,hm⟩,rfl⟩;dsimp only;have e5:=(jgD hm).symm.trans HSP.u;clear hm))
      go_roundw;case rel=>exact⟨k+1,vo,by omega,by go_num,rfl,AS.u,B3.u.trans (B4.u.mono (jX Lt)),xe B4.u Lt X3.u,by rw [uG.u];exact yA O3.u B4.u⟩
      case measure=>simp [intOf];omega
     |
      true=>
      have uG:=jA (show(P.take (k+1)).filter (zB cr)=(P.take k).filter (zB cr)++ [p]by rw [ry.u,HK.u];simp);clear ry HK HF QF HC;generalize (P.take k).filter (zB cr)=O at*;go_upto_region 11 with(first
       |go_big_skip
       |((with_reducible refine yE 24 ?_);refine xi ?_ 24 (.tmp 3) ?_ B _ _ _ _ ?_ X3.u underlying24 ?_ xt ?_;rfl;rfl;rfl;rfl)
       |(go_at_call 69;refine(bL.u).mono ?_;rintro e w4 ⟨rfl,b4⟩;dsimp only;have B4:=jA b4;clear b4)
       |(go_at_call 70;refine(QM.u w4 (aC.u.below B4.u)).mono ?_;rintro e w5 ⟨⟨m,rfl,hm⟩,rfl⟩;dsimp only;have e5:=(jgD hm).symm.trans HSP.u;clear hm))
      have B34:=jA (B3.u.trans (B4.u.mono (jX Lt)));have rx:=B34.u.size;have hBw4:B<w4.heap.size:=jW Lt B4.u.size;go_wp2_with (at_builtin;go_loud (refine wpList_append_lies _ rfl (.tmp 37) (.tmp 39) 25 rfl (B+1) 29 i0 (.slice none 0 0) 1 24 underlying25 HI.u Dt.u Ct.u Bt.u rfl (by decide) vo O.length (O.map Prod.fst) rfl ((yA O3.u B4.u).alloc _) ⟨_,0,none⟩ 1 1 [.slice or L.length MK] rfl rfl (zK (xh rfl)) (by simp [Value.oneCell']) (by decide) (by unfold maxLen;omega) (by omega) (by simp;omega) _ rfl (fun g cp w7 Iv aA bU gF=>?_)));have nA: ∀j,vo.ownBlock=some j→B+1≤j:=fun j hj=>(O3.u.lt j hj).1;have B7:=jA ((B34.u.alloc (by omega) (.cells #[.slice or L.length MK] 29)).grown aA (by simp;omega) (fun j hj=>by have:=nA j hj;omega));have X7:=jA (yU aA (fun e=>by have:=nA _ e;omega) (yM (xe B4.u Lt X3.u)));have O7:=jA Iv;clear Iv aA bU gF;go_wp2_with fail;go_roundw;case rel=>exact⟨k+1,_,by omega,by go_num,rfl,AS.u,B7.u,X7.u,by rw [uG.u,jZ,qk,List.map_singleton,HP1.u];exact O7.u⟩
      case measure=>simp [intOf];omega
   ·have e0:((p.2.length:Int) !=(c.op.length:Int))=true:=by rw [ju];omega
    have e0':(p.2.length !=c.op.length)=true:=by rw [ju];exact Ix
    have iB:=jA (show KQ c.op.length P=2 by rw [HE.u,jQ (fun h=>Ix (h p Ot.u))]);clear Ix;go_wp2_with fail
    go_ret2
    exact Js.bad iB.u (by decide) (by rw [HB.u];exact B3.u)
  ·obtain⟨dk,Ms⟩:=Go.yg ns;obtain rfl:k=P.length:=by omega
   rw [jr]at HA O3;have iB:=jA (show KQ c.op.length P=0 by rw [HE.u,jP HA.u]);obtain⟨oo,co,rfl,dR,uD⟩:=jcp O3.u (fun p hp=>PB.u.rows p (jz.1 hp).1);have gz:=jA uD;clear uD;go_wp2_with fail
   go_ret2
   exact Js.ok iB.u (by rw [HB.u];exact B3.u) gz.u
def jbS(b:C0):Bool:=b.any fun x=>x !=0
theorem jll(b:C0)(x:Int):jbS (b++ [x])=(jbS b||x !=0):=by simp [jbS,List.any_append]
theorem jkF(c:yH)(p:n0×C0):zB c p=(jbS p.2&&JN c p.2):=by
 unfold zB jmA;cases hf:JN c p.2 with
 |false=>simp
 |
  true=>
  rw [Bool.true_and,Bool.and_true];have h0: ∀x∈p.2,0≤x:=by
   rw [jcH]at hf;unfold Vl at hf;rw [jy,Vn]at hf;exact fun x hx=>(hf.1 x hx).1
  unfold XL jbS;rw [Bool.eq_iff_iff,kK,vI];constructor;·rintro⟨x,hx,h⟩;exact⟨x,hx,by rw [ju];omega⟩
  ·rintro⟨x,hx,h⟩;rw [ju]at h;have:=h0 x hx;exact⟨x,hx,by omega⟩
theorem Xe(c:yH)(rl:Int)(P:List (n0×C0))(oa:s0)(cap:Nat)(ob:s0)(cb:Nat)(w:m0)(hP:Va w ob P)(hn:c.op.length≤12):
 Calls prog 12 #[.agg #[.string ⟨c.nm.toArray⟩,.slice oa c.op.length cap,.int .i64 c.rl,.int .i64 c.se,.int .i64 c.mo],.int .i64 rl,.slice ob P.length cb] w (Js c.op.length (c.rule rl) P w):=by
 have HP:=jA hP;have QF:=jA (show ∀(w:m0) (b:C0) (ob:s0) (cb:Nat) (h:yW w ob b),Calls prog 46 #[.agg #[.string ⟨c.nm.toArray⟩,.slice oa c.op.length cap,.int .i64 rl,.int .i64 c.se,.int .i64 c.mo],.slice ob b.length cb] w (fun e w'=>e=.returned (.int .i64 (QV (c.rule rl) b))∧O0 w.heap.size w w')from fun w b ob cb h=>jgp (c.rule rl) b oa cap ob cb w h hn);have wJ:(c.rule rl).op.length=c.op.length:=rfl;have lN:=jA wJ;clear hP wJ;have HC:=jA (fun b:C0=>jep (c:=c.rule rl) (b:=b));rw [lN.u]at HC;generalize c.rule rl=cr at*;obtain⟨i0,hi,Is,Ts,Ns⟩:=info_parts YF;have HI:=jA hi;have Dt:=jA Is;have Ct:=jA Ts;have Bt:=jA Ns;clear hi Is Ts Ns;by_cases hl:4096<P.length
 ·have d0:decide ((4096:Int)<(P.length:Int))=true:=jT (by omega);have Mz:decide (4096<P.length)=true:=jT hl;have HE:=jA (show KQ c.op.length P=3 by unfold KQ;rw [jP hl]);clear hl;go_enter Tryz.func12,Tryz.ntmps12;go_upto_region 1 with(fail);generalize hB:w.heap.size=B at*;refine Go.bxE hB ?_;intro w1 ts;have HB:=jA hB;have B1:=jA ts.1;have X1:=jA ts.2;have mt:B<w1.heap.size:=xZ ts.2;clear hB ts;go_wp2_with fail
  go_ret2
  exact Js.bad HE.u (by decide) (by rw [HB.u];exact B1.u)
 ·have d0:decide ((4096:Int)<(P.length:Int))=false:=jS (by omega);have Mz:decide (4096<P.length)=false:=jS hl;have AQ:P.length≤4096:=by omega
  have HE:=jA (show KQ c.op.length P=if XE c.op.length P then 0 else 2 by unfold KQ;rw [jQ hl]);clear hl;go_enter Tryz.func12,Tryz.ntmps12;go_upto_region 1 with(fail);generalize hB:w.heap.size=B at*;refine Go.bxE hB ?_;intro w1 ts;have HB:=jA hB;have B1:=jA ts.1;have X1:=jA ts.2;have mt:B<w1.heap.size:=xZ ts.2;clear hB ts;have k2:w1.cell? ⟨B,2,none⟩=some (.int .i64 c.rl):=jM w1 B 2 _ _ _ X1.u;have f2:w1.frozen? ⟨B,2,none⟩=false:=jc w1 B 2 _ _ X1.u;go_upto_region 4 with(fail);refine xr (fun w2=>O0 B w w2∧w2.heap[B]?=some (.cells #[.string ⟨c.nm.toArray⟩,.slice oa c.op.length cap,.int .i64 rl,.int .i64 c.se,.int .i64 c.mo] 24 (0,0))) ⟨B1.u.setCell (jO _) _,by rw [jd _ _ _ _ _ _ X1.u];rfl⟩ (fun w2 lu=>?_);have B2:=jA lu.1;have X2:=jA lu.2;have mt:B<w2.heap.size:=xZ lu.2;clear lu k2 f2 B1 X1;clear d0 Mz;have HP2:=jA (HP.u.below (HB.u.symm▸B2.u));have k1:w2.cell? ⟨B,1,none⟩=some (.slice oa c.op.length cap):=jM w2 B 1 _ _ _ X2.u;go_wp2_with fail
  go_loop [23] (fun i=> ∃k:Nat,k≤P.length∧i=.int .i64 k∧XE c.op.length (P.take k)) (fun i=>P.length-(intOf i).toNat)
  case atStart=>exact⟨0,ja _,rfl,(fun x hx=>by simp at hx)⟩
  case round=>
  obtain⟨k,hk,rfl,ha⟩:=hrel;have HA:=jA ha;clear ha;by_cases ns:k<P.length
  ·obtain⟨dk,Ms,nu⟩:=Go.yD ns
   obtain⟨q,Us,Wy,Mv⟩:=HP2.u.cells k ns;subst Us;have Ou:=jA (show P.take (k+1)=P.take k++ [P[k]]from jh ns);have Ot:=jA (jb ns);generalize P[k]=p at*;obtain⟨or,MK,sw,Ru,Pw⟩:=HP2.u.rows p Ot.u;rw [sw]at Mv;clear sw Ru;by_cases Ix:p.2.length=c.op.length
   ·have e0:((p.2.length:Int) !=(c.op.length:Int))=false:=by rw [Ix];simp
    have e0':(p.2.length !=c.op.length)=false:=by rw [Ix];simp
    have AS:=jA (show XE c.op.length (P.take (k+1))by
     rw [Ou.u];intro x hx;rcases jj.1 hx with h|h;·exact HA.u x h
     ·rw [jm.1 h];exact Ix)
    clear Ix;go_wp2_with fail
    go_round
    case rel=>exact⟨k+1,by omega,by go_num,AS.u⟩
    case measure=>simp [intOf];omega
   ·have e0:((p.2.length:Int) !=(c.op.length:Int))=true:=by rw [ju];omega
    have e0':(p.2.length !=c.op.length)=true:=by rw [ju];exact Ix
    have iB:=jA (show KQ c.op.length P=2 by rw [HE.u,jQ (fun h=>Ix (h p Ot.u))]);clear Ix;go_wp2_with fail
    go_ret2
    exact Js.bad iB.u (by decide) (by rw [HB.u];exact B2.u)
  ·obtain⟨dk,Ms⟩:=Go.yg ns;obtain rfl:k=P.length:=by omega
   rw [jr]at HA;have iB:=jA (show KQ c.op.length P=0 by rw [HE.u,jP HA.u]);clear HE
   as_aux_lemma=>
   go_wp2_with fail;clear k1 ns dk Ms hk;go_loopw [36,8] (fun i v wr=> ∃(k:Nat) (vo:n0),k≤P.length∧i=.int .i64 k∧vo=v∧O0 B w wr∧wr.heap[B]?=some (.cells #[.string ⟨c.nm.toArray⟩,.slice oa c.op.length cap,.int .i64 rl,.int .i64 c.se,.int .i64 c.mo] 24 (0,0))∧wr.ownsRow (B+1) 29 1 vo ((P.take k).filter (zB cr)).length (((P.take k).filter (zB cr)).map Prod.fst)) (fun i _ _=>P.length-(intOf i).toNat);case atStart=>exact⟨0,_,ja _,rfl,rfl,B2.u,X2.u,kg _ _ _ _⟩
   case round=>
   clear B2 X2 mt HP2;obtain⟨k,vo,hk,rfl,rfl,Dx,Gx,Ax⟩:=hrel;have B3:=jA Dx;have X3:=jA Gx;have O3:=jA Ax;have Lt:B<wr.heap.size:=xZ Gx;have PB:=jA (HP.u.below (HB.u.symm▸Dx));clear Dx Gx Ax;by_cases ns:k<P.length
   ·obtain⟨dk,Ms,nu⟩:=Go.yD ns
    obtain⟨q,Us,Wy,Mv⟩:=PB.u.cells k ns;subst Us;have ry:=jA (jbC P (zB cr) k ns);have Ot:=jA (jb ns);have Oy:((P.take k).filter (zB cr)).length≤k:=jU (qJ _ _) (List.length_take_le _ _);generalize P[k]=p at*;obtain⟨or,MK,sw,Ru,Pw⟩:=PB.u.rows p Ot.u;rw [sw]at Mv;have aC:=jA Ru;have HK:=jA (jkF cr p);have HP1:=jA sw;have HF:=jA (HC.u p.2 (HA.u p Ot.u));have GT:p.2.length≤12:=by rw [HA.u p Ot.u];exact hn
    clear sw Ru Pw;generalize p.2=L at*;have bL:=jA (QF.u wr L or MK aC.u);generalize (P.take k).filter (zB cr)=O at*;go_wp2_with fail;obtain⟨wo,hwo⟩: ∃wo:m0,wo=wr:=⟨_,rfl⟩;subst hwo
    go_loop [42,13] (fun i v=> ∃j:Nat,j≤L.length∧i=.int .i64 j∧v=.bool (jbS (L.take j))) (fun i _=>L.length-(intOf i).toNat)
    case atStart=>exact⟨0,ja _,rfl,rfl⟩
    case round=>
    obtain⟨j,hj,rfl,rfl⟩:=hrel;by_cases Dw:j<L.length
    ·obtain⟨ek,EC,Ow⟩:=Go.yD Dw
     obtain⟨r,wB,nJ,FG⟩:=aC.u.cells j Dw;subst wB;have rN:=jA (show jbS (L.take (j+1))=(jbS (L.take j)||L[j] !=0)by rw [jh Dw,jll]);generalize L[j]=y at*;generalize jbS (L.take j)=sb at*;cases sb with
     |
      true=>
      have Hv:=jA (show true=jbS (L.take (j+1))by rw [rN.u];rfl);clear rN;go_wp2_with fail
      go_round
      case rel=>exact⟨j+1,by omega,by go_num,by rw [←Hv.u]⟩
      case measure=>simp [intOf];omega
     |
      false=>
      have Hv:=jA (show(y !=0)=jbS (L.take (j+1))by rw [rN.u];rfl);clear rN;go_wp2_with fail
      go_round
      case rel=>exact⟨j+1,by omega,by go_num,by rw [←Hv.u]⟩
      case measure=>simp [intOf];omega
    ·obtain⟨ek,EC⟩:=Go.yg Dw;obtain rfl:j=L.length:=by omega
     rw [jr];generalize jbS L=sb at*;clear Dw ek EC hj;cases sb with
     |
      false=>
      have uG:=jA (show(P.take (k+1)).filter (zB cr)=O by rw [ry.u,HK.u];simp);clear ry HK HF QF HC;go_wp2_with (first
       |go_big_skip
       |((with_reducible refine yE 24 ?_);refine xi ?_ 24 (.tmp 3) ?_ B _ _ _ _ ?_ X3.u underlying24 ?_ xt ?_;rfl;rfl;rfl;rfl)
       |(go_at_call 46;refine(bL.u).mono ?_;rintro e w4 ⟨rfl,b4⟩;dsimp only;have B4:=jA b4;clear b4))
      go_roundw;case rel=>exact⟨k+1,vo,by omega,by go_num,rfl,B3.u,X3.u,by rw [uG.u];exact O3.u⟩
      case measure=>simp [intOf];omega
     |
      true=>
      generalize JN cr L=f at*;cases f with
      |
       false=>
       have uG:=jA (show(P.take (k+1)).filter (zB cr)=O by rw [ry.u,HK.u];simp);rw [show QV cr L=4 by rw [HF.u];rfl]at bL;clear ry HK HF QF HC;go_wp2_with (first
        |go_big_skip
        |((with_reducible refine yE 24 ?_);refine xi ?_ 24 (.tmp 3) ?_ B _ _ _ _ ?_ X3.u underlying24 ?_ xt ?_;rfl;rfl;rfl;rfl)
        |(go_at_call 46;refine(bL.u).mono ?_;rintro e w4 ⟨rfl,b4⟩;dsimp only;have B4:=jA b4;clear b4))
       go_roundw;case rel=>exact⟨k+1,vo,by omega,by go_num,rfl,B3.u.trans (B4.u.mono (jX Lt)),xe B4.u Lt X3.u,by rw [uG.u];exact yA O3.u B4.u⟩
       case measure=>simp [intOf];omega
      |
       true=>
       have uG:=jA (show(P.take (k+1)).filter (zB cr)=O++ [p]by rw [ry.u,HK.u];simp);rw [show QV cr L=0 by rw [HF.u];rfl]at bL;clear ry HK HF QF HC;go_upto_region 21 with(first
        |go_big_skip
        |((with_reducible refine yE 24 ?_);refine xi ?_ 24 (.tmp 3) ?_ B _ _ _ _ ?_ X3.u underlying24 ?_ xt ?_;rfl;rfl;rfl;rfl)
        |(go_at_call 46;refine(bL.u).mono ?_;rintro e w4 ⟨rfl,b4⟩;dsimp only;have B4:=jA b4;clear b4))
       have B34:=jA (B3.u.trans (B4.u.mono (jX Lt)));have rx:=B34.u.size;have hBw4:B<w4.heap.size:=jW Lt B4.u.size;go_wp2_with (at_builtin;go_loud (refine wpList_append_lies _ rfl (.tmp 59) (.tmp 61) 25 rfl (B+1) 29 i0 (.slice none 0 0) 1 24 underlying25 HI.u Dt.u Ct.u Bt.u rfl (by decide) vo O.length (O.map Prod.fst) rfl ((yA O3.u B4.u).alloc _) ⟨_,0,none⟩ 1 1 [.slice or L.length MK] rfl rfl (zK (xh rfl)) (by simp [Value.oneCell']) (by decide) (by unfold maxLen;omega) (by omega) (by simp;omega) _ rfl (fun g cp w7 Iv aA bU gF=>?_)));have nA: ∀j,vo.ownBlock=some j→B+1≤j:=fun j hj=>(O3.u.lt j hj).1;have B7:=jA ((B34.u.alloc (by omega) (.cells #[.slice or L.length MK] 29)).grown aA (by simp;omega) (fun j hj=>by have:=nA j hj;omega));have X7:=jA (yU aA (fun e=>by have:=nA _ e;omega) (yM (xe B4.u Lt X3.u)));have O7:=jA Iv;clear Iv aA bU gF;go_wp2_with fail;go_roundw;case rel=>exact⟨k+1,_,by omega,by go_num,rfl,B7.u,X7.u,by rw [uG.u,jZ,qk,List.map_singleton,HP1.u];exact O7.u⟩
       case measure=>simp [intOf];omega
   ·obtain⟨dk,Ms⟩:=Go.yg ns;obtain rfl:k=P.length:=by omega
    rw [jr]at O3;obtain⟨oo,co,rfl,dR,uD⟩:=jcp O3.u (fun p hp=>PB.u.rows p (jz.1 hp).1);have gz:=jA uD;clear uD;go_wp2_with fail
    go_ret2
    exact Js.ok iB.u (by rw [HB.u];exact B3.u) gz.u
def prE(c:yH)(P:List (n0×C0)):Int:=if yz c=true then 2 else KQ c.op.length P
theorem Xq {c:yH}(h:yz c=false):1≤c.op.length∧c.op.length≤12∧1≤c.rl∧c.rl≤4∧1≤c.se∧c.se≤c.op.length:=by
 unfold yz at h;have:=qr h;omega
theorem ZF{P:List (n0×C0)}(f:n0×C0→Bool)(h:XE n P):XE n (P.filter f):=fun p hp=>h p (jz.1 hp).1
theorem jbW{P:List (n0×C0)}(h:KQ n P=0):XE n P∧P.length≤4096:=by
 unfold KQ at h;split at h;·cases h
 ·split at h;·rename_i h1 h2;exact⟨h2,by omega⟩
  ·cases h
def jig(L:C0)(v:Int):Bool:=decide (v∈L)
theorem jkK(oa:s0)(L:C0)(cap:Nat)(v:Int)(w:m0)(h:yW w oa L)(hl:L.length<9223372036854775808):
 Calls prog 110 #[.slice oa L.length cap,.int .i64 v] w fun e w'=>(∃r:Int,e=.returned (.int .i64 r)∧decide (0≤r)=jig L v)∧w=w':=by
 have H:=jA h;clear h;go_enter Tryz.func110,Tryz.ntmps110;go_upto_region 2 with(fail)
 go_loop [8] (fun i=> ∃k:Nat,k≤L.length∧i=.int .i64 k∧v∉L.take k) (fun i=>L.length-(intOf i).toNat)
 case atStart=>exact⟨0,by omega,rfl,by simp⟩
 case round=>
 obtain⟨k,hk,rfl,fu⟩:=hrel;have HP:=jA fu;clear fu;by_cases ns:k<L.length
 ·obtain⟨dk,Ms,nu⟩:=Go.yD ns
  obtain⟨a,Us,eu,Ft⟩:=H.u.cells k ns
  have Hx:=jA (fun(hb: ¬L[k]=v)=>(show v∉L.take (k+1)by
   rw [jh ns,jj,jm];exact fun h=>h.elim HP.u (fun h=>hb h.symm)))
  have TE:=jA (fun(hb:L[k]=v)=>(show jig L v=true from jT (hb▸jb ns)));subst Us;generalize L[k]=x at*;by_cases hb:x=v
  ·have d1:(v==x)=true:=by rw [qH];exact hb.symm
   have h2:=jA (TE.u hb);clear hb Hx TE;go_wp2_with fail;go_ret;exact⟨⟨_,rfl,by rw [h2.u];exact jT (by omega)⟩,rfl⟩
  ·have d1:(v==x)=false:=by rw [jt];exact fun h=>hb h.symm
   have h2:=jA (Hx.u hb);clear hb Hx TE;go_wp2_with fail
   go_round
   case rel=>exact⟨k+1,by omega,by go_num,h2.u⟩
   case measure=>simp [intOf];omega
 ·obtain⟨dk,Ms⟩:=Go.yg ns;obtain rfl:k=L.length:=by omega
  rw [jr]at HP;have h2:=jA (show jig L v=false from jS HP.u);go_wp2_with fail;go_ret;exact⟨⟨_,rfl,by rw [h2.u];decide⟩,rfl⟩
theorem jfJ(oa:s0)(L:C0)(cap:Nat)(v:Int)(w:m0)(h:yW w oa L)(hl:L.length<9223372036854775808):
 Calls prog 63 #[.slice oa L.length cap,.int .i64 v] w fun e w'=>e=.returned (.bool (jig L v))∧w=w':=by
 have Q:=jA (jkK oa L cap v w h hl);clear h hl;generalize jig L v=b at*;go_enter Tryz.func63,Tryz.ntmps63;go_wp2_with (go_at_call 110;refine Q.u.mono ?_;rintro e w1 ⟨⟨r,rfl,hr⟩,rfl⟩);go_ret;exact⟨rfl,rfl⟩
end Go.Proofs.YtnohcdpnnhmpfaaGreatDoor
