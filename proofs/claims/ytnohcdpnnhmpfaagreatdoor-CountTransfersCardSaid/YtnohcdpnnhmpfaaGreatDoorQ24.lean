/-
  Chapter 13, Transfer: the comparer of sorted[exact.Frac]. Printed by tools/gensortf.py.
  Chapter 13: slices.SortFunc with the comparer of 'sorted', twelve or fewer; sorted[int]. Printed by tools/gensorted.py.
  Chapter 13, Transfer: slices.SortFunc with the comparer of fractions, twelve or fewer; sorted[exact.Frac]. Printed by tools/gensortf.py.
  A region that draws its order, walked by what holds: a relation on what has come up so far, the frame and the world; each operation is walked once, whenever it comes.
  Conditions: that every order of the head ends at the tail is checked by a Bool ('invB').
-/
import Derived.Test.YtnohcdpnnhmpfaaGreatDoorQ23
import Derived.Test.YtnohcdpnnhmpfaaGreatDoorQ20
import Derived.Test.YtnohcdpnnhmpfaaGreatDoorQ17
set_option linter.unusedVariables false
set_option linter.unusedSimpArgs false
set_option maxRecDepth 100000
set_option maxHeartbeats 4000000
namespace Go.Proofs.YtnohcdpnnhmpfaaGreatDoor.TR
open Go.RowKit Tryz ML FRP AU CT FM
structure jje(w:World)(p q r:Nat)(r6:List Value)(n:Nat)(T:Nat→Fr)(P:List Int)(base g cap:Nat)(xa xb:Nat→Value):Prop where
 hp:w.heap[p]?=some (.cells #[(.func (.func 51) #[] #[])] 172 (0,0))
 hq:w.heap[q]?=some (.cells #[.slice (some ⟨g,0,none⟩) n cap] 114 (0,0))
 tot:Je w base n T (.slice (some ⟨g,0,none⟩) n cap) xa xb
 hr: ∃oP cP,w.heap[r]?=some (.cells (r6++ [Value.slice oP P.length cP]).toArray 62 (0,0))∧yj w oP P
 h6:r6.length=6
theorem jje.below {w w1:World}{p q r:Nat}{r6:List Value}{n:Nat}{T:Nat→Fr}{P:List Int}{base g cap:Nat}{xa xb:Nat→Value}(h:jje w p q r r6 n T P base g cap xa xb)(hb:Below w.heap.size w w1):jje w1 p q r r6 n T P base g cap xa xb:=by
 obtain⟨oP,cP,hr,hP⟩:=h.hr;exact⟨xK hb (lt_of_heap h.hp) h.hp,xK hb (lt_of_heap h.hq) h.hq,h.tot.below hb,⟨oP,cP,xK hb (lt_of_heap hr) hr,hP.below hb⟩,h.h6⟩
def jbw(T:Nat→Fr)(P:List Int)(a b:Int):Int:=orI (Qe (T b.toNat) (T a.toNat)) (P.getD a.toNat 0-P.getD b.toNat 0)
theorem jaW(i j:Nat)(p q r:Nat)(r6:List Value)(n:Nat)(T:Nat→Fr)(P:List Int)(base g cap:Nat)(xa xb:Nat→Value)(w:World)(h:jje w p q r r6 n T P base g cap xa xb)(hi:i<n)(hj:j<n)(hVP:n=P.length)(hl:n<1000)(hPb: ∀x∈P,0≤x∧x<1000)(hT: ∀i,i<n→Sml (T i)):
 Calls prog 173 #[.int .i64 i,.int .i64 j,.pointer (some ⟨p,0,none⟩),.pointer (some ⟨q,0,none⟩),.pointer (some ⟨r,0,none⟩)] w fun e w'=>e=.returned (.int .i64 (jbw T P i j))∧Below w.heap.size w w':=by
 obtain⟨oP,cP,hr,hP⟩:=h.hr;have hp:=h.hp;have hq:=h.hq;have h6:=h.h6;obtain⟨qp,hop,hpb,hpi⟩:=hP.cells i (by omega);obtain⟨qp2,hop2, -,hpj⟩:=hP.cells j (by omega);subst hop;obtain rfl:qp=qp2:=by injection hop2
 have bi:=hPb P[i] (jj _);have bj:=hPb P[j] (jj _)
 have HE:=jA (show jbw T P i j=orI (Qe (T j) (T i)) (P[i]-P[j])by
  unfold jbw;simp only [Int.toNat_natCast,jW];rw [kl (by omega:i<P.length),kl (by omega:j<P.length)];rfl)
 have HS:=jA zn;have TI:=jA (h.tot.mid hi);have TJ:=jA (h.tot.mid hj);have hgl:g<w.heap.size:=by
  rcases h.tot.row.own.2 with⟨hv,_⟩|⟨g2,_,_,hv,_,hg2,_⟩;·cases hv
  ·injection hv with h1;injection h1 with h1;injection h1 with h1;subst h1;exact lt_of_heap hg2
 have Q:=jA (jlD w.drew (Trn.fr (Trn.of_below (jN _ _).drew 0 0) (h.tot.frs j hj)) (Trn.fr (Trn.of_below (jN _ _).drew 0 0) (h.tot.frs i hi)) (hT j hj).lens (hT i hi).lens);have zi:(i:Int)<(n:Int):=by omega
 have zj:(j:Int)<(n:Int):=by omega
 have hcb:Qe (T j) (T i)= -1∨Qe (T j) (T i)=0∨Qe (T j) (T i)=1:=by
  rcases Kh (hT j hj).ok.1 (hT i hi).ok.1 with h|h|h;·exact .inl h.1
  ·exact .inr (.inl h.1)
  ·exact .inr (.inr h.1)
 rw [←hVP]at hr;generalize Qe (T j) (T i)=cc at*;generalize P[i]=pi at*;generalize P[j]=pj at*;obtain⟨M,hM⟩: ∃M,M=w.heap.size:=⟨_,rfl⟩;have hpM:p<M:=hM▸lt_of_heap hp;have hqM:q<M:=hM▸lt_of_heap hq;have hrM:r<M:=hM▸lt_of_heap hr;rw [←hM]at hgl hpb;have hx0:Below M w w.drew:=(jN _ _).drew;have c1:w.cell? ⟨p,0,none⟩=some (.func (.func 51) #[] #[]):=jM w p 0 _ _ _ hp;have c2:w.cell? ⟨q,0,none⟩=some (.slice (some ⟨g,0,none⟩) n cap):=jM w q 0 _ _ _ hq;have c3:w.cell? ⟨r,6,none⟩=some (.slice (some qp) n cP):=by
  rw [jM w r 6 _ _ _ hr];simp [h6]
 have C1:=jA c1;have C2:=jA c2;have C3:=jA c3;have PI:=jA hpi;have PJ:=jA hpj;have hk3:=xy qp i;have hk4:=xy qp j;have HM:=jA hM;clear hP hp hq hr hop2 hPb c1 c2 c3 hpi hpj h hT;go_enter Tryz.func173,Tryz.ntmps173;go_wp2_with fail;have d1: ∀x:xS M w,x.w.cell? ⟨p,0,none⟩=some (.func (.func 51) #[] #[]):=fun x=>XQ ⟨x,rfl⟩ hpM C1.u;have d2: ∀x:xS M w,x.w.cell? ⟨q,0,none⟩=some (.slice (some ⟨g,0,none⟩) n cap):=fun x=>XQ ⟨x,rfl⟩ hqM C2.u;have d3: ∀x:xS M w,x.w.cell? ⟨r,6,none⟩=some (.slice (some qp) n cP):=fun x=>XQ ⟨x,rfl⟩ hrM C3.u;have d6: ∀x:xS M w,x.w.cell? (qp.add i)=some (.int .i64 pi):=fun x=>XQ ⟨x,rfl⟩ (by omega) PI.u;have d7: ∀x:xS M w,x.w.cell? (qp.add j)=some (.int .i64 pj):=fun x=>XQ ⟨x,rfl⟩ (by omega) PJ.u;have HC:=jA (fun(x:xS M w) (o:Nat) (l:List Value) (h: ∀j u,l[j]?=some u→w.cell? ((⟨g,o,none⟩:Addr).add j)=some u) (j:Nat) (u:Value) (hj:l[j]?=some u)=>(x.2.cell (p:=(⟨g,o,none⟩:Addr).add j) (by rw [xy];exact hgl)).trans (h j u hj));clear hk3 hk4 hM;refine Seg.xL (fun w'=> ∃x:xS M w,w'=x.w) [([0,1,2,3,4,5,6,7,8,10,11,12,13,14,15,16,17,18,19,20],9)] [] 21 (by kernel_rfl) (by kernel_rfl) (fun _ _ d _ _ h=>by cases d<;>exact h) (⟨⟨_,hx0⟩,rfl⟩) ?_;simp only [jK,Seg.opAt,Seg.xW];first|go_big_quiet_step (fail)|quiet_step (fail)
 first|go_big_quiet_step (fail)|quiet_step (fail)
 first|go_big_quiet_step (fail)|quiet_step (fail)
 first|go_big_quiet_step (fail)|quiet_step (fail)
 refine xV rfl 90 _ rfl ⟨g,j*2,none⟩ [xa j,xb j] _ rfl (fun w' hw'=>by obtain⟨x,rfl⟩:=hw';exact HC.u x _ _ TJ.u) underlying90 rfl HS.u ?_;first|go_big_quiet_step (fail)|quiet_step (fail)
 first|go_big_quiet_step (fail)|quiet_step (fail)
 first|go_big_quiet_step (fail)|quiet_step (fail)
 refine xV rfl 90 _ rfl ⟨g,i*2,none⟩ [xa i,xb i] _ rfl (fun w' hw'=>by obtain⟨x,rfl⟩:=hw';exact HC.u x _ _ TI.u) underlying90 rfl HS.u ?_;repeat (any_goals (first|go_big_quiet_step (fail)|quiet_step (fail)))
 refine jP ?_;intro K hK;simp only [Region.wanted,jY];go_wp2_with (go_at_call 51;refine Q.u.mono ?_;rintro e w1 ⟨rfl,b1⟩);have B1:=jA (yV b1);have BM:=jA (show Below M w w1 by rw [HM.u];exact B1.u);refine hK _ _ ⟨⟨_,BM.u⟩,rfl⟩ ?_;clear hK K b1;have QO:=jA (fun(g:Nat) (w1:World) (h:w1.heap[g]?=some (.cells #[.int .i64 cc,.int .i64 (pi-pj)] 3 (0,0)))=>jlP cc (pi-pj) g 2 w1 (jM w1 g 0 _ _ _ h) (jM w1 g 1 _ _ _ h));have QO2:=jA (QO.u w1.heap.size (w1.alloc (.cells #[.int .i64 cc,.int .i64 (pi-pj)] 3)) (xN rfl));clear QO;repeat (any_goals (first|go_big_quiet_step (fail)|quiet_step (fail)))
 refine jP ?_;go_wp2_with (go_at_call 142;refine QO2.u.mono ?_;rintro e w2 ⟨rfl,rfl⟩);go_ret;exact⟨by rw [HE.u];rfl,B1.u.alloc B1.u.size _⟩
end Go.Proofs.YtnohcdpnnhmpfaaGreatDoor.TR
namespace Go.Proofs.YtnohcdpnnhmpfaaGreatDoor
open Go.RowKit Tryz ML FM AU CT
def leV(V P:List Int)(a b:Int):Prop:=V.getD b.toNat 0<V.getD a.toNat 0∨V.getD a.toNat 0=V.getD b.toNat 0∧P.getD a.toNat 0<P.getD b.toNat 0
def jmc(V P L:List Int)(w:World)(e:Ending)(w':World):Prop:=
 ∃S ob cb,e=.returned (.slice ob L.length cb)∧yj w' ob S∧S.Perm L∧S.Pairwise (leV V P)∧L.length≤cb∧Below w.heap.size w w'
end Go.Proofs.YtnohcdpnnhmpfaaGreatDoor
namespace Go.Proofs.YtnohcdpnnhmpfaaGreatDoor.TR
open Go.RowKit Tryz ML FRP AU CT FM
theorem jdQ(c:Int→Int→Int)(le:Int→Int→Prop)(tr: ∀a b c,le a b→le b c→le a c)(D:List Int)(X cap base:Nat)(p q r:Nat)(w:World)
 (HC: ∀(x y:Int) (w':World),x∈D→y∈D→Kept X w w'→Calls prog 173 #[.int .i64 x,.int .i64 y,.pointer (some ⟨p,0,none⟩),.pointer (some ⟨q,0,none⟩),.pointer (some ⟨r,0,none⟩)] w' fun e w''=>e=.returned (.int .i64 (c x y))∧Below w'.heap.size w' w'')
 (hc:D.Pairwise fun y x=>(c x y<0→le x y)∧(0≤c x y→le y x)) (hl:D.length<4611686018427387904) (hD:w.ownsRow base 3 1 (.slice (some ⟨X,0,none⟩) D.length cap) D.length (xU D)):
 Calls prog 166 #[.slice (some ⟨X,0,none⟩) D.length cap,.int .i64 0,.int .i64 D.length,.func (.func 173) #[] #[.pointer (some ⟨p,0,none⟩),.pointer (some ⟨q,0,none⟩),.pointer (some ⟨r,0,none⟩)]] w fun e w'=>e=.returned (.tuple #[])∧Qy le D X cap base 3 w w':=by
 have TR:=jA tr;have QC:=jA HC;have PC:=jA hc;have RD:=jA hD;have hX:X<w.heap.size:=Xb hD;clear tr HC hc hD;go_enter Tryz.func166,Tryz.ntmps166;go_wp2_with fail;go_loopw [8] (fun i wr=> ∃(k:Nat) (S:List Int),1≤k∧(k≤D.length∨k=1)∧i=.int .i64 k∧Yk le D S k∧wr.ownsRow base 3 1 (.slice (some ⟨X,0,none⟩) D.length cap) D.length (xU (S++D.drop k))∧Kept X w wr) (fun i _=>D.length-(intOf i).toNat);case atStart=>exact⟨1,D.take 1,by omega,.inr rfl,rfl,jcJ le D,by rw [qf];exact RD.u,Kept.refl X w⟩
 case round=>
 clear RD;obtain⟨k,S,hk1,hk2,rfl,hS,hR,hK⟩:=hrel;have HS:=jA hS;have HR:=jA hR;have HK:=jA hK;clear hS hR hK;by_cases hlt:k<D.length
 ·have dk:decide ((k:Int)<(D.length:Int))=true:=jQ (by omega);have dk2:decide (k<D.length)=true:=jQ hlt;have hki:(k:Int)<(D.length:Int):=by omega
  obtain⟨x,hx⟩: ∃x,x=D[k]:=⟨_,rfl⟩;have hdr:D.drop k=x::D.drop (k+1):=by rw [hx,kh hlt]
  have hSl:=HS.u.len (by omega);have HXD:=jA (show x∈D by rw [hx];exact jj hlt)
  have HCS:=jA (show ∀y∈S,(c x y<0→le x y)∧(0≤c x y→le y x)from fun y hy=>by
   rw [hx];exact Ye PC.u k hlt y (HS.u.perm.mem_iff.1 hy))
  have HSD:=jA (show ∀y∈S,y∈D from fun y hy=>qU (HS.u.perm.mem_iff.1 hy));have HNX:=jA (show ∀A C,A++C=S→(A++x::C).Pairwise le→Yk le D (A++x::C) (k+1)from fun A C hAC hp=>HS.u.next hlt hAC (hx▸rfl) hp);have HRX:=jA (show wr.ownsRow base 3 1 (.slice (some ⟨X,0,none⟩) D.length cap) D.length (xU (S++x::D.drop (k+1)))by rw [←hdr];exact HR.u);clear HR hdr hx;have hLR:S.length+(1+(D.drop (k+1)).length)=D.length:=by rw [jq];omega
  obtain⟨R,hR⟩: ∃R,R=D.drop (k+1):=⟨_,rfl⟩;rw [←hR]at hLR HRX;have HRR:=jA hR;clear hR;generalize hsz:w.heap.size=W at*;clear hsz;go_wp2_with fail;go_loopw [9] (fun j wr=> ∃(A C:List Int),j=.int .i64 (A.length:Int)∧A++C=S∧(∀y∈C,le x y)∧wr.ownsRow base 3 1 (.slice (some ⟨X,0,none⟩) D.length cap) D.length (xU (A++x::(C++R)))∧Kept X w wr) (fun j _=>(intOf j).toNat);case atStart=>exact⟨S,[],by rw [hSl],by simp,by simp,by simpa using HRX.u,HK.u⟩
  case round=>
  clear HRX HK;obtain⟨A,C,rfl,hAC,hC,hR,hK⟩:=hrel;have HAC:=jA hAC;have HCC:=jA hC;have HR:=jA hR;have HK:=jA hK;have hAl:A.length≤S.length:=by rw [←hAC];simp
  clear hAC hC hR hK;have HPW:=jA (fun h=>jge TR.u A C x (HAC.u▸HS.u.srt) HCC.u h);rcases List.eq_nil_or_concat A with hA|⟨A',y,hA⟩
  ·subst hA;have d0:decide ((0:Int)<0)=false:=rfl;have HF:=jA (HNX.u [] C HAC.u (HPW.u (fun A' z h=>by simp at h)));go_wp2_with fail;refine Seg.xL (fun w'=> ∃m,w'=wr.drewN m) [] [0,1,2,3,4,5,6,7,8,9,10,11,12,13] 14 (by kernel_rfl) (by kernel_rfl) (fun _ _ d _ _ h=>by cases d<;>exact h) (⟨1,rfl⟩) ?_;simp only [jK,Seg.opAt,Seg.xW];repeat (any_goals (first|go_big_quiet_step (fail)|quiet_step (fail)))
   refine jP ?_;go_wp2_with fail;go_roundw;case rel=>exact⟨k+1,x::C,by omega,.inl (by omega),by go_num,HF.u,by rw [←HRR.u];exact zy HR.u,HK.u.drew⟩
   case measure=>simp [intOf];omega
  ·rw [List.concat_eq_append]at hA;obtain⟨jp,hjp⟩: ∃jp,jp=A'.length:=⟨_,rfl⟩;have hAl2:A.length=jp+1:=by rw [hA,hjp];simp
   have hc1:=HR.u.cellAt (jp+1) (by omega);have hc0:=HR.u.cellAt jp (by omega);have hf1:=HR.u.frozenAt (jp+1);have hf0:=HR.u.frozenAt jp;have e1:(xU (A++x::(C++R)))[jp+1]?=some (.int .i64 x):=by rw [←hAl2];simp [xU]
   have e0:(xU (A++x::(C++R)))[jp]?=some (.int .i64 y):=by rw [hA,hjp];simp [xU]
   rw [e1]at hc1;rw [e0]at hc0;clear e1 e0;have hyS:y∈S:=by rw [←HAC.u,hA];simp
   have QQ:=jA (fun w' (hk:Kept X w w')=>QC.u x y w' HXD.u (HSD.u y hyS) hk);have CS:=jA (HCS.u y hyS)
   have HLA:=jA (show ∀A2 z,A=A2++ [z]→0≤c x y→le z x from fun A2 z h h0=>by
    rw [hA]at h;have hz:=(List.append_inj' h rfl).2;simp at hz;subst hz;exact CS.u.2 h0)
   have HSW:=jA (show((xU (A++x::(C++R))).set (jp+1) (.int .i64 y)).set jp (.int .i64 x)=xU (A'++x::(y::C++R))by
    have:=jbW (xU A') (.int .i64 y) (.int .i64 x) (xU (C++R));rw [show(xU A').length=jp by simp [xU,hjp]]at this;rw [hA];simpa [xU] using this)
   have HAC2:=jA (show A'++y::C=S by rw [←HAC.u,hA];simp);have z1:decide ((0:Int)<(jp:Int)+1)=true:=jQ (by omega);have z2:(0:Int)<(jp:Int)+1:=by omega
   have z3:(jp:Int)+1<(D.length:Int):=by omega
   have z4:(jp:Int)<(D.length:Int):=by omega
   have z5:(A.length:Int)=(jp:Int)+1:=by omega
   rw [z5];clear z5;have HJ:=jA hjp;have HAA:=jA hA;obtain⟨iN,hiN⟩: ∃q,q=jp+1:=⟨_,rfl⟩;have ea:((jp:Int)+1).toNat=iN:=by omega
   rw [←hiN]at hc1 hf1 HSW;have HIN:=jA hiN;clear hjp hA hiN hyS;have HC1:=jA hc1;have HC0:=jA hc0;by_cases hneg:c x y<0
   ·have dn:decide (c x y<0)=true:=jQ hneg;have HLE:=jA (CS.u.1 hneg);clear CS HLA HNX HPW hneg;go_wp2_with fail;refine Seg.xL (fun w'=> ∃m,w'=wr.drewN m) [] [0,1,2,3,4,5,6,7,8,9,10,11,12,13] 14 (by kernel_rfl) (by kernel_rfl) (fun _ _ d _ _ h=>by cases d<;>exact h) (⟨1,rfl⟩) ?_;simp only [jK,Seg.opAt,Seg.xW];repeat (any_goals (first|go_big_quiet_step (fail)|quiet_step (fail)))
    refine jP ?_;go_wp2_with (go_at_call 173;refine(QQ.u _ HK.u.drew).mono ?_;rintro e w2 ⟨rfl,b2⟩;have B2:=jA b2;clear b2);have hXr:X<wr.drew.heap.size:=by have:=Xb HR.u;exact this
    have K2:=jA (HK.u.drew.below B2.u);have R2:=jA (xk (zy HR.u) B2.u);clear hc1 hc0 hf1 hf0;have hc1:=(B2.u.cell (p:=⟨X,iN,none⟩) hXr).trans HC1.u;have hc0:=(B2.u.cell (p:=⟨X,jp,none⟩) hXr).trans HC0.u;have hf1:=R2.u.frozenAt iN;have hf0:=R2.u.frozenAt jp;have hiN:=HIN.u;obtain⟨u,hcu⟩: ∃u,(w2.setCell ⟨X,iN,none⟩ (.int .i64 y)).cell? ⟨X,jp,none⟩=some u:=⟨_,(World.cell?_setCell_other _ _ _ _ (by intro e';simp only [Addr.mk.injEq]at e';omega)).trans hc0⟩;have HR3:=jA (zy ((R2.u.stored iN (.int .i64 y)).1.stored jp (.int .i64 x)).1);have K3:=jA (((K2.u.set iN (.int .i64 y)).set jp (.int .i64 x)).drew);clear B2 K2 R2 HR HK HC1 HC0 hXr hiN QQ;rw [HSW.u]at HR3;clear HSW
    go_big_region
    clear hc1 hc0 hf1 hf0 hcu ea;generalize ((w2.setCell ⟨X,iN,none⟩ (.int .i64 y)).setCell ⟨X,jp,none⟩ (.int .i64 x)).drew=w3 at*;go_wp2_with fail;go_roundw;case rel=>exact⟨A',y::C,by rw [←HJ.u],HAC2.u,fun v hv=>(jg.1 hv).elim (fun h=>h▸HLE.u) (HCC.u v),HR3.u,K3.u⟩
    case measure=>simp [intOf]
   ·have dn:decide (c x y<0)=false:=jS hneg;have HF:=jA (HNX.u A C HAC.u (HPW.u (fun A2 z h=>HLA.u A2 z h (by omega))));clear CS HLA HNX HPW hneg;go_wp2_with fail;refine Seg.xL (fun w'=> ∃m,w'=wr.drewN m) [] [0,1,2,3,4,5,6,7,8,9,10,11,12,13] 14 (by kernel_rfl) (by kernel_rfl) (fun _ _ d _ _ h=>by cases d<;>exact h) (⟨1,rfl⟩) ?_;simp only [jK,Seg.opAt,Seg.xW];repeat (any_goals (first|go_big_quiet_step (fail)|quiet_step (fail)))
    refine jP ?_;go_wp2_with (go_at_call 173;refine(QQ.u _ HK.u.drew).mono ?_;rintro e w2 ⟨rfl,b2⟩;have B2:=jA b2;clear b2);have K2:=jA (HK.u.drew.below B2.u);have R2:=jA (xk (zy HR.u) B2.u);clear hc1 hc0 hf1 hf0;go_roundw;case rel=>exact⟨k+1,A++x::C,by omega,.inl (by omega),by go_num,HF.u,by rw [←HRR.u,kS];exact R2.u,K2.u⟩
    case measure=>simp [intOf];omega
 ·have dk:decide ((k:Int)<(D.length:Int))=false:=jS (by omega);have dk2:decide (k<D.length)=false:=jS hlt;have HDT:=jA (show D.take k=D from jc (by omega));have HDD:=jA (show D.drop k= []from ve (by omega));go_wp2_with fail
  go_end0
  exact⟨rfl,S,by have:=HS.u.perm;rwa [HDT.u]at this,HS.u.srt,by have:=HR.u;rwa [HDD.u,qD]at this,HK.u⟩
theorem jjK(c:Int→Int→Int)(le:Int→Int→Prop)(tr: ∀a b c,le a b→le b c→le a c)(D:List Int)(X cap base:Nat)(p q r:Nat)(w:World)
 (HC: ∀(x y:Int) (w':World),x∈D→y∈D→Kept X w w'→Calls prog 173 #[.int .i64 x,.int .i64 y,.pointer (some ⟨p,0,none⟩),.pointer (some ⟨q,0,none⟩),.pointer (some ⟨r,0,none⟩)] w' fun e w''=>e=.returned (.int .i64 (c x y))∧Below w'.heap.size w' w'')
 (hc:D.Pairwise fun y x=>(c x y<0→le x y)∧(0≤c x y→le y x)) (hl:D.length≤12) (hD:w.ownsRow base 3 1 (.slice (some ⟨X,0,none⟩) D.length cap) D.length (xU D)) (lim:Int):
 Calls prog 181 #[.slice (some ⟨X,0,none⟩) D.length cap,.int .i64 0,.int .i64 D.length,.int .i64 lim,.func (.func 173) #[] #[.pointer (some ⟨p,0,none⟩),.pointer (some ⟨q,0,none⟩),.pointer (some ⟨r,0,none⟩)]] w fun e w'=>e=.returned (.tuple #[])∧Qy le D X cap base 3 w w':=by
 have Q:=jA (jdQ c le tr D X cap base p q r w HC hc (by omega) hD);have d1:decide ((D.length:Int)≤12)=true:=jQ (by omega);have d2:decide (D.length≤12)=true:=jQ hl;clear tr HC hc hD;generalize D.length=n at*;go_enter Tryz.func181,Tryz.ntmps181;go_wp2_with fail
 go_loop [1,2] (fun a b=>a=.int .i64 0∧b=.int .i64 n) (fun _ _=>0)
 case atStart=>exact⟨rfl,rfl⟩
 case round=>
 obtain⟨rfl,rfl⟩:=hrel;go_wp2_with (go_at_call 166;refine Q.u.mono ?_;rintro e w1 ⟨rfl,hs⟩;have HS:=jA hs;clear hs);refine jm (results_none rfl _ _ _) rfl ⟨rfl,HS.u⟩
theorem jbG(c:Int→Int→Int)(le:Int→Int→Prop)(tr: ∀a b c,le a b→le b c→le a c)(D:List Int)(X cap base:Nat)(p q r:Nat)(w:World)
 (HC: ∀(x y:Int) (w':World),x∈D→y∈D→Kept X w w'→Calls prog 173 #[.int .i64 x,.int .i64 y,.pointer (some ⟨p,0,none⟩),.pointer (some ⟨q,0,none⟩),.pointer (some ⟨r,0,none⟩)] w' fun e w''=>e=.returned (.int .i64 (c x y))∧Below w'.heap.size w' w'')
 (hc:D.Pairwise fun y x=>(c x y<0→le x y)∧(0≤c x y→le y x)) (hl:D.length≤12) (hD:w.ownsRow base 3 1 (.slice (some ⟨X,0,none⟩) D.length cap) D.length (xU D)):
 Calls prog 140 #[.slice (some ⟨X,0,none⟩) D.length cap,.func (.func 173) #[] #[.pointer (some ⟨p,0,none⟩),.pointer (some ⟨q,0,none⟩),.pointer (some ⟨r,0,none⟩)]] w fun e w'=>e=.returned (.tuple #[])∧Qy le D X cap base 3 w w':=by
 have Q:=jA (fun lim=>jjK c le tr D X cap base p q r w HC hc hl hD lim);have QL:=jA (fun w=>jli D.length hl w);have hl2:(D.length:Int)<9223372036854775808:=by omega
 clear tr HC hc hD;generalize D.length=n at*;go_enter Tryz.func140,Tryz.ntmps140;go_wp2_with (first|(go_at_call 112;refine(QL.u _).mono ?_;rintro e w1 ⟨⟨kk,rfl⟩,rfl⟩)|(go_at_call 181;refine(Q.u _).mono ?_;rintro e w1 ⟨rfl,hs⟩;have HS:=jA hs;clear hs))
 go_end0
 exact⟨rfl,HS.u⟩
def leT(T:Nat→Fr)(P:List Int)(a b:Int):Prop:=(T b.toNat).v<(T a.toNat).v∨(T a.toNat).v=(T b.toNat).v∧P.getD a.toNat 0<P.getD b.toNat 0
theorem jiw(T:Nat→Fr)(P:List Int)(a b c:Int)(h1:leT T P a b)(h2:leT T P b c):leT T P a c:=by unfold leT at*;grind
theorem jky {T:Nat→Fr}{P:List Int}{a b:Int}(ha:0<(T a.toNat).d)(hb:0<(T b.toNat).d)(h:jbw T P a b<0):leT T P a b:=by
 unfold jbw orI at h;unfold leT;rcases Kh hb ha with⟨e,hv⟩|⟨e,hv⟩|⟨e,hv⟩<;>rw [e]at h;·exact .inl hv
 ·rw [jR rfl]at h;exact .inr ⟨hv.symm,by omega⟩
 ·rw [jT (by decide)]at h;omega
theorem jkx {T:Nat→Fr}{P:List Int}{a b:Int}(ha:0<(T a.toNat).d)(hb:0<(T b.toNat).d)(hne:P.getD a.toNat 0≠P.getD b.toNat 0)(h:0≤jbw T P a b):leT T P b a:=by
 unfold jbw orI at h;unfold leT;rcases Kh hb ha with⟨e,hv⟩|⟨e,hv⟩|⟨e,hv⟩<;>rw [e]at h;·rw [jT (by decide)]at h;omega
 ·rw [jR rfl]at h;exact .inr ⟨hv,by omega⟩
 ·exact .inl hv
def jgR(T:Nat→Fr)(P L:List Int)(w:World)(e:Ending)(w':World):Prop:=
 ∃S ob cb,e=.returned (.slice ob L.length cb)∧w'.ownsRow w.heap.size 3 1 (.slice ob L.length cb) L.length (xU S)∧S.Perm L∧S.Pairwise (leT T P)∧Below w.heap.size w w'
theorem VX(n:Nat)(T:Nat→Fr)(base g cap:Nat)(xa xb:Nat→Value)(P L:List Int)(nm:ByteArray)(oa:Option Addr)(no ca:Nat)(rl se mo:Int)(oO:Option Addr)(lO cO:Nat)(oP:Option Addr)(cP:Nat)(ol:Option Addr)(cl:Nat)(w:World)
 (hV:Je w base n T (.slice (some ⟨g,0,none⟩) n cap) xa xb) (hT: ∀i,i<n→Sml (T i)) (hP:yj w oP P) (hL:yj w ol L) (hLb: ∀x∈L,0≤x∧x<n) (hVP:n=P.length) (hPb: ∀x∈P,0≤x∧x<1000) (hl:L.length≤12) (hl0:0<L.length) (hv:n<1000) (hd:L.Pairwise fun y x=>P.getD y.toNat 0≠P.getD x.toNat 0):
 Calls prog 128 #[.agg #[.string nm,.slice oa no ca,.int .i64 rl,.int .i64 se,.int .i64 mo,.slice oO lO cO,.slice oP P.length cP],.slice ol L.length cl,.slice (some ⟨g,0,none⟩) n cap,(.func (.func 51) #[] #[])] w (jgR T P L w):=by
 have HV:=jA hV;have HP:=jA hP;have HLL:=jA hL;have HTT:=jA hT;have QC:=jA (fun w' (h:yj w' ol L)=>Vr ol L cl w' h (by omega));have hpw:=jA (List.Pairwise.imp_of_mem (fun {y x} hy hx h=>(⟨fun h1=>jky (hT _ (by have:=hLb x hx;omega)).ok.1 (hT _ (by have:=hLb y hy;omega)).ok.1 h1,fun h1=>jkx (hT _ (by have:=hLb x hx;omega)).ok.1 (hT _ (by have:=hLb y hy;omega)).ok.1 (Ne.symm h) h1⟩:(jbw T P x y<0→leT T P x y)∧(0≤jbw T P x y→leT T P y x))) hd);have HPB:=jA hPb;have HLB:=jA hLb;have HVP:=jA hVP;clear hV hP hL hPb hLb hd hVP hT;go_enter Tryz.func128,Tryz.ntmps128;go_upto_region 1 with(fail);have BL:Below w.heap.size w (((w.alloc (.cells #[.string nm,.slice oa no ca,.int .i64 rl,.int .i64 se,.int .i64 mo,.slice oO lO cO,.slice oP P.length cP] 62)).alloc (.cells #[.slice (some ⟨g,0,none⟩) n cap] 114)).alloc (.cells #[(.func (.func 51) #[] #[])] 172)):=(((jN _ _).alloc (jO _) _).alloc (by simp) _).alloc (by simp;omega) _;have SR:jje (((w.alloc (.cells #[.string nm,.slice oa no ca,.int .i64 rl,.int .i64 se,.int .i64 mo,.slice oO lO cO,.slice oP P.length cP] 62)).alloc (.cells #[.slice (some ⟨g,0,none⟩) n cap] 114)).alloc (.cells #[(.func (.func 51) #[] #[])] 172)) (w.heap.size+2) (w.heap.size+1) w.heap.size [.string nm,.slice oa no ca,.int .i64 rl,.int .i64 se,.int .i64 mo,.slice oO lO cO] n T P base g cap xa xb:=
  ⟨xN (by simp),xx (xN (by simp)),HV.u.below BL,⟨oP,cP,xx (xx (xN rfl)),HP.u.below BL⟩,rfl⟩
 generalize hB:w.heap.size=B at*;refine xP (fun w3=>Below B w w3∧jje w3 (B+2) (B+1) B [.string nm,.slice oa no ca,.int .i64 rl,.int .i64 se,.int .i64 mo,.slice oO lO cO] n T P base g cap xa xb) ⟨BL,SR⟩ (fun w3 hw3=>?_);have HB:=jA hB;have B3:=jA hw3.1;have S3:=jA hw3.2;clear BL SR hB hw3;go_upto_region 2 with(go_at_call 126;refine(QC.u w3 (HLL.u.below (HB.u.symm▸B3.u))).mono ?_;rintro e w4 ⟨ob,cb,rfl,own4,b4⟩);obtain⟨X,xc,hob,hXlo,hXlt⟩:=own4.form hl0;obtain⟨rfl,rfl⟩:ob=some ⟨X,0,none⟩∧cb=xc:=by injection hob with h1 _ h3;exact⟨h1,h3⟩
 have S4:=jA (S3.u.below b4);have hs3:B≤w3.heap.size:=by have:=B3.u.size;rw [HB.u]at this;exact this
 have B4:=jA (B3.u.trans (b4.mono hs3));have hp3:=lt_of_heap S3.u.hp
 have QK:=jA (show ∀(x y:Int) (w':World),x∈L→y∈L→Kept X w4 w'→Calls prog 173 #[.int .i64 x,.int .i64 y,.pointer (some ⟨B+2,0,none⟩),.pointer (some ⟨B+1,0,none⟩),.pointer (some ⟨B,0,none⟩)] w' fun e w''=>e=.returned (.int .i64 (jbw T P x y))∧Below w'.heap.size w' w'' from by
  intro x y w' hx hy hk;have hx:=HLB.u x hx;have hy:=HLB.u y hy;obtain⟨i,rfl⟩: ∃i:Nat,x=i:=⟨x.toNat,by omega⟩;obtain⟨j,rfl⟩: ∃j:Nat,y=j:=⟨y.toNat,by omega⟩;have hb3:Below w3.heap.size w4 w':=hk.bel hXlo hXlt;exact jaW i j (B+2) (B+1) B _ n T P base g cap xa xb w' (S3.u.below (b4.trans hb3)) (by omega) (by omega) HVP.u hv HPB.u HTT.u)
 have QS:=jA (jbG (jbw T P) (leT T P) (jiw T P) L X cb w3.heap.size (B+2) (B+1) B w4 QK.u hpw.u hl own4);clear QK own4 hob b4;go_upto_region 3 with(go_at_call 140;refine QS.u.mono ?_;rintro e w5 ⟨rfl,hs⟩;have HS:=jA hs;clear hs);go_wp2_with fail;go_ret;obtain⟨S,hperm,hsrt,hown,hkept⟩:=HS.u;exact⟨S,_,_,rfl,by rw [HB.u];exact zq hown hs3,hperm,hsrt,by rw [HB.u];exact B4.u.trans (hkept.bel (by omega) hXlt)⟩
end Go.Proofs.YtnohcdpnnhmpfaaGreatDoor.TR
namespace Go
namespace Seg
section
variable {P:Program} {ops:Array Oper} {Q:Exit→Act→World→Prop}
def jed(ops:Array Oper)(n:Nat)(l:Array Bool):Bool:=
 (List.range n).all fun i=> !l.getD i false||(opAt ops i).after.toList.all fun e=> !Region.binds .any e||l.getD e.on false
def jjV(ops:Array Oper)(n:Nat)(l:Array Bool):Bool:=
 if jed ops n l=false then true
 else if(List.range n).all (fun i=>l.getD i false)=true then Region.seqB .any ops (ops.size-n) n l
 else !(Region.ready .any ops l).isEmpty&&(Region.ready .any ops l).all (fun i=>decide (i<n))
def jcA(ops:Array Oper)(n:Nat):Nat→Array Bool→Bool
 |0,l=>jjV ops n l
 |k+1,l=>jcA ops n k l&&jcA ops n k (l.setIfInBounds k true)
def invB(ops:Array Oper)(n:Nat):Bool:=
 Region.noSelect ops&&decide (n≤ops.size)&&jcA ops n n (Array.replicate ops.size false)
theorem jbg {n:Nat}: ∀(k:Nat) (l l':Array Bool),jcA ops n k l=true→l'.size=l.size→k≤l.size→(∀i,k≤i→l'[i]?=l[i]?)→(∀i,i<k→l[i]?=some false)→jjV ops n l'=true
 |
  0,l,l',h,hs,hk,he,_=>by
  rw [show l'=l from Array.ext_getElem? fun i=>he i (ji i)];exact h
 |
  k+1,l,l',h,hs,hk,he,hf=>by
  unfold jcA at h;rw [jy]at h;cases hb:l'[k]'(by omega)with
  |
   false=>
   refine jbg k l l' h.1 hs (by omega) (fun i hi=>?_) (fun i hi=>hf i (by omega));by_cases e:i=k;·subst e;rw [xJ (by omega),hb,hf i (by omega)]
   ·exact he i (by omega)
  |
   true=>
   refine jbg k _ l' h.2 (by simp [hs]) (by simp;omega) (fun i hi=>?_) (fun i hi=>?_)
   ·by_cases e:i=k;·subst e;rw [vx (by omega),xJ (by omega),hb]
    ·rw [vA (by omega)];exact he i (by omega)
   ·rw [vA (by omega)];exact hf i (by omega)
theorem jbv {p q:Nat→Bool}{i:Nat}(hp:p i=true)(hq:q i=false)(he: ∀j,j≠i→q j=p j): ∀l:List Nat,l.Nodup→i∈l→l.countP p=l.countP q+1
 | [],_,h=>by cases h
 |
  a::r,hn,hm=>by
  rw [vM]at hn;rw [List.countP_cons,List.countP_cons];by_cases e:a=i
  ·subst e;rw [jR hp,hq,jT (by decide)];have:r.countP p=r.countP q:=List.countP_congr fun j hj=>by rw [he j (fun e=>hn.1 (e▸hj))]
   omega
  ·have hm':i∈r:=by rcases jg.1 hm with h|h;exact absurd h.symm e;exact h
   have:=jbv hp hq he r hn.2 hm';rw [he a e];omega
def left(n:Nat)(l:Array Bool):Nat:=(List.range n).countP (fun i=> !l.getD i false)
theorem jkf {n i:Nat}{l:Array Bool}(hi:i<n)(hl:l[i]?=some false):left n l=left n (l.setIfInBounds i true)+1:=by
 have hs:i<l.size:=(vP.1 hl).1;refine jbv (i:=i) ?_ ?_ (fun j hj=>?_) _ qt (jf.2 hi);·rw [jB,hl];rfl
 ·rw [jB,vx hs];rfl
 ·rw [jB,jB,vA (Ne.symm hj)]
theorem jkT {n:Nat}{tail:List Oper}(I:Array Bool→Act→World→Prop)(hn:n≤ops.size)(hok:jcA ops n n (Array.replicate ops.size false)=true)
 (step: ∀i,i<n→ ∀listed a w,i∈Region.ready .any ops listed→I listed a w→yk P ops Q (fun _=>True) (opAt ops i) (I (listed.setIfInBounds i true)) a w)
 (fin: ∀listed a w,(∀i,i<n→listed.getD i false=true)→I listed a w→wpList P ops Q tail a w):
 ∀(f:Nat) (listed:Array Bool) (a:Act) (w:World),listed.size=ops.size→(∀i,n≤i→i<ops.size→listed[i]?=some false)→left n listed=f→jed ops n listed=true→I listed a w→
  Yv P .any ops Q (fun _=>True) n (fun listed' a' w'=>Region.seqB .any ops (ops.size-n) n listed'=true∧wpList P ops Q tail a' w') f listed a w:=by
 have hat: ∀listed:Array Bool,listed.size=ops.size→(∀i,n≤i→i<ops.size→listed[i]?=some false)→jjV ops n listed=true:=fun listed hs hz=>by
  refine jbg n _ listed hok (by simp [hs]) (by simpa using hn) (fun i hi=>?_) (fun i hi=>?_)
  ·by_cases h:i<ops.size;·rw [hz i hi h,xE,jR h]
   ·rw [vw (by omega),vw (by simp;omega)]
  ·rw [xE,jR (by omega)]
 intro f
 induction f with
 |
  zero=>
  intro listed a w hs hz hf hc hI;have hall: ∀i,i<n→listed.getD i false=true:=fun i hi=>by
   have:=(List.countP_eq_zero.1 hf) i (jf.2 hi);simpa using this
  have h:=hat listed hs hz;unfold jjV at h;rw [jT (by rw [hc];decide),jR (kr.2 fun i hi=>hall i (jf.1 hi))]at h;exact⟨h,fin listed a w hall hI⟩
 |
  succ f ih=>
  intro listed a w hs hz hf hc hI;have h:=hat listed hs hz;unfold jjV at h
  rw [jT (by rw [hc];decide),jT (fun hall=>by
   rw [kr]at hall;have:left n listed=0:=List.countP_eq_zero.2 fun i hi=>by rw [hall i hi];decide
   omega),jy]at h
  refine⟨fun h0=>by rw [h0]at h;simp at h,fun i hi=>?_⟩;have h1:=kr.1 h.2 i hi;rw [kK]at h1;have hun:=(mem_ready.1 hi).1;have hli:listed[i]?=some false:=by
   have hlt:i<listed.size:=by omega
   rw [jB,xJ hlt]at hun;rw [xJ hlt];simpa using hun
  refine⟨h1,Yl (S:=fun _=>True) (ze hi) (fun a'' w'' _ hN=>⟨trivial,ih _ a'' w'' (by simp [hs]) (fun j hj hj2=>?_) ?_ ?_ hN⟩) (step i h1 listed a w hi hI)⟩;·rw [vA (by omega)];exact hz j hj hj2
  ·have:=jkf h1 hli;omega
  ·
    have up: ∀j,listed.getD j false=true→(listed.setIfInBounds i true).getD j false=true:=fun j hj=>by
     by_cases e:j=i;·subst e;rw [jB,vx (by omega)];rfl
     ·rw [jB,vA (Ne.symm e),←jB];exact hj
    unfold jed at hc ⊢;rw [kr]at hc ⊢;intro j hj;rw [qS,kr];by_cases e:j=i
    ·subst e;obtain⟨_,o,ho,hall⟩:=mem_ready.1 hi;have ho2:=(ze hi).symm.trans ho;injection ho2 with ho2;refine .inr fun e he=>?_;rw [ho2]at he;cases hb:Region.binds .any e with
     |false=>rfl
     |true=>simp only [Bool.not_true,Bool.false_or];exact up _ (hall e (Array.mem_def.2 he) hb)
    ·have:=hc j hj;rw [qS,kr]at this;rcases this with h|h
     ·refine .inl ?_;rw [jB,vA (Ne.symm e),←jB];exact h
     ·refine .inr fun x hx=>?_;have:=h x hx;rw [qS]at this ⊢;exact this.imp id (up _)
theorem Ya {id:Nat}{a:Act}{w:World}{l:List Oper}(n:Nat)(I:Array Bool→Act→World→Prop)
 (hm:P.follows .mixedOrders=true) (hB:invB l.toArray n=true) (h0:I (Array.replicate l.toArray.size false) a w.drew)
 (step: ∀i,i<n→ ∀listed a w,i∈Region.ready .any l.toArray listed→I listed a w→yk P l.toArray Q (fun _=>True) (opAt l.toArray i) (I (listed.setIfInBounds i true)) a w)
 (fin: ∀listed a w,(∀i,i<n→listed.getD i false=true)→I listed a w→wpList P l.toArray Q (l.drop n) a w):
 (Code.region id l.toArray true).wp P Q a w:=by
 simp only [invB,jy,kK]at hB;obtain⟨⟨hsel,hn⟩,hok⟩:=hB;have hn':n≤l.length:=by simpa using hn
 have hn2:n≤l.toArray.size:=hn;have hl:left n (Array.replicate l.toArray.size false)=n:=by
  unfold left;rw [List.countP_eq_length.2 fun i hi=>?_,kZ];rw [jB,xE,jR (jV (jf.1 hi) hn2)];rfl
 have H:=jkT (P:=P) (Q:=Q) (tail:=l.drop n) I hn2 hok step fin n _ a _ (by simp) (fun i hi hi2=>by rw [xE,jR hi2]) hl (kr.2 fun i hi=>by
  rw [qS];refine .inl ?_;rw [jB,xE,jR (jV (jf.1 hi) hn2)];rfl) h0
 refine wp_region_any hm ?_;have hdl:(l.drop n).length=l.toArray.size-n:=by simp
 have:=Kn (Q:=Q) (g:=l.toArray.size-n) (fun listed a' w' hE=>by
  have:=wpAny_of_seq (md:=.any) (Q':=Q) (l.drop n) n listed a' w' (fun j=>by simp [qr]) (by rw [hdl];exact hE.1) hE.2
  rwa [hdl]at this) _ _ _ _ H
 rw [show n+(l.toArray.size-n)=l.toArray.size by simp;omega]at this;exact this
end
def Qp(n:Nat):Code→Option Code
 | .region m ops d=>if m=n then some (.region m ops d)else none
 |
  .seq a b=>match Qp n a with
  |some c=>some c
  |none=>Qp n b
 |
  .cond _ a b=>match Qp n a with
  |some c=>some c
  |none=>Qp n b
 | .block _ c=>Qp n c
 | .loop c=>Qp n c
 | .scope c=>Qp n c
 |_=>none
theorem jdS {l:Array Bool}{i:Nat}(h:l.getD i true=false):l.getD i false=false:=by
 rw [jB]at h ⊢;cases he:l[i]? with
 |none=>rfl
 |some b=>rw [he]at h;exact h
theorem Yi {l:Array Bool}{i:Nat}(h:l.getD i true=false):(l.setIfInBounds i true).getD i false=true:=by
 have hi:i<l.size:=by
  rcases jt i l.size with h1|h1;·exact h1
  ·rw [jB,vw h1]at h;cases h
 rw [jB,vx hi];rfl
end Seg
end Go
