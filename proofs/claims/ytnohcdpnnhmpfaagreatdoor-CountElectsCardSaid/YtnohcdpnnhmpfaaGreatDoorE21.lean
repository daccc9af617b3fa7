/- A region that draws its order, walked by what holds: a relation on what has come up so far, the frame and the world; each operation is walked once, wh. -/
import Derived.Test.YtnohcdpnnhmpfaaGreatDoorE11
set_option linter.all false
namespace Go
namespace Seg
section
variable {P:Program} {ops:Array Oper} {Q:Exit→Act→m0→Prop}
def jfL(ops:Array Oper)(n:Nat)(l:Array Bool):Bool:=
 (List.range n).all fun i=> !l.getD i false||(opAt ops i).after.toList.all fun e=> !Region.binds .any e||l.getD e.on false
def jmm(ops:Array Oper)(n:Nat)(l:Array Bool):Bool:=
 if jfL ops n l=false then true
 else if(List.range n).all (fun i=>l.getD i false)=true then Region.seqB .any ops (ops.size-n) n l
 else !(Region.ready .any ops l).isEmpty&&(Region.ready .any ops l).all (fun i=>decide (i<n))
def jdX(ops:Array Oper)(n:Nat):Nat→Array Bool→Bool
 |0,l=>jmm ops n l
 |k+1,l=>jdX ops n k l&&jdX ops n k (l.setIfInBounds k true)
def invB(ops:Array Oper)(n:Nat):Bool:=
 Region.noSelect ops&&decide (n≤ops.size)&&jdX ops n n (Array.replicate ops.size false)
theorem jcs {n:Nat}: ∀(k:Nat) (l l':Array Bool),jdX ops n k l=true→l'.size=l.size→k≤l.size→(∀i,k≤i→l'[i]?=l[i]?)→(∀i,i<k→l[i]?=some false)→jmm ops n l'=true
 |
  0,l,l',h,hs,hk,he,_=>by
  rw [show l'=l from Array.ext_getElem? fun i=>he i (ja i)];exact h
 |
  k+1,l,l',h,hs,hk,he,hf=>by
  unfold jdX at h;rw [jy]at h;cases hb:l'[k]'(by omega)with
  |
   false=>
   refine jcs k l l' h.1 hs (by omega) (fun i hi=>?_) (fun i hi=>hf i (by omega));by_cases e:i=k;·subst e;rw [xY (by omega),hb,hf i (by omega)]
   ·exact he i (by omega)
  |
   true=>
   refine jcs k _ l' h.2 (by simp [hs]) (by simp;omega) (fun i hi=>?_) (fun i hi=>?_)
   ·by_cases e:i=k;·subst e;rw [xN (by omega),xY (by omega),hb]
    ·rw [vU (by omega)];exact he i (by omega)
   ·rw [vU (by omega)];exact hf i (by omega)
theorem jcM {p q:Nat→Bool}{i:Nat}(hp:p i=true)(hq:q i=false)(he: ∀j,j≠i→q j=p j): ∀l:E0,l.Nodup→i∈l→l.countP p=l.countP q+1
 | [],_,h=>by cases h
 |
  a::r,hn,hm=>by
  rw [vh]at hn;rw [List.countP_cons,List.countP_cons];by_cases e:a=i
  ·subst e;rw [jP hp,hq,jQ (by decide)];have:r.countP p=r.countP q:=List.countP_congr fun j hj=>by rw [he j (fun e=>hn.1 (e▸hj))]
   omega
  ·have hm':i∈r:=by rcases jl.1 hm with h|h;exact absurd h.symm e;exact h
   have:=jcM hp hq he r hn.2 hm';rw [he a e];omega
def left(n:Nat)(l:Array Bool):Nat:=(List.range n).countP (fun i=> !l.getD i false)
theorem jmy {n i:Nat}{l:Array Bool}(hi:i<n)(hl:l[i]?=some false):left n l=left n (l.setIfInBounds i true)+1:=by
 have hs:i<l.size:=(vt.1 hl).1;refine jcM (i:=i) ?_ ?_ (fun j hj=>?_) _ vG (jk.2 hi);·rw [jB,hl];rfl
 ·rw [jB,xN hs];rfl
 ·rw [jB,jB,vU (Ne.symm hj)]
theorem jnG {n:Nat}{tail:List Oper}(I:Array Bool→Act→m0→Prop)(hn:n≤ops.size)(gu:jdX ops n n (Array.replicate ops.size false)=true)
 (step: ∀i,i<n→ ∀ls a w,i∈Region.ready .any ops ls→I ls a w→JB P ops Q (fun _=>True) (opAt ops i) (I (ls.setIfInBounds i true)) a w)
 (fin: ∀ls a w,(∀i,i<n→ls.getD i false=true)→I ls a w→wpList P ops Q tail a w):
 ∀(f:Nat) (ls:Array Bool) (a:Act) (w:m0),ls.size=ops.size→(∀i,n≤i→i<ops.size→ls[i]?=some false)→left n ls=f→jfL ops n ls=true→I ls a w→
  Zx P .any ops Q (fun _=>True) n (fun Ss a' w'=>Region.seqB .any ops (ops.size-n) n Ss=true∧wpList P ops Q tail a' w') f ls a w:=by
 have hat: ∀ls:Array Bool,ls.size=ops.size→(∀i,n≤i→i<ops.size→ls[i]?=some false)→jmm ops n ls=true:=fun ls hs hz=>by
  refine jcs n _ ls gu (by simp [hs]) (by simpa using hn) (fun i hi=>?_) (fun i hi=>?_)
  ·by_cases h:i<ops.size;·rw [hz i hi h,xU,jP h]
   ·rw [xM (by omega),xM (by simp;omega)]
  ·rw [xU,jP (by omega)]
 intro f
 induction f with
 |
  zero=>
  intro ls a w hs hz hf hc hI;have hall: ∀i,i<n→ls.getD i false=true:=fun i hi=>by
   have:=(List.countP_eq_zero.1 hf) i (jk.2 hi);simpa using this
  have h:=hat ls hs hz;unfold jmm at h;rw [jQ (by rw [hc];decide),jP (kw.2 fun i hi=>hall i (jk.1 hi))]at h;exact⟨h,fin ls a w hall hI⟩
 |
  succ f ih=>
  intro ls a w hs hz hf hc hI;have h:=hat ls hs hz;unfold jmm at h
  rw [jQ (by rw [hc];decide),jQ (fun hall=>by
   rw [kw]at hall;have:left n ls=0:=List.countP_eq_zero.2 fun i hi=>by rw [hall i hi];decide
   omega),jy]at h
  refine⟨fun h0=>by rw [h0]at h;simp at h,fun i hi=>?_⟩;have h1:=kw.1 h.2 i hi;rw [kK]at h1;have AE:=(mem_ready.1 hi).1;have hli:ls[i]?=some false:=by
   have ns:i<ls.size:=by omega
   rw [jB,xY ns]at AE;rw [xY ns];simpa using AE
  refine⟨h1,Zl (S:=fun _=>True) (zl hi) (fun lD Fu _ hN=>⟨trivial,ih _ lD Fu (by simp [hs]) (fun j hj hj2=>?_) ?_ ?_ hN⟩) (step i h1 ls a w hi hI)⟩;·rw [vU (by omega)];exact hz j hj hj2
  ·have:=jmy h1 hli;omega
  ·
    have up: ∀j,ls.getD j false=true→(ls.setIfInBounds i true).getD j false=true:=fun j hj=>by
     by_cases e:j=i;·subst e;rw [jB,xN (by omega)];rfl
     ·rw [jB,vU (Ne.symm e),←jB];exact hj
    unfold jfL at hc ⊢;rw [kw]at hc ⊢;intro j hj;rw [qo,kw];by_cases e:j=i
    ·subst e;obtain⟨_,o,ho,hall⟩:=mem_ready.1 hi;have Wx:=(zl hi).symm.trans ho;injection Wx with Wx;refine .inr fun e he=>?_;rw [Wx]at he;cases hb:Region.binds .any e with
     |false=>rfl
     |true=>simp only [Bool.not_true,Bool.false_or];exact up _ (hall e (Array.mem_def.2 he) hb)
    ·have:=hc j hj;rw [qo,kw]at this;rcases this with h|h
     ·refine .inl ?_;rw [jB,vU (Ne.symm e),←jB];exact h
     ·refine .inr fun x hx=>?_;have:=h x hx;rw [qo]at this ⊢;exact this.imp id (up _)
theorem Xd {id:Nat}{a:Act}{w:m0}{l:List Oper}(n:Nat)(I:Array Bool→Act→m0→Prop)
 (hm:P.follows .mixedOrders=true) (hB:invB l.toArray n=true) (h0:I (Array.replicate l.toArray.size false) a w.drew)
 (step: ∀i,i<n→ ∀ls a w,i∈Region.ready .any l.toArray ls→I ls a w→JB P l.toArray Q (fun _=>True) (opAt l.toArray i) (I (ls.setIfInBounds i true)) a w)
 (fin: ∀ls a w,(∀i,i<n→ls.getD i false=true)→I ls a w→wpList P l.toArray Q (l.drop n) a w):
 (Code.region id l.toArray true).wp P Q a w:=by
 simp only [invB,jy,kK]at hB;obtain⟨⟨nw,hn⟩,gu⟩:=hB;have hn':n≤l.length:=by simpa using hn
 have cI:n≤l.toArray.size:=hn;have hl:left n (Array.replicate l.toArray.size false)=n:=by
  unfold left;rw [List.countP_eq_length.2 fun i hi=>?_,ku];rw [jB,xU,jP (jW (jk.1 hi) cI)];rfl
 have H:=jnG (P:=P) (Q:=Q) (tail:=l.drop n) I cI gu step fin n _ a _ (by simp) (fun i hi iG=>by rw [xU,jP iG]) hl (kw.2 fun i hi=>by
  rw [qo];refine .inl ?_;rw [jB,xU,jP (jW (jk.1 hi) cI)];rfl) h0
 refine wp_region_any hm ?_;have Tw:(l.drop n).length=l.toArray.size-n:=by simp
 have:=Qh (Q:=Q) (g:=l.toArray.size-n) (fun ls a' w' hE=>by
  have:=wpAny_of_seq (md:=.any) (Q':=Q) (l.drop n) n ls a' w' (fun j=>by simp [vF]) (by rw [Tw];exact hE.1) hE.2
  rwa [Tw]at this) _ _ _ _ H
 rw [show n+(l.toArray.size-n)=l.toArray.size by simp;omega]at this;exact this
end
def Qn(n:Nat):Code→Option Code
 | .region m ops d=>if m=n then some (.region m ops d)else none
 |
  .seq a b=>match Qn n a with
  |some c=>some c
  |none=>Qn n b
 |
  .cond _ a b=>match Qn n a with
  |some c=>some c
  |none=>Qn n b
 | .block _ c=>Qn n c
 | .loop c=>Qn n c
 | .scope c=>Qn n c
 |_=>none
theorem jaz {l:Array Bool}{i:Nat}(h:l.getD i true=false):l.getD i false=false:=by
 rw [jB]at h ⊢;cases he:l[i]? with
 |none=>rfl
 |some b=>rw [he]at h;exact h
theorem Xk {l:Array Bool}{i:Nat}(h:l.getD i true=false):(l.setIfInBounds i true).getD i false=true:=by
 have hi:i<l.size:=by
  rcases jw i l.size with h1|h1;·exact h1
  ·rw [jB,xM h1]at h;cases h
 rw [jB,xN hi];rfl
end Seg
end Go
