/-
  A region that draws its order, walked by what holds: a relation on what has come up so far, the frame and the world; each operation is walked once, whenever it comes.
  Conditions: that every order of the head ends at the tail is checked by a Bool ('invB').
-/
import Derived.Test.YtnohcdpnnhmpfaaGreatDoorK12
set_option linter.unusedVariables false
set_option linter.unusedSimpArgs false
namespace Go
namespace Seg
section
variable {P:Program} {ops:Array Oper} {Q:Exit→Act→World→Prop}
def closedB(ops:Array Oper)(n:Nat)(l:Array Bool):Bool:=
 (List.range n).all fun i=> !l.getD i false||(opAt ops i).after.toList.all fun e=> !Region.binds .any e||l.getD e.on false
def okAt(ops:Array Oper)(n:Nat)(l:Array Bool):Bool:=
 if closedB ops n l=false then true
 else if(List.range n).all (fun i=>l.getD i false)=true then Region.seqB .any ops (ops.size-n) n l
 else !(Region.ready .any ops l).isEmpty&&(Region.ready .any ops l).all (fun i=>decide (i<n))
def okAll(ops:Array Oper)(n:Nat):Nat→Array Bool→Bool
 |0,l=>okAt ops n l
 |k+1,l=>okAll ops n k l&&okAll ops n k (l.setIfInBounds k true)
def invB(ops:Array Oper)(n:Nat):Bool:=
 Region.noSelect ops&&decide (n≤ops.size)&&okAll ops n n (Array.replicate ops.size false)
theorem okAll_at {n:Nat}: ∀(k:Nat) (l l':Array Bool),okAll ops n k l=true→l'.size=l.size→k≤l.size→(∀i,k≤i→l'[i]?=l[i]?)→(∀i,i<k→l[i]?=some false)→okAt ops n l'=true
 |
  0,l,l',h,hs,hk,he,_=>by
  rw [show l'=l from Array.ext_getElem? fun i=>he i (Nat.zero_le i)];exact h
 |
  k+1,l,l',h,hs,hk,he,hf=>by
  unfold okAll at h;rw [Bool.and_eq_true]at h;cases hb:l'[k]'(by omega)with
  |
   false=>
   refine okAll_at k l l' h.1 hs (by omega) (fun i hi=>?_) (fun i hi=>hf i (by omega));by_cases e:i=k;·subst e;rw [Array.getElem?_eq_getElem (by omega),hb,hf i (by omega)]
   ·exact he i (by omega)
  |
   true=>
   refine okAll_at k _ l' h.2 (by simp [hs]) (by simp;omega) (fun i hi=>?_) (fun i hi=>?_)
   ·by_cases e:i=k;·subst e;rw [Array.getElem?_setIfInBounds_self_of_lt (by omega),Array.getElem?_eq_getElem (by omega),hb]
    ·rw [Array.getElem?_setIfInBounds_ne (by omega)];exact he i (by omega)
   ·rw [Array.getElem?_setIfInBounds_ne (by omega)];exact hf i (by omega)
theorem count_less {p q:Nat→Bool}{i:Nat}(hp:p i=true)(hq:q i=false)(he: ∀j,j≠i→q j=p j): ∀l:List Nat,l.Nodup→i∈l→l.countP p=l.countP q+1
 | [],_,h=>by cases h
 |
  a::r,hn,hm=>by
  rw [List.nodup_cons]at hn;rw [List.countP_cons,List.countP_cons];by_cases e:a=i
  ·subst e;rw [if_pos hp,hq,if_neg (by decide)];have:r.countP p=r.countP q:=List.countP_congr fun j hj=>by rw [he j (fun e=>hn.1 (e▸hj))]
   omega
  ·have hm':i∈r:=by rcases List.mem_cons.1 hm with h|h;exact absurd h.symm e;exact h
   have:=count_less hp hq he r hn.2 hm';rw [he a e];omega
def left(n:Nat)(l:Array Bool):Nat:=(List.range n).countP (fun i=> !l.getD i false)
theorem left_set {n i:Nat}{l:Array Bool}(hi:i<n)(hl:l[i]?=some false):left n l=left n (l.setIfInBounds i true)+1:=by
 have hs:i<l.size:=(Array.getElem?_eq_some_iff.1 hl).1;refine count_less (i:=i) ?_ ?_ (fun j hj=>?_) _ List.nodup_range (List.mem_range.2 hi);·rw [Array.getD_eq_getD_getElem?,hl];rfl
 ·rw [Array.getD_eq_getD_getElem?,Array.getElem?_setIfInBounds_self_of_lt hs];rfl
 ·rw [Array.getD_eq_getD_getElem?,Array.getD_eq_getD_getElem?,Array.getElem?_setIfInBounds_ne (Ne.symm hj)]
theorem run_inv {n:Nat}{tail:List Oper}(I:Array Bool→Act→World→Prop)(hn:n≤ops.size)(hok:okAll ops n n (Array.replicate ops.size false)=true)
 (step: ∀i,i<n→ ∀listed a w,i∈Region.ready .any ops listed→I listed a w→wpUp P ops Q (fun _=>True) (opAt ops i) (I (listed.setIfInBounds i true)) a w)
 (fin: ∀listed a w,(∀i,i<n→listed.getD i false=true)→I listed a w→wpList P ops Q tail a w):
 ∀(f:Nat) (listed:Array Bool) (a:Act) (w:World),listed.size=ops.size→(∀i,n≤i→i<ops.size→listed[i]?=some false)→left n listed=f→closedB ops n listed=true→I listed a w→
  anyX P .any ops Q (fun _=>True) n (fun listed' a' w'=>Region.seqB .any ops (ops.size-n) n listed'=true∧wpList P ops Q tail a' w') f listed a w:=by
 have hat: ∀listed:Array Bool,listed.size=ops.size→(∀i,n≤i→i<ops.size→listed[i]?=some false)→okAt ops n listed=true:=fun listed hs hz=>by
  refine okAll_at n _ listed hok (by simp [hs]) (by simpa using hn) (fun i hi=>?_) (fun i hi=>?_)
  ·by_cases h:i<ops.size;·rw [hz i hi h,Array.getElem?_replicate,if_pos h]
   ·rw [Array.getElem?_eq_none (by omega),Array.getElem?_eq_none (by simp;omega)]
  ·rw [Array.getElem?_replicate,if_pos (by omega)]
 intro f
 induction f with
 |
  zero=>
  intro listed a w hs hz hf hc hI;have hall: ∀i,i<n→listed.getD i false=true:=fun i hi=>by
   have:=(List.countP_eq_zero.1 hf) i (List.mem_range.2 hi);simpa using this
  have h:=hat listed hs hz;unfold okAt at h;rw [if_neg (by rw [hc];decide),if_pos (List.all_eq_true.2 fun i hi=>hall i (List.mem_range.1 hi))]at h;exact⟨h,fin listed a w hall hI⟩
 |
  succ f ih=>
  intro listed a w hs hz hf hc hI;have h:=hat listed hs hz;unfold okAt at h
  rw [if_neg (by rw [hc];decide),if_neg (fun hall=>by
   rw [List.all_eq_true]at hall;have:left n listed=0:=List.countP_eq_zero.2 fun i hi=>by rw [hall i hi];decide
   omega),Bool.and_eq_true]at h
  refine⟨fun h0=>by rw [h0]at h;simp at h,fun i hi=>?_⟩;have h1:=List.all_eq_true.1 h.2 i hi;rw [decide_eq_true_eq]at h1;have hun:=(mem_ready.1 hi).1;have hli:listed[i]?=some false:=by
   have hlt:i<listed.size:=by omega
   rw [Array.getD_eq_getD_getElem?,Array.getElem?_eq_getElem hlt]at hun;rw [Array.getElem?_eq_getElem hlt];simpa using hun
  refine⟨h1,wpOp_of_up (S:=fun _=>True) (opAt_of_ready hi) (fun a'' w'' _ hN=>⟨trivial,ih _ a'' w'' (by simp [hs]) (fun j hj hj2=>?_) ?_ ?_ hN⟩) (step i h1 listed a w hi hI)⟩;·rw [Array.getElem?_setIfInBounds_ne (by omega)];exact hz j hj hj2
  ·have:=left_set h1 hli;omega
  ·
    have up: ∀j,listed.getD j false=true→(listed.setIfInBounds i true).getD j false=true:=fun j hj=>by
     by_cases e:j=i;·subst e;rw [Array.getD_eq_getD_getElem?,Array.getElem?_setIfInBounds_self_of_lt (by omega)];rfl
     ·rw [Array.getD_eq_getD_getElem?,Array.getElem?_setIfInBounds_ne (Ne.symm e),←Array.getD_eq_getD_getElem?];exact hj
    unfold closedB at hc ⊢;rw [List.all_eq_true]at hc ⊢;intro j hj;rw [Bool.or_eq_true,List.all_eq_true];by_cases e:j=i
    ·subst e;obtain⟨_,o,ho,hall⟩:=mem_ready.1 hi;have ho2:=(opAt_of_ready hi).symm.trans ho;injection ho2 with ho2;refine .inr fun e he=>?_;rw [ho2]at he;cases hb:Region.binds .any e with
     |false=>rfl
     |true=>simp only [Bool.not_true,Bool.false_or];exact up _ (hall e (Array.mem_def.2 he) hb)
    ·have:=hc j hj;rw [Bool.or_eq_true,List.all_eq_true]at this;rcases this with h|h
     ·refine .inl ?_;rw [Array.getD_eq_getD_getElem?,Array.getElem?_setIfInBounds_ne (Ne.symm e),←Array.getD_eq_getD_getElem?];exact h
     ·refine .inr fun x hx=>?_;have:=h x hx;rw [Bool.or_eq_true]at this ⊢;exact this.imp id (up _)
theorem wp_region_inv {id:Nat}{a:Act}{w:World}{l:List Oper}(n:Nat)(I:Array Bool→Act→World→Prop)
 (hm:P.follows .mixedOrders=true) (hB:invB l.toArray n=true) (h0:I (Array.replicate l.toArray.size false) a w.drew)
 (step: ∀i,i<n→ ∀listed a w,i∈Region.ready .any l.toArray listed→I listed a w→wpUp P l.toArray Q (fun _=>True) (opAt l.toArray i) (I (listed.setIfInBounds i true)) a w)
 (fin: ∀listed a w,(∀i,i<n→listed.getD i false=true)→I listed a w→wpList P l.toArray Q (l.drop n) a w):
 (Code.region id l.toArray true).wp P Q a w:=by
 simp only [invB,Bool.and_eq_true,decide_eq_true_eq]at hB;obtain⟨⟨hsel,hn⟩,hok⟩:=hB;have hn':n≤l.length:=by simpa using hn
 have hn2:n≤l.toArray.size:=hn;have hl:left n (Array.replicate l.toArray.size false)=n:=by
  unfold left;rw [List.countP_eq_length.2 fun i hi=>?_,List.length_range];rw [Array.getD_eq_getD_getElem?,Array.getElem?_replicate,if_pos (Nat.lt_of_lt_of_le (List.mem_range.1 hi) hn2)];rfl
 have H:=run_inv (P:=P) (Q:=Q) (tail:=l.drop n) I hn2 hok step fin n _ a _ (by simp) (fun i hi hi2=>by rw [Array.getElem?_replicate,if_pos hi2]) hl (List.all_eq_true.2 fun i hi=>by
  rw [Bool.or_eq_true];refine .inl ?_;rw [Array.getD_eq_getD_getElem?,Array.getElem?_replicate,if_pos (Nat.lt_of_lt_of_le (List.mem_range.1 hi) hn2)];rfl) h0
 refine wp_region_any hm ?_;have hdl:(l.drop n).length=l.toArray.size-n:=by simp
 have:=wpAny_of_anyX (Q:=Q) (g:=l.toArray.size-n) (fun listed a' w' hE=>by
  have:=wpAny_of_seq (md:=.any) (Q':=Q) (l.drop n) n listed a' w' (fun j=>by simp [List.getElem?_drop]) (by rw [hdl];exact hE.1) hE.2
  rwa [hdl]at this) _ _ _ _ H
 rw [show n+(l.toArray.size-n)=l.toArray.size by simp;omega]at this;exact this
end
def findReg(n:Nat):Code→Option Code
 | .region m ops d=>if m=n then some (.region m ops d)else none
 |
  .seq a b=>match findReg n a with
  |some c=>some c
  |none=>findReg n b
 |
  .cond _ a b=>match findReg n a with
  |some c=>some c
  |none=>findReg n b
 | .block _ c=>findReg n c
 | .loop c=>findReg n c
 | .scope c=>findReg n c
 |_=>none
theorem getD_set_self {l:Array Bool}{i:Nat}(h:l.getD i true=false):(l.setIfInBounds i true).getD i false=true:=by
 have hi:i<l.size:=by
  rcases Nat.lt_or_ge i l.size with h1|h1;·exact h1
  ·rw [Array.getD_eq_getD_getElem?,Array.getElem?_eq_none h1]at h;cases h
 rw [Array.getD_eq_getD_getElem?,Array.getElem?_setIfInBounds_self_of_lt hi];rfl
end Seg
end Go
