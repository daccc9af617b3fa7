/-
  Numbers as lists of their decimal digits, the lowest first: the plain law of the reference's chapter 2. No program in sight.
  Add, Sub, Compare by hand, digit by digit: their plain law. No program in sight.
  Mul and Div by hand: their plain law. No program in sight.
  Numbers as lists of their limbs (base 10^9), the lowest first: the plain law of the reference's chapter 2. No program in sight.
  Add, Sub, Compare by hand, digit by digit: their plain law. No program in sight.
  Mul and Div by hand: their plain law. No program in sight.
  less and more by hand: their plain law. No program in sight.
  Long division, limb by limb, with a guess out of the first limbs: its plain law. No program in sight.
  Numbers of so many decimal digits at most: both rows' lengths.
-/
import Derived.KernelRfl
set_option linter.unusedVariables false
set_option linter.unusedSimpArgs false
namespace Go.Proofs.YtnohcdpnnhmpfaaGreatDoor.ND
def val:List Nat→Nat
 | []=>0
 |d::r=>d+10*val r
def AllD(L:List Nat):Prop:= ∀d∈L,d<10
def dig(n:Nat):List Nat:=if h:n=0 then []else(n%10)::dig (n/10)
termination_by n
decreasing_by omega
theorem dig_zero:dig 0= []:=by unfold dig;simp
theorem dig_pos {n:Nat}(h:0<n):dig n=(n%10)::dig (n/10):=by
 conv=>lhs;unfold dig
 rw [dif_neg (by omega)]
theorem val_append(A B:List Nat):val (A++B)=val A+10^A.length*val B:=by
 induction A with
 |nil=>simp [val]
 |
  cons d r ih=>
  simp only [List.cons_append,val,ih,List.length_cons,Nat.pow_succ,Nat.mul_add];rw [Nat.mul_comm (10^r.length) 10,Nat.mul_assoc];omega
theorem dig_of_val(L:List Nat)(h:AllD L)(hn:L= []∨10^(L.length-1)≤val L):L=dig (val L):=by
 induction L with
 |nil=>rw [val,dig_zero]
 |
  cons d r ih=>
  have hd:=h d (List.mem_cons_self ..);have hr:AllD r:=fun x hx=>h x (List.mem_cons_of_mem _ hx);have hv:10^r.length≤val (d::r):=by
   rcases hn with h0|h0;·cases h0
   ·simpa using h0
  have hpos:0<val (d::r):=Nat.lt_of_lt_of_le (Nat.pow_pos (by decide)) hv;rw [dig_pos hpos];have e1:val (d::r)%10=d:=by simp only [val];omega
  have e2:val (d::r)/10=val r:=by simp only [val];omega
  rw [e1,e2,←ih hr];by_cases hr0:r= [];·exact .inl hr0
  ·right;have hl:0<r.length:=List.length_pos_iff.2 hr0;have h3:10^r.length=10*10^(r.length-1):=by
    rw [←Nat.pow_succ'];congr 1;omega
   simp only [val]at hv;omega
theorem length_dig_le(n k:Nat)(h:n<10^k):(dig n).length≤k:=by
 induction k generalizing n with
 |
  zero=>
  have:n=0:=by simpa using h
  subst this;rw [dig_zero];simp
 |
  succ k ih=>
  by_cases h0:n=0;·subst h0;rw [dig_zero];simp
  ·rw [dig_pos (by omega),List.length_cons];have:=ih (n/10) (by rw [Nat.pow_succ]at h;omega);omega
def trimL(L:List Nat):List Nat:=dig (val L)
theorem val_take_zero(L:List Nat)(k:Nat)(h: ∀i,k≤i→L.getD i 0=0):val (L.take k)=val L:=by
 induction L generalizing k with
 |nil=>simp [val]
 |
  cons d r ih=>
  cases k with
  |
   zero=>
   have h0:d=0:=by simpa using h 0 (Nat.le_refl _)
   have hr:=ih 0 (fun i _=>by simpa using h (i+1) (by omega));simp only [List.take_zero,val]at hr ⊢;omega
  |
   succ k=>
   simp only [List.take_succ_cons,val];rw [ih k (fun i hi=>by simpa using h (i+1) (by omega))]
theorem all_take {L:List Nat}(h:AllD L)(k:Nat):AllD (L.take k):=fun d hd=>h d (List.mem_of_mem_take hd)
theorem take_trim(L:List Nat)(k:Nat)(h:AllD L)(hk:k≤L.length)(h0: ∀i,k≤i→L.getD i 0=0)(hn:k=0∨L.getD (k-1) 0≠0):L.take k=trimL L:=by
 unfold trimL;rw [←val_take_zero L k h0];refine dig_of_val _ (all_take h k) ?_;rcases hn with rfl|hn;·left;simp
 ·by_cases hk0:k=0;·left;subst hk0;simp
  ·right;obtain⟨j,rfl⟩: ∃j,k=j+1:=⟨k-1,by omega⟩;have hj:j<L.length:=by omega
   rw [List.take_succ_eq_append_getElem hj,val_append,List.length_append,List.length_take,List.length_singleton];have e:L.getD j 0=L[j]:=by simp [List.getD_eq_getElem?_getD,hj]
   have:L[j]≠0:=by rw [←e];simpa using hn
   rw [show min j L.length=j by omega,Nat.add_sub_cancel];simp only [val,Nat.mul_zero,Nat.add_zero];have h1:10^j*1≤10^j*L[j]:=Nat.mul_le_mul_left _ (by omega);omega
structure AddSt(x y:Nat)(O:List Nat)(u:Nat):Prop where
 all:AllD O
 up:u≤1
 eq:val O+10^O.length*u=val ((dig x).take O.length)+val ((dig y).take O.length)
 big:O= []∨10^(O.length-1)≤x+y
structure SubSt(x y:Nat)(O:List Nat)(d:Nat):Prop where
 all:AllD O
 down:d≤1
 eq:val ((dig x).take O.length)+10^O.length*d=val O+val ((dig y).take O.length)
def cmpI(x y:Nat):Int:=if x<y then -1 else if x=y then 0 else 1
structure MulSt(x y i:Nat)(W:List Nat):Prop where
 len:W.length=(dig x).length+(dig y).length
 all:AllD W
 eq:val W=val ((dig x).take i)*y
 zero: ∀k,i+(dig y).length≤k→W.getD k 0=0
structure RowSt(x y i j:Nat)(W:List Nat)(u:Nat):Prop where
 len:W.length=(dig x).length+(dig y).length
 all:AllD W
 up:u<10
 eq:val W+10^(i+j)*u=val ((dig x).take i)*y+10^i* (dig x).getD i 0*val ((dig y).take j)
 zero: ∀k,i+(dig y).length≤k→W.getD k 0=0
structure DivSt(x y k:Nat)(Q:List Nat)(r:Nat):Prop where
 len:Q.length=(dig x).length
 all:AllD Q
 lt:r<y
 eq:val ((dig x).drop k)=y*val (Q.drop k)+r
 zero: ∀i,i<k→Q.getD i 0=0
structure DigSt(x y i:Nat)(Q:List Nat)(r:Nat):Prop where
 len:Q.length=(dig x).length
 all:AllD Q
 lt:y*Q.getD i 0+r<10*y
 eq:val ((dig x).drop i)=y*val (Q.drop i)+r
 zero: ∀j,j<i→Q.getD j 0=0
end Go.Proofs.YtnohcdpnnhmpfaaGreatDoor.ND
namespace Go.Proofs.YtnohcdpnnhmpfaaGreatDoor.NL
def val:List Nat→Nat
 | []=>0
 |d::r=>d+1000000000*val r
def AllD(L:List Nat):Prop:= ∀d∈L,d<1000000000
def dig(n:Nat):List Nat:=if h:n=0 then []else(n%1000000000)::dig (n/1000000000)
termination_by n
decreasing_by omega
theorem dig_zero:dig 0= []:=by unfold dig;simp
theorem dig_pos {n:Nat}(h:0<n):dig n=(n%1000000000)::dig (n/1000000000):=by
 conv=>lhs;unfold dig
 rw [dif_neg (by omega)]
theorem val_dig(n:Nat):val (dig n)=n:=by
 induction n using Nat.strongRecOn with
 |
  ind n ih=>
  by_cases h:n=0;·subst h;rw [dig_zero];rfl
  ·rw [dig_pos (by omega),val,ih (n/1000000000) (by omega)];omega
theorem all_dig(n:Nat):AllD (dig n):=by
 induction n using Nat.strongRecOn with
 |
  ind n ih=>
  by_cases h:n=0;·subst h;rw [dig_zero];intro d hd;cases hd
  ·rw [dig_pos (by omega)];intro d hd;rcases List.mem_cons.1 hd with rfl|hd;·omega
   ·exact ih (n/1000000000) (by omega) d hd
theorem val_append(A B:List Nat):val (A++B)=val A+1000000000^A.length*val B:=by
 induction A with
 |nil=>simp [val]
 |
  cons d r ih=>
  simp only [List.cons_append,val,ih,List.length_cons,Nat.pow_succ,Nat.mul_add];rw [Nat.mul_comm (1000000000^r.length) 1000000000,Nat.mul_assoc];omega
theorem val_lt(L:List Nat)(h:AllD L):val L<1000000000^L.length:=by
 induction L with
 |nil=>simp [val]
 |
  cons d r ih=>
  have h1:=ih (fun x hx=>h x (List.mem_cons_of_mem _ hx));have h2:=h d (List.mem_cons_self ..);simp only [val,List.length_cons,Nat.pow_succ];omega
theorem dig_of_val(L:List Nat)(h:AllD L)(hn:L= []∨1000000000^(L.length-1)≤val L):L=dig (val L):=by
 induction L with
 |nil=>rw [val,dig_zero]
 |
  cons d r ih=>
  have hd:=h d (List.mem_cons_self ..);have hr:AllD r:=fun x hx=>h x (List.mem_cons_of_mem _ hx);have hv:1000000000^r.length≤val (d::r):=by
   rcases hn with h0|h0;·cases h0
   ·simpa using h0
  have hpos:0<val (d::r):=Nat.lt_of_lt_of_le (Nat.pow_pos (by decide)) hv;rw [dig_pos hpos];have e1:val (d::r)%1000000000=d:=by simp only [val];omega
  have e2:val (d::r)/1000000000=val r:=by simp only [val];omega
  rw [e1,e2,←ih hr];by_cases hr0:r= [];·exact .inl hr0
  ·right;have hl:0<r.length:=List.length_pos_iff.2 hr0;have h3:1000000000^r.length=1000000000*1000000000^(r.length-1):=by
    rw [←Nat.pow_succ'];congr 1;omega
   simp only [val]at hv;omega
theorem length_dig_le(n k:Nat)(h:n<1000000000^k):(dig n).length≤k:=by
 induction k generalizing n with
 |
  zero=>
  have:n=0:=by simpa using h
  subst this;rw [dig_zero];simp
 |
  succ k ih=>
  by_cases h0:n=0;·subst h0;rw [dig_zero];simp
  ·rw [dig_pos (by omega),List.length_cons];have:=ih (n/1000000000) (by rw [Nat.pow_succ]at h;omega);omega
theorem dig_ge {n:Nat}(h:dig n≠ []):1000000000^((dig n).length-1)≤n:=by
 induction n using Nat.strongRecOn with
 |
  ind n ih=>
  by_cases h0:n=0;·subst h0;rw [dig_zero]at h;exact absurd rfl h
  ·rw [dig_pos (by omega)];by_cases h1:dig (n/1000000000)= [];·rw [h1];simp;omega
   ·have h2:=ih (n/1000000000) (by omega) h1;have hl:0<(dig (n/1000000000)).length:=List.length_pos_iff.2 h1;have h3:1000000000^(dig (n/1000000000)).length=1000000000*1000000000^((dig (n/1000000000)).length-1):=by
     rw [←Nat.pow_succ'];congr 1;omega
    simp only [List.length_cons,Nat.add_sub_cancel];omega
def trimL(L:List Nat):List Nat:=dig (val L)
theorem val_take_zero(L:List Nat)(k:Nat)(h: ∀i,k≤i→L.getD i 0=0):val (L.take k)=val L:=by
 induction L generalizing k with
 |nil=>simp [val]
 |
  cons d r ih=>
  cases k with
  |
   zero=>
   have h0:d=0:=by simpa using h 0 (Nat.le_refl _)
   have hr:=ih 0 (fun i _=>by simpa using h (i+1) (by omega));simp only [List.take_zero,val]at hr ⊢;omega
  |
   succ k=>
   simp only [List.take_succ_cons,val];rw [ih k (fun i hi=>by simpa using h (i+1) (by omega))]
theorem all_take {L:List Nat}(h:AllD L)(k:Nat):AllD (L.take k):=fun d hd=>h d (List.mem_of_mem_take hd)
theorem take_trim(L:List Nat)(k:Nat)(h:AllD L)(hk:k≤L.length)(h0: ∀i,k≤i→L.getD i 0=0)(hn:k=0∨L.getD (k-1) 0≠0):L.take k=trimL L:=by
 unfold trimL;rw [←val_take_zero L k h0];refine dig_of_val _ (all_take h k) ?_;rcases hn with rfl|hn;·left;simp
 ·by_cases hk0:k=0;·left;subst hk0;simp
  ·right;obtain⟨j,rfl⟩: ∃j,k=j+1:=⟨k-1,by omega⟩;have hj:j<L.length:=by omega
   rw [List.take_succ_eq_append_getElem hj,val_append,List.length_append,List.length_take,List.length_singleton];have e:L.getD j 0=L[j]:=by simp [List.getD_eq_getElem?_getD,hj]
   have:L[j]≠0:=by rw [←e];simpa using hn
   rw [show min j L.length=j by omega,Nat.add_sub_cancel];simp only [val,Nat.mul_zero,Nat.add_zero];have h1:1000000000^j*1≤1000000000^j*L[j]:=Nat.mul_le_mul_left _ (by omega);omega
theorem val_take_mod(L:List Nat)(h:AllD L)(i:Nat):val (L.take i)=val L%1000000000^i:=by
 have e:=val_append (L.take i) (L.drop i);rw [List.take_append_drop]at e;by_cases hi:i≤L.length
 ·rw [List.length_take,Nat.min_eq_left hi]at e;have hl:=val_lt _ (all_take h i);rw [List.length_take,Nat.min_eq_left hi]at hl;rw [e,Nat.add_mul_mod_self_left,Nat.mod_eq_of_lt hl]
 ·rw [List.take_of_length_le (by omega)];have hl:=val_lt _ h;rw [Nat.mod_eq_of_lt (Nat.lt_of_lt_of_le hl (Nat.pow_le_pow_right (by decide) (by omega)))]
theorem val_take_succ(L:List Nat)(i:Nat):val (L.take (i+1))=val (L.take i)+1000000000^i*L.getD i 0:=by
 by_cases hi:i<L.length
 ·rw [List.take_succ_eq_append_getElem hi,val_append,List.length_take,Nat.min_eq_left (by omega)];simp [val,List.getD_eq_getElem?_getD,hi]
 ·rw [List.take_of_length_le (by omega),List.take_of_length_le (by omega)];simp [List.getD_eq_getElem?_getD,hi]
theorem getD_lt {L:List Nat}(h:AllD L)(i:Nat):L.getD i 0<1000000000:=by
 rw [List.getD_eq_getElem?_getD];cases hq:L[i]? with
 |none=>simp
 |some v=>simp;exact h v (List.mem_of_getElem? hq)
theorem all_snoc {L:List Nat}{d:Nat}(h:AllD L)(hd:d<1000000000):AllD (L++ [d]):=by
 intro x hx;rcases List.mem_append.1 hx with hx|hx;·exact h x hx
 ·have:x=d:=by simpa using hx
  omega
theorem val_snoc(L:List Nat)(d:Nat):val (L++ [d])=val L+1000000000^L.length*d:=by rw [val_append];simp [val]
theorem pow_le_of_lt_length {x i:Nat}(h:i<(dig x).length):1000000000^i≤x:=by
 have h0:dig x≠ []:=fun e=>by rw [e]at h;simp at h
 exact Nat.le_trans (Nat.pow_le_pow_right (by decide) (by omega)) (dig_ge h0)
theorem lt_pow_length(x:Nat):x<1000000000^(dig x).length:=by
 have:=val_lt _ (all_dig x)
 rwa [val_dig]at this
structure AddSt(x y:Nat)(O:List Nat)(u:Nat):Prop where
 all:AllD O
 up:u≤1
 eq:val O+1000000000^O.length*u=val ((dig x).take O.length)+val ((dig y).take O.length)
 big:O= []∨1000000000^(O.length-1)≤x+y
theorem AddSt.init(x y:Nat):AddSt x y [] 0:=⟨(fun d hd=>by cases hd),by omega,by simp [val],.inl rfl⟩
theorem AddSt.more {x y u:Nat}{O:List Nat}(S:AddSt x y O u)(h:O.length<(dig x).length∨O.length<(dig y).length∨0<u):1000000000^O.length≤x+y:=by
 by_cases h1:O.length<(dig x).length;·exact Nat.le_trans (pow_le_of_lt_length h1) (by omega)
 ·by_cases h2:O.length<(dig y).length;·exact Nat.le_trans (pow_le_of_lt_length h2) (by omega)
  ·have hu:u=1:=by have:=S.up;omega
   have e:=S.eq;rw [List.take_of_length_le (by omega),List.take_of_length_le (by omega),val_dig,val_dig,hu]at e;omega
theorem AddSt.next {x y u:Nat}{O:List Nat}(S:AddSt x y O u)(h:O.length<(dig x).length∨O.length<(dig y).length∨0<u):
 AddSt x y (O++ [((dig x).getD O.length 0+(dig y).getD O.length 0+u)%1000000000]) (((dig x).getD O.length 0+(dig y).getD O.length 0+u)/1000000000):=by
 have ha:=getD_lt (all_dig x) O.length;have hb:=getD_lt (all_dig y) O.length;have hu:=S.up;have hm:=S.more h;refine⟨all_snoc S.all (by omega),by omega,?_,.inr (by simpa using hm)⟩;rw [List.length_append,List.length_singleton,val_snoc,val_take_succ,val_take_succ];have e:=S.eq;generalize (dig x).getD O.length 0=a at*;generalize (dig y).getD O.length 0=b at*;generalize val ((dig x).take O.length)=p at*;generalize val ((dig y).take O.length)=q at*;rw [Nat.pow_succ,Nat.mul_assoc,Nat.add_assoc,←Nat.mul_add,Nat.mod_add_div];generalize 1000000000^O.length=t at*;rw [Nat.mul_add,Nat.mul_add];omega
structure SubSt(x y:Nat)(O:List Nat)(d:Nat):Prop where
 all:AllD O
 down:d≤1
 eq:val ((dig x).take O.length)+1000000000^O.length*d=val O+val ((dig y).take O.length)
def cmpI(x y:Nat):Int:=if x<y then -1 else if x=y then 0 else 1
theorem cmpI_lt {x y:Nat}(h:x<y):cmpI x y= -1:=if_pos h
theorem cmpI_gt {x y:Nat}(h:y<x):cmpI x y=1:=by unfold cmpI;rw [if_neg (by omega),if_neg (by omega)]
theorem cmpI_eq(x:Nat):cmpI x x=0:=by unfold cmpI;rw [if_neg (by omega),if_pos rfl]
theorem lt_of_length_lt {x y:Nat}(h:(dig x).length<(dig y).length):x<y:=Nat.lt_of_lt_of_le (lt_pow_length x) (pow_le_of_lt_length h)
theorem val_split(L:List Nat)(j:Nat)(h:j<L.length):val L=val (L.take j)+1000000000^j* (L.getD j 0+1000000000*val (L.drop (j+1))):=by
 have e:=val_append (L.take j) (L.drop j);rw [List.take_append_drop,List.length_take,Nat.min_eq_left (by omega),List.drop_eq_getElem_cons h,val]at e;rw [e];simp [List.getD_eq_getElem?_getD,h]
theorem lt_of_digit {x y j:Nat}(hx:j<(dig x).length)(hy:j<(dig y).length)(hd:(dig x).drop (j+1)=(dig y).drop (j+1))(hl:(dig x).getD j 0<(dig y).getD j 0):x<y:=by
 have e1:=val_split (dig x) j hx;have e2:=val_split (dig y) j hy;have hlt:=val_lt _ (all_take (all_dig x) j);rw [List.length_take,Nat.min_eq_left (by omega)]at hlt;rw [val_dig]at e1 e2;rw [hd]at e1;generalize val ((dig y).drop (j+1))=r at*;generalize (dig x).getD j 0=a at*;generalize (dig y).getD j 0=b at*;generalize val ((dig x).take j)=p at*;generalize val ((dig y).take j)=q at*;have h3:1000000000^j* (a+1000000000*r)+1000000000^j≤1000000000^j* (b+1000000000*r):=by
  have:1000000000^j* ((a+1000000000*r)+1)≤1000000000^j* (b+1000000000*r):=Nat.mul_le_mul_left _ (by omega)
  rwa [Nat.mul_add,Nat.mul_one]at this
 omega
theorem drop_same {A B:List Nat}{j:Nat}(hA:j<A.length)(hB:j<B.length)(h:A.drop (j+1)=B.drop (j+1))(hd:A.getD j 0=B.getD j 0):A.drop j=B.drop j:=by
 rw [List.drop_eq_getElem_cons hA,List.drop_eq_getElem_cons hB,h];congr 1;simpa [List.getD_eq_getElem?_getD,hA,hB] using hd
theorem eq_of_dig {x y:Nat}(h:dig x=dig y):x=y:=by rw [←val_dig x,←val_dig y,h]
theorem val_set(L:List Nat)(k d:Nat)(hk:k<L.length):val (L.set k d)+1000000000^k*L.getD k 0=val L+1000000000^k*d:=by
 induction L generalizing k with
 |nil=>simp at hk
 |
  cons a r ih=>
  cases k with
  |zero=>simp [val];omega
  |
   succ k=>
   have:=ih k (by simpa using hk);simp only [List.set_cons_succ,val,List.getD_cons_succ,Nat.pow_succ];rw [Nat.mul_comm (1000000000^k) 1000000000,Nat.mul_assoc,Nat.mul_assoc];omega
theorem all_set {L:List Nat}{k d:Nat}(h:AllD L)(hd:d<1000000000):AllD (L.set k d):=by
 intro x hx;rcases List.mem_or_eq_of_mem_set hx with hx|rfl;·exact h x hx
 ·exact hd
theorem getD_set_ne {L:List Nat}{k i d:Nat}(h:k≠i):(L.set k d).getD i 0=L.getD i 0:=by
 simp [List.getD_eq_getElem?_getD,List.getElem?_set_ne h]
theorem val_zeros(n:Nat):val (List.replicate n 0)=0:=by
 induction n with
 |zero=>rfl
 |succ n ih=>rw [List.replicate_succ,val,ih]
theorem all_zeros(n:Nat):AllD (List.replicate n 0):=by
 intro x hx;have:=List.eq_of_mem_replicate hx;omega
structure MulSt(x y i:Nat)(W:List Nat):Prop where
 len:W.length=(dig x).length+(dig y).length
 all:AllD W
 eq:val W=val ((dig x).take i)*y
 zero: ∀k,i+(dig y).length≤k→W.getD k 0=0
structure RowSt(x y i j:Nat)(W:List Nat)(u:Nat):Prop where
 len:W.length=(dig x).length+(dig y).length
 all:AllD W
 up:u<1000000000
 eq:val W+1000000000^(i+j)*u=val ((dig x).take i)*y+1000000000^i* (dig x).getD i 0*val ((dig y).take j)
 zero: ∀k,i+(dig y).length≤k→W.getD k 0=0
theorem MulSt.init(x y:Nat):MulSt x y 0 (List.replicate ((dig x).length+(dig y).length) 0):=by
 refine⟨by simp,all_zeros _,by simp [val_zeros,val],fun k _=>?_⟩;rw [List.getD_eq_getElem?_getD,List.getElem?_replicate];split<;>rfl
theorem MulSt.row {x y i:Nat}{W:List Nat}(S:MulSt x y i W):RowSt x y i 0 W 0:=⟨S.len,S.all,by omega,by simp [val,S.eq],S.zero⟩
theorem RowSt.next {x y i j u:Nat}{W:List Nat}(S:RowSt x y i j W u)(hi:i<(dig x).length)(hj:j<(dig y).length):
 RowSt x y i (j+1) (W.set (i+j) ((W.getD (i+j) 0+(dig x).getD i 0* (dig y).getD j 0+u)%1000000000)) ((W.getD (i+j) 0+(dig x).getD i 0* (dig y).getD j 0+u)/1000000000):=by
 have ha:=getD_lt (all_dig x) i;have hb:=getD_lt (all_dig y) j;have hw:=getD_lt S.all (i+j);have hu:=S.up;have hab:(dig x).getD i 0* (dig y).getD j 0≤999999999*999999999:=Nat.mul_le_mul (by omega) (by omega);have hk:i+j<W.length:=by rw [S.len];omega
 refine⟨by rw [List.length_set];exact S.len,all_set S.all (by omega),by omega,?_,fun k hk2=>by rw [getD_set_ne (by omega)];exact S.zero k hk2⟩;have e:=S.eq;have es:=val_set W (i+j) ((W.getD (i+j) 0+(dig x).getD i 0* (dig y).getD j 0+u)%1000000000) hk;rw [val_take_succ];generalize (dig x).getD i 0=a at*;generalize (dig y).getD j 0=b at*;generalize W.getD (i+j) 0=c at*;generalize val (W.set (i+j) ((c+a*b+u)%1000000000))=v2 at*;generalize val W=v at*;generalize val ((dig y).take j)=q at*;generalize val ((dig x).take i)*y=p at*;generalize hs:c+a*b+u=s at*;have e3:1000000000^i*a* (q+1000000000^j*b)=1000000000^i*a*q+1000000000^(i+j)* (a*b):=by
  rw [Nat.mul_add,Nat.pow_add];congr 1;rw [Nat.mul_assoc,Nat.mul_assoc,Nat.mul_left_comm a (1000000000^j) b]
 rw [e3,←Nat.add_assoc i j 1,Nat.pow_succ];generalize 1000000000^i*a*q=m at*;have e4:1000000000^(i+j)*s=1000000000^(i+j)* (s%1000000000)+1000000000^(i+j)*1000000000* (s/1000000000):=by
  rw [Nat.mul_assoc,←Nat.mul_add,Nat.mod_add_div]
 rw [←hs]at e4;rw [Nat.mul_add,Nat.mul_add]at e4;rw [hs]at e4;generalize 1000000000^(i+j)* (a*b)=t1 at*;generalize 1000000000^(i+j)*c=t2 at*;generalize 1000000000^(i+j)*u=t3 at*;generalize 1000000000^(i+j)* (s%1000000000)=t4 at*;generalize 1000000000^(i+j)*1000000000* (s/1000000000)=t5 at*;omega
theorem RowSt.done {x y i u:Nat}{W:List Nat}(S:RowSt x y i (dig y).length W u)(hi:i<(dig x).length):MulSt x y (i+1) (W.set (i+(dig y).length) u):=by
 have hk:i+(dig y).length<W.length:=by rw [S.len];omega
 refine⟨by rw [List.length_set];exact S.len,all_set S.all S.up,?_,fun k hk2=>by rw [getD_set_ne (by omega)];exact S.zero k (by omega)⟩;have e:=S.eq;have es:=val_set W (i+(dig y).length) u hk;rw [S.zero _ (Nat.le_refl _),Nat.mul_zero,Nat.add_zero]at es;rw [List.take_of_length_le (Nat.le_refl _),val_dig]at e;rw [es,e,val_take_succ,Nat.add_mul]
theorem MulSt.done {x y:Nat}{W:List Nat}(S:MulSt x y (dig x).length W):trimL W=dig (x*y):=by
 have e:=S.eq;rw [List.take_of_length_le (Nat.le_refl _),val_dig]at e;unfold trimL;rw [e]
structure DivSt(x y k:Nat)(Q:List Nat)(r:Nat):Prop where
 len:Q.length=(dig x).length
 all:AllD Q
 lt:r<y
 eq:val ((dig x).drop k)=y*val (Q.drop k)+r
 zero: ∀i,i<k→Q.getD i 0=0
structure DigSt(x y i:Nat)(Q:List Nat)(r:Nat):Prop where
 len:Q.length=(dig x).length
 all:AllD Q
 lt:y*Q.getD i 0+r<1000000000*y
 eq:val ((dig x).drop i)=y*val (Q.drop i)+r
 zero: ∀j,j<i→Q.getD j 0=0
theorem DivSt.init(x y:Nat)(hy:0<y):DivSt x y (dig x).length (List.replicate (dig x).length 0) 0:=by
 refine⟨by simp,all_zeros _,hy,?_,fun k _=>?_⟩;·rw [List.drop_of_length_le (Nat.le_refl _),List.drop_of_length_le (by simp)];simp [val]
 ·rw [List.getD_eq_getElem?_getD,List.getElem?_replicate];split<;>rfl
theorem val_drop(L:List Nat)(i:Nat)(h:i<L.length):val (L.drop i)=L.getD i 0+1000000000*val (L.drop (i+1)):=by
 rw [List.drop_eq_getElem_cons h,val];simp [List.getD_eq_getElem?_getD,h]
theorem DivSt.done {x y r:Nat}{Q:List Nat}(S:DivSt x y 0 Q r):trimL Q=dig (x/y)∧r=x%y:=by
 have e:=S.eq;have hl:=S.lt;rw [List.drop_zero,List.drop_zero,val_dig]at e;have h1:x/y=val Q:=by rw [e,Nat.mul_add_div (by omega),Nat.div_eq_of_lt hl,Nat.add_zero]
 have h2:x%y=r:=by rw [e,Nat.mul_add_mod,Nat.mod_eq_of_lt hl]
 exact⟨by unfold trimL;rw [h1],h2.symm⟩
structure LessSt(L M:List Nat)(k:Nat)(W:List Nat)(d:Nat):Prop where
 len:W.length=L.length
 all:AllD W
 down:d≤1
 eq:val W+val (M.take k)=val L+1000000000^k*d
theorem LessSt.init {L:List Nat}(M:List Nat)(h:AllD L):LessSt L M 0 L 0:=⟨rfl,h,by omega,by simp [val]⟩
theorem LessSt.next {L M W:List Nat}{k d:Nat}(S:LessSt L M k W d)(hk:k<L.length)(s d':Nat)(hs:s<1000000000)(hd:d'≤1)(he:W.getD k 0+1000000000*d'=s+M.getD k 0+d):LessSt L M (k+1) (W.set k s) d':=by
 refine⟨by rw [List.length_set];exact S.len,all_set S.all hs,hd,?_⟩;have e:=S.eq;have es:=val_set W k s (by rw [S.len];exact hk);rw [val_take_succ,Nat.pow_succ,Nat.mul_assoc];generalize W.getD k 0=a at*;generalize M.getD k 0=b at*;have e2:1000000000^k*a+1000000000^k* (1000000000*d')=1000000000^k*s+1000000000^k*b+1000000000^k*d:=by
  rw [←Nat.mul_add,←Nat.mul_add,←Nat.mul_add,he]
 generalize 1000000000^k* (1000000000*d')=t1 at*;generalize 1000000000^k*a=t2 at*;generalize 1000000000^k*b=t3 at*;generalize 1000000000^k*s=t4 at*;generalize 1000000000^k*d=t5 at*;omega
structure LessEnd(L M W:List Nat)(d:Nat):Prop where
 len:W.length=L.length
 all:AllD W
 down:d≤1
 eq:val W+val (M.take L.length)=val L+1000000000^L.length*d
theorem LessSt.done {L M W:List Nat}{d:Nat}(S:LessSt L M L.length W d):LessEnd L M W d:=⟨S.len,S.all,S.down,S.eq⟩
theorem LessSt.stop {L M W:List Nat}{k:Nat}(S:LessSt L M k W 0)(hk:k≤L.length)(hM:M.length≤k):LessEnd L M W 0:=by
 refine⟨S.len,S.all,by omega,?_⟩;have e:=S.eq;rw [List.take_of_length_le hM]at e;rw [List.take_of_length_le (by omega)];simpa using e
theorem LessEnd.sub {x y d:Nat}{W:List Nat}(S:LessEnd (dig x) (dig y) W d)(hyx:y≤x):trimL W=dig (x-y):=by
 have e:=S.eq;have hy:val ((dig y).take (dig x).length)=y:=by
  rw [val_take_mod _ (all_dig y),val_dig,Nat.mod_eq_of_lt];exact Nat.lt_of_le_of_lt hyx (lt_pow_length x)
 have hO:=val_lt _ S.all;rw [S.len]at hO;rw [hy,val_dig]at e;have hd:d=0:=by
  have:=S.down;rcases Nat.lt_or_ge 0 d with h0|h0
  ·have h1:d=1:=by omega
   rw [h1]at e;omega
  ·omega
 rw [hd]at e;unfold trimL;congr 1;omega
structure MoreSt(L M:List Nat)(k:Nat)(W:List Nat)(u:Nat):Prop where
 len:W.length=L.length
 all:AllD W
 up:u≤1
 eq:val W+1000000000^k*u=val L+val (M.take k)
theorem MoreSt.init {L:List Nat}(M:List Nat)(h:AllD L):MoreSt L M 0 L 0:=⟨rfl,h,by omega,by simp [val]⟩
theorem MoreSt.next {L M W:List Nat}{k u:Nat}(S:MoreSt L M k W u)(hM:AllD M)(hk:k<L.length):MoreSt L M (k+1) (W.set k ((W.getD k 0+u+M.getD k 0)%1000000000)) ((W.getD k 0+u+M.getD k 0)/1000000000):=by
 have ha:=getD_lt S.all k;have hb:=getD_lt hM k;have hu:=S.up;refine⟨by rw [List.length_set];exact S.len,all_set S.all (by omega),by omega,?_⟩;have e:=S.eq;have es:=val_set W k ((W.getD k 0+u+M.getD k 0)%1000000000) (by rw [S.len];exact hk);rw [val_take_succ,Nat.pow_succ,Nat.mul_assoc];generalize W.getD k 0=a at*;generalize M.getD k 0=b at*;have e2:1000000000^k*a+1000000000^k*u+1000000000^k*b=1000000000^k* ((a+u+b)%1000000000)+1000000000^k* (1000000000* ((a+u+b)/1000000000)):=by
  rw [←Nat.mul_add,←Nat.mul_add,←Nat.mul_add,Nat.mod_add_div]
 generalize 1000000000^k* (1000000000* ((a+u+b)/1000000000))=t1 at*;generalize 1000000000^k*a=t2 at*;generalize 1000000000^k*b=t3 at*;generalize 1000000000^k* ((a+u+b)%1000000000)=t4 at*;generalize 1000000000^k*u=t5 at*;omega
structure TimesSt(x b:Nat)(O:List Nat)(u:Nat):Prop where
 all:AllD O
 up:u<1000000000
 eq:val O+1000000000^O.length*u=val ((dig x).take O.length)*b
theorem TimesSt.init(x b:Nat):TimesSt x b [] 0:=⟨(fun d hd=>by cases hd),by omega,by simp [val]⟩
theorem TimesSt.bound {x b u:Nat}{O:List Nat}(S:TimesSt x b O u)(hb:b<1000000000)(a:Nat)(ha:a<1000000000):u+a*b<1000000000000000000:=by
 have hu:=S.up;have:a*b≤999999999*999999999:=Nat.mul_le_mul (by omega) (by omega);omega
theorem TimesSt.next {x b u:Nat}{O:List Nat}(S:TimesSt x b O u)(hb:b<1000000000)(h:O.length<(dig x).length):
 TimesSt x b (O++ [(u+(dig x).getD O.length 0*b)%1000000000]) ((u+(dig x).getD O.length 0*b)/1000000000):=by
 have ha:=getD_lt (all_dig x) O.length;have hB:=S.bound hb _ ha;refine⟨all_snoc S.all (Nat.mod_lt _ (by decide)),by omega,?_⟩;have e:=S.eq;rw [val_snoc,List.length_append,List.length_singleton,val_take_succ,Nat.pow_succ,Nat.mul_assoc];generalize (dig x).getD O.length 0=a at*;rw [Nat.add_mul,←e,Nat.add_assoc,←Nat.mul_add,Nat.mod_add_div,Nat.mul_add,Nat.mul_assoc];omega
theorem TimesSt.done {x b u:Nat}{O:List Nat}(S:TimesSt x b O u)(h:(dig x).length≤O.length):AllD (O++ [u])∧trimL (O++ [u])=dig (x*b):=by
 have e:=S.eq;rw [List.take_of_length_le h,val_dig]at e;refine⟨all_snoc S.all S.up,?_⟩;unfold trimL;rw [val_snoc,e]
theorem DivSt.step {x y i r:Nat}{Q:List Nat}(S:DivSt x y (i+1) Q r)(hi:i<(dig x).length):
 DivSt x y i (Q.set i ((r*1000000000+(dig x).getD i 0)/y)) ((r*1000000000+(dig x).getD i 0)%y)∧(r*1000000000+(dig x).getD i 0)/y<1000000000:=by
 have hz:=S.zero i (by omega);have ha:=getD_lt (all_dig x) i;have hl:=S.lt;have hik:i<Q.length:=by rw [S.len];exact hi
 have hv:=val_drop (dig x) i hi;have e:=S.eq;generalize (dig x).getD i 0=a at*;have hlt:(r*1000000000+a)/y<1000000000:=by
  rw [Nat.div_lt_iff_lt_mul (by omega)];omega
 have e1:(Q.set i ((r*1000000000+a)/y)).getD i 0=(r*1000000000+a)/y:=by simp [List.getD_eq_getElem?_getD,hik]
 refine⟨⟨by rw [List.length_set];exact S.len,all_set S.all hlt,Nat.mod_lt _ (by omega),?_,fun j hj=>by rw [getD_set_ne (by omega)];exact S.zero j (by omega)⟩,hlt⟩;rw [val_drop (Q.set i _) i (by rw [List.length_set];exact hik),e1,List.drop_set_of_lt (by omega),hv,e];have:=Nat.div_add_mod (r*1000000000+a) y;generalize (r*1000000000+a)/y=q at*;generalize (r*1000000000+a)%y=m at*;rw [Nat.mul_add,Nat.mul_add,Nat.mul_left_comm y];omega
structure Part(X v P lo lov H c t n:Nat):Prop where
 pos:0<P
 eX:X=lo+P* (c+1000000000*H)
 ev:v=lov+P* (n+1000000000*t)
 hlo:lo<P
 hlov:lov<P
 hc:c<1000000000
 hn:n<1000000000
 ht:t<1000000000
 half:1000000000≤2*t
 lt:X<1000000000*v
structure Guess(X v H t g l:Nat):Prop where
 eq:g*t+l=H
 le:X/v≤g
section
variable {X v P lo lov H c t n g l:Nat}
theorem Part.vpos(D:Part X v P lo lov H c t n):0<v:=by
 have:=D.lt;omega
theorem Part.headlt(D:Part X v P lo lov H c t n):H<1000000000* (t+1):=by
 have h1:=D.lt;have hP:=D.pos;have h2:v<P* (n+1000000000*t+1):=by rw [D.ev,Nat.mul_add P _ 1];have:=D.hlov;omega
 have h3:P* (1000000000*H)<P* (1000000000* (n+1000000000*t+1)):=by
  have e1:P* (1000000000*H)≤X:=by rw [D.eX,Nat.mul_add];omega
  have e2:P* (1000000000* (n+1000000000*t+1))=1000000000* (P* (n+1000000000*t+1)):=Nat.mul_left_comm _ _ _;omega
 have h4:=Nat.lt_of_mul_lt_mul_left h3;have:=D.hn;omega
theorem Part.init(D:Part X v P lo lov H c t n):Guess X v H t (H/t) (H%t):=by
 refine⟨by rw [Nat.mul_comm];exact Nat.div_add_mod H t,?_⟩;have hv:=D.vpos;have hP:=D.pos;have ht:0<t:=by have:=D.half;omega
 rw [Nat.le_div_iff_mul_le ht];have h1:=Nat.div_mul_le_self X v;generalize X/v=q at*;have h2:q* (P* (1000000000*t))≤q*v:=Nat.mul_le_mul_left q (by rw [D.ev,Nat.mul_add];omega);have h3:X<P* (1000000000* (H+1)):=by
  rw [D.eX];have hc:=D.hc;have hlo:=D.hlo;have:P* (c+1000000000*H+1)≤P* (1000000000* (H+1)):=Nat.mul_le_mul_left P (by omega);rw [Nat.mul_add P _ 1]at this;omega
 have h4:P* (1000000000* (q*t))<P* (1000000000* (H+1)):=by
  have e:q* (P* (1000000000*t))=P* (1000000000* (q*t)):=by rw [Nat.mul_left_comm,Nat.mul_left_comm q]
  omega
 have h5:=Nat.lt_of_mul_lt_mul_left (Nat.lt_of_mul_lt_mul_left h4);omega
theorem Guess.small(G:Guess X v H t g l)(D:Part X v P lo lov H c t n):g≤1000000001:=by
 have h1:=D.headlt;have h2:=G.eq;have h3:=D.half;have h4:g*t<1000000002*t:=by omega
 have:=Nat.lt_of_mul_lt_mul_right h4;omega
theorem Guess.next(G:Guess X v H t g l)(D:Part X v P lo lov H c t n)(h:1000000000≤g∨l*1000000000+c<g*n):1≤g∧Guess X v H t (g-1) (l+t):=by
 have hv:=D.vpos;have hP:=D.pos;have hlt:X/v<g:=by
  rw [Nat.div_lt_iff_lt_mul hv];rcases h with h|h;·exact Nat.lt_of_lt_of_le D.lt (Nat.mul_le_mul_right v h)
  ·
    have e1:P* (g*n+1000000000* (g*t))≤g*v:=by
     have e2:P* (g*n+1000000000* (g*t))=g* (P* (n+1000000000*t)):=by
      rw [Nat.mul_left_comm g P,Nat.mul_add g,Nat.mul_left_comm g 1000000000]
     rw [e2];exact Nat.mul_le_mul_left g (by rw [D.ev];omega)
    have e2:P* (c+1000000000*H+1)≤P* (g*n+1000000000* (g*t)):=Nat.mul_le_mul_left P (by have:=G.eq;omega);have e3:=D.eX;have e4:=D.hlo;rw [Nat.mul_add P _ 1]at e2;omega
 have hq0:0≤X/v:=Nat.zero_le _;have hg:1≤g:=Nat.lt_of_le_of_lt hq0 hlt;have hq1:X/v≤g-1:=Nat.le_sub_one_of_lt hlt;refine⟨hg,?_,hq1⟩;have:=G.eq;obtain⟨k,rfl⟩: ∃k,g=k+1:=⟨g-1,by omega⟩;rw [Nat.add_mul,Nat.one_mul]at this;rw [Nat.add_sub_cancel];omega
theorem Guess.stop(G:Guess X v H t g l)(h2:g*n≤l*1000000000+c):g* (t*1000000000+n)≤H*1000000000+c:=by
 have:=G.eq;rw [Nat.mul_add,←Nat.mul_assoc];omega
theorem Guess.brk(G:Guess X v H t g l)(D:Part X v P lo lov H c t n)(h:1000000000≤l):g<1000000000∧g* (t*1000000000+n)≤H*1000000000+c:=by
 have h1:=D.headlt;have h2:=G.eq;have hg:g<1000000000:=by
  have:g*t<1000000000*t:=by omega
  exact Nat.lt_of_mul_lt_mul_right this
 have hn:=D.hn;have:g*n≤999999999*999999999:=Nat.mul_le_mul (by omega) (by omega);exact⟨hg,G.stop (by omega)⟩
theorem Guess.near(G:Guess X v H t g l)(D:Part X v P lo lov H c t n)(hg:g<1000000000)(hs:g* (t*1000000000+n)≤H*1000000000+c):g=X/v∨g=X/v+1:=by
 have hle:=G.le;have hv:=D.vpos;have hP:=D.pos;rcases Nat.lt_or_ge (X/v+1) g with hc|hc
 ·exfalso;have h1:X<(X/v+1)*v:=by
   rw [←Nat.div_lt_iff_lt_mul hv];omega
  generalize X/v=q at*;have h2:(q+1)*v≤(g-1)*v:=Nat.mul_le_mul_right v (by omega);have h3:P* (g* (t*1000000000+n))≤X:=by
   rw [D.eX];have:=Nat.mul_le_mul_left P hs;rw [show c+1000000000*H=H*1000000000+c by omega];omega
  have h4:g*v≤P* (g* (t*1000000000+n))+g*P:=by
   rw [D.ev,Nat.mul_add,Nat.mul_left_comm g P,show n+1000000000*t=t*1000000000+n by omega];have:=Nat.mul_le_mul_left g (Nat.le_of_lt D.hlov);omega
  have h5:(g-1)*v+v=g*v:=by
   obtain⟨k,rfl⟩: ∃k,g=k+1:=⟨g-1,by omega⟩;rw [Nat.add_sub_cancel,Nat.add_mul,Nat.one_mul]
  have h6:v<g*P:=by omega
  have h7:P* (1000000000*t)≤v:=by rw [D.ev,Nat.mul_add];omega
  have h8:P* (1000000000*t)<P*g:=by rw [Nat.mul_comm P g];omega
  have h9:=Nat.lt_of_mul_lt_mul_left h8;have:=D.half;omega
 ·omega
end
theorem val_top2(L:List Nat)(hA:AllD L)(k:Nat)(hl:L.length=k+2):val L=val (L.take k)+1000000000^k* (L.getD k 0+1000000000*L.getD (k+1) 0)∧val (L.take k)<1000000000^k:=by
 have e0:val L=val (L.take (k+2)):=by rw [List.take_of_length_le (by omega)]
 have h:=val_lt _ (all_take hA k);rw [List.length_take,Nat.min_eq_left (by omega)]at h;refine⟨?_,h⟩;rw [e0,val_take_succ,val_take_succ,Nat.mul_add,Nat.pow_succ,Nat.mul_assoc];omega
theorem val_top3(L:List Nat)(hA:AllD L)(k:Nat)(hl:L.length=k+3):val L=val (L.take k)+1000000000^k* (L.getD k 0+1000000000* (L.getD (k+2) 0*1000000000+L.getD (k+1) 0))∧val (L.take k)<1000000000^k:=by
 have e0:val L=val (L.take (k+3)):=by rw [List.take_of_length_le (by omega)]
 have h:=val_lt _ (all_take hA k);rw [List.length_take,Nat.min_eq_left (by omega)]at h;refine⟨?_,h⟩;have p1:1000000000^(k+1)=1000000000^k*1000000000:=Nat.pow_succ ..;have p2:1000000000^(k+2)=1000000000^k* (1000000000*1000000000):=by rw [Nat.pow_succ,p1,Nat.mul_assoc]
 rw [e0,val_take_succ,val_take_succ,val_take_succ,p1,p2,Nat.mul_assoc,Nat.mul_assoc,Nat.add_assoc,Nat.add_assoc,←Nat.mul_add,←Nat.mul_add];congr 2;omega
theorem part_of(L:List Nat)(hA:AllD L)(v k:Nat)(hL:L.length=k+3)(hV:(dig v).length=k+2)(half:1000000000≤2* (dig v).getD (k+1) 0)(hlt:val L<1000000000*v):
 Part (val L) v (1000000000^k) (val (L.take k)) (val ((dig v).take k)) (L.getD (k+2) 0*1000000000+L.getD (k+1) 0) (L.getD k 0) ((dig v).getD (k+1) 0) ((dig v).getD k 0):=by
 obtain⟨e1,b1⟩:=val_top3 L hA k hL;obtain⟨e2,b2⟩:=val_top2 (dig v) (all_dig v) k hV;rw [val_dig]at e2;exact⟨Nat.pow_pos (by decide),e1,e2,b1,b2,getD_lt hA _,getD_lt (all_dig v) _,getD_lt (all_dig v) _,half,hlt⟩
theorem half_of(t:Nat)(ht:0<t)(h:t<1000000000):1≤1000000000/(t+1)∧1000000000/(t+1)≤500000000∧(t+1)* (1000000000/(t+1))≤1000000000∧1000000000≤2* (t* (1000000000/(t+1))):=by
 have e:=Nat.div_add_mod 1000000000 (t+1);have hr:=Nat.mod_lt 1000000000 (show t+1>0 by omega);have h1:1≤1000000000/(t+1):=by rw [Nat.le_div_iff_mul_le (by omega)];omega
 have h2:1000000000/(t+1)≤500000000:=by
  have:1000000000/(t+1)≤1000000000/2:=Nat.div_le_div_left (by omega) (by decide);omega
 generalize 1000000000/(t+1)=u at*;generalize 1000000000%(t+1)=r at*;refine⟨h1,h2,by omega,?_⟩;rw [Nat.add_mul,Nat.one_mul]at e;rcases Nat.lt_or_ge u 2 with hu|hu
 ·have:u=1:=by omega
  subst this;omega
 ·rcases Nat.lt_or_ge t 2 with ht2|ht2
  ·have:t=1:=by omega
   subst this;omega
  ·have h3:(u-1)*1≤(u-1)* (t-1):=Nat.mul_le_mul_left _ (by omega);have h4:t+u≤t*u:=by
    obtain⟨a,rfl⟩: ∃a,u=a+2:=⟨u-2,by omega⟩;obtain⟨b,rfl⟩: ∃b,t=b+2:=⟨t-2,by omega⟩;rw [Nat.add_mul,Nat.mul_add,Nat.mul_add];have:0≤b*a:=Nat.zero_le _;omega
   omega
theorem great_of(y k:Nat)(hl:(dig y).length=k+2): ∃u,u=1000000000/((dig y).getD (k+1) 0+1)∧1≤u∧u<1000000000∧(dig (y*u)).length=k+2∧1000000000≤2* (dig (y*u)).getD (k+1) 0:=by
 have ht:=getD_lt (all_dig y) (k+1);have ht0:0<(dig y).getD (k+1) 0:=by
  have h1:=dig_ge (n:=y) (by intro h;rw [h]at hl;simp at hl);have h2:=val_take_succ (dig y) (k+1);rw [List.take_of_length_le (by omega),val_dig]at h2;have h3:=val_lt _ (all_take (all_dig y) (k+1));rw [List.length_take,Nat.min_eq_left (by omega)]at h3;rw [hl,show k+2-1=k+1 by omega]at h1;rcases Nat.eq_zero_or_pos ((dig y).getD (k+1) 0)with h0|h0;·rw [h0]at h2;omega
  ·exact h0
 obtain⟨h1,h2,h3,h4⟩:=half_of _ ht0 ht;refine⟨_,rfl,h1,by omega,?_⟩;have e:=val_take_succ (dig y) (k+1);rw [List.take_of_length_le (by omega),val_dig]at e;have b:=val_lt _ (all_take (all_dig y) (k+1));rw [List.length_take,Nat.min_eq_left (by omega)]at b;generalize val ((dig y).take (k+1))=lo at*;generalize (dig y).getD (k+1) 0=t at*;generalize 1000000000/(t+1)=u at*;have hP:0<1000000000^(k+1):=Nat.pow_pos (by decide);have hup:y*u<1000000000^(k+2):=by
  have h5:y<1000000000^(k+1)* (t+1):=by rw [Nat.mul_add,e];omega
  have h6:=Nat.mul_lt_mul_of_pos_right h5 (show 0<u by omega);rw [Nat.mul_assoc]at h6;have h7:=Nat.mul_le_mul_left (1000000000^(k+1)) h3;rw [Nat.pow_succ];omega
 have hlo:1000000000^(k+1)* (t*u)≤y*u:=by
  rw [e,Nat.add_mul,Nat.mul_assoc];omega
 have hlen:(dig (y*u)).length=k+2:=by
  have l1:=length_dig_le (y*u) (k+2) hup;have l2:=lt_pow_length (y*u);rcases Nat.lt_or_ge (dig (y*u)).length (k+2)with hc|hc
  ·have l3:1000000000^(dig (y*u)).length≤1000000000^(k+1):=Nat.pow_le_pow_right (by decide) (by omega);have:1000000000^(k+1)*1≤1000000000^(k+1)* (t*u):=Nat.mul_le_mul_left _ (by omega);omega
  ·omega
 refine⟨hlen,?_⟩;have e2:=val_take_succ (dig (y*u)) (k+1);rw [List.take_of_length_le (by omega),val_dig]at e2;have b2:=val_lt _ (all_take (all_dig (y*u)) (k+1));rw [List.length_take,Nat.min_eq_left (by omega)]at b2;generalize (dig (y*u)).getD (k+1) 0=T at*;generalize val ((dig (y*u)).take (k+1))=lo2 at*;have:1000000000^(k+1)* (t*u)<1000000000^(k+1)* (T+1):=by rw [Nat.mul_add];omega
 have:=Nat.lt_of_mul_lt_mul_left this;omega
theorem less_exact {L W:List Nat}{v g d:Nat}(S:LessEnd L (dig (v*g)) W d)(hl:(dig (v*g)).length≤L.length)(hv:0<v)(hg:g=val L/v):d=0∧val W=val L%v:=by
 have e:=S.eq;have hw:=val_lt _ S.all;rw [S.len]at hw;rw [List.take_of_length_le hl,val_dig]at e;have h1:=Nat.div_add_mod (val L) v;rw [←hg]at h1;have hd:=S.down;have hd0:d=0:=by
  rcases Nat.lt_or_ge 0 d with h|h
  ·have:d=1:=by omega
   subst this;have hm:=Nat.mod_lt (val L) hv;omega
  ·omega
 subst hd0;refine⟨rfl,?_⟩;omega
theorem less_over {L W:List Nat}{v g d:Nat}(S:LessEnd L (dig (v*g)) W d)(hl:(dig (v*g)).length≤L.length)(hv:0<v)(hg:g=val L/v+1):d=1∧val W+v=val L%v+1000000000^L.length:=by
 have e:=S.eq;rw [List.take_of_length_le hl,val_dig]at e;have h1:=Nat.div_add_mod (val L) v;have hm:=Nat.mod_lt (val L) hv;rw [hg,Nat.mul_add,Nat.mul_one]at e;have hd:=S.down;have hd1:d=1:=by
  rcases Nat.lt_or_ge 0 d with h|h;·omega
  ·have:d=0:=by omega
   subst this;omega
 subst hd1;exact⟨rfl,by omega⟩
theorem more_back {L W W2:List Nat}{v u:Nat}(hW:W.length=L.length)(h:val W+v=val L%v+1000000000^L.length)(S:MoreSt W (dig v) W.length W2 u)(hl:(dig v).length≤W.length):val W2=val L%v:=by
 have e:=S.eq;have hw:=val_lt _ S.all;rw [S.len]at hw;rw [List.take_of_length_le hl,val_dig,h,hW]at e;rw [hW]at hw;have hu:=S.up;have:u=1:=by
  rcases Nat.lt_or_ge 0 u with h|h;·omega
  ·have:u=0:=by omega
   subst this;omega
 subst this;omega
structure LongSt(X v k i:Nat)(R Q:List Nat):Prop where
 len:R.length=Q.length+k
 allR:AllD R
 allQ:AllD Q
 eq:val R+v*val Q=X
 lt:val (R.drop i)<v
 zero: ∀j,j<i→Q.getD j 0=0
theorem LongSt.init {X v k s:Nat}{R:List Nat}(hl:R.length=s+k)(hA:AllD R)(hX:val R=X)(hv:1000000000^(k-1)≤v)(hk:0<k)(h0:R.getD (s+k-1) 0=0):LongSt X v k s R (List.replicate s 0):=by
 refine⟨by simp [hl],hA,all_zeros _,by rw [val_zeros];omega,?_,fun k _=>by rw [List.getD_eq_getElem?_getD,List.getElem?_replicate];split<;>rfl⟩;have h1:val (R.drop s)=val ((R.drop s).take (k-1))+1000000000^(k-1)* (R.drop s).getD (k-1) 0:=by
  rw [←val_take_succ,show k-1+1=k by omega,List.take_of_length_le (by rw [List.length_drop];omega)]
 have h2:(R.drop s).getD (k-1) 0=0:=by
  have e:(R.drop s).getD (k-1) 0=R.getD (s+k-1) 0:=by simp [List.getD_eq_getElem?_getD,List.getElem?_drop,show s+(k-1)=s+k-1 by omega]
  rw [e];exact h0
 have h3:=val_lt _ (all_take (L:=R.drop s) (fun d hd=>hA d (List.mem_of_mem_drop hd)) (k-1));rw [List.length_take,List.length_drop,Nat.min_eq_left (by omega)]at h3;rw [h2]at h1;omega
theorem LongSt.part {X v k i:Nat}{R Q:List Nat}(S:LongSt X v k (i+1) R Q)(hi:i<Q.length)(hv:v<1000000000^k):AllD ((R.drop i).take (k+1))∧((R.drop i).take (k+1)).length=k+1∧val ((R.drop i).take (k+1))=val (R.drop i)∧val ((R.drop i).take (k+1))<1000000000*v:=by
 have hD:AllD (R.drop i):=fun d hd=>S.allR d (List.mem_of_mem_drop hd);have hlen:=S.len;have hlt:=S.lt;have hd:=val_drop R i (by omega);have ha:=getD_lt S.allR i;have h1:val (R.drop i)<1000000000*v:=by omega
 have h2:val ((R.drop i).take (k+1))=val (R.drop i):=by
  rw [val_take_mod _ hD,Nat.mod_eq_of_lt];rw [Nat.pow_succ,Nat.mul_comm (1000000000^k)];omega
 refine⟨all_take hD _,by rw [List.length_take,List.length_drop];omega,h2,by rw [h2];exact h1⟩
def putL(R W:List Nat)(i:Nat):List Nat:=R.take i++(W++R.drop (i+W.length))
theorem length_putL {R W:List Nat}{i:Nat}(h:i+W.length≤R.length):(putL R W i).length=R.length:=by
 unfold putL;simp;omega
theorem all_putL {R W:List Nat}{i:Nat}(h1:AllD R)(h2:AllD W):AllD (putL R W i):=by
 intro d hd;unfold putL at hd;rcases List.mem_append.1 hd with h|h;·exact h1 d (List.mem_of_mem_take h)
 ·rcases List.mem_append.1 h with h|h;·exact h2 d h
  ·exact h1 d (List.mem_of_mem_drop h)
theorem val_cut(R:List Nat)(i:Nat)(h:i≤R.length):val R=val (R.take i)+1000000000^i*val (R.drop i):=by
 conv=>lhs;rw [←List.take_append_drop i R]
 rw [val_append,List.length_take,Nat.min_eq_left h]
theorem drop_putL {R W:List Nat}{i:Nat}(h:i≤R.length):(putL R W i).drop i=W++R.drop (i+W.length):=by
 unfold putL;rw [List.drop_append,List.length_take,Nat.min_eq_left h,Nat.sub_self,List.drop_zero,List.drop_of_length_le (by rw [List.length_take];omega),List.nil_append]
theorem take_putL {R W:List Nat}{i:Nat}(h:i≤R.length):(putL R W i).take i=R.take i:=by
 unfold putL;rw [List.take_append_of_le_length (by rw [List.length_take];omega),List.take_of_length_le (by rw [List.length_take];omega)]
theorem LongSt.next {X v k i:Nat}{R Q W:List Nat}(S:LongSt X v k (i+1) R Q)(hi:i<Q.length)(hv0:0<v)(hv:v<1000000000^k)(hW:W.length=k+1)(hWA:AllD W)(hWv:val W=val ((R.drop i).take (k+1))%v)(q:Nat)(hq:q=val ((R.drop i).take (k+1))/v):
 LongSt X v k i (putL R W i) (Q.set i q)∧q<1000000000:=by
 obtain⟨p1,p2,p3,p4⟩:=S.part hi hv;have hlen:=S.len;have hq9:q<1000000000:=by rw [hq,Nat.div_lt_iff_lt_mul hv0];exact p4
 have hz:val (R.drop (i+(k+1)))=0:=by
  have h1:=val_cut (R.drop i) (k+1) (by rw [List.length_drop];omega);rw [List.drop_drop,p3]at h1;have hP:0<1000000000^(k+1):=Nat.pow_pos (by decide);rcases Nat.eq_zero_or_pos (val (R.drop (i+(k+1))))with h|h;·exact h
  ·have:1000000000^(k+1)*1≤1000000000^(k+1)*val (R.drop (i+(k+1))):=Nat.mul_le_mul_left _ h;omega
 have hd:val ((putL R W i).drop i)=val W:=by
  rw [drop_putL (by omega),val_append,hW,hz,Nat.mul_zero,Nat.add_zero]
 refine⟨⟨by rw [length_putL (by omega),List.length_set];exact hlen,all_putL S.allR hWA,all_set S.allQ hq9,?_,by rw [hd,hWv];exact Nat.mod_lt _ hv0,fun j hj=>by rw [getD_set_ne (by omega)];exact S.zero j (by omega)⟩,hq9⟩;have e:=S.eq;have hs:=val_set Q i q hi;rw [S.zero i (by omega),Nat.mul_zero,Nat.add_zero]at hs;rw [hs,val_cut (putL R W i) i (by rw [length_putL (by omega)];omega),hd,take_putL (by omega)];have h2:=val_cut R i (by omega);have h3:=Nat.div_add_mod (val ((R.drop i).take (k+1))) v;rw [←hq,←hWv,p3]at h3;rw [←e,h2,←h3,Nat.mul_add,Nat.mul_add,Nat.mul_left_comm v];omega
theorem LongSt.done {X v k:Nat}{R Q:List Nat}(S:LongSt X v k 0 R Q):trimL Q=dig (X/v)∧trimL R=dig (X%v):=by
 have e:=S.eq;have hl:=S.lt;rw [List.drop_zero]at hl;have h1:X/v=val Q:=by rw [←e,Nat.add_comm,Nat.mul_add_div (by omega),Nat.div_eq_of_lt hl,Nat.add_zero]
 have h2:X%v=val R:=by rw [←e,Nat.add_comm,Nat.mul_add_mod,Nat.mod_eq_of_lt hl]
 exact⟨by unfold trimL;rw [h1],by unfold trimL;rw [h2]⟩
theorem up_div(x y u:Nat)(hu:0<u):(x*u)/(y*u)=x/y:=Nat.mul_div_mul_right x y hu
theorem up_mod(x y u:Nat)(hu:0<u):((x*u)%(y*u))/u=x%y:=by rw [Nat.mul_mod_mul_right,Nat.mul_div_cancel _ hu]
end Go.Proofs.YtnohcdpnnhmpfaaGreatDoor.NL
namespace Go.Proofs.YtnohcdpnnhmpfaaGreatDoor
def NB(K x:Nat):Prop:= ∃k,k≤K∧x<10^k
namespace NB
variable {K L x y:Nat}
end NB
end Go.Proofs.YtnohcdpnnhmpfaaGreatDoor
