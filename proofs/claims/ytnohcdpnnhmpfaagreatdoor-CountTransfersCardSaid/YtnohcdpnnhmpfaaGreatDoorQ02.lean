/-
  Numbers as lists of their decimal digits, the lowest first: the plain law of the reference's chapter 2. No program in sight.
  Add, Sub, Compare by hand, digit by digit: their plain law. No program in sight.
  Mul and Div by hand: their plain law. No program in sight.
  Numbers as lists of their limbs (base 10^9), the lowest first: the plain law of the reference's chapter 2. No program in sight.
  Add, Sub, Compare by hand, digit by digit: their plain law. No program in sight.
  Mul and Div by hand: their plain law. No program in sight.
  less and more by hand: their plain law. No program in sight.
  Long division, limb by limb, with a guess out of the first limbs: its plain law. No program in sight.
  Numbers of so many decimal digits at most: both rows' lengths.
-/
import Derived.Test.YtnohcdpnnhmpfaaGreatDoorQ01
import Derived.KernelRfl
set_option linter.unusedVariables false
set_option linter.unusedSimpArgs false
namespace Go.Proofs.YtnohcdpnnhmpfaaGreatDoor.ND
def val:List Nat→Nat
 | []=>0
 |d::r=>d+10*val r
def yf(L:List Nat):Prop:= ∀d∈L,d<10
def dig(n:Nat):List Nat:=if h:n=0 then []else(n%10)::dig (n/10)
termination_by n
decreasing_by omega
theorem yP:dig 0= []:=by unfold dig;simp
theorem zt {n:Nat}(h:0<n):dig n=(n%10)::dig (n/10):=by
 conv=>lhs;unfold dig
 rw [dif_neg (by omega)]
theorem yD(n:Nat):val (dig n)=n:=by
 induction n using Nat.strongRecOn with
 |
  ind n ih=>
  by_cases h:n=0;·subst h;rw [yP];rfl
  ·rw [zt (by omega),val,ih (n/10) (by omega)];omega
theorem xu(n:Nat):yf (dig n):=by
 induction n using Nat.strongRecOn with
 |
  ind n ih=>
  by_cases h:n=0;·subst h;rw [yP];intro d hd;cases hd
  ·rw [zt (by omega)];intro d hd;rcases jg.1 hd with rfl|hd;·omega
   ·exact ih (n/10) (by omega) d hd
theorem yx(A B:List Nat):val (A++B)=val A+10^A.length*val B:=by
 induction A with
 |nil=>simp [val]
 |
  cons d r ih=>
  simp only [vU,val,ih,kR,jr,je];rw [kU (10^r.length) 10,ju];omega
theorem JL(L:List Nat)(h:yf L):val L<10^L.length:=by
 induction L with
 |nil=>simp [val]
 |
  cons d r ih=>
  have h1:=ih (fun x hx=>h x (vV _ hx));have h2:=h d (vJ ..);simp only [val,kR,jr];omega
theorem Xl(L:List Nat)(h:yf L)(hn:L= []∨10^(L.length-1)≤val L):L=dig (val L):=by
 induction L with
 |nil=>rw [val,yP]
 |
  cons d r ih=>
  have hd:=h d (vJ ..);have hr:yf r:=fun x hx=>h x (vV _ hx);have hv:10^r.length≤val (d::r):=by
   rcases hn with h0|h0;·cases h0
   ·simpa using h0
  have hpos:0<val (d::r):=jV (Nat.pow_pos (by decide)) hv;rw [zt hpos];have e1:val (d::r)%10=d:=by simp only [val];omega
  have e2:val (d::r)/10=val r:=by simp only [val];omega
  rw [e1,e2,←ih hr];by_cases hr0:r= [];·exact .inl hr0
  ·right;have hl:0<r.length:=qO.2 hr0;have h3:10^r.length=10*10^(r.length-1):=by
    rw [←Nat.pow_succ'];congr 1;omega
   simp only [val]at hv;omega
theorem xw(n k:Nat)(h:n<10^k):(dig n).length≤k:=by
 induction k generalizing n with
 |
  zero=>
  have:n=0:=by simpa using h
  subst this;rw [yP];simp
 |
  succ k ih=>
  by_cases h0:n=0;·subst h0;rw [yP];simp
  ·rw [zt (by omega),kR];have:=ih (n/10) (by rw [jr]at h;omega);omega
theorem Zz {n:Nat}(h:dig n≠ []):10^((dig n).length-1)≤n:=by
 induction n using Nat.strongRecOn with
 |
  ind n ih=>
  by_cases h0:n=0;·subst h0;rw [yP]at h;exact absurd rfl h
  ·rw [zt (by omega)];by_cases h1:dig (n/10)= [];·rw [h1];simp;omega
   ·have h2:=ih (n/10) (by omega) h1;have hl:0<(dig (n/10)).length:=qO.2 h1;have h3:10^(dig (n/10)).length=10*10^((dig (n/10)).length-1):=by
     rw [←Nat.pow_succ'];congr 1;omega
    simp only [kR,vW];omega
def yw(L:List Nat):List Nat:=dig (val L)
theorem Ko(L:List Nat)(k:Nat)(h: ∀i,k≤i→L.getD i 0=0):val (L.take k)=val L:=by
 induction L generalizing k with
 |nil=>simp [val]
 |
  cons d r ih=>
  cases k with
  |
   zero=>
   have h0:d=0:=by simpa using h 0 (jO _)
   have hr:=ih 0 (fun i _=>by simpa using h (i+1) (by omega));simp only [qe,val]at hr ⊢;omega
  |
   succ k=>
   simp only [List.take_succ_cons,val];rw [ih k (fun i hi=>by simpa using h (i+1) (by omega))]
theorem zZ {L:List Nat}(h:yf L)(k:Nat):yf (L.take k):=fun d hd=>h d (qU hd)
theorem KT(L:List Nat)(k:Nat)(h:yf L)(hk:k≤L.length)(h0: ∀i,k≤i→L.getD i 0=0)(hn:k=0∨L.getD (k-1) 0≠0):L.take k=yw L:=by
 unfold yw;rw [←Ko L k h0];refine Xl _ (zZ h k) ?_;rcases hn with rfl|hn;·left;simp
 ·by_cases hk0:k=0;·left;subst hk0;simp
  ·right;obtain⟨j,rfl⟩: ∃j,k=j+1:=⟨k-1,by omega⟩;have hj:j<L.length:=by omega
   rw [jk hj,yx,ja,jX,kL];have e:L.getD j 0=L[j]:=by simp [jW,hj]
   have:L[j]≠0:=by rw [←e];simpa using hn
   rw [show min j L.length=j by omega,vW];simp only [val,Nat.mul_zero,qV];have h1:10^j*1≤10^j*L[j]:=kz _ (by omega);omega
theorem Qi(L:List Nat)(h:yf L)(i:Nat):val (L.take i)=val L%10^i:=by
 have e:=yx (L.take i) (L.drop i);rw [qf]at e;by_cases hi:i≤L.length
 ·rw [jX,kM hi]at e;have hl:=JL _ (zZ h i);rw [jX,kM hi]at hl;rw [e,Nat.add_mul_mod_self_left,kV hl]
 ·rw [jc (by omega)];have hl:=JL _ h;rw [kV (jV hl (kW (by decide) (by omega)))]
theorem xr(L:List Nat)(i:Nat):val (L.take (i+1))=val (L.take i)+10^i*L.getD i 0:=by
 by_cases hi:i<L.length
 ·rw [jk hi,yx,jX,kM (by omega)];simp [val,jW,hi]
 ·rw [jc (by omega),jc (by omega)];simp [jW,hi]
theorem xz {L:List Nat}(h:yf L)(i:Nat):L.getD i 0<10:=by
 rw [jW];cases hq:L[i]? with
 |none=>simp
 |some v=>simp;exact h v (List.mem_of_getElem? hq)
theorem VP {L:List Nat}{d:Nat}(h:yf L)(hd:d<10):yf (L++ [d]):=by
 intro x hx;rcases jh.1 hx with hx|hx;·exact h x hx
 ·have:x=d:=by simpa using hx
  omega
theorem VC(L:List Nat)(d:Nat):val (L++ [d])=val L+10^L.length*d:=by rw [yx];simp [val]
theorem yo {x i:Nat}(h:i<(dig x).length):10^i≤x:=by
 have h0:dig x≠ []:=fun e=>by rw [e]at h;simp at h
 exact jU (kW (by decide) (by omega)) (Zz h0)
theorem xY(x:Nat):x<10^(dig x).length:=by
 have:=JL _ (xu x)
 rwa [yD]at this
structure JT(x y:Nat)(O:List Nat)(u:Nat):Prop where
 all:yf O
 up:u≤1
 eq:val O+10^O.length*u=val ((dig x).take O.length)+val ((dig y).take O.length)
 big:O= []∨10^(O.length-1)≤x+y
theorem JT.init(x y:Nat):JT x y [] 0:=⟨(fun d hd=>by cases hd),by omega,by simp [val],.inl rfl⟩
theorem JT.more {x y u:Nat}{O:List Nat}(S:JT x y O u)(h:O.length<(dig x).length∨O.length<(dig y).length∨0<u):10^O.length≤x+y:=by
 by_cases h1:O.length<(dig x).length;·exact jU (yo h1) (by omega)
 ·by_cases h2:O.length<(dig y).length;·exact jU (yo h2) (by omega)
  ·have hu:u=1:=by have:=S.up;omega
   have e:=S.eq;rw [jc (by omega),jc (by omega),yD,yD,hu]at e;omega
theorem JT.short {x y u:Nat}{O:List Nat}(S:JT x y O u)(h:O.length<(dig x).length∨O.length<(dig y).length∨0<u):O.length≤(dig x).length+(dig y).length:=by
 have h1:=S.more h;have h2:=xY x;have h3:=xY y;have e: ∀a b:Nat,10^a≤10^(a+b):=fun a b=>kW (by decide) (by omega);have e1:=e (dig x).length (dig y).length;have e2:=e (dig y).length (dig x).length;rw [Nat.add_comm (dig y).length]at e2;have h4:10^O.length<10^((dig x).length+(dig y).length+1):=by
  rw [jr];omega
 have:=(Nat.pow_lt_pow_iff_right (by decide:1<10)).1 h4;omega
theorem JT.next {x y u:Nat}{O:List Nat}(S:JT x y O u)(h:O.length<(dig x).length∨O.length<(dig y).length∨0<u):
 JT x y (O++ [((dig x).getD O.length 0+(dig y).getD O.length 0+u)%10]) (((dig x).getD O.length 0+(dig y).getD O.length 0+u)/10):=by
 have ha:=xz (xu x) O.length;have hb:=xz (xu y) O.length;have hu:=S.up;have hm:=S.more h;refine⟨VP S.all (by omega),by omega,?_,.inr (by simpa using hm)⟩;rw [ja,kL,VC,xr,xr];have e:=S.eq;generalize (dig x).getD O.length 0=a at*;generalize (dig y).getD O.length 0=b at*;generalize val ((dig x).take O.length)=p at*;generalize val ((dig y).take O.length)=q at*;rw [jr,ju,qy,←je,Nat.mod_add_div];generalize 10^O.length=t at*;rw [je,je];omega
theorem JT.done {x y:Nat}{O:List Nat}(S:JT x y O 0)(h1: ¬O.length<(dig x).length)(h2: ¬O.length<(dig y).length):O=dig (x+y):=by
 have e:=S.eq;rw [jc (by omega),jc (by omega),yD,yD]at e;have hv:val O=x+y:=by omega
 rw [←hv];exact Xl O S.all (by rw [hv];exact S.big)
structure YL(x y:Nat)(O:List Nat)(d:Nat):Prop where
 all:yf O
 down:d≤1
 eq:val ((dig x).take O.length)+10^O.length*d=val O+val ((dig y).take O.length)
theorem YL.init(x y:Nat):YL x y [] 0:=⟨(fun d hd=>by cases hd),by omega,by simp [val]⟩
theorem YL.next {x y d:Nat}{O:List Nat}(S:YL x y O d)(s d':Nat)(hs:s<10)(hd':d'≤1)(he:(dig x).getD O.length 0+10*d'=s+(dig y).getD O.length 0+d):YL x y (O++ [s]) d':=by
 refine⟨VP S.all hs,hd',?_⟩;rw [ja,kL,VC,xr,xr];have e:=S.eq;generalize (dig x).getD O.length 0=a at*;generalize (dig y).getD O.length 0=b at*;generalize val ((dig x).take O.length)=p at*;generalize val ((dig y).take O.length)=q at*;rw [jr,ju,qy,←je,he];generalize 10^O.length=t at*;rw [je,je];omega
theorem YL.done {x y d:Nat}{O:List Nat}(S:YL x y O d)(h:O.length=(dig x).length)(hyx:y≤x):yw O=dig (x-y):=by
 have e:=S.eq;have hy:val ((dig y).take O.length)=y:=by
  rw [Qi _ (xu y),yD,kV];rw [h];exact qB hyx (xY x)
 have hO:=JL _ S.all;rw [hy,jc (by omega),yD]at e;have hd:d=0:=by
  have:=S.down;rcases jt 0 d with h0|h0
  ·have:d=1:=by omega
   rw [this]at e;omega
  ·omega
 rw [hd]at e;unfold yw;congr 1;omega
def Jd(x y:Nat):Int:=if x<y then -1 else if x=y then 0 else 1
theorem Ve {x y:Nat}(h:x<y):Jd x y= -1:=jR h
theorem Vf {x y:Nat}(h:y<x):Jd x y=1:=by unfold Jd;rw [jT (by omega),jT (by omega)]
theorem YX(x:Nat):Jd x x=0:=by unfold Jd;rw [jT (by omega),jR rfl]
theorem zv {x y:Nat}(h:(dig x).length<(dig y).length):x<y:=jV (xY x) (yo h)
theorem XB(L:List Nat)(j:Nat)(h:j<L.length):val L=val (L.take j)+10^j* (L.getD j 0+10*val (L.drop (j+1))):=by
 have e:=yx (L.take j) (L.drop j);rw [qf,jX,kM (by omega),kh h,val]at e;rw [e];simp [jW,h]
theorem Kw {x y j:Nat}(hx:j<(dig x).length)(hy:j<(dig y).length)(hd:(dig x).drop (j+1)=(dig y).drop (j+1))(hl:(dig x).getD j 0<(dig y).getD j 0):x<y:=by
 have e1:=XB (dig x) j hx;have e2:=XB (dig y) j hy;have hlt:=JL _ (zZ (xu x) j);rw [jX,kM (by omega)]at hlt;rw [yD]at e1 e2;rw [hd]at e1;generalize val ((dig y).drop (j+1))=r at*;generalize (dig x).getD j 0=a at*;generalize (dig y).getD j 0=b at*;generalize val ((dig x).take j)=p at*;generalize val ((dig y).take j)=q at*;have h3:10^j* (a+10*r)+10^j≤10^j* (b+10*r):=by
  have:10^j* ((a+10*r)+1)≤10^j* (b+10*r):=kz _ (by omega)
  rwa [je,qG]at this
 omega
theorem Zx {A B:List Nat}{j:Nat}(hA:j<A.length)(hB:j<B.length)(h:A.drop (j+1)=B.drop (j+1))(hd:A.getD j 0=B.getD j 0):A.drop j=B.drop j:=by
 rw [kh hA,kh hB,h];congr 1;simpa [jW,hA,hB] using hd
theorem Zw {x y:Nat}(h:dig x=dig y):x=y:=by rw [←yD x,←yD y,h]
theorem VU(L:List Nat)(k d:Nat)(hk:k<L.length):val (L.set k d)+10^k*L.getD k 0=val L+10^k*d:=by
 induction L generalizing k with
 |nil=>simp at hk
 |
  cons a r ih=>
  cases k with
  |zero=>simp [val];omega
  |
   succ k=>
   have:=ih k (by simpa using hk);simp only [List.set_cons_succ,val,List.getD_cons_succ,jr];rw [kU (10^k) 10,ju,ju];omega
theorem Kt {L:List Nat}{k d:Nat}(h:yf L)(hd:d<10):yf (L.set k d):=by
 intro x hx;rcases vv hx with hx|rfl;·exact h x hx
 ·exact hd
theorem getD_set_ne {L:List Nat}{k i d:Nat}(h:k≠i):(L.set k d).getD i 0=L.getD i 0:=by
 simp [jW,vS h]
theorem XA(n:Nat):val (List.replicate n 0)=0:=by
 induction n with
 |zero=>rfl
 |succ n ih=>rw [List.replicate_succ,val,ih]
theorem Kk(n:Nat):yf (List.replicate n 0):=by
 intro x hx;have:=List.eq_of_mem_replicate hx;omega
structure KO(x y i:Nat)(W:List Nat):Prop where
 len:W.length=(dig x).length+(dig y).length
 all:yf W
 eq:val W=val ((dig x).take i)*y
 zero: ∀k,i+(dig y).length≤k→W.getD k 0=0
structure Qa(x y i j:Nat)(W:List Nat)(u:Nat):Prop where
 len:W.length=(dig x).length+(dig y).length
 all:yf W
 up:u<10
 eq:val W+10^(i+j)*u=val ((dig x).take i)*y+10^i* (dig x).getD i 0*val ((dig y).take j)
 zero: ∀k,i+(dig y).length≤k→W.getD k 0=0
theorem KO.init(x y:Nat):KO x y 0 (List.replicate ((dig x).length+(dig y).length) 0):=by
 refine⟨by simp,Kk _,by simp [XA,val],fun k _=>?_⟩;rw [jW,qX];split<;>rfl
theorem KO.row {x y i:Nat}{W:List Nat}(S:KO x y i W):Qa x y i 0 W 0:=⟨S.len,S.all,by omega,by simp [val,S.eq],S.zero⟩
theorem Qa.next {x y i j u:Nat}{W:List Nat}(S:Qa x y i j W u)(hi:i<(dig x).length)(hj:j<(dig y).length):
 Qa x y i (j+1) (W.set (i+j) ((W.getD (i+j) 0+(dig x).getD i 0* (dig y).getD j 0+u)%10)) ((W.getD (i+j) 0+(dig x).getD i 0* (dig y).getD j 0+u)/10):=by
 have ha:=xz (xu x) i;have hb:=xz (xu y) j;have hw:=xz S.all (i+j);have hu:=S.up;have hab:(dig x).getD i 0* (dig y).getD j 0≤9*9:=qH (by omega) (by omega);have hk:i+j<W.length:=by rw [S.len];omega
 refine⟨by rw [kD];exact S.len,Kt S.all (by omega),by omega,?_,fun k hk2=>by rw [getD_set_ne (by omega)];exact S.zero k hk2⟩;have e:=S.eq;have es:=VU W (i+j) ((W.getD (i+j) 0+(dig x).getD i 0* (dig y).getD j 0+u)%10) hk;rw [xr];generalize (dig x).getD i 0=a at*;generalize (dig y).getD j 0=b at*;generalize W.getD (i+j) 0=c at*;generalize val (W.set (i+j) ((c+a*b+u)%10))=v2 at*;generalize val W=v at*;generalize val ((dig y).take j)=q at*;generalize val ((dig x).take i)*y=p at*;generalize hs:c+a*b+u=s at*;have e3:10^i*a* (q+10^j*b)=10^i*a*q+10^(i+j)* (a*b):=by
  rw [je,qq];congr 1;rw [ju,ju,qg a (10^j) b]
 rw [e3,←qy i j 1,jr];generalize 10^i*a*q=m at*;have e4:10^(i+j)*s=10^(i+j)* (s%10)+10^(i+j)*10* (s/10):=by
  rw [ju,←je,Nat.mod_add_div]
 rw [←hs]at e4;rw [je,je]at e4;rw [hs]at e4;generalize 10^(i+j)* (a*b)=t1 at*;generalize 10^(i+j)*c=t2 at*;generalize 10^(i+j)*u=t3 at*;generalize 10^(i+j)* (s%10)=t4 at*;generalize 10^(i+j)*10* (s/10)=t5 at*;omega
theorem Qa.done {x y i u:Nat}{W:List Nat}(S:Qa x y i (dig y).length W u)(hi:i<(dig x).length):KO x y (i+1) (W.set (i+(dig y).length) u):=by
 have hk:i+(dig y).length<W.length:=by rw [S.len];omega
 refine⟨by rw [kD];exact S.len,Kt S.all S.up,?_,fun k hk2=>by rw [getD_set_ne (by omega)];exact S.zero k (by omega)⟩;have e:=S.eq;have es:=VU W (i+(dig y).length) u hk;rw [S.zero _ (jO _),Nat.mul_zero,qV]at es;rw [jc (jO _),yD]at e;rw [es,e,xr,qL]
theorem KO.done {x y:Nat}{W:List Nat}(S:KO x y (dig x).length W):yw W=dig (x*y):=by
 have e:=S.eq;rw [jc (jO _),yD]at e;unfold yw;rw [e]
structure Ji(x y k:Nat)(Q:List Nat)(r:Nat):Prop where
 len:Q.length=(dig x).length
 all:yf Q
 lt:r<y
 eq:val ((dig x).drop k)=y*val (Q.drop k)+r
 zero: ∀i,i<k→Q.getD i 0=0
structure XS(x y i:Nat)(Q:List Nat)(r:Nat):Prop where
 len:Q.length=(dig x).length
 all:yf Q
 lt:y*Q.getD i 0+r<10*y
 eq:val ((dig x).drop i)=y*val (Q.drop i)+r
 zero: ∀j,j<i→Q.getD j 0=0
theorem Ji.init(x y:Nat)(hy:0<y):Ji x y (dig x).length (List.replicate (dig x).length 0) 0:=by
 refine⟨by simp,Kk _,hy,?_,fun k _=>?_⟩;·rw [qI (jO _),qI (by simp)];simp [val]
 ·rw [jW,qX];split<;>rfl
theorem Ku(L:List Nat)(i:Nat)(h:i<L.length):val (L.drop i)=L.getD i 0+10*val (L.drop (i+1)):=by
 rw [kh h,val];simp [jW,h]
theorem Ji.digit {x y i r:Nat}{Q:List Nat}(S:Ji x y (i+1) Q r)(hi:i<(dig x).length):XS x y i Q ((dig x).getD i 0+10*r):=by
 have hz:=S.zero i (by omega);have ha:=xz (xu x) i;have hl:=S.lt;refine⟨S.len,S.all,by rw [hz];omega,?_,fun j hj=>S.zero j (by omega)⟩;rw [Ku _ i hi,Ku Q i (by rw [S.len];exact hi),hz,S.eq,js,je,←ju,←ju,kU 10 y];omega
theorem XS.next {x y i r:Nat}{Q:List Nat}(S:XS x y i Q r)(hi:i<(dig x).length)(h:y≤r):XS x y i (Q.set i (Q.getD i 0+1)) (r-y)∧Q.getD i 0+1<10:=by
 have hl:=S.lt;have hq:Q.getD i 0+1<10:=by
  have h2:y* (Q.getD i 0+1)<y*10:=by rw [je,qG];omega
  exact vX h2
 have hik:i<Q.length:=by rw [S.len];exact hi
 have e1:(Q.set i (Q.getD i 0+1)).getD i 0=Q.getD i 0+1:=by simp [jW,hik]
 refine⟨⟨by rw [kD];exact S.len,Kt S.all hq,?_,?_,fun j hj=>by rw [getD_set_ne (by omega)];exact S.zero j hj⟩,hq⟩;·rw [e1,je,qG];omega
 ·have e:=S.eq;rw [Ku Q i hik]at e;rw [Ku (Q.set i (Q.getD i 0+1)) i (by rw [kD];exact hik),e1,List.drop_set_of_lt (by omega)];rw [je]at e ⊢;rw [je,qG];omega
theorem XS.done {x y i r:Nat}{Q:List Nat}(S:XS x y i Q r)(h:r<y):Ji x y i Q r:=⟨S.len,S.all,h,S.eq,S.zero⟩
theorem Ji.done {x y r:Nat}{Q:List Nat}(S:Ji x y 0 Q r):yw Q=dig (x/y)∧r=x%y:=by
 have e:=S.eq;have hl:=S.lt;rw [jH,jH,yD]at e;have h1:x/y=val Q:=by rw [e,Nat.mul_add_div (by omega),Nat.div_eq_of_lt hl,qV]
 have h2:x%y=r:=by rw [e,Nat.mul_add_mod,kV hl]
 exact⟨by unfold yw;rw [h1],h2.symm⟩
theorem jbU(d r:Nat)(hd:d<10):yf (d::dig r)∧yw (d::dig r)=dig (d+10*r):=by
 refine⟨?_,by unfold yw;rw [val,yD]⟩;intro x hx;rcases jg.1 hx with rfl|hx;·exact hd
 ·exact xu r x hx
end Go.Proofs.YtnohcdpnnhmpfaaGreatDoor.ND
namespace Go.Proofs.YtnohcdpnnhmpfaaGreatDoor.NL
def val:List Nat→Nat
 | []=>0
 |d::r=>d+1000000000*val r
def yf(L:List Nat):Prop:= ∀d∈L,d<1000000000
def dig(n:Nat):List Nat:=if h:n=0 then []else(n%1000000000)::dig (n/1000000000)
termination_by n
decreasing_by omega
theorem yP:dig 0= []:=by unfold dig;simp
theorem zt {n:Nat}(h:0<n):dig n=(n%1000000000)::dig (n/1000000000):=by
 conv=>lhs;unfold dig
 rw [dif_neg (by omega)]
theorem yD(n:Nat):val (dig n)=n:=by
 induction n using Nat.strongRecOn with
 |
  ind n ih=>
  by_cases h:n=0;·subst h;rw [yP];rfl
  ·rw [zt (by omega),val,ih (n/1000000000) (by omega)];omega
theorem xu(n:Nat):yf (dig n):=by
 induction n using Nat.strongRecOn with
 |
  ind n ih=>
  by_cases h:n=0;·subst h;rw [yP];intro d hd;cases hd
  ·rw [zt (by omega)];intro d hd;rcases jg.1 hd with rfl|hd;·omega
   ·exact ih (n/1000000000) (by omega) d hd
theorem yx(A B:List Nat):val (A++B)=val A+1000000000^A.length*val B:=by
 induction A with
 |nil=>simp [val]
 |
  cons d r ih=>
  simp only [vU,val,ih,kR,jr,je];rw [kU (1000000000^r.length) 1000000000,ju];omega
theorem JL(L:List Nat)(h:yf L):val L<1000000000^L.length:=by
 induction L with
 |nil=>simp [val]
 |
  cons d r ih=>
  have h1:=ih (fun x hx=>h x (vV _ hx));have h2:=h d (vJ ..);simp only [val,kR,jr];omega
theorem Xl(L:List Nat)(h:yf L)(hn:L= []∨1000000000^(L.length-1)≤val L):L=dig (val L):=by
 induction L with
 |nil=>rw [val,yP]
 |
  cons d r ih=>
  have hd:=h d (vJ ..);have hr:yf r:=fun x hx=>h x (vV _ hx);have hv:1000000000^r.length≤val (d::r):=by
   rcases hn with h0|h0;·cases h0
   ·simpa using h0
  have hpos:0<val (d::r):=jV (Nat.pow_pos (by decide)) hv;rw [zt hpos];have e1:val (d::r)%1000000000=d:=by simp only [val];omega
  have e2:val (d::r)/1000000000=val r:=by simp only [val];omega
  rw [e1,e2,←ih hr];by_cases hr0:r= [];·exact .inl hr0
  ·right;have hl:0<r.length:=qO.2 hr0;have h3:1000000000^r.length=1000000000*1000000000^(r.length-1):=by
    rw [←Nat.pow_succ'];congr 1;omega
   simp only [val]at hv;omega
theorem xw(n k:Nat)(h:n<1000000000^k):(dig n).length≤k:=by
 induction k generalizing n with
 |
  zero=>
  have:n=0:=by simpa using h
  subst this;rw [yP];simp
 |
  succ k ih=>
  by_cases h0:n=0;·subst h0;rw [yP];simp
  ·rw [zt (by omega),kR];have:=ih (n/1000000000) (by rw [jr]at h;omega);omega
theorem Zz {n:Nat}(h:dig n≠ []):1000000000^((dig n).length-1)≤n:=by
 induction n using Nat.strongRecOn with
 |
  ind n ih=>
  by_cases h0:n=0;·subst h0;rw [yP]at h;exact absurd rfl h
  ·rw [zt (by omega)];by_cases h1:dig (n/1000000000)= [];·rw [h1];simp;omega
   ·have h2:=ih (n/1000000000) (by omega) h1;have hl:0<(dig (n/1000000000)).length:=qO.2 h1;have h3:1000000000^(dig (n/1000000000)).length=1000000000*1000000000^((dig (n/1000000000)).length-1):=by
     rw [←Nat.pow_succ'];congr 1;omega
    simp only [kR,vW];omega
def yw(L:List Nat):List Nat:=dig (val L)
theorem Ko(L:List Nat)(k:Nat)(h: ∀i,k≤i→L.getD i 0=0):val (L.take k)=val L:=by
 induction L generalizing k with
 |nil=>simp [val]
 |
  cons d r ih=>
  cases k with
  |
   zero=>
   have h0:d=0:=by simpa using h 0 (jO _)
   have hr:=ih 0 (fun i _=>by simpa using h (i+1) (by omega));simp only [qe,val]at hr ⊢;omega
  |
   succ k=>
   simp only [List.take_succ_cons,val];rw [ih k (fun i hi=>by simpa using h (i+1) (by omega))]
theorem zZ {L:List Nat}(h:yf L)(k:Nat):yf (L.take k):=fun d hd=>h d (qU hd)
theorem KT(L:List Nat)(k:Nat)(h:yf L)(hk:k≤L.length)(h0: ∀i,k≤i→L.getD i 0=0)(hn:k=0∨L.getD (k-1) 0≠0):L.take k=yw L:=by
 unfold yw;rw [←Ko L k h0];refine Xl _ (zZ h k) ?_;rcases hn with rfl|hn;·left;simp
 ·by_cases hk0:k=0;·left;subst hk0;simp
  ·right;obtain⟨j,rfl⟩: ∃j,k=j+1:=⟨k-1,by omega⟩;have hj:j<L.length:=by omega
   rw [jk hj,yx,ja,jX,kL];have e:L.getD j 0=L[j]:=by simp [jW,hj]
   have:L[j]≠0:=by rw [←e];simpa using hn
   rw [show min j L.length=j by omega,vW];simp only [val,Nat.mul_zero,qV];have h1:1000000000^j*1≤1000000000^j*L[j]:=kz _ (by omega);omega
theorem Qi(L:List Nat)(h:yf L)(i:Nat):val (L.take i)=val L%1000000000^i:=by
 have e:=yx (L.take i) (L.drop i);rw [qf]at e;by_cases hi:i≤L.length
 ·rw [jX,kM hi]at e;have hl:=JL _ (zZ h i);rw [jX,kM hi]at hl;rw [e,Nat.add_mul_mod_self_left,kV hl]
 ·rw [jc (by omega)];have hl:=JL _ h;rw [kV (jV hl (kW (by decide) (by omega)))]
theorem xr(L:List Nat)(i:Nat):val (L.take (i+1))=val (L.take i)+1000000000^i*L.getD i 0:=by
 by_cases hi:i<L.length
 ·rw [jk hi,yx,jX,kM (by omega)];simp [val,jW,hi]
 ·rw [jc (by omega),jc (by omega)];simp [jW,hi]
theorem xz {L:List Nat}(h:yf L)(i:Nat):L.getD i 0<1000000000:=by
 rw [jW];cases hq:L[i]? with
 |none=>simp
 |some v=>simp;exact h v (List.mem_of_getElem? hq)
theorem VP {L:List Nat}{d:Nat}(h:yf L)(hd:d<1000000000):yf (L++ [d]):=by
 intro x hx;rcases jh.1 hx with hx|hx;·exact h x hx
 ·have:x=d:=by simpa using hx
  omega
theorem VC(L:List Nat)(d:Nat):val (L++ [d])=val L+1000000000^L.length*d:=by rw [yx];simp [val]
theorem yo {x i:Nat}(h:i<(dig x).length):1000000000^i≤x:=by
 have h0:dig x≠ []:=fun e=>by rw [e]at h;simp at h
 exact jU (kW (by decide) (by omega)) (Zz h0)
theorem xY(x:Nat):x<1000000000^(dig x).length:=by
 have:=JL _ (xu x)
 rwa [yD]at this
structure JT(x y:Nat)(O:List Nat)(u:Nat):Prop where
 all:yf O
 up:u≤1
 eq:val O+1000000000^O.length*u=val ((dig x).take O.length)+val ((dig y).take O.length)
 big:O= []∨1000000000^(O.length-1)≤x+y
theorem JT.init(x y:Nat):JT x y [] 0:=⟨(fun d hd=>by cases hd),by omega,by simp [val],.inl rfl⟩
theorem JT.more {x y u:Nat}{O:List Nat}(S:JT x y O u)(h:O.length<(dig x).length∨O.length<(dig y).length∨0<u):1000000000^O.length≤x+y:=by
 by_cases h1:O.length<(dig x).length;·exact jU (yo h1) (by omega)
 ·by_cases h2:O.length<(dig y).length;·exact jU (yo h2) (by omega)
  ·have hu:u=1:=by have:=S.up;omega
   have e:=S.eq;rw [jc (by omega),jc (by omega),yD,yD,hu]at e;omega
theorem JT.next {x y u:Nat}{O:List Nat}(S:JT x y O u)(h:O.length<(dig x).length∨O.length<(dig y).length∨0<u):
 JT x y (O++ [((dig x).getD O.length 0+(dig y).getD O.length 0+u)%1000000000]) (((dig x).getD O.length 0+(dig y).getD O.length 0+u)/1000000000):=by
 have ha:=xz (xu x) O.length;have hb:=xz (xu y) O.length;have hu:=S.up;have hm:=S.more h;refine⟨VP S.all (by omega),by omega,?_,.inr (by simpa using hm)⟩;rw [ja,kL,VC,xr,xr];have e:=S.eq;generalize (dig x).getD O.length 0=a at*;generalize (dig y).getD O.length 0=b at*;generalize val ((dig x).take O.length)=p at*;generalize val ((dig y).take O.length)=q at*;rw [jr,ju,qy,←je,Nat.mod_add_div];generalize 1000000000^O.length=t at*;rw [je,je];omega
structure YL(x y:Nat)(O:List Nat)(d:Nat):Prop where
 all:yf O
 down:d≤1
 eq:val ((dig x).take O.length)+1000000000^O.length*d=val O+val ((dig y).take O.length)
def Jd(x y:Nat):Int:=if x<y then -1 else if x=y then 0 else 1
theorem Ve {x y:Nat}(h:x<y):Jd x y= -1:=jR h
theorem Vf {x y:Nat}(h:y<x):Jd x y=1:=by unfold Jd;rw [jT (by omega),jT (by omega)]
theorem YX(x:Nat):Jd x x=0:=by unfold Jd;rw [jT (by omega),jR rfl]
theorem zv {x y:Nat}(h:(dig x).length<(dig y).length):x<y:=jV (xY x) (yo h)
theorem XB(L:List Nat)(j:Nat)(h:j<L.length):val L=val (L.take j)+1000000000^j* (L.getD j 0+1000000000*val (L.drop (j+1))):=by
 have e:=yx (L.take j) (L.drop j);rw [qf,jX,kM (by omega),kh h,val]at e;rw [e];simp [jW,h]
theorem Kw {x y j:Nat}(hx:j<(dig x).length)(hy:j<(dig y).length)(hd:(dig x).drop (j+1)=(dig y).drop (j+1))(hl:(dig x).getD j 0<(dig y).getD j 0):x<y:=by
 have e1:=XB (dig x) j hx;have e2:=XB (dig y) j hy;have hlt:=JL _ (zZ (xu x) j);rw [jX,kM (by omega)]at hlt;rw [yD]at e1 e2;rw [hd]at e1;generalize val ((dig y).drop (j+1))=r at*;generalize (dig x).getD j 0=a at*;generalize (dig y).getD j 0=b at*;generalize val ((dig x).take j)=p at*;generalize val ((dig y).take j)=q at*;have h3:1000000000^j* (a+1000000000*r)+1000000000^j≤1000000000^j* (b+1000000000*r):=by
  have:1000000000^j* ((a+1000000000*r)+1)≤1000000000^j* (b+1000000000*r):=kz _ (by omega)
  rwa [je,qG]at this
 omega
theorem Zx {A B:List Nat}{j:Nat}(hA:j<A.length)(hB:j<B.length)(h:A.drop (j+1)=B.drop (j+1))(hd:A.getD j 0=B.getD j 0):A.drop j=B.drop j:=by
 rw [kh hA,kh hB,h];congr 1;simpa [jW,hA,hB] using hd
theorem Zw {x y:Nat}(h:dig x=dig y):x=y:=by rw [←yD x,←yD y,h]
theorem VU(L:List Nat)(k d:Nat)(hk:k<L.length):val (L.set k d)+1000000000^k*L.getD k 0=val L+1000000000^k*d:=by
 induction L generalizing k with
 |nil=>simp at hk
 |
  cons a r ih=>
  cases k with
  |zero=>simp [val];omega
  |
   succ k=>
   have:=ih k (by simpa using hk);simp only [List.set_cons_succ,val,List.getD_cons_succ,jr];rw [kU (1000000000^k) 1000000000,ju,ju];omega
theorem Kt {L:List Nat}{k d:Nat}(h:yf L)(hd:d<1000000000):yf (L.set k d):=by
 intro x hx;rcases vv hx with hx|rfl;·exact h x hx
 ·exact hd
theorem getD_set_ne {L:List Nat}{k i d:Nat}(h:k≠i):(L.set k d).getD i 0=L.getD i 0:=by
 simp [jW,vS h]
theorem XA(n:Nat):val (List.replicate n 0)=0:=by
 induction n with
 |zero=>rfl
 |succ n ih=>rw [List.replicate_succ,val,ih]
theorem Kk(n:Nat):yf (List.replicate n 0):=by
 intro x hx;have:=List.eq_of_mem_replicate hx;omega
structure KO(x y i:Nat)(W:List Nat):Prop where
 len:W.length=(dig x).length+(dig y).length
 all:yf W
 eq:val W=val ((dig x).take i)*y
 zero: ∀k,i+(dig y).length≤k→W.getD k 0=0
structure Qa(x y i j:Nat)(W:List Nat)(u:Nat):Prop where
 len:W.length=(dig x).length+(dig y).length
 all:yf W
 up:u<1000000000
 eq:val W+1000000000^(i+j)*u=val ((dig x).take i)*y+1000000000^i* (dig x).getD i 0*val ((dig y).take j)
 zero: ∀k,i+(dig y).length≤k→W.getD k 0=0
theorem KO.init(x y:Nat):KO x y 0 (List.replicate ((dig x).length+(dig y).length) 0):=by
 refine⟨by simp,Kk _,by simp [XA,val],fun k _=>?_⟩;rw [jW,qX];split<;>rfl
theorem KO.row {x y i:Nat}{W:List Nat}(S:KO x y i W):Qa x y i 0 W 0:=⟨S.len,S.all,by omega,by simp [val,S.eq],S.zero⟩
theorem Qa.next {x y i j u:Nat}{W:List Nat}(S:Qa x y i j W u)(hi:i<(dig x).length)(hj:j<(dig y).length):
 Qa x y i (j+1) (W.set (i+j) ((W.getD (i+j) 0+(dig x).getD i 0* (dig y).getD j 0+u)%1000000000)) ((W.getD (i+j) 0+(dig x).getD i 0* (dig y).getD j 0+u)/1000000000):=by
 have ha:=xz (xu x) i;have hb:=xz (xu y) j;have hw:=xz S.all (i+j);have hu:=S.up;have hab:(dig x).getD i 0* (dig y).getD j 0≤999999999*999999999:=qH (by omega) (by omega);have hk:i+j<W.length:=by rw [S.len];omega
 refine⟨by rw [kD];exact S.len,Kt S.all (by omega),by omega,?_,fun k hk2=>by rw [getD_set_ne (by omega)];exact S.zero k hk2⟩;have e:=S.eq;have es:=VU W (i+j) ((W.getD (i+j) 0+(dig x).getD i 0* (dig y).getD j 0+u)%1000000000) hk;rw [xr];generalize (dig x).getD i 0=a at*;generalize (dig y).getD j 0=b at*;generalize W.getD (i+j) 0=c at*;generalize val (W.set (i+j) ((c+a*b+u)%1000000000))=v2 at*;generalize val W=v at*;generalize val ((dig y).take j)=q at*;generalize val ((dig x).take i)*y=p at*;generalize hs:c+a*b+u=s at*;have e3:1000000000^i*a* (q+1000000000^j*b)=1000000000^i*a*q+1000000000^(i+j)* (a*b):=by
  rw [je,qq];congr 1;rw [ju,ju,qg a (1000000000^j) b]
 rw [e3,←qy i j 1,jr];generalize 1000000000^i*a*q=m at*;have e4:1000000000^(i+j)*s=1000000000^(i+j)* (s%1000000000)+1000000000^(i+j)*1000000000* (s/1000000000):=by
  rw [ju,←je,Nat.mod_add_div]
 rw [←hs]at e4;rw [je,je]at e4;rw [hs]at e4;generalize 1000000000^(i+j)* (a*b)=t1 at*;generalize 1000000000^(i+j)*c=t2 at*;generalize 1000000000^(i+j)*u=t3 at*;generalize 1000000000^(i+j)* (s%1000000000)=t4 at*;generalize 1000000000^(i+j)*1000000000* (s/1000000000)=t5 at*;omega
theorem Qa.done {x y i u:Nat}{W:List Nat}(S:Qa x y i (dig y).length W u)(hi:i<(dig x).length):KO x y (i+1) (W.set (i+(dig y).length) u):=by
 have hk:i+(dig y).length<W.length:=by rw [S.len];omega
 refine⟨by rw [kD];exact S.len,Kt S.all S.up,?_,fun k hk2=>by rw [getD_set_ne (by omega)];exact S.zero k (by omega)⟩;have e:=S.eq;have es:=VU W (i+(dig y).length) u hk;rw [S.zero _ (jO _),Nat.mul_zero,qV]at es;rw [jc (jO _),yD]at e;rw [es,e,xr,qL]
theorem KO.done {x y:Nat}{W:List Nat}(S:KO x y (dig x).length W):yw W=dig (x*y):=by
 have e:=S.eq;rw [jc (jO _),yD]at e;unfold yw;rw [e]
structure Ji(x y k:Nat)(Q:List Nat)(r:Nat):Prop where
 len:Q.length=(dig x).length
 all:yf Q
 lt:r<y
 eq:val ((dig x).drop k)=y*val (Q.drop k)+r
 zero: ∀i,i<k→Q.getD i 0=0
structure XS(x y i:Nat)(Q:List Nat)(r:Nat):Prop where
 len:Q.length=(dig x).length
 all:yf Q
 lt:y*Q.getD i 0+r<1000000000*y
 eq:val ((dig x).drop i)=y*val (Q.drop i)+r
 zero: ∀j,j<i→Q.getD j 0=0
theorem Ji.init(x y:Nat)(hy:0<y):Ji x y (dig x).length (List.replicate (dig x).length 0) 0:=by
 refine⟨by simp,Kk _,hy,?_,fun k _=>?_⟩;·rw [qI (jO _),qI (by simp)];simp [val]
 ·rw [jW,qX];split<;>rfl
theorem Ku(L:List Nat)(i:Nat)(h:i<L.length):val (L.drop i)=L.getD i 0+1000000000*val (L.drop (i+1)):=by
 rw [kh h,val];simp [jW,h]
theorem Ji.done {x y r:Nat}{Q:List Nat}(S:Ji x y 0 Q r):yw Q=dig (x/y)∧r=x%y:=by
 have e:=S.eq;have hl:=S.lt;rw [jH,jH,yD]at e;have h1:x/y=val Q:=by rw [e,Nat.mul_add_div (by omega),Nat.div_eq_of_lt hl,qV]
 have h2:x%y=r:=by rw [e,Nat.mul_add_mod,kV hl]
 exact⟨by unfold yw;rw [h1],h2.symm⟩
structure KP(L M:List Nat)(k:Nat)(W:List Nat)(d:Nat):Prop where
 len:W.length=L.length
 all:yf W
 down:d≤1
 eq:val W+val (M.take k)=val L+1000000000^k*d
theorem KP.init {L:List Nat}(M:List Nat)(h:yf L):KP L M 0 L 0:=⟨rfl,h,by omega,by simp [val]⟩
theorem KP.next {L M W:List Nat}{k d:Nat}(S:KP L M k W d)(hk:k<L.length)(s d':Nat)(hs:s<1000000000)(hd:d'≤1)(he:W.getD k 0+1000000000*d'=s+M.getD k 0+d):KP L M (k+1) (W.set k s) d':=by
 refine⟨by rw [kD];exact S.len,Kt S.all hs,hd,?_⟩;have e:=S.eq;have es:=VU W k s (by rw [S.len];exact hk);rw [xr,jr,ju];generalize W.getD k 0=a at*;generalize M.getD k 0=b at*;have e2:1000000000^k*a+1000000000^k* (1000000000*d')=1000000000^k*s+1000000000^k*b+1000000000^k*d:=by
  rw [←je,←je,←je,he]
 generalize 1000000000^k* (1000000000*d')=t1 at*;generalize 1000000000^k*a=t2 at*;generalize 1000000000^k*b=t3 at*;generalize 1000000000^k*s=t4 at*;generalize 1000000000^k*d=t5 at*;omega
structure Vj(L M W:List Nat)(d:Nat):Prop where
 len:W.length=L.length
 all:yf W
 down:d≤1
 eq:val W+val (M.take L.length)=val L+1000000000^L.length*d
theorem KP.done {L M W:List Nat}{d:Nat}(S:KP L M L.length W d):Vj L M W d:=⟨S.len,S.all,S.down,S.eq⟩
theorem KP.stop {L M W:List Nat}{k:Nat}(S:KP L M k W 0)(hk:k≤L.length)(hM:M.length≤k):Vj L M W 0:=by
 refine⟨S.len,S.all,by omega,?_⟩;have e:=S.eq;rw [jc hM]at e;rw [jc (by omega)];simpa using e
theorem Vj.sub {x y d:Nat}{W:List Nat}(S:Vj (dig x) (dig y) W d)(hyx:y≤x):yw W=dig (x-y):=by
 have e:=S.eq;have hy:val ((dig y).take (dig x).length)=y:=by
  rw [Qi _ (xu y),yD,kV];exact qB hyx (xY x)
 have hO:=JL _ S.all;rw [S.len]at hO;rw [hy,yD]at e;have hd:d=0:=by
  have:=S.down;rcases jt 0 d with h0|h0
  ·have h1:d=1:=by omega
   rw [h1]at e;omega
  ·omega
 rw [hd]at e;unfold yw;congr 1;omega
structure Vv(L M:List Nat)(k:Nat)(W:List Nat)(u:Nat):Prop where
 len:W.length=L.length
 all:yf W
 up:u≤1
 eq:val W+1000000000^k*u=val L+val (M.take k)
theorem Vv.init {L:List Nat}(M:List Nat)(h:yf L):Vv L M 0 L 0:=⟨rfl,h,by omega,by simp [val]⟩
theorem Vv.next {L M W:List Nat}{k u:Nat}(S:Vv L M k W u)(hM:yf M)(hk:k<L.length):Vv L M (k+1) (W.set k ((W.getD k 0+u+M.getD k 0)%1000000000)) ((W.getD k 0+u+M.getD k 0)/1000000000):=by
 have ha:=xz S.all k;have hb:=xz hM k;have hu:=S.up;refine⟨by rw [kD];exact S.len,Kt S.all (by omega),by omega,?_⟩;have e:=S.eq;have es:=VU W k ((W.getD k 0+u+M.getD k 0)%1000000000) (by rw [S.len];exact hk);rw [xr,jr,ju];generalize W.getD k 0=a at*;generalize M.getD k 0=b at*;have e2:1000000000^k*a+1000000000^k*u+1000000000^k*b=1000000000^k* ((a+u+b)%1000000000)+1000000000^k* (1000000000* ((a+u+b)/1000000000)):=by
  rw [←je,←je,←je,Nat.mod_add_div]
 generalize 1000000000^k* (1000000000* ((a+u+b)/1000000000))=t1 at*;generalize 1000000000^k*a=t2 at*;generalize 1000000000^k*b=t3 at*;generalize 1000000000^k* ((a+u+b)%1000000000)=t4 at*;generalize 1000000000^k*u=t5 at*;omega
structure Jo(x b:Nat)(O:List Nat)(u:Nat):Prop where
 all:yf O
 up:u<1000000000
 eq:val O+1000000000^O.length*u=val ((dig x).take O.length)*b
theorem Jo.init(x b:Nat):Jo x b [] 0:=⟨(fun d hd=>by cases hd),by omega,by simp [val]⟩
theorem Jo.bound {x b u:Nat}{O:List Nat}(S:Jo x b O u)(hb:b<1000000000)(a:Nat)(ha:a<1000000000):u+a*b<1000000000000000000:=by
 have hu:=S.up;have:a*b≤999999999*999999999:=qH (by omega) (by omega);omega
theorem Jo.next {x b u:Nat}{O:List Nat}(S:Jo x b O u)(hb:b<1000000000)(h:O.length<(dig x).length):
 Jo x b (O++ [(u+(dig x).getD O.length 0*b)%1000000000]) ((u+(dig x).getD O.length 0*b)/1000000000):=by
 have ha:=xz (xu x) O.length;have hB:=S.bound hb _ ha;refine⟨VP S.all (qC _ (by decide)),by omega,?_⟩;have e:=S.eq;rw [VC,ja,kL,xr,jr,ju];generalize (dig x).getD O.length 0=a at*;rw [qL,←e,qy,←je,Nat.mod_add_div,je,ju];omega
theorem Jo.done {x b u:Nat}{O:List Nat}(S:Jo x b O u)(h:(dig x).length≤O.length):yf (O++ [u])∧yw (O++ [u])=dig (x*b):=by
 have e:=S.eq;rw [jc h,yD]at e;refine⟨VP S.all S.up,?_⟩;unfold yw;rw [VC,e]
theorem Ji.step {x y i r:Nat}{Q:List Nat}(S:Ji x y (i+1) Q r)(hi:i<(dig x).length):
 Ji x y i (Q.set i ((r*1000000000+(dig x).getD i 0)/y)) ((r*1000000000+(dig x).getD i 0)%y)∧(r*1000000000+(dig x).getD i 0)/y<1000000000:=by
 have hz:=S.zero i (by omega);have ha:=xz (xu x) i;have hl:=S.lt;have hik:i<Q.length:=by rw [S.len];exact hi
 have hv:=Ku (dig x) i hi;have e:=S.eq;generalize (dig x).getD i 0=a at*;have hlt:(r*1000000000+a)/y<1000000000:=by
  rw [Nat.div_lt_iff_lt_mul (by omega)];omega
 have e1:(Q.set i ((r*1000000000+a)/y)).getD i 0=(r*1000000000+a)/y:=by simp [jW,hik]
 refine⟨⟨by rw [kD];exact S.len,Kt S.all hlt,qC _ (by omega),?_,fun j hj=>by rw [getD_set_ne (by omega)];exact S.zero j (by omega)⟩,hlt⟩;rw [Ku (Q.set i _) i (by rw [kD];exact hik),e1,List.drop_set_of_lt (by omega),hv,e];have:=Nat.div_add_mod (r*1000000000+a) y;generalize (r*1000000000+a)/y=q at*;generalize (r*1000000000+a)%y=m at*;rw [je,je,qg y];omega
structure Part(X v P lo lov H c t n:Nat):Prop where
 pos:0<P
 eX:X=lo+P* (c+1000000000*H)
 ev:v=lov+P* (n+1000000000*t)
 hlo:lo<P
 hlov:lov<P
 hc:c<1000000000
 hn:n<1000000000
 ht:t<1000000000
 half:1000000000≤2*t
 lt:X<1000000000*v
structure Vk(X v H t g l:Nat):Prop where
 eq:g*t+l=H
 le:X/v≤g
section
variable {X v P lo lov H c t n g l:Nat}
theorem Part.vpos(D:Part X v P lo lov H c t n):0<v:=by
 have:=D.lt;omega
theorem Part.headlt(D:Part X v P lo lov H c t n):H<1000000000* (t+1):=by
 have h1:=D.lt;have hP:=D.pos;have h2:v<P* (n+1000000000*t+1):=by rw [D.ev,je P _ 1];have:=D.hlov;omega
 have h3:P* (1000000000*H)<P* (1000000000* (n+1000000000*t+1)):=by
  have e1:P* (1000000000*H)≤X:=by rw [D.eX,je];omega
  have e2:P* (1000000000* (n+1000000000*t+1))=1000000000* (P* (n+1000000000*t+1)):=qg _ _ _;omega
 have h4:=vX h3;have:=D.hn;omega
theorem Part.init(D:Part X v P lo lov H c t n):Vk X v H t (H/t) (H%t):=by
 refine⟨by rw [kU];exact Nat.div_add_mod H t,?_⟩;have hv:=D.vpos;have hP:=D.pos;have ht:0<t:=by have:=D.half;omega
 rw [Nat.le_div_iff_mul_le ht];have h1:=Nat.div_mul_le_self X v;generalize X/v=q at*;have h2:q* (P* (1000000000*t))≤q*v:=kz q (by rw [D.ev,je];omega);have h3:X<P* (1000000000* (H+1)):=by
  rw [D.eX];have hc:=D.hc;have hlo:=D.hlo;have:P* (c+1000000000*H+1)≤P* (1000000000* (H+1)):=kz P (by omega);rw [je P _ 1]at this;omega
 have h4:P* (1000000000* (q*t))<P* (1000000000* (H+1)):=by
  have e:q* (P* (1000000000*t))=P* (1000000000* (q*t)):=by rw [qg,qg q]
  omega
 have h5:=vX (vX h4);omega
theorem Vk.small(G:Vk X v H t g l)(D:Part X v P lo lov H c t n):g≤1000000001:=by
 have h1:=D.headlt;have h2:=G.eq;have h3:=D.half;have h4:g*t<1000000002*t:=by omega
 have:=Nat.lt_of_mul_lt_mul_right h4;omega
theorem Vk.next(G:Vk X v H t g l)(D:Part X v P lo lov H c t n)(h:1000000000≤g∨l*1000000000+c<g*n):1≤g∧Vk X v H t (g-1) (l+t):=by
 have hv:=D.vpos;have hP:=D.pos;have hlt:X/v<g:=by
  rw [Nat.div_lt_iff_lt_mul hv];rcases h with h|h;·exact jV D.lt (Nat.mul_le_mul_right v h)
  ·
    have e1:P* (g*n+1000000000* (g*t))≤g*v:=by
     have e2:P* (g*n+1000000000* (g*t))=g* (P* (n+1000000000*t)):=by
      rw [qg g P,je g,qg g 1000000000]
     rw [e2];exact kz g (by rw [D.ev];omega)
    have e2:P* (c+1000000000*H+1)≤P* (g*n+1000000000* (g*t)):=kz P (by have:=G.eq;omega);have e3:=D.eX;have e4:=D.hlo;rw [je P _ 1]at e2;omega
 have hq0:0≤X/v:=ji _;have hg:1≤g:=qB hq0 hlt;have hq1:X/v≤g-1:=Nat.le_sub_one_of_lt hlt;refine⟨hg,?_,hq1⟩;have:=G.eq;obtain⟨k,rfl⟩: ∃k,g=k+1:=⟨g-1,by omega⟩;rw [qL,Nat.one_mul]at this;rw [vW];omega
theorem Vk.stop(G:Vk X v H t g l)(h2:g*n≤l*1000000000+c):g* (t*1000000000+n)≤H*1000000000+c:=by
 have:=G.eq;rw [je,←ju];omega
theorem Vk.brk(G:Vk X v H t g l)(D:Part X v P lo lov H c t n)(h:1000000000≤l):g<1000000000∧g* (t*1000000000+n)≤H*1000000000+c:=by
 have h1:=D.headlt;have h2:=G.eq;have hg:g<1000000000:=by
  have:g*t<1000000000*t:=by omega
  exact Nat.lt_of_mul_lt_mul_right this
 have hn:=D.hn;have:g*n≤999999999*999999999:=qH (by omega) (by omega);exact⟨hg,G.stop (by omega)⟩
theorem Vk.near(G:Vk X v H t g l)(D:Part X v P lo lov H c t n)(hg:g<1000000000)(hs:g* (t*1000000000+n)≤H*1000000000+c):g=X/v∨g=X/v+1:=by
 have hle:=G.le;have hv:=D.vpos;have hP:=D.pos;rcases jt (X/v+1) g with hc|hc
 ·exfalso;have h1:X<(X/v+1)*v:=by
   rw [←Nat.div_lt_iff_lt_mul hv];omega
  generalize X/v=q at*;have h2:(q+1)*v≤(g-1)*v:=Nat.mul_le_mul_right v (by omega);have h3:P* (g* (t*1000000000+n))≤X:=by
   rw [D.eX];have:=kz P hs;rw [show c+1000000000*H=H*1000000000+c by omega];omega
  have h4:g*v≤P* (g* (t*1000000000+n))+g*P:=by
   rw [D.ev,je,qg g P,show n+1000000000*t=t*1000000000+n by omega];have:=kz g (jZ D.hlov);omega
  have h5:(g-1)*v+v=g*v:=by
   obtain⟨k,rfl⟩: ∃k,g=k+1:=⟨g-1,by omega⟩;rw [vW,qL,Nat.one_mul]
  have h6:v<g*P:=by omega
  have h7:P* (1000000000*t)≤v:=by rw [D.ev,je];omega
  have h8:P* (1000000000*t)<P*g:=by rw [kU P g];omega
  have h9:=vX h8;have:=D.half;omega
 ·omega
end
theorem jjn(L:List Nat)(hA:yf L)(k:Nat)(hl:L.length=k+2):val L=val (L.take k)+1000000000^k* (L.getD k 0+1000000000*L.getD (k+1) 0)∧val (L.take k)<1000000000^k:=by
 have e0:val L=val (L.take (k+2)):=by rw [jc (by omega)]
 have h:=JL _ (zZ hA k);rw [jX,kM (by omega)]at h;refine⟨?_,h⟩;rw [e0,xr,xr,je,jr,ju];omega
theorem jjm(L:List Nat)(hA:yf L)(k:Nat)(hl:L.length=k+3):val L=val (L.take k)+1000000000^k* (L.getD k 0+1000000000* (L.getD (k+2) 0*1000000000+L.getD (k+1) 0))∧val (L.take k)<1000000000^k:=by
 have e0:val L=val (L.take (k+3)):=by rw [jc (by omega)]
 have h:=JL _ (zZ hA k);rw [jX,kM (by omega)]at h;refine⟨?_,h⟩;have p1:1000000000^(k+1)=1000000000^k*1000000000:=jr ..;have p2:1000000000^(k+2)=1000000000^k* (1000000000*1000000000):=by rw [jr,p1,ju]
 rw [e0,xr,xr,xr,p1,p2,ju,ju,qy,qy,←je,←je];congr 2;omega
theorem jkX(L:List Nat)(hA:yf L)(v k:Nat)(hL:L.length=k+3)(hV:(dig v).length=k+2)(half:1000000000≤2* (dig v).getD (k+1) 0)(hlt:val L<1000000000*v):
 Part (val L) v (1000000000^k) (val (L.take k)) (val ((dig v).take k)) (L.getD (k+2) 0*1000000000+L.getD (k+1) 0) (L.getD k 0) ((dig v).getD (k+1) 0) ((dig v).getD k 0):=by
 obtain⟨e1,b1⟩:=jjm L hA k hL;obtain⟨e2,b2⟩:=jjn (dig v) (xu v) k hV;rw [yD]at e2;exact⟨Nat.pow_pos (by decide),e1,e2,b1,b2,xz hA _,xz (xu v) _,xz (xu v) _,half,hlt⟩
theorem jln(t:Nat)(ht:0<t)(h:t<1000000000):1≤1000000000/(t+1)∧1000000000/(t+1)≤500000000∧(t+1)* (1000000000/(t+1))≤1000000000∧1000000000≤2* (t* (1000000000/(t+1))):=by
 have e:=Nat.div_add_mod 1000000000 (t+1);have hr:=qC 1000000000 (show t+1>0 by omega);have h1:1≤1000000000/(t+1):=by rw [Nat.le_div_iff_mul_le (by omega)];omega
 have h2:1000000000/(t+1)≤500000000:=by
  have:1000000000/(t+1)≤1000000000/2:=Nat.div_le_div_left (by omega) (by decide);omega
 generalize 1000000000/(t+1)=u at*;generalize 1000000000%(t+1)=r at*;refine⟨h1,h2,by omega,?_⟩;rw [qL,Nat.one_mul]at e;rcases jt u 2 with hu|hu
 ·have:u=1:=by omega
  subst this;omega
 ·rcases jt t 2 with ht2|ht2
  ·have:t=1:=by omega
   subst this;omega
  ·have h3:(u-1)*1≤(u-1)* (t-1):=kz _ (by omega);have h4:t+u≤t*u:=by
    obtain⟨a,rfl⟩: ∃a,u=a+2:=⟨u-2,by omega⟩;obtain⟨b,rfl⟩: ∃b,t=b+2:=⟨t-2,by omega⟩;rw [qL,je,je];have:0≤b*a:=ji _;omega
   omega
theorem jkk(y k:Nat)(hl:(dig y).length=k+2): ∃u,u=1000000000/((dig y).getD (k+1) 0+1)∧1≤u∧u<1000000000∧(dig (y*u)).length=k+2∧1000000000≤2* (dig (y*u)).getD (k+1) 0:=by
 have ht:=xz (xu y) (k+1);have ht0:0<(dig y).getD (k+1) 0:=by
  have h1:=Zz (n:=y) (by intro h;rw [h]at hl;simp at hl);have h2:=xr (dig y) (k+1);rw [jc (by omega),yD]at h2;have h3:=JL _ (zZ (xu y) (k+1));rw [jX,kM (by omega)]at h3;rw [hl,show k+2-1=k+1 by omega]at h1;rcases qz ((dig y).getD (k+1) 0)with h0|h0;·rw [h0]at h2;omega
  ·exact h0
 obtain⟨h1,h2,h3,h4⟩:=jln _ ht0 ht;refine⟨_,rfl,h1,by omega,?_⟩;have e:=xr (dig y) (k+1);rw [jc (by omega),yD]at e;have b:=JL _ (zZ (xu y) (k+1));rw [jX,kM (by omega)]at b;generalize val ((dig y).take (k+1))=lo at*;generalize (dig y).getD (k+1) 0=t at*;generalize 1000000000/(t+1)=u at*;have hP:0<1000000000^(k+1):=Nat.pow_pos (by decide);have hup:y*u<1000000000^(k+2):=by
  have h5:y<1000000000^(k+1)* (t+1):=by rw [je,e];omega
  have h6:=Nat.mul_lt_mul_of_pos_right h5 (show 0<u by omega);rw [ju]at h6;have h7:=kz (1000000000^(k+1)) h3;rw [jr];omega
 have hlo:1000000000^(k+1)* (t*u)≤y*u:=by
  rw [e,qL,ju];omega
 have hlen:(dig (y*u)).length=k+2:=by
  have l1:=xw (y*u) (k+2) hup;have l2:=xY (y*u);rcases jt (dig (y*u)).length (k+2)with hc|hc
  ·have l3:1000000000^(dig (y*u)).length≤1000000000^(k+1):=kW (by decide) (by omega);have:1000000000^(k+1)*1≤1000000000^(k+1)* (t*u):=kz _ (by omega);omega
  ·omega
 refine⟨hlen,?_⟩;have e2:=xr (dig (y*u)) (k+1);rw [jc (by omega),yD]at e2;have b2:=JL _ (zZ (xu (y*u)) (k+1));rw [jX,kM (by omega)]at b2;generalize (dig (y*u)).getD (k+1) 0=T at*;generalize val ((dig (y*u)).take (k+1))=lo2 at*;have:1000000000^(k+1)* (t*u)<1000000000^(k+1)* (T+1):=by rw [je];omega
 have:=vX this;omega
theorem jgt {L W:List Nat}{v g d:Nat}(S:Vj L (dig (v*g)) W d)(hl:(dig (v*g)).length≤L.length)(hv:0<v)(hg:g=val L/v):d=0∧val W=val L%v:=by
 have e:=S.eq;have hw:=JL _ S.all;rw [S.len]at hw;rw [jc hl,yD]at e;have h1:=Nat.div_add_mod (val L) v;rw [←hg]at h1;have hd:=S.down;have hd0:d=0:=by
  rcases jt 0 d with h|h
  ·have:d=1:=by omega
   subst this;have hm:=qC (val L) hv;omega
  ·omega
 subst hd0;refine⟨rfl,?_⟩;omega
theorem jiu {L W:List Nat}{v g d:Nat}(S:Vj L (dig (v*g)) W d)(hl:(dig (v*g)).length≤L.length)(hv:0<v)(hg:g=val L/v+1):d=1∧val W+v=val L%v+1000000000^L.length:=by
 have e:=S.eq;rw [jc hl,yD]at e;have h1:=Nat.div_add_mod (val L) v;have hm:=qC (val L) hv;rw [hg,je,qG]at e;have hd:=S.down;have hd1:d=1:=by
  rcases jt 0 d with h|h;·omega
  ·have:d=0:=by omega
   subst this;omega
 subst hd1;exact⟨rfl,by omega⟩
theorem jir {L W W2:List Nat}{v u:Nat}(hW:W.length=L.length)(h:val W+v=val L%v+1000000000^L.length)(S:Vv W (dig v) W.length W2 u)(hl:(dig v).length≤W.length):val W2=val L%v:=by
 have e:=S.eq;have hw:=JL _ S.all;rw [S.len]at hw;rw [jc hl,yD,h,hW]at e;rw [hW]at hw;have hu:=S.up;have:u=1:=by
  rcases jt 0 u with h|h;·omega
  ·have:u=0:=by omega
   subst this;omega
 subst this;omega
structure Qf(X v k i:Nat)(R Q:List Nat):Prop where
 len:R.length=Q.length+k
 allR:yf R
 allQ:yf Q
 eq:val R+v*val Q=X
 lt:val (R.drop i)<v
 zero: ∀j,j<i→Q.getD j 0=0
theorem Qf.init {X v k s:Nat}{R:List Nat}(hl:R.length=s+k)(hA:yf R)(hX:val R=X)(hv:1000000000^(k-1)≤v)(hk:0<k)(h0:R.getD (s+k-1) 0=0):Qf X v k s R (List.replicate s 0):=by
 refine⟨by simp [hl],hA,Kk _,by rw [XA];omega,?_,fun k _=>by rw [jW,qX];split<;>rfl⟩;have h1:val (R.drop s)=val ((R.drop s).take (k-1))+1000000000^(k-1)* (R.drop s).getD (k-1) 0:=by
  rw [←xr,show k-1+1=k by omega,jc (by rw [jq];omega)]
 have h2:(R.drop s).getD (k-1) 0=0:=by
  have e:(R.drop s).getD (k-1) 0=R.getD (s+k-1) 0:=by simp [jW,qr,show s+(k-1)=s+k-1 by omega]
  rw [e];exact h0
 have h3:=JL _ (zZ (L:=R.drop s) (fun d hd=>hA d (vY hd)) (k-1));rw [jX,jq,kM (by omega)]at h3;rw [h2]at h1;omega
theorem Qf.part {X v k i:Nat}{R Q:List Nat}(S:Qf X v k (i+1) R Q)(hi:i<Q.length)(hv:v<1000000000^k):yf ((R.drop i).take (k+1))∧((R.drop i).take (k+1)).length=k+1∧val ((R.drop i).take (k+1))=val (R.drop i)∧val ((R.drop i).take (k+1))<1000000000*v:=by
 have hD:yf (R.drop i):=fun d hd=>S.allR d (vY hd);have hlen:=S.len;have hlt:=S.lt;have hd:=Ku R i (by omega);have ha:=xz S.allR i;have h1:val (R.drop i)<1000000000*v:=by omega
 have h2:val ((R.drop i).take (k+1))=val (R.drop i):=by
  rw [Qi _ hD,kV];rw [jr,kU (1000000000^k)];omega
 refine⟨zZ hD _,by rw [jX,jq];omega,h2,by rw [h2];exact h1⟩
def Xz(R W:List Nat)(i:Nat):List Nat:=R.take i++(W++R.drop (i+W.length))
theorem YD {R W:List Nat}{i:Nat}(h:i+W.length≤R.length):(Xz R W i).length=R.length:=by
 unfold Xz;simp;omega
theorem jkK {R W:List Nat}{i:Nat}(h1:yf R)(h2:yf W):yf (Xz R W i):=by
 intro d hd;unfold Xz at hd;rcases jh.1 hd with h|h;·exact h1 d (qU h)
 ·rcases jh.1 h with h|h;·exact h2 d h
  ·exact h1 d (vY h)
theorem jdj(R:List Nat)(i:Nat)(h:i≤R.length):val R=val (R.take i)+1000000000^i*val (R.drop i):=by
 conv=>lhs;rw [←qf i R]
 rw [yx,jX,kM h]
theorem jiW {R W:List Nat}{i:Nat}(h:i≤R.length):(Xz R W i).drop i=W++R.drop (i+W.length):=by
 unfold Xz;rw [List.drop_append,jX,kM h,Nat.sub_self,jH,qI (by rw [jX];omega),kj]
theorem jhD {R W:List Nat}{i:Nat}(h:i≤R.length):(Xz R W i).take i=R.take i:=by
 unfold Xz;rw [xH (by rw [jX];omega),jc (by rw [jX];omega)]
theorem Qf.next {X v k i:Nat}{R Q W:List Nat}(S:Qf X v k (i+1) R Q)(hi:i<Q.length)(hv0:0<v)(hv:v<1000000000^k)(hW:W.length=k+1)(hWA:yf W)(hWv:val W=val ((R.drop i).take (k+1))%v)(q:Nat)(hq:q=val ((R.drop i).take (k+1))/v):
 Qf X v k i (Xz R W i) (Q.set i q)∧q<1000000000:=by
 obtain⟨p1,p2,p3,p4⟩:=S.part hi hv;have hlen:=S.len;have hq9:q<1000000000:=by rw [hq,Nat.div_lt_iff_lt_mul hv0];exact p4
 have hz:val (R.drop (i+(k+1)))=0:=by
  have h1:=jdj (R.drop i) (k+1) (by rw [jq];omega);rw [List.drop_drop,p3]at h1;have hP:0<1000000000^(k+1):=Nat.pow_pos (by decide);rcases qz (val (R.drop (i+(k+1))))with h|h;·exact h
  ·have:1000000000^(k+1)*1≤1000000000^(k+1)*val (R.drop (i+(k+1))):=kz _ h;omega
 have hd:val ((Xz R W i).drop i)=val W:=by
  rw [jiW (by omega),yx,hW,hz,Nat.mul_zero,qV]
 refine⟨⟨by rw [YD (by omega),kD];exact hlen,jkK S.allR hWA,Kt S.allQ hq9,?_,by rw [hd,hWv];exact qC _ hv0,fun j hj=>by rw [getD_set_ne (by omega)];exact S.zero j (by omega)⟩,hq9⟩;have e:=S.eq;have hs:=VU Q i q hi;rw [S.zero i (by omega),Nat.mul_zero,qV]at hs;rw [hs,jdj (Xz R W i) i (by rw [YD (by omega)];omega),hd,jhD (by omega)];have h2:=jdj R i (by omega);have h3:=Nat.div_add_mod (val ((R.drop i).take (k+1))) v;rw [←hq,←hWv,p3]at h3;rw [←e,h2,←h3,je,je,qg v];omega
theorem Qf.done {X v k:Nat}{R Q:List Nat}(S:Qf X v k 0 R Q):yw Q=dig (X/v)∧yw R=dig (X%v):=by
 have e:=S.eq;have hl:=S.lt;rw [jH]at hl;have h1:X/v=val Q:=by rw [←e,Nat.add_comm,Nat.mul_add_div (by omega),Nat.div_eq_of_lt hl,qV]
 have h2:X%v=val R:=by rw [←e,Nat.add_comm,Nat.mul_add_mod,kV hl]
 exact⟨by unfold yw;rw [h1],by unfold yw;rw [h2]⟩
theorem jlI(x y u:Nat)(hu:0<u):(x*u)/(y*u)=x/y:=Nat.mul_div_mul_right x y hu
theorem jlH(x y u:Nat)(hu:0<u):((x*u)%(y*u))/u=x%y:=by rw [Nat.mul_mod_mul_right,Nat.mul_div_cancel _ hu]
end Go.Proofs.YtnohcdpnnhmpfaaGreatDoor.NL
namespace Go.Proofs.YtnohcdpnnhmpfaaGreatDoor
def NB(K x:Nat):Prop:= ∃k,k≤K∧x<10^k
namespace NB
variable {K L x y:Nat}
end NB
end Go.Proofs.YtnohcdpnnhmpfaaGreatDoor
