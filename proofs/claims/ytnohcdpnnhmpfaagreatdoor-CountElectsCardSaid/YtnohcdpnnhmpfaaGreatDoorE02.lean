import Derived.Test.YtnohcdpnnhmpfaaGreatDoorE01
/- Numbers as lists of their decimal digits, the lowest first: the plain law of the reference's chapter 2. -/
import Derived.KernelRfl
set_option linter.all false
namespace Go.Proofs.YtnohcdpnnhmpfaaGreatDoor.ND
variable{L O Q W:E0}{d i j k n r u x y:Nat}
def val:E0→Nat
 | []=>0
 |d::r=>d+10*val r
def yx(L:E0):Prop:= ∀d∈L,d<10
def dig(n:Nat):E0:=if h:n=0 then []else(n%10)::dig (n/10)
termination_by n
decreasing_by omega
theorem yi:dig 0= []:=by unfold dig;simp
theorem JQ(h:0<n):dig n=(n%10)::dig (n/10):=by
 conv=>lhs;unfold dig
 rw [dif_neg (by omega)]
theorem yR(n:Nat):val (dig n)=n:=by
 induction n using Nat.strongRecOn with
 |
  ind n ih=>
  by_cases h:n=0;·subst h;rw [yi];rfl
  ·rw [JQ (by omega),val,ih (n/10) (by omega)];omega
theorem yN(n:Nat):yx (dig n):=by
 induction n using Nat.strongRecOn with
 |
  ind n ih=>
  by_cases h:n=0;·subst h;rw [yi];intro d hd;cases hd
  ·rw [JQ (by omega)];intro d hd;rcases jl.1 hd with rfl|hd;·omega
   ·exact ih (n/10) (by omega) d hd
theorem zP(A B:E0):val (A++B)=val A+10^A.length*val B:=by
 induction A with
 |nil=>simp [val]
 |
  cons d r ih=>
  simp only [vx,val,ih,kW,js,jg];rw [kf (10^r.length) 10,jx];omega
theorem Ji(L:E0)(h:yx L):val L<10^L.length:=by
 induction L with
 |nil=>simp [val]
 |
  cons d r ih=>
  have h1:=ih (fun x hx=>h x (vy _ hx));have h2:=h d (vZ ..);simp only [val,kW,js];omega
theorem Ye(L:E0)(h:yx L)(hn:L= []∨10^(L.length-1)≤val L):L=dig (val L):=by
 induction L with
 |nil=>rw [val,yi]
 |
  cons d r ih=>
  have hd:=h d (vZ ..);have hr:yx r:=fun x hx=>h x (vy _ hx);have hv:10^r.length≤val (d::r):=by
   rcases hn with h0|h0;·cases h0
   ·simpa using h0
  have pu:0<val (d::r):=jW (Nat.pow_pos (by decide)) hv;rw [JQ pu];have e1:val (d::r)%10=d:=by simp only [val];omega
  have e2:val (d::r)/10=val r:=by simp only [val];omega
  rw [e1,e2,←ih hr];by_cases wQ:r= [];·exact .inl wQ
  ·right;have hl:0<r.length:=qh.2 wQ;have h3:10^r.length=10*10^(r.length-1):=by
    rw [←Nat.pow_succ'];congr 1;omega
   simp only [val]at hv;omega
theorem yO(n k:Nat)(h:n<10^k):(dig n).length≤k:=by
 induction k generalizing n with
 |
  zero=>
  have:n=0:=by simpa using h
  subst this;rw [yi];simp
 |
  succ k ih=>
  by_cases h0:n=0;·subst h0;rw [yi];simp
  ·rw [JQ (by omega),kW];have:=ih (n/10) (by rw [js]at h;omega);omega
theorem jbd(h:dig n≠ []):10^((dig n).length-1)≤n:=by
 induction n using Nat.strongRecOn with
 |
  ind n ih=>
  by_cases h0:n=0;·subst h0;rw [yi]at h;exact absurd rfl h
  ·rw [JQ (by omega)];by_cases h1:dig (n/10)= [];·rw [h1];simp;omega
   ·have h2:=ih (n/10) (by omega) h1;have hl:0<(dig (n/10)).length:=qh.2 h1;have h3:10^(dig (n/10)).length=10*10^((dig (n/10)).length-1):=by
     rw [←Nat.pow_succ'];congr 1;omega
    simp only [kW,xA];omega
def zO(L:E0):E0:=dig (val L)
theorem Qi(L:E0)(k:Nat)(h: ∀i,k≤i→L.getD i 0=0):val (L.take k)=val L:=by
 induction L generalizing k with
 |nil=>simp [val]
 |
  cons d r ih=>
  cases k with
  |
   zero=>
   have h0:d=0:=by simpa using h 0 (jO _)
   have hr:=ih 0 (fun i _=>by simpa using h (i+1) (by omega));simp only [qu,val]at hr ⊢;omega
  |
   succ k=>
   simp only [List.take_succ_cons,val];rw [ih k (fun i hi=>by simpa using h (i+1) (by omega))]
theorem zz(h:yx L)(k:Nat):yx (L.take k):=fun d hd=>h d (qR hd)
theorem Ku(L:E0)(k:Nat)(h:yx L)(hk:k≤L.length)(h0: ∀i,k≤i→L.getD i 0=0)(hn:k=0∨L.getD (k-1) 0≠0):L.take k=zO L:=by
 unfold zO;rw [←Qi L k h0];refine Ye _ (zz h k) ?_;rcases hn with rfl|hn;·left;simp
 ·by_cases iM:k=0;·left;subst iM;simp
  ·right;obtain⟨j,rfl⟩: ∃j,k=j+1:=⟨k-1,by omega⟩;have hj:j<L.length:=by omega
   rw [jh hj,zP,jZ,jf,kM];have e:L.getD j 0=L[j]:=by simp [jV,hj]
   have:L[j]≠0:=by rw [←e];simpa using hn
   rw [show min j L.length=j by omega,xA];simp only [val,Nat.mul_zero,qq];have h1:10^j*1≤10^j*L[j]:=qF _ (by omega);omega
theorem VT(L:E0)(h:yx L)(i:Nat):val (L.take i)=val L%10^i:=by
 have e:=zP (L.take i) (L.drop i);rw [qw]at e;by_cases hi:i≤L.length
 ·rw [jf,kP hi]at e;have hl:=Ji _ (zz h i);rw [jf,kP hi]at hl;rw [e,Nat.add_mul_mod_self_left,kl hl]
 ·rw [je (by omega)];have hl:=Ji _ h;rw [kl (jW hl (ko (by decide) (by omega)))]
theorem yJ(L:E0)(i:Nat):val (L.take (i+1))=val (L.take i)+10^i*L.getD i 0:=by
 by_cases hi:i<L.length
 ·rw [jh hi,zP,jf,kP (by omega)];simp [val,jV,hi]
 ·rw [je (by omega),je (by omega)];simp [jV,hi]
theorem yP(h:yx L)(i:Nat):L.getD i 0<10:=by
 rw [jV];cases hq:L[i]? with
 |none=>simp
 |some v=>simp;exact h v (List.mem_of_getElem? hq)
theorem XA(h:yx L)(hd:d<10):yx (L++ [d]):=by
 intro x hx;rcases jj.1 hx with hx|hx;·exact h x hx
 ·have:x=d:=by simpa using hx
  omega
theorem Vj(L:E0)(d:Nat):val (L++ [d])=val L+10^L.length*d:=by rw [zP];simp [val]
theorem zG(h:i<(dig x).length):10^i≤x:=by
 have h0:dig x≠ []:=fun e=>by rw [e]at h;simp at h
 exact jU (ko (by decide) (by omega)) (jbd h0)
theorem xz(x:Nat):x<10^(dig x).length:=by
 have:=Ji _ (yN x)
 rwa [yR]at this
structure Jq(x y:Nat)(O:E0)(u:Nat):Prop where
 all:yx O
 up:u≤1
 eq:val O+10^O.length*u=val ((dig x).take O.length)+val ((dig y).take O.length)
 big:O= []∨10^(O.length-1)≤x+y
theorem Jq.init(x y:Nat):Jq x y [] 0:=⟨(fun d hd=>by cases hd),by omega,by simp [val],.inl rfl⟩
theorem Jq.more {x y u:Nat}{O:E0}(S:Jq x y O u)(h:O.length<(dig x).length∨O.length<(dig y).length∨0<u):10^O.length≤x+y:=by
 by_cases h1:O.length<(dig x).length;·exact jU (zG h1) (by omega)
 ·by_cases h2:O.length<(dig y).length;·exact jU (zG h2) (by omega)
  ·have hu:u=1:=by have:=S.up;omega
   have e:=S.eq;rw [je (by omega),je (by omega),yR,yR,hu]at e;omega
theorem Jq.short(S:Jq x y O u)(h:O.length<(dig x).length∨O.length<(dig y).length∨0<u):O.length≤(dig x).length+(dig y).length:=by
 have h1:=S.more h;have h2:=xz x;have h3:=xz y;have e: ∀a b:Nat,10^a≤10^(a+b):=fun a b=>ko (by decide) (by omega);have e1:=e (dig x).length (dig y).length;have e2:=e (dig y).length (dig x).length;rw [Nat.add_comm (dig y).length]at e2;have h4:10^O.length<10^((dig x).length+(dig y).length+1):=by
  rw [js];omega
 have:=(Nat.pow_lt_pow_iff_right (by decide:1<10)).1 h4;omega
theorem Jq.next(S:Jq x y O u)(h:O.length<(dig x).length∨O.length<(dig y).length∨0<u):
 Jq x y (O++ [((dig x).getD O.length 0+(dig y).getD O.length 0+u)%10]) (((dig x).getD O.length 0+(dig y).getD O.length 0+u)/10):=by
 have ha:=yP (yN x) O.length;have hb:=yP (yN y) O.length;have hu:=S.up;have hm:=S.more h;refine⟨XA S.all (by omega),by omega,?_,.inr (by simpa using hm)⟩;rw [jZ,kM,Vj,yJ,yJ];have e:=S.eq;generalize (dig x).getD O.length 0=a at*;generalize (dig y).getD O.length 0=b at*;generalize val ((dig x).take O.length)=p at*;generalize val ((dig y).take O.length)=q at*;rw [js,jx,vO,←jg,Nat.mod_add_div];generalize 10^O.length=t at*;rw [jg,jg];omega
theorem Jq.done(S:Jq x y O 0)(h1: ¬O.length<(dig x).length)(h2: ¬O.length<(dig y).length):O=dig (x+y):=by
 have e:=S.eq;rw [je (by omega),je (by omega),yR,yR]at e;have hv:val O=x+y:=by omega
 rw [←hv];exact Ye O S.all (by rw [hv];exact S.big)
structure ZH(x y:Nat)(O:E0)(d:Nat):Prop where
 all:yx O
 down:d≤1
 eq:val ((dig x).take O.length)+10^O.length*d=val O+val ((dig y).take O.length)
theorem ZH.init(x y:Nat):ZH x y [] 0:=⟨(fun d hd=>by cases hd),by omega,by simp [val]⟩
theorem ZH.next(S:ZH x y O d)(s d':Nat)(hs:s<10)(hd':d'≤1)(he:(dig x).getD O.length 0+10*d'=s+(dig y).getD O.length 0+d):ZH x y (O++ [s]) d':=by
 refine⟨XA S.all hs,hd',?_⟩;rw [jZ,kM,Vj,yJ,yJ];have e:=S.eq;generalize (dig x).getD O.length 0=a at*;generalize (dig y).getD O.length 0=b at*;generalize val ((dig x).take O.length)=p at*;generalize val ((dig y).take O.length)=q at*;rw [js,jx,vO,←jg,he];generalize 10^O.length=t at*;rw [jg,jg];omega
theorem ZH.done(S:ZH x y O d)(h:O.length=(dig x).length)(aJ:y≤x):zO O=dig (x-y):=by
 have e:=S.eq;have hy:val ((dig y).take O.length)=y:=by
  rw [VT _ (yN y),yR,kl];rw [h];exact qK aJ (xz x)
 have hO:=Ji _ S.all;rw [hy,je (by omega),yR]at e;have hd:d=0:=by
  have:=S.down;rcases jw 0 d with h0|h0
  ·have:d=1:=by omega
   rw [this]at e;omega
  ·omega
 rw [hd]at e;unfold zO;congr 1;omega
def Ja(x y:Nat):Int:=if x<y then -1 else if x=y then 0 else 1
theorem XV(h:x<y):Ja x y= -1:=jP h
theorem XW(h:y<x):Ja x y=1:=by unfold Ja;rw [jQ (by omega),jQ (by omega)]
theorem ZW(x:Nat):Ja x x=0:=by unfold Ja;rw [jQ (by omega),jP rfl]
theorem JT(h:(dig x).length<(dig y).length):x<y:=jW (xz x) (zG h)
theorem Xv(L:E0)(j:Nat)(h:j<L.length):val L=val (L.take j)+10^j* (L.getD j 0+10*val (L.drop (j+1))):=by
 have e:=zP (L.take j) (L.drop j);rw [qw,jf,kP (by omega),qA h,val]at e;rw [e];simp [jV,h]
theorem Qt(hx:j<(dig x).length)(hy:j<(dig y).length)(hd:(dig x).drop (j+1)=(dig y).drop (j+1))(hl:(dig x).getD j 0<(dig y).getD j 0):x<y:=by
 have e1:=Xv (dig x) j hx;have e2:=Xv (dig y) j hy;have ns:=Ji _ (zz (yN x) j);rw [jf,kP (by omega)]at ns;rw [yR]at e1 e2;rw [hd]at e1;generalize val ((dig y).drop (j+1))=r at*;generalize (dig x).getD j 0=a at*;generalize (dig y).getD j 0=b at*;generalize val ((dig x).take j)=p at*;generalize val ((dig y).take j)=q at*;have h3:10^j* (a+10*r)+10^j≤10^j* (b+10*r):=by
  have:10^j* ((a+10*r)+1)≤10^j* (b+10*r):=qF _ (by omega)
  rwa [jg,qS]at this
 omega
theorem jbb {A B:E0}(hA:j<A.length)(hB:j<B.length)(h:A.drop (j+1)=B.drop (j+1))(hd:A.getD j 0=B.getD j 0):A.drop j=B.drop j:=by
 rw [qA hA,qA hB,h];congr 1;simpa [jV,hA,hB] using hd
theorem jba(h:dig x=dig y):x=y:=by rw [←yR x,←yR y,h]
theorem XH(L:E0)(k d:Nat)(hk:k<L.length):val (L.set k d)+10^k*L.getD k 0=val L+10^k*d:=by
 induction L generalizing k with
 |nil=>simp at hk
 |
  cons a r ih=>
  cases k with
  |zero=>simp [val];omega
  |
   succ k=>
   have:=ih k (by simpa using hk);simp only [List.set_cons_succ,val,List.getD_cons_succ,js];rw [kf (10^k) 10,jx,jx];omega
theorem Qp(h:yx L)(hd:d<10):yx (L.set k d):=by
 intro x hx;rcases xK hx with hx|rfl;·exact h x hx
 ·exact hd
theorem getD_set_ne(h:k≠i):(L.set k d).getD i 0=L.getD i 0:=by
 simp [jV,vv h]
theorem Xu(n:Nat):val (List.replicate n 0)=0:=by
 induction n with
 |zero=>rfl
 |succ n ih=>rw [List.replicate_succ,val,ih]
theorem Qe(n:Nat):yx (List.replicate n 0):=by
 intro x hx;have:=List.eq_of_mem_replicate hx;omega
structure Kp(x y i:Nat)(W:E0):Prop where
 len:W.length=(dig x).length+(dig y).length
 all:yx W
 eq:val W=val ((dig x).take i)*y
 zero: ∀k,i+(dig y).length≤k→W.getD k 0=0
structure VE(x y i j:Nat)(W:E0)(u:Nat):Prop where
 len:W.length=(dig x).length+(dig y).length
 all:yx W
 up:u<10
 eq:val W+10^(i+j)*u=val ((dig x).take i)*y+10^i* (dig x).getD i 0*val ((dig y).take j)
 zero: ∀k,i+(dig y).length≤k→W.getD k 0=0
theorem Kp.init(x y:Nat):Kp x y 0 (List.replicate ((dig x).length+(dig y).length) 0):=by
 refine⟨by simp,Qe _,by simp [Xu,val],fun k _=>?_⟩;rw [jV,qU];split<;>rfl
theorem Kp.row(S:Kp x y i W):VE x y i 0 W 0:=⟨S.len,S.all,by omega,by simp [val,S.eq],S.zero⟩
theorem VE.next(S:VE x y i j W u)(hi:i<(dig x).length)(hj:j<(dig y).length):
 VE x y i (j+1) (W.set (i+j) ((W.getD (i+j) 0+(dig x).getD i 0* (dig y).getD j 0+u)%10)) ((W.getD (i+j) 0+(dig x).getD i 0* (dig y).getD j 0+u)/10):=by
 have ha:=yP (yN x) i;have hb:=yP (yN y) j;have hw:=yP S.all (i+j);have hu:=S.up;have eu:(dig x).getD i 0* (dig y).getD j 0≤9*9:=qV (by omega) (by omega);have hk:i+j<W.length:=by rw [S.len];omega
 refine⟨by rw [kE];exact S.len,Qp S.all (by omega),by omega,?_,fun k gG=>by rw [getD_set_ne (by omega)];exact S.zero k gG⟩;have e:=S.eq;have es:=XH W (i+j) ((W.getD (i+j) 0+(dig x).getD i 0* (dig y).getD j 0+u)%10) hk;rw [yJ];generalize (dig x).getD i 0=a at*;generalize (dig y).getD j 0=b at*;generalize W.getD (i+j) 0=c at*;generalize val (W.set (i+j) ((c+a*b+u)%10))=v2 at*;generalize val W=v at*;generalize val ((dig y).take j)=q at*;generalize val ((dig x).take i)*y=p at*;generalize hs:c+a*b+u=s at*;have e3:10^i*a* (q+10^j*b)=10^i*a*q+10^(i+j)* (a*b):=by
  rw [jg,vD];congr 1;rw [jx,jx,qx a (10^j) b]
 rw [e3,←vO i j 1,js];generalize 10^i*a*q=m at*;have e4:10^(i+j)*s=10^(i+j)* (s%10)+10^(i+j)*10* (s/10):=by
  rw [jx,←jg,Nat.mod_add_div]
 rw [←hs]at e4;rw [jg,jg]at e4;rw [hs]at e4;generalize 10^(i+j)* (a*b)=t1 at*;generalize 10^(i+j)*c=t2 at*;generalize 10^(i+j)*u=t3 at*;generalize 10^(i+j)* (s%10)=t4 at*;generalize 10^(i+j)*10* (s/10)=t5 at*;omega
theorem VE.done(S:VE x y i (dig y).length W u)(hi:i<(dig x).length):Kp x y (i+1) (W.set (i+(dig y).length) u):=by
 have hk:i+(dig y).length<W.length:=by rw [S.len];omega
 refine⟨by rw [kE];exact S.len,Qp S.all S.up,?_,fun k gG=>by rw [getD_set_ne (by omega)];exact S.zero k (by omega)⟩;have e:=S.eq;have es:=XH W (i+(dig y).length) u hk;rw [S.zero _ (jO _),Nat.mul_zero,qq]at es;rw [je (jO _),yR]at e;rw [es,e,yJ,qg]
theorem Kp.done(S:Kp x y (dig x).length W):zO W=dig (x*y):=by
 have e:=S.eq;rw [je (jO _),yR]at e;unfold zO;rw [e]
structure KM(x y k:Nat)(Q:E0)(r:Nat):Prop where
 len:Q.length=(dig x).length
 all:yx Q
 lt:r<y
 eq:val ((dig x).drop k)=y*val (Q.drop k)+r
 zero: ∀i,i<k→Q.getD i 0=0
structure YN(x y i:Nat)(Q:E0)(r:Nat):Prop where
 len:Q.length=(dig x).length
 all:yx Q
 lt:y*Q.getD i 0+r<10*y
 eq:val ((dig x).drop i)=y*val (Q.drop i)+r
 zero: ∀j,j<i→Q.getD j 0=0
theorem KM.init(x y:Nat)(hy:0<y):KM x y (dig x).length (List.replicate (dig x).length 0) 0:=by
 refine⟨by simp,Qe _,hy,?_,fun k _=>?_⟩;·rw [qX (jO _),qX (by simp)];simp [val]
 ·rw [jV,qU];split<;>rfl
theorem Qq(L:E0)(i:Nat)(h:i<L.length):val (L.drop i)=L.getD i 0+10*val (L.drop (i+1)):=by
 rw [qA h,val];simp [jV,h]
theorem KM.digit(S:KM x y (i+1) Q r)(hi:i<(dig x).length):YN x y i Q ((dig x).getD i 0+10*r):=by
 have hz:=S.zero i (by omega);have ha:=yP (yN x) i;have hl:=S.lt;refine⟨S.len,S.all,by rw [hz];omega,?_,fun j hj=>S.zero j (by omega)⟩;rw [Qq _ i hi,Qq Q i (by rw [S.len];exact hi),hz,S.eq,jv,jg,←jx,←jx,kf 10 y];omega
theorem YN.next(S:YN x y i Q r)(hi:i<(dig x).length)(h:y≤r):YN x y i (Q.set i (Q.getD i 0+1)) (r-y)∧Q.getD i 0+1<10:=by
 have hl:=S.lt;have hq:Q.getD i 0+1<10:=by
  have h2:y* (Q.getD i 0+1)<y*10:=by rw [jg,qS];omega
  exact xB h2
 have Cy:i<Q.length:=by rw [S.len];exact hi
 have e1:(Q.set i (Q.getD i 0+1)).getD i 0=Q.getD i 0+1:=by simp [jV,Cy]
 refine⟨⟨by rw [kE];exact S.len,Qp S.all hq,?_,?_,fun j hj=>by rw [getD_set_ne (by omega)];exact S.zero j hj⟩,hq⟩;·rw [e1,jg,qS];omega
 ·have e:=S.eq;rw [Qq Q i Cy]at e;rw [Qq (Q.set i (Q.getD i 0+1)) i (by rw [kE];exact Cy),e1,List.drop_set_of_lt (by omega)];rw [jg]at e ⊢;rw [jg,qS];omega
theorem YN.done(S:YN x y i Q r)(h:r<y):KM x y i Q r:=⟨S.len,S.all,h,S.eq,S.zero⟩
theorem KM.done(S:KM x y 0 Q r):zO Q=dig (x/y)∧r=x%y:=by
 have e:=S.eq;have hl:=S.lt;rw [jH,jH,yR]at e;have h1:x/y=val Q:=by rw [e,Nat.mul_add_div (by omega),Nat.div_eq_of_lt hl,qq]
 have h2:x%y=r:=by rw [e,Nat.mul_add_mod,kl hl]
 exact⟨by unfold zO;rw [h1],h2.symm⟩
theorem jdr(d r:Nat)(hd:d<10):yx (d::dig r)∧zO (d::dig r)=dig (d+10*r):=by
 refine⟨?_,by unfold zO;rw [val,yR]⟩;intro x hx;rcases jl.1 hx with rfl|hx;·exact hd
 ·exact yN r x hx
end Go.Proofs.YtnohcdpnnhmpfaaGreatDoor.ND
namespace Go.Proofs.YtnohcdpnnhmpfaaGreatDoor.NL
def val:E0→Nat
 | []=>0
 |d::r=>d+1000000000*val r
def yx(L:E0):Prop:= ∀d∈L,d<1000000000
def dig(n:Nat):E0:=if h:n=0 then []else(n%1000000000)::dig (n/1000000000)
termination_by n
decreasing_by omega
theorem yi:dig 0= []:=by unfold dig;simp
theorem JQ {n:Nat}(h:0<n):dig n=(n%1000000000)::dig (n/1000000000):=by
 conv=>lhs;unfold dig
 rw [dif_neg (by omega)]
theorem yR(n:Nat):val (dig n)=n:=by
 induction n using Nat.strongRecOn with
 |
  ind n ih=>
  by_cases h:n=0;·subst h;rw [yi];rfl
  ·rw [JQ (by omega),val,ih (n/1000000000) (by omega)];omega
theorem yN(n:Nat):yx (dig n):=by
 induction n using Nat.strongRecOn with
 |
  ind n ih=>
  by_cases h:n=0;·subst h;rw [yi];intro d hd;cases hd
  ·rw [JQ (by omega)];intro d hd;rcases jl.1 hd with rfl|hd;·omega
   ·exact ih (n/1000000000) (by omega) d hd
theorem zP(A B:E0):val (A++B)=val A+1000000000^A.length*val B:=by
 induction A with
 |nil=>simp [val]
 |
  cons d r ih=>
  simp only [vx,val,ih,kW,js,jg];rw [kf (1000000000^r.length) 1000000000,jx];omega
theorem Ji(L:E0)(h:yx L):val L<1000000000^L.length:=by
 induction L with
 |nil=>simp [val]
 |
  cons d r ih=>
  have h1:=ih (fun x hx=>h x (vy _ hx));have h2:=h d (vZ ..);simp only [val,kW,js];omega
theorem Ye(L:E0)(h:yx L)(hn:L= []∨1000000000^(L.length-1)≤val L):L=dig (val L):=by
 induction L with
 |nil=>rw [val,yi]
 |
  cons d r ih=>
  have hd:=h d (vZ ..);have hr:yx r:=fun x hx=>h x (vy _ hx);have hv:1000000000^r.length≤val (d::r):=by
   rcases hn with h0|h0;·cases h0
   ·simpa using h0
  have pu:0<val (d::r):=jW (Nat.pow_pos (by decide)) hv;rw [JQ pu];have e1:val (d::r)%1000000000=d:=by simp only [val];omega
  have e2:val (d::r)/1000000000=val r:=by simp only [val];omega
  rw [e1,e2,←ih hr];by_cases wQ:r= [];·exact .inl wQ
  ·right;have hl:0<r.length:=qh.2 wQ;have h3:1000000000^r.length=1000000000*1000000000^(r.length-1):=by
    rw [←Nat.pow_succ'];congr 1;omega
   simp only [val]at hv;omega
theorem yO(n k:Nat)(h:n<1000000000^k):(dig n).length≤k:=by
 induction k generalizing n with
 |
  zero=>
  have:n=0:=by simpa using h
  subst this;rw [yi];simp
 |
  succ k ih=>
  by_cases h0:n=0;·subst h0;rw [yi];simp
  ·rw [JQ (by omega),kW];have:=ih (n/1000000000) (by rw [js]at h;omega);omega
theorem jbd {n:Nat}(h:dig n≠ []):1000000000^((dig n).length-1)≤n:=by
 induction n using Nat.strongRecOn with
 |
  ind n ih=>
  by_cases h0:n=0;·subst h0;rw [yi]at h;exact absurd rfl h
  ·rw [JQ (by omega)];by_cases h1:dig (n/1000000000)= [];·rw [h1];simp;omega
   ·have h2:=ih (n/1000000000) (by omega) h1;have hl:0<(dig (n/1000000000)).length:=qh.2 h1;have h3:1000000000^(dig (n/1000000000)).length=1000000000*1000000000^((dig (n/1000000000)).length-1):=by
     rw [←Nat.pow_succ'];congr 1;omega
    simp only [kW,xA];omega
def zO(L:E0):E0:=dig (val L)
theorem Qi(L:E0)(k:Nat)(h: ∀i,k≤i→L.getD i 0=0):val (L.take k)=val L:=by
 induction L generalizing k with
 |nil=>simp [val]
 |
  cons d r ih=>
  cases k with
  |
   zero=>
   have h0:d=0:=by simpa using h 0 (jO _)
   have hr:=ih 0 (fun i _=>by simpa using h (i+1) (by omega));simp only [qu,val]at hr ⊢;omega
  |
   succ k=>
   simp only [List.take_succ_cons,val];rw [ih k (fun i hi=>by simpa using h (i+1) (by omega))]
theorem zz {L:E0}(h:yx L)(k:Nat):yx (L.take k):=fun d hd=>h d (qR hd)
theorem Ku(L:E0)(k:Nat)(h:yx L)(hk:k≤L.length)(h0: ∀i,k≤i→L.getD i 0=0)(hn:k=0∨L.getD (k-1) 0≠0):L.take k=zO L:=by
 unfold zO;rw [←Qi L k h0];refine Ye _ (zz h k) ?_;rcases hn with rfl|hn;·left;simp
 ·by_cases iM:k=0;·left;subst iM;simp
  ·right;obtain⟨j,rfl⟩: ∃j,k=j+1:=⟨k-1,by omega⟩;have hj:j<L.length:=by omega
   rw [jh hj,zP,jZ,jf,kM];have e:L.getD j 0=L[j]:=by simp [jV,hj]
   have:L[j]≠0:=by rw [←e];simpa using hn
   rw [show min j L.length=j by omega,xA];simp only [val,Nat.mul_zero,qq];have h1:1000000000^j*1≤1000000000^j*L[j]:=qF _ (by omega);omega
theorem VT(L:E0)(h:yx L)(i:Nat):val (L.take i)=val L%1000000000^i:=by
 have e:=zP (L.take i) (L.drop i);rw [qw]at e;by_cases hi:i≤L.length
 ·rw [jf,kP hi]at e;have hl:=Ji _ (zz h i);rw [jf,kP hi]at hl;rw [e,Nat.add_mul_mod_self_left,kl hl]
 ·rw [je (by omega)];have hl:=Ji _ h;rw [kl (jW hl (ko (by decide) (by omega)))]
theorem yJ(L:E0)(i:Nat):val (L.take (i+1))=val (L.take i)+1000000000^i*L.getD i 0:=by
 by_cases hi:i<L.length
 ·rw [jh hi,zP,jf,kP (by omega)];simp [val,jV,hi]
 ·rw [je (by omega),je (by omega)];simp [jV,hi]
theorem yP {L:E0}(h:yx L)(i:Nat):L.getD i 0<1000000000:=by
 rw [jV];cases hq:L[i]? with
 |none=>simp
 |some v=>simp;exact h v (List.mem_of_getElem? hq)
theorem XA {L:E0}{d:Nat}(h:yx L)(hd:d<1000000000):yx (L++ [d]):=by
 intro x hx;rcases jj.1 hx with hx|hx;·exact h x hx
 ·have:x=d:=by simpa using hx
  omega
theorem Vj(L:E0)(d:Nat):val (L++ [d])=val L+1000000000^L.length*d:=by rw [zP];simp [val]
theorem zG {x i:Nat}(h:i<(dig x).length):1000000000^i≤x:=by
 have h0:dig x≠ []:=fun e=>by rw [e]at h;simp at h
 exact jU (ko (by decide) (by omega)) (jbd h0)
theorem xz(x:Nat):x<1000000000^(dig x).length:=by
 have:=Ji _ (yN x)
 rwa [yR]at this
structure Jq(x y:Nat)(O:E0)(u:Nat):Prop where
 all:yx O
 up:u≤1
 eq:val O+1000000000^O.length*u=val ((dig x).take O.length)+val ((dig y).take O.length)
 big:O= []∨1000000000^(O.length-1)≤x+y
theorem Jq.init(x y:Nat):Jq x y [] 0:=⟨(fun d hd=>by cases hd),by omega,by simp [val],.inl rfl⟩
theorem Jq.more {x y u:Nat}{O:E0}(S:Jq x y O u)(h:O.length<(dig x).length∨O.length<(dig y).length∨0<u):1000000000^O.length≤x+y:=by
 by_cases h1:O.length<(dig x).length;·exact jU (zG h1) (by omega)
 ·by_cases h2:O.length<(dig y).length;·exact jU (zG h2) (by omega)
  ·have hu:u=1:=by have:=S.up;omega
   have e:=S.eq;rw [je (by omega),je (by omega),yR,yR,hu]at e;omega
theorem Jq.next {x y u:Nat}{O:E0}(S:Jq x y O u)(h:O.length<(dig x).length∨O.length<(dig y).length∨0<u):
 Jq x y (O++ [((dig x).getD O.length 0+(dig y).getD O.length 0+u)%1000000000]) (((dig x).getD O.length 0+(dig y).getD O.length 0+u)/1000000000):=by
 have ha:=yP (yN x) O.length;have hb:=yP (yN y) O.length;have hu:=S.up;have hm:=S.more h;refine⟨XA S.all (by omega),by omega,?_,.inr (by simpa using hm)⟩;rw [jZ,kM,Vj,yJ,yJ];have e:=S.eq;generalize (dig x).getD O.length 0=a at*;generalize (dig y).getD O.length 0=b at*;generalize val ((dig x).take O.length)=p at*;generalize val ((dig y).take O.length)=q at*;rw [js,jx,vO,←jg,Nat.mod_add_div];generalize 1000000000^O.length=t at*;rw [jg,jg];omega
structure ZH(x y:Nat)(O:E0)(d:Nat):Prop where
 all:yx O
 down:d≤1
 eq:val ((dig x).take O.length)+1000000000^O.length*d=val O+val ((dig y).take O.length)
def Ja(x y:Nat):Int:=if x<y then -1 else if x=y then 0 else 1
theorem XV {x y:Nat}(h:x<y):Ja x y= -1:=jP h
theorem XW {x y:Nat}(h:y<x):Ja x y=1:=by unfold Ja;rw [jQ (by omega),jQ (by omega)]
theorem ZW(x:Nat):Ja x x=0:=by unfold Ja;rw [jQ (by omega),jP rfl]
theorem JT {x y:Nat}(h:(dig x).length<(dig y).length):x<y:=jW (xz x) (zG h)
theorem Xv(L:E0)(j:Nat)(h:j<L.length):val L=val (L.take j)+1000000000^j* (L.getD j 0+1000000000*val (L.drop (j+1))):=by
 have e:=zP (L.take j) (L.drop j);rw [qw,jf,kP (by omega),qA h,val]at e;rw [e];simp [jV,h]
theorem Qt {x y j:Nat}(hx:j<(dig x).length)(hy:j<(dig y).length)(hd:(dig x).drop (j+1)=(dig y).drop (j+1))(hl:(dig x).getD j 0<(dig y).getD j 0):x<y:=by
 have e1:=Xv (dig x) j hx;have e2:=Xv (dig y) j hy;have ns:=Ji _ (zz (yN x) j);rw [jf,kP (by omega)]at ns;rw [yR]at e1 e2;rw [hd]at e1;generalize val ((dig y).drop (j+1))=r at*;generalize (dig x).getD j 0=a at*;generalize (dig y).getD j 0=b at*;generalize val ((dig x).take j)=p at*;generalize val ((dig y).take j)=q at*;have h3:1000000000^j* (a+1000000000*r)+1000000000^j≤1000000000^j* (b+1000000000*r):=by
  have:1000000000^j* ((a+1000000000*r)+1)≤1000000000^j* (b+1000000000*r):=qF _ (by omega)
  rwa [jg,qS]at this
 omega
theorem jbb {A B:E0}{j:Nat}(hA:j<A.length)(hB:j<B.length)(h:A.drop (j+1)=B.drop (j+1))(hd:A.getD j 0=B.getD j 0):A.drop j=B.drop j:=by
 rw [qA hA,qA hB,h];congr 1;simpa [jV,hA,hB] using hd
theorem jba {x y:Nat}(h:dig x=dig y):x=y:=by rw [←yR x,←yR y,h]
theorem XH(L:E0)(k d:Nat)(hk:k<L.length):val (L.set k d)+1000000000^k*L.getD k 0=val L+1000000000^k*d:=by
 induction L generalizing k with
 |nil=>simp at hk
 |
  cons a r ih=>
  cases k with
  |zero=>simp [val];omega
  |
   succ k=>
   have:=ih k (by simpa using hk);simp only [List.set_cons_succ,val,List.getD_cons_succ,js];rw [kf (1000000000^k) 1000000000,jx,jx];omega
theorem Qp {L:E0}{k d:Nat}(h:yx L)(hd:d<1000000000):yx (L.set k d):=by
 intro x hx;rcases xK hx with hx|rfl;·exact h x hx
 ·exact hd
theorem getD_set_ne {L:E0}{k i d:Nat}(h:k≠i):(L.set k d).getD i 0=L.getD i 0:=by
 simp [jV,vv h]
theorem Xu(n:Nat):val (List.replicate n 0)=0:=by
 induction n with
 |zero=>rfl
 |succ n ih=>rw [List.replicate_succ,val,ih]
theorem Qe(n:Nat):yx (List.replicate n 0):=by
 intro x hx;have:=List.eq_of_mem_replicate hx;omega
structure Kp(x y i:Nat)(W:E0):Prop where
 len:W.length=(dig x).length+(dig y).length
 all:yx W
 eq:val W=val ((dig x).take i)*y
 zero: ∀k,i+(dig y).length≤k→W.getD k 0=0
structure VE(x y i j:Nat)(W:E0)(u:Nat):Prop where
 len:W.length=(dig x).length+(dig y).length
 all:yx W
 up:u<1000000000
 eq:val W+1000000000^(i+j)*u=val ((dig x).take i)*y+1000000000^i* (dig x).getD i 0*val ((dig y).take j)
 zero: ∀k,i+(dig y).length≤k→W.getD k 0=0
theorem Kp.init(x y:Nat):Kp x y 0 (List.replicate ((dig x).length+(dig y).length) 0):=by
 refine⟨by simp,Qe _,by simp [Xu,val],fun k _=>?_⟩;rw [jV,qU];split<;>rfl
theorem Kp.row {x y i:Nat}{W:E0}(S:Kp x y i W):VE x y i 0 W 0:=⟨S.len,S.all,by omega,by simp [val,S.eq],S.zero⟩
theorem VE.next {x y i j u:Nat}{W:E0}(S:VE x y i j W u)(hi:i<(dig x).length)(hj:j<(dig y).length):
 VE x y i (j+1) (W.set (i+j) ((W.getD (i+j) 0+(dig x).getD i 0* (dig y).getD j 0+u)%1000000000)) ((W.getD (i+j) 0+(dig x).getD i 0* (dig y).getD j 0+u)/1000000000):=by
 have ha:=yP (yN x) i;have hb:=yP (yN y) j;have hw:=yP S.all (i+j);have hu:=S.up;have eu:(dig x).getD i 0* (dig y).getD j 0≤999999999*999999999:=qV (by omega) (by omega);have hk:i+j<W.length:=by rw [S.len];omega
 refine⟨by rw [kE];exact S.len,Qp S.all (by omega),by omega,?_,fun k gG=>by rw [getD_set_ne (by omega)];exact S.zero k gG⟩;have e:=S.eq;have es:=XH W (i+j) ((W.getD (i+j) 0+(dig x).getD i 0* (dig y).getD j 0+u)%1000000000) hk;rw [yJ];generalize (dig x).getD i 0=a at*;generalize (dig y).getD j 0=b at*;generalize W.getD (i+j) 0=c at*;generalize val (W.set (i+j) ((c+a*b+u)%1000000000))=v2 at*;generalize val W=v at*;generalize val ((dig y).take j)=q at*;generalize val ((dig x).take i)*y=p at*;generalize hs:c+a*b+u=s at*;have e3:1000000000^i*a* (q+1000000000^j*b)=1000000000^i*a*q+1000000000^(i+j)* (a*b):=by
  rw [jg,vD];congr 1;rw [jx,jx,qx a (1000000000^j) b]
 rw [e3,←vO i j 1,js];generalize 1000000000^i*a*q=m at*;have e4:1000000000^(i+j)*s=1000000000^(i+j)* (s%1000000000)+1000000000^(i+j)*1000000000* (s/1000000000):=by
  rw [jx,←jg,Nat.mod_add_div]
 rw [←hs]at e4;rw [jg,jg]at e4;rw [hs]at e4;generalize 1000000000^(i+j)* (a*b)=t1 at*;generalize 1000000000^(i+j)*c=t2 at*;generalize 1000000000^(i+j)*u=t3 at*;generalize 1000000000^(i+j)* (s%1000000000)=t4 at*;generalize 1000000000^(i+j)*1000000000* (s/1000000000)=t5 at*;omega
theorem VE.done {x y i u:Nat}{W:E0}(S:VE x y i (dig y).length W u)(hi:i<(dig x).length):Kp x y (i+1) (W.set (i+(dig y).length) u):=by
 have hk:i+(dig y).length<W.length:=by rw [S.len];omega
 refine⟨by rw [kE];exact S.len,Qp S.all S.up,?_,fun k gG=>by rw [getD_set_ne (by omega)];exact S.zero k (by omega)⟩;have e:=S.eq;have es:=XH W (i+(dig y).length) u hk;rw [S.zero _ (jO _),Nat.mul_zero,qq]at es;rw [je (jO _),yR]at e;rw [es,e,yJ,qg]
theorem Kp.done {x y:Nat}{W:E0}(S:Kp x y (dig x).length W):zO W=dig (x*y):=by
 have e:=S.eq;rw [je (jO _),yR]at e;unfold zO;rw [e]
structure KM(x y k:Nat)(Q:E0)(r:Nat):Prop where
 len:Q.length=(dig x).length
 all:yx Q
 lt:r<y
 eq:val ((dig x).drop k)=y*val (Q.drop k)+r
 zero: ∀i,i<k→Q.getD i 0=0
structure YN(x y i:Nat)(Q:E0)(r:Nat):Prop where
 len:Q.length=(dig x).length
 all:yx Q
 lt:y*Q.getD i 0+r<1000000000*y
 eq:val ((dig x).drop i)=y*val (Q.drop i)+r
 zero: ∀j,j<i→Q.getD j 0=0
theorem KM.init(x y:Nat)(hy:0<y):KM x y (dig x).length (List.replicate (dig x).length 0) 0:=by
 refine⟨by simp,Qe _,hy,?_,fun k _=>?_⟩;·rw [qX (jO _),qX (by simp)];simp [val]
 ·rw [jV,qU];split<;>rfl
theorem Qq(L:E0)(i:Nat)(h:i<L.length):val (L.drop i)=L.getD i 0+1000000000*val (L.drop (i+1)):=by
 rw [qA h,val];simp [jV,h]
theorem KM.done {x y r:Nat}{Q:E0}(S:KM x y 0 Q r):zO Q=dig (x/y)∧r=x%y:=by
 have e:=S.eq;have hl:=S.lt;rw [jH,jH,yR]at e;have h1:x/y=val Q:=by rw [e,Nat.mul_add_div (by omega),Nat.div_eq_of_lt hl,qq]
 have h2:x%y=r:=by rw [e,Nat.mul_add_mod,kl hl]
 exact⟨by unfold zO;rw [h1],h2.symm⟩
structure Kq(L M:E0)(k:Nat)(W:E0)(d:Nat):Prop where
 len:W.length=L.length
 all:yx W
 down:d≤1
 eq:val W+val (M.take k)=val L+1000000000^k*d
theorem Kq.init {L:E0}(M:E0)(h:yx L):Kq L M 0 L 0:=⟨rfl,h,by omega,by simp [val]⟩
theorem Kq.next {L M W:E0}{k d:Nat}(S:Kq L M k W d)(hk:k<L.length)(s d':Nat)(hs:s<1000000000)(hd:d'≤1)(he:W.getD k 0+1000000000*d'=s+M.getD k 0+d):Kq L M (k+1) (W.set k s) d':=by
 refine⟨by rw [kE];exact S.len,Qp S.all hs,hd,?_⟩;have e:=S.eq;have es:=XH W k s (by rw [S.len];exact hk);rw [yJ,js,jx];generalize W.getD k 0=a at*;generalize M.getD k 0=b at*;have e2:1000000000^k*a+1000000000^k* (1000000000*d')=1000000000^k*s+1000000000^k*b+1000000000^k*d:=by
  rw [←jg,←jg,←jg,he]
 generalize 1000000000^k* (1000000000*d')=t1 at*;generalize 1000000000^k*a=t2 at*;generalize 1000000000^k*b=t3 at*;generalize 1000000000^k*s=t4 at*;generalize 1000000000^k*d=t5 at*;omega
structure Xb(L M W:E0)(d:Nat):Prop where
 len:W.length=L.length
 all:yx W
 down:d≤1
 eq:val W+val (M.take L.length)=val L+1000000000^L.length*d
theorem Kq.done {L M W:E0}{d:Nat}(S:Kq L M L.length W d):Xb L M W d:=⟨S.len,S.all,S.down,S.eq⟩
theorem Kq.stop {L M W:E0}{k:Nat}(S:Kq L M k W 0)(hk:k≤L.length)(hM:M.length≤k):Xb L M W 0:=by
 refine⟨S.len,S.all,by omega,?_⟩;have e:=S.eq;rw [je hM]at e;rw [je (by omega)];simpa using e
theorem Xb.sub {x y d:Nat}{W:E0}(S:Xb (dig x) (dig y) W d)(aJ:y≤x):zO W=dig (x-y):=by
 have e:=S.eq;have hy:val ((dig y).take (dig x).length)=y:=by
  rw [VT _ (yN y),yR,kl];exact qK aJ (xz x)
 have hO:=Ji _ S.all;rw [S.len]at hO;rw [hy,yR]at e;have hd:d=0:=by
  have:=S.down;rcases jw 0 d with h0|h0
  ·have h1:d=1:=by omega
   rw [h1]at e;omega
  ·omega
 rw [hd]at e;unfold zO;congr 1;omega
structure Xn(L M:E0)(k:Nat)(W:E0)(u:Nat):Prop where
 len:W.length=L.length
 all:yx W
 up:u≤1
 eq:val W+1000000000^k*u=val L+val (M.take k)
theorem Xn.init {L:E0}(M:E0)(h:yx L):Xn L M 0 L 0:=⟨rfl,h,by omega,by simp [val]⟩
theorem Xn.next {L M W:E0}{k u:Nat}(S:Xn L M k W u)(hM:yx M)(hk:k<L.length):Xn L M (k+1) (W.set k ((W.getD k 0+u+M.getD k 0)%1000000000)) ((W.getD k 0+u+M.getD k 0)/1000000000):=by
 have ha:=yP S.all k;have hb:=yP hM k;have hu:=S.up;refine⟨by rw [kE];exact S.len,Qp S.all (by omega),by omega,?_⟩;have e:=S.eq;have es:=XH W k ((W.getD k 0+u+M.getD k 0)%1000000000) (by rw [S.len];exact hk);rw [yJ,js,jx];generalize W.getD k 0=a at*;generalize M.getD k 0=b at*;have e2:1000000000^k*a+1000000000^k*u+1000000000^k*b=1000000000^k* ((a+u+b)%1000000000)+1000000000^k* (1000000000* ((a+u+b)/1000000000)):=by
  rw [←jg,←jg,←jg,Nat.mod_add_div]
 generalize 1000000000^k* (1000000000* ((a+u+b)/1000000000))=t1 at*;generalize 1000000000^k*a=t2 at*;generalize 1000000000^k*b=t3 at*;generalize 1000000000^k* ((a+u+b)%1000000000)=t4 at*;generalize 1000000000^k*u=t5 at*;omega
structure KU(x b:Nat)(O:E0)(u:Nat):Prop where
 all:yx O
 up:u<1000000000
 eq:val O+1000000000^O.length*u=val ((dig x).take O.length)*b
theorem KU.init(x b:Nat):KU x b [] 0:=⟨(fun d hd=>by cases hd),by omega,by simp [val]⟩
theorem KU.bound {x b u:Nat}{O:E0}(S:KU x b O u)(hb:b<1000000000)(a:Nat)(ha:a<1000000000):u+a*b<1000000000000000000:=by
 have hu:=S.up;have:a*b≤999999999*999999999:=qV (by omega) (by omega);omega
theorem KU.next {x b u:Nat}{O:E0}(S:KU x b O u)(hb:b<1000000000)(h:O.length<(dig x).length):
 KU x b (O++ [(u+(dig x).getD O.length 0*b)%1000000000]) ((u+(dig x).getD O.length 0*b)/1000000000):=by
 have ha:=yP (yN x) O.length;have hB:=S.bound hb _ ha;refine⟨XA S.all (qL _ (by decide)),by omega,?_⟩;have e:=S.eq;rw [Vj,jZ,kM,yJ,js,jx];generalize (dig x).getD O.length 0=a at*;rw [qg,←e,vO,←jg,Nat.mod_add_div,jg,jx];omega
theorem KU.done {x b u:Nat}{O:E0}(S:KU x b O u)(h:(dig x).length≤O.length):yx (O++ [u])∧zO (O++ [u])=dig (x*b):=by
 have e:=S.eq;rw [je h,yR]at e;refine⟨XA S.all S.up,?_⟩;unfold zO;rw [Vj,e]
theorem KM.step {x y i r:Nat}{Q:E0}(S:KM x y (i+1) Q r)(hi:i<(dig x).length):
 KM x y i (Q.set i ((r*1000000000+(dig x).getD i 0)/y)) ((r*1000000000+(dig x).getD i 0)%y)∧(r*1000000000+(dig x).getD i 0)/y<1000000000:=by
 have hz:=S.zero i (by omega);have ha:=yP (yN x) i;have hl:=S.lt;have Cy:i<Q.length:=by rw [S.len];exact hi
 have hv:=Qq (dig x) i hi;have e:=S.eq;generalize (dig x).getD i 0=a at*;have ns:(r*1000000000+a)/y<1000000000:=by
  rw [Nat.div_lt_iff_lt_mul (by omega)];omega
 have e1:(Q.set i ((r*1000000000+a)/y)).getD i 0=(r*1000000000+a)/y:=by simp [jV,Cy]
 refine⟨⟨by rw [kE];exact S.len,Qp S.all ns,qL _ (by omega),?_,fun j hj=>by rw [getD_set_ne (by omega)];exact S.zero j (by omega)⟩,ns⟩;rw [Qq (Q.set i _) i (by rw [kE];exact Cy),e1,List.drop_set_of_lt (by omega),hv,e];have:=Nat.div_add_mod (r*1000000000+a) y;generalize (r*1000000000+a)/y=q at*;generalize (r*1000000000+a)%y=m at*;rw [jg,jg,qx y];omega
structure Part(X v P lo TL H c t n:Nat):Prop where
 pos:0<P
 eX:X=lo+P* (c+1000000000*H)
 ev:v=TL+P* (n+1000000000*t)
 hlo:lo<P
 hlov:TL<P
 hc:c<1000000000
 hn:n<1000000000
 ht:t<1000000000
 half:1000000000≤2*t
 lt:X<1000000000*v
structure Xc(X v H t g l:Nat):Prop where
 eq:g*t+l=H
 le:X/v≤g
section
variable {X v P lo TL H c t n g l:Nat}
theorem Part.vpos(D:Part X v P lo TL H c t n):0<v:=by
 have:=D.lt;omega
theorem Part.headlt(D:Part X v P lo TL H c t n):H<1000000000* (t+1):=by
 have h1:=D.lt;have hP:=D.pos;have h2:v<P* (n+1000000000*t+1):=by rw [D.ev,jg P _ 1];have:=D.hlov;omega
 have h3:P* (1000000000*H)<P* (1000000000* (n+1000000000*t+1)):=by
  have e1:P* (1000000000*H)≤X:=by rw [D.eX,jg];omega
  have e2:P* (1000000000* (n+1000000000*t+1))=1000000000* (P* (n+1000000000*t+1)):=qx _ _ _;omega
 have h4:=xB h3;have:=D.hn;omega
theorem Part.init(D:Part X v P lo TL H c t n):Xc X v H t (H/t) (H%t):=by
 refine⟨by rw [kf];exact Nat.div_add_mod H t,?_⟩;have hv:=D.vpos;have hP:=D.pos;have ht:0<t:=by have:=D.half;omega
 rw [Nat.le_div_iff_mul_le ht];have h1:=Nat.div_mul_le_self X v;generalize X/v=q at*;have h2:q* (P* (1000000000*t))≤q*v:=qF q (by rw [D.ev,jg];omega);have h3:X<P* (1000000000* (H+1)):=by
  rw [D.eX];have hc:=D.hc;have hlo:=D.hlo;have:P* (c+1000000000*H+1)≤P* (1000000000* (H+1)):=qF P (by omega);rw [jg P _ 1]at this;omega
 have h4:P* (1000000000* (q*t))<P* (1000000000* (H+1)):=by
  have e:q* (P* (1000000000*t))=P* (1000000000* (q*t)):=by rw [qx,qx q]
  omega
 have h5:=xB (xB h4);omega
theorem Xc.small(G:Xc X v H t g l)(D:Part X v P lo TL H c t n):g≤1000000001:=by
 have h1:=D.headlt;have h2:=G.eq;have h3:=D.half;have h4:g*t<1000000002*t:=by omega
 have:=Nat.lt_of_mul_lt_mul_right h4;omega
theorem Xc.next(G:Xc X v H t g l)(D:Part X v P lo TL H c t n)(h:1000000000≤g∨l*1000000000+c<g*n):1≤g∧Xc X v H t (g-1) (l+t):=by
 have hv:=D.vpos;have hP:=D.pos;have ns:X/v<g:=by
  rw [Nat.div_lt_iff_lt_mul hv];rcases h with h|h;·exact jW D.lt (Nat.mul_le_mul_right v h)
  ·
    have e1:P* (g*n+1000000000* (g*t))≤g*v:=by
     have e2:P* (g*n+1000000000* (g*t))=g* (P* (n+1000000000*t)):=by
      rw [qx g P,jg g,qx g 1000000000]
     rw [e2];exact qF g (by rw [D.ev];omega)
    have e2:P* (c+1000000000*H+1)≤P* (g*n+1000000000* (g*t)):=qF P (by have:=G.eq;omega);have e3:=D.eX;have e4:=D.hlo;rw [jg P _ 1]at e2;omega
 have hq0:0≤X/v:=ja _;have hg:1≤g:=qK hq0 ns;have hq1:X/v≤g-1:=Nat.le_sub_one_of_lt ns;refine⟨hg,?_,hq1⟩;have:=G.eq;obtain⟨k,rfl⟩: ∃k,g=k+1:=⟨g-1,by omega⟩;rw [qg,Nat.one_mul]at this;rw [xA];omega
theorem Xc.stop(G:Xc X v H t g l)(h2:g*n≤l*1000000000+c):g* (t*1000000000+n)≤H*1000000000+c:=by
 have:=G.eq;rw [jg,←jx];omega
theorem Xc.brk(G:Xc X v H t g l)(D:Part X v P lo TL H c t n)(h:1000000000≤l):g<1000000000∧g* (t*1000000000+n)≤H*1000000000+c:=by
 have h1:=D.headlt;have h2:=G.eq;have hg:g<1000000000:=by
  have:g*t<1000000000*t:=by omega
  exact Nat.lt_of_mul_lt_mul_right this
 have hn:=D.hn;have:g*n≤999999999*999999999:=qV (by omega) (by omega);exact⟨hg,G.stop (by omega)⟩
theorem Xc.near(G:Xc X v H t g l)(D:Part X v P lo TL H c t n)(hg:g<1000000000)(hs:g* (t*1000000000+n)≤H*1000000000+c):g=X/v∨g=X/v+1:=by
 have Az:=G.le;have hv:=D.vpos;have hP:=D.pos;rcases jw (X/v+1) g with hc|hc
 ·exfalso;have h1:X<(X/v+1)*v:=by
   rw [←Nat.div_lt_iff_lt_mul hv];omega
  generalize X/v=q at*;have h2:(q+1)*v≤(g-1)*v:=Nat.mul_le_mul_right v (by omega);have h3:P* (g* (t*1000000000+n))≤X:=by
   rw [D.eX];have:=qF P hs;rw [show c+1000000000*H=H*1000000000+c by omega];omega
  have h4:g*v≤P* (g* (t*1000000000+n))+g*P:=by
   rw [D.ev,jg,qx g P,show n+1000000000*t=t*1000000000+n by omega];have:=qF g (jX D.hlov);omega
  have h5:(g-1)*v+v=g*v:=by
   obtain⟨k,rfl⟩: ∃k,g=k+1:=⟨g-1,by omega⟩;rw [xA,qg,Nat.one_mul]
  have h6:v<g*P:=by omega
  have h7:P* (1000000000*t)≤v:=by rw [D.ev,jg];omega
  have h8:P* (1000000000*t)<P*g:=by rw [kf P g];omega
  have h9:=xB h8;have:=D.half;omega
 ·omega
end
theorem jlv(L:E0)(hA:yx L)(k:Nat)(hl:L.length=k+2):val L=val (L.take k)+1000000000^k* (L.getD k 0+1000000000*L.getD (k+1) 0)∧val (L.take k)<1000000000^k:=by
 have e0:val L=val (L.take (k+2)):=by rw [je (by omega)]
 have h:=Ji _ (zz hA k);rw [jf,kP (by omega)]at h;refine⟨?_,h⟩;rw [e0,yJ,yJ,jg,js,jx];omega
theorem jlu(L:E0)(hA:yx L)(k:Nat)(hl:L.length=k+3):val L=val (L.take k)+1000000000^k* (L.getD k 0+1000000000* (L.getD (k+2) 0*1000000000+L.getD (k+1) 0))∧val (L.take k)<1000000000^k:=by
 have e0:val L=val (L.take (k+3)):=by rw [je (by omega)]
 have h:=Ji _ (zz hA k);rw [jf,kP (by omega)]at h;refine⟨?_,h⟩;have p1:1000000000^(k+1)=1000000000^k*1000000000:=js ..;have p2:1000000000^(k+2)=1000000000^k* (1000000000*1000000000):=by rw [js,p1,jx]
 rw [e0,yJ,yJ,yJ,p1,p2,jx,jx,vO,vO,←jg,←jg];congr 2;omega
theorem jnN(L:E0)(hA:yx L)(v k:Nat)(hL:L.length=k+3)(hV:(dig v).length=k+2)(half:1000000000≤2* (dig v).getD (k+1) 0)(ns:val L<1000000000*v):
 Part (val L) v (1000000000^k) (val (L.take k)) (val ((dig v).take k)) (L.getD (k+2) 0*1000000000+L.getD (k+1) 0) (L.getD k 0) ((dig v).getD (k+1) 0) ((dig v).getD k 0):=by
 obtain⟨e1,b1⟩:=jlu L hA k hL;obtain⟨e2,b2⟩:=jlv (dig v) (yN v) k hV;rw [yR]at e2;exact⟨Nat.pow_pos (by decide),e1,e2,b1,b2,yP hA _,yP (yN v) _,yP (yN v) _,half,ns⟩
theorem jof(t:Nat)(ht:0<t)(h:t<1000000000):1≤1000000000/(t+1)∧1000000000/(t+1)≤500000000∧(t+1)* (1000000000/(t+1))≤1000000000∧1000000000≤2* (t* (1000000000/(t+1))):=by
 have e:=Nat.div_add_mod 1000000000 (t+1);have hr:=qL 1000000000 (show t+1>0 by omega);have h1:1≤1000000000/(t+1):=by rw [Nat.le_div_iff_mul_le (by omega)];omega
 have h2:1000000000/(t+1)≤500000000:=by
  have:1000000000/(t+1)≤1000000000/2:=Nat.div_le_div_left (by omega) (by decide);omega
 generalize 1000000000/(t+1)=u at*;generalize 1000000000%(t+1)=r at*;refine⟨h1,h2,by omega,?_⟩;rw [qg,Nat.one_mul]at e;rcases jw u 2 with hu|hu
 ·have:u=1:=by omega
  subst this;omega
 ·rcases jw t 2 with ht2|ht2
  ·have:t=1:=by omega
   subst this;omega
  ·have h3:(u-1)*1≤(u-1)* (t-1):=qF _ (by omega);have h4:t+u≤t*u:=by
    obtain⟨a,rfl⟩: ∃a,u=a+2:=⟨u-2,by omega⟩;obtain⟨b,rfl⟩: ∃b,t=b+2:=⟨t-2,by omega⟩;rw [qg,jg,jg];have:0≤b*a:=ja _;omega
   omega
theorem jmF(y k:Nat)(hl:(dig y).length=k+2): ∃u,u=1000000000/((dig y).getD (k+1) 0+1)∧1≤u∧u<1000000000∧(dig (y*u)).length=k+2∧1000000000≤2* (dig (y*u)).getD (k+1) 0:=by
 have ht:=yP (yN y) (k+1);have ht0:0<(dig y).getD (k+1) 0:=by
  have h1:=jbd (n:=y) (by intro h;rw [h]at hl;simp at hl);have h2:=yJ (dig y) (k+1);rw [je (by omega),yR]at h2;have h3:=Ji _ (zz (yN y) (k+1));rw [jf,kP (by omega)]at h3;rw [hl,show k+2-1=k+1 by omega]at h1;rcases vP ((dig y).getD (k+1) 0)with h0|h0;·rw [h0]at h2;omega
  ·exact h0
 obtain⟨h1,h2,h3,h4⟩:=jof _ ht0 ht;refine⟨_,rfl,h1,by omega,?_⟩;have e:=yJ (dig y) (k+1);rw [je (by omega),yR]at e;have b:=Ji _ (zz (yN y) (k+1));rw [jf,kP (by omega)]at b;generalize val ((dig y).take (k+1))=lo at*;generalize (dig y).getD (k+1) 0=t at*;generalize 1000000000/(t+1)=u at*;have hP:0<1000000000^(k+1):=Nat.pow_pos (by decide);have ON:y*u<1000000000^(k+2):=by
  have h5:y<1000000000^(k+1)* (t+1):=by rw [jg,e];omega
  have h6:=Nat.mul_lt_mul_of_pos_right h5 (show 0<u by omega);rw [jx]at h6;have h7:=qF (1000000000^(k+1)) h3;rw [js];omega
 have hlo:1000000000^(k+1)* (t*u)≤y*u:=by
  rw [e,qg,jx];omega
 have Ds:(dig (y*u)).length=k+2:=by
  have l1:=yO (y*u) (k+2) ON;have l2:=xz (y*u);rcases jw (dig (y*u)).length (k+2)with hc|hc
  ·have l3:1000000000^(dig (y*u)).length≤1000000000^(k+1):=ko (by decide) (by omega);have:1000000000^(k+1)*1≤1000000000^(k+1)* (t*u):=qF _ (by omega);omega
  ·omega
 refine⟨Ds,?_⟩;have e2:=yJ (dig (y*u)) (k+1);rw [je (by omega),yR]at e2;have b2:=Ji _ (zz (yN (y*u)) (k+1));rw [jf,kP (by omega)]at b2;generalize (dig (y*u)).getD (k+1) 0=T at*;generalize val ((dig (y*u)).take (k+1))=lo2 at*;have:1000000000^(k+1)* (t*u)<1000000000^(k+1)* (T+1):=by rw [jg];omega
 have:=xB this;omega
theorem jil {L W:E0}{v g d:Nat}(S:Xb L (dig (v*g)) W d)(hl:(dig (v*g)).length≤L.length)(hv:0<v)(hg:g=val L/v):d=0∧val W=val L%v:=by
 have e:=S.eq;have hw:=Ji _ S.all;rw [S.len]at hw;rw [je hl,yR]at e;have h1:=Nat.div_add_mod (val L) v;rw [←hg]at h1;have hd:=S.down;have Dy:d=0:=by
  rcases jw 0 d with h|h
  ·have:d=1:=by omega
   subst this;have hm:=qL (val L) hv;omega
  ·omega
 subst Dy;refine⟨rfl,?_⟩;omega
theorem jkA {L W:E0}{v g d:Nat}(S:Xb L (dig (v*g)) W d)(hl:(dig (v*g)).length≤L.length)(hv:0<v)(hg:g=val L/v+1):d=1∧val W+v=val L%v+1000000000^L.length:=by
 have e:=S.eq;rw [je hl,yR]at e;have h1:=Nat.div_add_mod (val L) v;have hm:=qL (val L) hv;rw [hg,jg,qS]at e;have hd:=S.down;have lF:d=1:=by
  rcases jw 0 d with h|h;·omega
  ·have:d=0:=by omega
   subst this;omega
 subst lF;exact⟨rfl,by omega⟩
theorem jkx {L W W2:E0}{v u:Nat}(hW:W.length=L.length)(h:val W+v=val L%v+1000000000^L.length)(S:Xn W (dig v) W.length W2 u)(hl:(dig v).length≤W.length):val W2=val L%v:=by
 have e:=S.eq;have hw:=Ji _ S.all;rw [S.len]at hw;rw [je hl,yR,h,hW]at e;rw [hW]at hw;have hu:=S.up;have:u=1:=by
  rcases jw 0 u with h|h;·omega
  ·have:u=0:=by omega
   subst this;omega
 subst this;omega
structure VO(X v k i:Nat)(R Q:E0):Prop where
 len:R.length=Q.length+k
 allR:yx R
 allQ:yx Q
 eq:val R+v*val Q=X
 lt:val (R.drop i)<v
 zero: ∀j,j<i→Q.getD j 0=0
theorem VO.init {X v k s:Nat}{R:E0}(hl:R.length=s+k)(hA:yx R)(hX:val R=X)(hv:1000000000^(k-1)≤v)(hk:0<k)(h0:R.getD (s+k-1) 0=0):VO X v k s R (List.replicate s 0):=by
 refine⟨by simp [hl],hA,Qe _,by rw [Xu];omega,?_,fun k _=>by rw [jV,qU];split<;>rfl⟩;have h1:val (R.drop s)=val ((R.drop s).take (k-1))+1000000000^(k-1)* (R.drop s).getD (k-1) 0:=by
  rw [←yJ,show k-1+1=k by omega,je (by rw [kQ];omega)]
 have h2:(R.drop s).getD (k-1) 0=0:=by
  have e:(R.drop s).getD (k-1) 0=R.getD (s+k-1) 0:=by simp [jV,vF,show s+(k-1)=s+k-1 by omega]
  rw [e];exact h0
 have h3:=Ji _ (zz (L:=R.drop s) (fun d hd=>hA d (xC hd)) (k-1));rw [jf,kQ,kP (by omega)]at h3;rw [h2]at h1;omega
theorem VO.part {X v k i:Nat}{R Q:E0}(S:VO X v k (i+1) R Q)(hi:i<Q.length)(hv:v<1000000000^k):yx ((R.drop i).take (k+1))∧((R.drop i).take (k+1)).length=k+1∧val ((R.drop i).take (k+1))=val (R.drop i)∧val ((R.drop i).take (k+1))<1000000000*v:=by
 have hD:yx (R.drop i):=fun d hd=>S.allR d (xC hd);have Ds:=S.len;have ns:=S.lt;have hd:=Qq R i (by omega);have ha:=yP S.allR i;have h1:val (R.drop i)<1000000000*v:=by omega
 have h2:val ((R.drop i).take (k+1))=val (R.drop i):=by
  rw [VT _ hD,kl];rw [js,kf (1000000000^k)];omega
 refine⟨zz hD _,by rw [jf,kQ];omega,h2,by rw [h2];exact h1⟩
def Yt(R W:E0)(i:Nat):E0:=R.take i++(W++R.drop (i+W.length))
theorem Yx {R W:E0}{i:Nat}(h:i+W.length≤R.length):(Yt R W i).length=R.length:=by
 unfold Yt;simp;omega
theorem jnk {R W:E0}{i:Nat}(h1:yx R)(h2:yx W):yx (Yt R W i):=by
 intro d hd;unfold Yt at hd;rcases jj.1 hd with h|h;·exact h1 d (qR h)
 ·rcases jj.1 h with h|h;·exact h2 d h
  ·exact h1 d (xC h)
theorem jeO(R:E0)(i:Nat)(h:i≤R.length):val R=val (R.take i)+1000000000^i*val (R.drop i):=by
 conv=>lhs;rw [←qw i R]
 rw [zP,jf,kP h]
theorem jlf {R W:E0}{i:Nat}(h:i≤R.length):(Yt R W i).drop i=W++R.drop (i+W.length):=by
 unfold Yt;rw [List.drop_append,jf,kP h,Nat.sub_self,jH,qX (by rw [jf];omega),vQ]
theorem jjB {R W:E0}{i:Nat}(h:i≤R.length):(Yt R W i).take i=R.take i:=by
 unfold Yt;rw [xW (by rw [jf];omega),je (by rw [jf];omega)]
theorem VO.next {X v k i:Nat}{R Q W:E0}(S:VO X v k (i+1) R Q)(hi:i<Q.length)(sD:0<v)(hv:v<1000000000^k)(hW:W.length=k+1)(hWA:yx W)(hWv:val W=val ((R.drop i).take (k+1))%v)(q:Nat)(hq:q=val ((R.drop i).take (k+1))/v):
 VO X v k i (Yt R W i) (Q.set i q)∧q<1000000000:=by
 obtain⟨p1,p2,p3,p4⟩:=S.part hi hv;have Ds:=S.len;have GG:q<1000000000:=by rw [hq,Nat.div_lt_iff_lt_mul sD];exact p4
 have hz:val (R.drop (i+(k+1)))=0:=by
  have h1:=jeO (R.drop i) (k+1) (by rw [kQ];omega);rw [List.drop_drop,p3]at h1;have hP:0<1000000000^(k+1):=Nat.pow_pos (by decide);rcases vP (val (R.drop (i+(k+1))))with h|h;·exact h
  ·have:1000000000^(k+1)*1≤1000000000^(k+1)*val (R.drop (i+(k+1))):=qF _ h;omega
 have hd:val ((Yt R W i).drop i)=val W:=by
  rw [jlf (by omega),zP,hW,hz,Nat.mul_zero,qq]
 refine⟨⟨by rw [Yx (by omega),kE];exact Ds,jnk S.allR hWA,Qp S.allQ GG,?_,by rw [hd,hWv];exact qL _ sD,fun j hj=>by rw [getD_set_ne (by omega)];exact S.zero j (by omega)⟩,GG⟩;have e:=S.eq;have hs:=XH Q i q hi;rw [S.zero i (by omega),Nat.mul_zero,qq]at hs;rw [hs,jeO (Yt R W i) i (by rw [Yx (by omega)];omega),hd,jjB (by omega)];have h2:=jeO R i (by omega);have h3:=Nat.div_add_mod (val ((R.drop i).take (k+1))) v;rw [←hq,←hWv,p3]at h3;rw [←e,h2,←h3,jg,jg,qx v];omega
theorem VO.done {X v k:Nat}{R Q:E0}(S:VO X v k 0 R Q):zO Q=dig (X/v)∧zO R=dig (X%v):=by
 have e:=S.eq;have hl:=S.lt;rw [jH]at hl;have h1:X/v=val Q:=by rw [←e,Nat.add_comm,Nat.mul_add_div (by omega),Nat.div_eq_of_lt hl,qq]
 have h2:X%v=val R:=by rw [←e,Nat.add_comm,Nat.mul_add_mod,kl hl]
 exact⟨by unfold zO;rw [h1],by unfold zO;rw [h2]⟩
theorem joD(x y u:Nat)(hu:0<u):(x*u)/(y*u)=x/y:=Nat.mul_div_mul_right x y hu
theorem joC(x y u:Nat)(hu:0<u):((x*u)%(y*u))/u=x%y:=by rw [Nat.mul_mod_mul_right,Nat.mul_div_cancel _ hu]
end Go.Proofs.YtnohcdpnnhmpfaaGreatDoor.NL
namespace Go.Proofs.YtnohcdpnnhmpfaaGreatDoor
def NB(K x:Nat):Prop:= ∃k,k≤K∧x<10^k
namespace NB
variable {K L x y:Nat}
end NB
end Go.Proofs.YtnohcdpnnhmpfaaGreatDoor
