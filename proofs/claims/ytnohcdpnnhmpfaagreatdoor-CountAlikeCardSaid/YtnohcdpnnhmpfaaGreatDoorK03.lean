/-
  Fractions in lowest terms: the plain law. No program in sight.
  Fractions in lowest terms and what they are worth. No program in sight.
  Chapter 13, Transfer: the count in plain words: votes, who goes on, one round, all rounds. No program in sight.
  Chapter 13, Transfer: what holds from round to round: no vote is lost, at most s are elected, fractions stay small. No program in sight.
  Chapter 13, Transfer: each round keeps what holds. No program in sight.
  Chapter 13, Transfer: fractions stay small. No program in sight.
-/
import Derived.KernelRfl
import Derived.Test.YtnohcdpnnhmpfaaGreatDoorK02
set_option linter.unusedVariables false
set_option linter.unusedSimpArgs false
namespace Go.Proofs.YtnohcdpnnhmpfaaGreatDoor.FRP
def low1(n d:Nat):Nat:=n/Nat.gcd n d
def low2(n d:Nat):Nat:=d/Nat.gcd n d
theorem low_gcd {n d:Nat}(hd:0<d):0<Nat.gcd n d:=Nat.gcd_pos_of_pos_right n hd
theorem low_repr {n d:Nat}:n=Nat.gcd n d*low1 n d∧d=Nat.gcd n d*low2 n d:=
 ⟨(Nat.mul_div_cancel' (Nat.gcd_dvd_left n d)).symm,(Nat.mul_div_cancel' (Nat.gcd_dvd_right n d)).symm⟩
theorem low_pos {n d:Nat}(hd:0<d):0<low2 n d:=Nat.div_pos (Nat.le_of_dvd hd (Nat.gcd_dvd_right n d)) (low_gcd hd)
theorem low_cop {n d:Nat}(hd:0<d):Nat.gcd (low1 n d) (low2 n d)=1:=by
 unfold low1 low2;rw [Nat.gcd_div (Nat.gcd_dvd_left n d) (Nat.gcd_dvd_right n d),Nat.div_self (low_gcd hd)]
theorem cop_eq {a b c d:Nat}(h1:Nat.gcd a b=1)(h2:Nat.gcd c d=1)(hb:0<b)(hd:0<d)(h:a*d=c*b):a=c∧b=d:=by
 have e1:b∣d:=by
  have:b∣a*d:=by rw [h];exact Nat.dvd_mul_left b c
  exact Nat.Coprime.dvd_of_dvd_mul_left (show Nat.Coprime b a from by rw [Nat.coprime_comm];exact h1) this
 have e2:d∣b:=by
  have:d∣c*b:=by rw [←h];exact Nat.dvd_mul_left d a
  exact Nat.Coprime.dvd_of_dvd_mul_left (show Nat.Coprime d c from by rw [Nat.coprime_comm];exact h2) this
 have e3:b=d:=Nat.dvd_antisymm e1 e2;subst e3;exact⟨Nat.eq_of_mul_eq_mul_right hb h,rfl⟩
theorem low_self {n d:Nat}(h:Nat.gcd n d=1):low1 n d=n∧low2 n d=d:=by
 unfold low1 low2;rw [h,Nat.div_one,Nat.div_one];exact⟨rfl,rfl⟩
structure Fr where
 n:Nat
 d:Nat
def Fr.ok(x:Fr):Prop:=0<x.d∧Nat.gcd x.n x.d=1
def Fr.low(n d:Nat):Fr:=⟨low1 n d,low2 n d⟩
def Fr.add(x y:Fr):Fr:=Fr.low (x.n*y.d+y.n*x.d) (x.d*y.d)
def Fr.mul(x y:Fr):Fr:=Fr.low (x.n*y.n) (x.d*y.d)
def Fr.sub(x y:Fr):Fr:=Fr.low (x.n*y.d-y.n*x.d) (x.d*y.d)
def Fr.div(x y:Fr):Fr:=Fr.low (x.n*y.d) (x.d*y.n)
theorem Fr.low_ok {n d:Nat}(hd:0<d):(Fr.low n d).ok:=⟨low_pos hd,low_cop hd⟩
theorem Fr.low_self {x:Fr}(h:x.ok):Fr.low x.n x.d=x:=by
 obtain⟨h1,h2⟩:=FRP.low_self h.2;unfold Fr.low;rw [h1,h2]
theorem low_prop(n d:Nat): ∃g,n=g* (Fr.low n d).n∧d=g* (Fr.low n d).d:=⟨Nat.gcd n d,low_repr.1,low_repr.2⟩
theorem low_cr(n d:Nat):(Fr.low n d).n*d=n* (Fr.low n d).d:=by
 obtain⟨g,h1,h2⟩:=low_prop n d;generalize (Fr.low n d).n=a at*;generalize (Fr.low n d).d=b at*;subst h1 h2
 ac_rfl
theorem Fr.add_ok {x y:Fr}(hx:x.ok)(hy:y.ok):(x.add y).ok:=Fr.low_ok (Nat.mul_pos hx.1 hy.1)
theorem Fr.mul_ok {x y:Fr}(hx:x.ok)(hy:y.ok):(x.mul y).ok:=Fr.low_ok (Nat.mul_pos hx.1 hy.1)
theorem Fr.mul_one {x:Fr}(hx:x.ok):x.mul ⟨1,1⟩=x:=by
 unfold Fr.mul;show Fr.low (x.n*1) (x.d*1)=x;rw [Nat.mul_one,Nat.mul_one];exact Fr.low_self hx
def Fr.v(x:Fr):Rat:=(x.n:Rat)/(x.d:Rat)
theorem cast_pos {d:Nat}(h:0<d):(0:Rat)<(d:Rat):=Rat.natCast_pos.2 h
theorem cast_ne {d:Nat}(h:0<d):(d:Rat)≠0:=fun e=>by have:=cast_pos h;rw [e]at this;exact absurd this (by decide)
theorem Fr.v_mul_d {x:Fr}(h:0<x.d):x.v* (x.d:Rat)=(x.n:Rat):=Rat.div_mul_cancel (cast_ne h)
theorem div_eq_of {a b c:Rat}(hb:b≠0)(h:a=c*b):a/b=c:=by rw [h];exact Rat.mul_div_cancel hb
theorem Fr.v_low {n d:Nat}(hd:0<d):(Fr.low n d).v=(n:Rat)/(d:Rat):=by
 have h1:(((Fr.low n d).n*d:Nat):Rat)=((n* (Fr.low n d).d:Nat):Rat):=by rw [low_cr]
 have h2:0<(Fr.low n d).d:=(Fr.low_ok hd).1;rw [Rat.natCast_mul,Rat.natCast_mul]at h1;unfold Fr.v;generalize ((Fr.low n d).n:Rat)=a at*;have hb:=cast_ne h2;generalize ((Fr.low n d).d:Rat)=b at*;have hd:=cast_ne hd;generalize (d:Rat)=e at*;generalize (n:Rat)=m at*;refine div_eq_of hb ?_;grind
theorem Fr.v_add {x y:Fr}(hx:x.ok)(hy:y.ok):(x.add y).v=x.v+y.v:=by
 unfold Fr.add;rw [Fr.v_low (Nat.mul_pos hx.1 hy.1)];have h1:=Fr.v_mul_d hx.1;have h2:=Fr.v_mul_d hy.1;have h3:=cast_ne hx.1;have h4:=cast_ne hy.1;rw [Rat.natCast_add,Rat.natCast_mul,Rat.natCast_mul,Rat.natCast_mul,←h1,←h2];refine div_eq_of (fun e=>(Rat.mul_eq_zero.1 e).elim h3 h4) ?_;grind
theorem Fr.v_mul {x y:Fr}(hx:x.ok)(hy:y.ok):(x.mul y).v=x.v*y.v:=by
 unfold Fr.mul;rw [Fr.v_low (Nat.mul_pos hx.1 hy.1)];have h1:=Fr.v_mul_d hx.1;have h2:=Fr.v_mul_d hy.1;have h3:=cast_ne hx.1;have h4:=cast_ne hy.1;rw [Rat.natCast_mul,Rat.natCast_mul,←h1,←h2];refine div_eq_of (fun e=>(Rat.mul_eq_zero.1 e).elim h3 h4) ?_;grind
theorem Fr.le_iff {x y:Fr}(hx:0<x.d)(hy:0<y.d):x.v≤y.v↔x.n*y.d≤y.n*x.d:=by
 have h1:=Fr.v_mul_d hx;have h2:=Fr.v_mul_d hy;have h3:=cast_pos hx;have h4:=cast_pos hy;rw [←Rat.natCast_le_natCast (a:=x.n*y.d),Rat.natCast_mul,Rat.natCast_mul,←h1,←h2];have e:y.v* (y.d:Rat)* (x.d:Rat)=y.v* (x.d:Rat)* (y.d:Rat):=by grind
 rw [e]
 exact⟨fun h=>Rat.mul_le_mul_of_nonneg_right (Rat.mul_le_mul_of_nonneg_right h (Rat.le_of_lt h3)) (Rat.le_of_lt h4),
  fun h=>Rat.le_of_mul_le_mul_right (Rat.le_of_mul_le_mul_right h h4) h3⟩
theorem Fr.lt_iff {x y:Fr}(hx:0<x.d)(hy:0<y.d):x.v<y.v↔x.n*y.d<y.n*x.d:=by
 rw [←Rat.not_le,Fr.le_iff hy hx,Nat.not_le]
theorem Fr.v_sub {x y:Fr}(hx:x.ok)(hy:y.ok)(h:y.v≤x.v):(x.sub y).v=x.v-y.v:=by
 unfold Fr.sub;have hle:=(Fr.le_iff hy.1 hx.1).1 h;rw [Fr.v_low (Nat.mul_pos hx.1 hy.1)];have h1:=Fr.v_mul_d hx.1;have h2:=Fr.v_mul_d hy.1;have h3:=cast_ne hx.1;have h4:=cast_ne hy.1;have e:((x.n*y.d-y.n*x.d:Nat):Rat)=(x.n:Rat)*y.d-(y.n:Rat)*x.d:=by
  have:((x.n*y.d-y.n*x.d+y.n*x.d:Nat):Rat)=((x.n*y.d:Nat):Rat):=by rw [Nat.sub_add_cancel hle]
  rw [Rat.natCast_add,Rat.natCast_mul,Rat.natCast_mul]at this;grind
 rw [e,Rat.natCast_mul,←h1,←h2];refine div_eq_of (fun e=>(Rat.mul_eq_zero.1 e).elim h3 h4) ?_;grind
theorem Fr.v_pos {x:Fr}(hx:0<x.d):0<x.v↔0<x.n:=by
 have h1:=Fr.v_mul_d hx;have h3:=cast_pos hx;rw [←Rat.natCast_pos (a:=x.n),←h1];exact(Rat.mul_pos_iff_of_pos_right h3).symm
theorem Fr.v_nonneg {x:Fr}(hx:0<x.d):0≤x.v:=by
 rw [←Rat.not_lt];intro h;have h1:=Fr.v_mul_d hx;have h3:=cast_pos hx;have h4:(0:Rat)≤(x.n:Rat):=Rat.natCast_nonneg;have h5:=(Rat.mul_neg_iff_of_pos_right (a:=x.v) h3).2 h;rw [h1]at h5;exact absurd h5 (Rat.not_lt.2 h4)
theorem Fr.v_div {x y:Fr}(hx:x.ok)(hy:y.ok)(h:0<y.n):(x.div y).v=x.v/y.v:=by
 unfold Fr.div;rw [Fr.v_low (Nat.mul_pos hx.1 h)];have h1:=Fr.v_mul_d hx.1;have h2:=Fr.v_mul_d hy.1;have h3:=cast_ne hx.1;have h4:=cast_ne hy.1;have h5:y.v≠0:=fun e=>by have:=(Fr.v_pos hy.1).2 h;rw [e]at this;exact absurd this (by decide)
 rw [Rat.natCast_mul,Rat.natCast_mul,←h1,←h2];refine div_eq_of (fun e=>?_) ?_
 ·rcases Rat.mul_eq_zero.1 e with h|h;·exact h3 h
  ·exact(Rat.mul_eq_zero.1 h).elim h5 h4
 ·have h6:x.v/y.v*y.v=x.v:=Rat.div_mul_cancel h5;grind
theorem Fr.div_ok {x y:Fr}(hx:x.ok)(h:0<y.n):(x.div y).ok:=Fr.low_ok (Nat.mul_pos hx.1 h)
theorem Fr.sub_ok {x y:Fr}(hx:x.ok)(hy:y.ok):(x.sub y).ok:=Fr.low_ok (Nat.mul_pos hx.1 hy.1)
theorem Fr.v_inj {x y:Fr}(hx:x.ok)(hy:y.ok)(h:x.v=y.v):x=y:=by
 have h1:=(Fr.le_iff hx.1 hy.1).1 (by rw [h];exact Rat.le_refl);have h2:=(Fr.le_iff hy.1 hx.1).1 (by rw [h];exact Rat.le_refl);obtain⟨e1,e2⟩:=cop_eq hx.2 hy.2 hx.1 hy.1 (by omega);cases x;cases y;simp_all
def Fr.wh(n:Nat):Fr:=⟨n,1⟩
theorem Fr.wh_ok(n:Nat):(Fr.wh n).ok:=⟨Nat.one_pos,Nat.gcd_one_right n⟩
theorem Fr.v_wh(n:Nat):(Fr.wh n).v=(n:Rat):=div_eq_of (cast_ne Nat.one_pos) (by show(n:Rat)=n* ((1:Nat):Rat);grind)
end Go.Proofs.YtnohcdpnnhmpfaaGreatDoor.FRP
namespace Go.Proofs.YtnohcdpnnhmpfaaGreatDoor.TR
open FRP
theorem nodup_filter {α:Type}{l:List α}(p:α→Bool)(h:l.Nodup):(l.filter p).Nodup:=List.Pairwise.filter p h
theorem mem_of_filter {α:Type}{l:List α}{p:α→Bool}{x:α}(h:x∈l.filter p):x∈l:=(List.mem_filter.1 h).1
structure Vo where
 rk:List Nat
 nx:Nat
 wi:Option Nat
 wt:Fr
def seek(c:Nat→Bool):List Nat→Nat→Nat×Option Nat
 | [],n=>(n,none)
 |i::r,n=>if c i=true then(n+1,some i)else seek c r (n+1)
def Vo.go(c:Nat→Bool)(x:Vo):Vo:=⟨x.rk,(seek c (x.rk.drop x.nx) x.nx).1,(seek c (x.rk.drop x.nx) x.nx).2,x.wt⟩
def Vo.by(x:Vo)(f:Fr):Vo:=⟨x.rk,x.nx,x.wi,x.wt.mul f⟩
structure St where
 V:Nat→Vo
 cont:Nat→Bool
 moved:Nat→Bool
 kept:Nat→Fr
 el:List Nat
def fsum(a:Fr)(l:List Fr):Fr:=l.foldl Fr.add a
def zero:Fr:=⟨0,1⟩
def one:Fr:=⟨1,1⟩
def St.pile(m:Nat)(S:St)(i:Option Nat):List Nat:=(List.range m).filter fun k=>decide ((S.V k).wi=i)
def St.tot(m:Nat)(S:St)(i:Nat):Fr:=fsum (S.kept i) ((S.pile m (some i)).map fun k=>(S.V k).wt)
def St.non(m:Nat)(S:St):Fr:=fsum zero ((S.pile m none).map fun k=>(S.V k).wt)
def bef(t:Nat→Fr)(O:List Nat)(a b:Nat):Prop:=(t b).v<(t a).v∨(t a).v=(t b).v∧O.idxOf a<O.idxOf b
theorem bef_asymm(t:Nat→Fr)(O:List Nat)(a b:Nat)(h1:bef t O a b)(h2:bef t O b a):False:=by
 unfold bef at*;grind
structure Rk(t:Nat→Fr)(O l r:List Nat):Prop where
 perm:r.Perm l
 srt:r.Pairwise (bef t O)
theorem Rk.unique {t:Nat→Fr}{O l r r':List Nat}(h:Rk t O l r)(h':Rk t O l r'):r=r':=
 List.Perm.eq_of_pairwise (fun a b _ _ h1 h2=>(bef_asymm t O a b h1 h2).elim) h.srt h'.srt (h.perm.trans h'.perm.symm)
def St.still(O:List Nat)(S:St):List Nat:=O.filter S.cont
def St.over(m:Nat)(q:Fr)(O:List Nat)(S:St):List Nat:=(S.still O).filter fun i=>decide (q.v<(S.tot m i).v)
def St.wait(O:List Nat)(S:St):List Nat:=O.filter fun i=>decide (i∈S.el)&& !S.moved i
inductive Dec (m s:Nat) (q:Fr) (O:List Nat) (S:St):Nat→List Nat→Prop
 |elect (r:List Nat) (h:S.over m q O≠ []) (hr:Rk (S.tot m) O (S.over m q O) r):Dec m s q O S 1 r
 |fill (r:List Nat) (h:S.over m q O= []) (h1:S.el.length≠s) (h2:(S.still O).length+S.el.length≤s) (hr:Rk (S.tot m) O (S.still O) r):Dec m s q O S 4 r
 |move (i:Nat) (r:List Nat) (h:S.over m q O= []) (h1:S.el.length≠s) (h2:s<(S.still O).length+S.el.length) (hr:Rk (S.tot m) O (S.wait O) (i::r)):Dec m s q O S 2 [i]
 |excl (i:Nat) (r:List Nat) (h:S.over m q O= []) (h1:S.el.length≠s) (h2:s<(S.still O).length+S.el.length) (h3:S.wait O= []) (hr:Rk (S.tot m) O (S.still O) (r++ [i])):Dec m s q O S 3 [i]
def End(m s:Nat)(q:Fr)(O:List Nat)(S:St):Prop:=S.over m q O= []∧S.el.length=s
theorem Dec.unique {m s:Nat}{q:Fr}{O:List Nat}{S:St}{d d':Nat}{r r':List Nat}(h:Dec m s q O S d r)(h':Dec m s q O S d' r'):d=d'∧r=r':=by
 cases h with
 |
  elect r h hr=>cases h' with
  |elect r' h' hr'=>exact⟨rfl,hr.unique hr'⟩
  |fill _ h'=>exact absurd h' h
  |move _ _ h'=>exact absurd h' h
  |excl _ _ h'=>exact absurd h' h
 |
  fill r h h1 h2 hr=>cases h' with
  |elect r' h' hr'=>exact absurd h h'
  |fill _ h' _ _ hr'=>exact⟨rfl,hr.unique hr'⟩
  |move _ _ h' _ h2'=>omega
  |excl _ _ h' _ h2'=>omega
 |
  move i r h h1 h2 hr=>cases h' with
  |elect r' h' hr'=>exact absurd h h'
  |fill _ h' _ h2'=>omega
  |move _ _ h' _ _ hr'=>exact⟨rfl,by have:=hr.unique hr';simp_all⟩
  |excl _ _ h' _ _ h3'=>have:=hr.perm.length_eq;rw [h3']at this;simp at this
 |
  excl i r h h1 h2 h3 hr=>cases h' with
  |elect r' h' hr'=>exact absurd h h'
  |fill _ h' _ h2'=>omega
  |move _ _ h' _ _ hr'=>have:=hr'.perm.length_eq;rw [h3]at this;simp at this
  |
   excl _ _ h' _ _ h3' hr'=>
   have:=hr.unique hr';obtain⟨_,h⟩:=List.append_inj' this rfl;exact⟨rfl,h⟩
theorem End.not {m s:Nat}{q:Fr}{O:List Nat}{S:St}(h:End m s q O S){d:Nat}{r:List Nat}(h':Dec m s q O S d r):False:=by
 cases h' with
 |elect _ h1=>exact h1 h.1
 |fill _ _ h1=>exact h1 h.2
 |move _ _ _ h1=>exact h1 h.2
 |excl _ _ _ h1=>exact h1 h.2
def St.goOn(S:St)(c:Nat→Bool)(i:Nat)(f:Fr):Nat→Vo:=fun k=>if(S.V k).wi=some i then((S.V k).by f).go c else S.V k
def St.surplus(m:Nat)(q:Fr)(S:St)(i:Nat):Fr:=((S.tot m i).sub q).div (S.tot m i)
def St.elect(S:St)(l:List Nat):St:=⟨S.V,fun j=>S.cont j&& !decide (j∈l),S.moved,S.kept,S.el++l⟩
def St.move(m:Nat)(q:Fr)(S:St)(i:Nat):St:=⟨S.goOn S.cont i (S.surplus m q i),S.cont,fun j=>S.moved j||decide (j=i),fun j=>if j=i then q else S.kept j,S.el⟩
def out(c:Nat→Bool)(i:Nat):Nat→Bool:=fun j=>c j&& !decide (j=i)
def St.excl(S:St)(i:Nat):St:=⟨S.goOn (out S.cont i) i one,out S.cont i,S.moved,S.kept,S.el⟩
def St.next(m:Nat)(q:Fr)(S:St)(d:Nat)(r:List Nat):St:=if d=2 then S.move m q (r.headD 0)else if d=3 then S.excl (r.headD 0)else S.elect r
structure Rd where
 d:Nat
 who:List Nat
 tots:List Fr
 non:Fr
def St.rd(n m:Nat)(S:St)(d:Nat)(r:List Nat):Rd:=⟨d,r,(List.range n).map (S.tot m),S.non m⟩
inductive Runs (n m s:Nat) (q:Fr) (O:List Nat) (S0:St):List Rd→St→Prop
 |nil:Runs n m s q O S0 [] S0
 |snoc {R:List Rd} {S:St} {d:Nat} {r:List Nat} (h:Runs n m s q O S0 R S) (hd:Dec m s q O S d r):Runs n m s q O S0 (R++ [S.rd n m d r]) (S.next m q d r)
theorem Runs.same {n m s:Nat}{q:Fr}{O:List Nat}{S0:St}{R:List Rd}{S:St}(h:Runs n m s q O S0 R S): ∀{R':List Rd} {S':St},Runs n m s q O S0 R' S'→R.length=R'.length→R=R'∧S=S':=by
 induction h with
 |
  nil=>
  intro R' S' h' hl;cases h' with
  |nil=>exact⟨rfl,rfl⟩
  |snoc h1 h2=>simp at hl
 |
  snoc h hd ih=>
  intro R' S' h' hl;cases h' with
  |nil=>simp at hl
  |
   snoc h1 hd'=>
   obtain⟨rfl,rfl⟩:=ih h1 (by simpa using hl);obtain⟨rfl,rfl⟩:=hd.unique hd';exact⟨rfl,rfl⟩
theorem Runs.back {n m s:Nat}{q:Fr}{O:List Nat}{S0:St}{R:List Rd}{S:St}(h:Runs n m s q O S0 R S): ∀k,k<R.length→ ∃R' S' d r,Runs n m s q O S0 R' S'∧R'.length=k∧Dec m s q O S' d r:=by
 induction h with
 |nil=>intro k hk;simp at hk
 |
  @snoc R S d r h hd ih=>
  intro k hk;by_cases hlt:k<R.length;·exact ih k hlt
  ·refine⟨R,S,d,r,h,?_,hd⟩;simp at hk;omega
theorem Runs.unique {n m s:Nat}{q:Fr}{O:List Nat}{S0:St}{R R':List Rd}{S S':St}(h:Runs n m s q O S0 R S)(he:End m s q O S)(h':Runs n m s q O S0 R' S')(he':End m s q O S'):R=R'∧S=S':=by
 rcases Nat.lt_trichotomy R.length R'.length with hl|hl|hl
 ·obtain⟨R1,S1,d,r,h1,e1,hd⟩:=h'.back _ hl;obtain⟨rfl,rfl⟩:=h.same h1 e1.symm;exact(he.not hd).elim
 ·exact h.same h' hl
 ·obtain⟨R1,S1,d,r,h1,e1,hd⟩:=h.back _ hl;obtain⟨rfl,rfl⟩:=h'.same h1 e1.symm;exact(he'.not hd).elim
theorem fsum_ok: ∀(l:List Fr) (a:Fr),a.ok→(∀x∈l,x.ok)→(fsum a l).ok∧(fsum a l).v=a.v+(l.map Fr.v).sum
 | [],a,ha,_=>⟨ha,by show a.v=a.v+0;grind⟩
 |
  x::l,a,ha,h=>by
  have hx:=h x (by simp);obtain⟨h1,h2⟩:=fsum_ok l (a.add x) (Fr.add_ok ha hx) (fun y hy=>h y (by simp [hy]));refine⟨h1,?_⟩;show(fsum (a.add x) l).v=_;rw [h2,Fr.v_add ha hx];simp only [List.map_cons,List.sum_cons];grind
theorem zero_ok:zero.ok:=⟨Nat.one_pos,rfl⟩
theorem one_ok:one.ok:=⟨Nat.one_pos,rfl⟩
theorem v_zero:zero.v=0:=by show((0:Nat):Rat)/((1:Nat):Rat)=0;grind
theorem v_one:one.v=1:=by show((1:Nat):Rat)/((1:Nat):Rat)=1;grind
theorem sum_perm {l l':List Rat}(h:l.Perm l'):l.sum=l'.sum:=by
 induction h with
 |nil=>rfl
 |cons x _ ih=>simp only [List.sum_cons,ih]
 |swap x y l=>simp only [List.sum_cons];grind
 |trans _ _ h1 h2=>rw [h1,h2]
theorem tot_of(m:Nat)(S:St)(i:Nat)(hk:(S.kept i).ok)(hw: ∀k,k<m→(S.V k).wt.ok){L:List Nat}(hL:L.Perm (S.pile m (some i))):(fsum zero (L.map fun k=>(S.V k).wt)).add (S.kept i)=S.tot m i:=by
 have h0: ∀k∈S.pile m (some i),k<m:=fun k hk=>List.mem_range.1 (mem_of_filter hk);have h1: ∀x∈L.map (fun k=>(S.V k).wt),x.ok:=fun x hx=>by
  obtain⟨k,hk,rfl⟩:=List.mem_map.1 hx;exact hw k (h0 k (hL.mem_iff.1 hk))
 have h2: ∀x∈(S.pile m (some i)).map (fun k=>(S.V k).wt),x.ok:=fun x hx=>by
  obtain⟨k,hk,rfl⟩:=List.mem_map.1 hx;exact hw k (h0 k hk)
 obtain⟨a1,a2⟩:=fsum_ok _ zero zero_ok h1;obtain⟨b1,b2⟩:=fsum_ok _ (S.kept i) hk h2;refine Fr.v_inj (Fr.add_ok a1 hk) b1 ?_;unfold St.tot;rw [Fr.v_add a1 hk,a2,b2,v_zero,sum_perm ((hL.map _).map _)];grind
theorem non_of(m:Nat)(S:St)(hw: ∀k,k<m→(S.V k).wt.ok){L:List Nat}(hL:L.Perm (S.pile m none)):fsum zero (L.map fun k=>(S.V k).wt)=S.non m:=by
 have h0: ∀k∈S.pile m none,k<m:=fun k hk=>List.mem_range.1 (mem_of_filter hk);have h1: ∀x∈L.map (fun k=>(S.V k).wt),x.ok:=fun x hx=>by
  obtain⟨k,hk,rfl⟩:=List.mem_map.1 hx;exact hw k (h0 k (hL.mem_iff.1 hk))
 have h2: ∀x∈(S.pile m none).map (fun k=>(S.V k).wt),x.ok:=fun x hx=>by
  obtain⟨k,hk,rfl⟩:=List.mem_map.1 hx;exact hw k (h0 k hk)
 obtain⟨a1,a2⟩:=fsum_ok _ zero zero_ok h1;obtain⟨b1,b2⟩:=fsum_ok _ zero zero_ok h2;refine Fr.v_inj a1 b1 ?_;unfold St.non;rw [a2,b2,sum_perm ((hL.map _).map _)]
theorem pile_nodup(m:Nat)(S:St)(i:Option Nat):(S.pile m i).Nodup:=nodup_filter _ List.nodup_range
theorem mem_pile {m:Nat}{S:St}{i:Option Nat}{k:Nat}:k∈S.pile m i↔k<m∧(S.V k).wi=i:=by simp [St.pile]
theorem perm_pile {m:Nat}{S:St}{i:Option Nat}{L:List Nat}(hd:L.Nodup)(h: ∀k,k∈L↔k<m∧(S.V k).wi=i):L.Perm (S.pile m i):=
 (List.perm_ext_iff_of_nodup hd (pile_nodup m S i)).2 fun k=>by rw [h,mem_pile]
def rs {α:Type}(l:List α)(f:α→Rat):Rat:=(l.map f).sum
theorem rs_nil {α:Type}(f:α→Rat):rs [] f=0:=rfl
theorem rs_cons {α:Type}(x:α)(l:List α)(f:α→Rat):rs (x::l) f=f x+rs l f:=by simp [rs]
theorem rs_append {α:Type}(l l':List α)(f:α→Rat):rs (l++l') f=rs l f+rs l' f:=by
 induction l with
 |nil=>simp only [List.nil_append,rs_nil];grind
 |cons x l ih=>simp only [List.cons_append,rs_cons,ih];grind
theorem rs_add {α:Type}(l:List α)(f g:α→Rat):rs l (fun x=>f x+g x)=rs l f+rs l g:=by
 induction l with
 |nil=>simp only [rs_nil];grind
 |cons x l ih=>simp only [rs_cons,ih];grind
theorem rs_congr {α:Type}(l:List α)(f g:α→Rat)(h: ∀x∈l,f x=g x):rs l f=rs l g:=by
 induction l with
 |nil=>rfl
 |cons x l ih=>simp only [rs_cons];rw [h x (by simp),ih (fun y hy=>h y (by simp [hy]))]
theorem rs_le {α:Type}(l:List α)(f g:α→Rat)(h: ∀x∈l,f x≤g x):rs l f≤rs l g:=by
 induction l with
 |nil=>exact Rat.le_refl
 |
  cons x l ih=>
  simp only [rs_cons];have h1:=h x (by simp);have h2:=ih (fun y hy=>h y (by simp [hy]));grind
theorem rs_nonneg {α:Type}(l:List α)(f:α→Rat)(h: ∀x∈l,0≤f x):0≤rs l f:=by
 induction l with
 |nil=>exact Rat.le_refl
 |
  cons x l ih=>
  simp only [rs_cons];have h1:=h x (by simp);have h2:=ih (fun y hy=>h y (by simp [hy]));grind
theorem rs_zero {α:Type}(l:List α):rs l (fun _=>(0:Rat))=0:=by
 induction l with
 |nil=>rfl
 |cons x l ih=>simp only [rs_cons,ih];grind
theorem rs_mul {α:Type}(l:List α)(f:α→Rat)(c:Rat):rs l (fun x=>f x*c)=rs l f*c:=by
 induction l with
 |nil=>simp only [rs_nil];grind
 |cons x l ih=>simp only [rs_cons,ih];grind
theorem rs_const {α:Type}(l:List α)(c:Rat):rs l (fun _=>c)=(l.length:Rat)*c:=by
 induction l with
 |nil=>simp only [rs_nil,List.length_nil];grind
 |cons x l ih=>simp only [rs_cons,ih,List.length_cons];grind
theorem rs_perm {α:Type}{l l':List α}(f:α→Rat)(h:l.Perm l'):rs l f=rs l' f:=sum_perm (h.map f)
theorem rs_filter {α:Type}(l:List α)(p:α→Bool)(f:α→Rat):rs (l.filter p) f=rs l (fun x=>if p x=true then f x else 0):=by
 induction l with
 |nil=>rfl
 |
  cons x l ih=>
  by_cases hp:p x=true;·rw [List.filter_cons_of_pos hp,rs_cons,rs_cons,ih,if_pos hp]
  ·rw [List.filter_cons_of_neg hp,rs_cons,ih,if_neg hp];grind
theorem rs_sub {l l':List Nat}(f:Nat→Rat)(hd:l.Nodup)(hs: ∀x∈l,x∈l')(hd':l'.Nodup)(h: ∀x∈l',0≤f x):rs l f≤rs l' f:=by
 have hp:l.Perm (l'.filter fun x=>decide (x∈l)):=(List.perm_ext_iff_of_nodup hd (nodup_filter _ hd')).2 fun x=>by
  simp only [List.mem_filter,decide_eq_true_eq];exact⟨fun hx=>⟨hs x hx,hx⟩,fun hx=>hx.2⟩
 rw [rs_perm f hp,rs_filter];refine rs_le _ _ _ fun x hx=>?_;have:=h x hx;split<;>grind
theorem rs_swap(l:List Nat)(hd:l.Nodup)(ks:List Nat)(w:Nat→Option Nat)(f:Nat→Rat):rs l (fun i=>rs ks fun k=>if w k=some i then f k else 0)=rs ks fun k=>if(∃i∈l,w k=some i)then f k else 0:=by
 induction l with
 |
  nil=>
  rw [rs_nil,rs_congr ks _ (fun _=>0) (fun k _=>if_neg (by rintro⟨i,hi,_⟩;cases hi)),rs_zero]
 |
  cons x l ih=>
  have hx:=(List.nodup_cons.1 hd);rw [rs_cons,ih hx.2,←rs_add];refine rs_congr _ _ _ fun k _=>?_;by_cases h1:w k=some x;·rw [if_pos h1,if_neg (by rintro⟨i,hi,h2⟩;rw [h1]at h2;injection h2 with h2;subst h2;exact hx.1 hi),if_pos ⟨x,by simp,h1⟩];grind
  ·rw [if_neg h1];by_cases h2: ∃i∈l,w k=some i
   ·obtain⟨i,hi,h3⟩:=h2;rw [if_pos ⟨i,hi,h3⟩,if_pos ⟨i,by simp [hi],h3⟩];grind
   ·rw [if_neg h2,if_neg (by rintro⟨i,hi,h3⟩;rcases List.mem_cons.1 hi with rfl|hi;exact h1 h3;exact h2 ⟨i,hi,h3⟩)];grind
def Dv(D:Nat)(x:Fr):Prop:= ∃N:Nat,x.v* (D:Rat)=(N:Rat)
theorem Dv.add {D:Nat}{x y:Fr}(hx:x.ok)(hy:y.ok)(h:Dv D x)(h':Dv D y):Dv D (x.add y):=by
 obtain⟨N,h⟩:=h;obtain⟨M,h'⟩:=h';refine⟨N+M,?_⟩;rw [Fr.v_add hx hy,Rat.natCast_add,←h,←h'];grind
theorem Dv.zero(D:Nat):Dv D zero:=⟨0,by rw [v_zero];grind⟩
theorem Dv.dvd {D:Nat}{x:Fr}(hx:x.ok)(h:Dv D x):x.d∣D:=by
 obtain⟨N,h⟩:=h;have h1:=Fr.v_mul_d hx.1;have h2:((x.n*D:Nat):Rat)=((N*x.d:Nat):Rat):=by rw [Rat.natCast_mul,Rat.natCast_mul,←h1,←h];grind
 have h3:=Rat.natCast_inj.1 h2;have h4:x.d∣x.n*D:=⟨N,by rw [h3,Nat.mul_comm]⟩;exact Nat.Coprime.dvd_of_dvd_mul_left (show Nat.Coprime x.d x.n by rw [Nat.coprime_comm];exact hx.2) h4
def Sm(B:Nat)(x:Fr):Prop:=x.ok∧x.n≤B∧x.d≤B
theorem Sm.of {D m B:Nat}{x:Fr}(hx:x.ok)(h:Dv D x)(hD:0<D)(hm:x.v≤(m:Rat))(hB:m*D≤B)(hB':D≤B):Sm B x:=by
 have h1:=Nat.le_of_dvd hD (h.dvd hx);refine⟨hx,?_,by omega⟩;have h2:=Fr.v_mul_d hx.1;have h3:=cast_pos hx.1;have h4:((x.n:Nat):Rat)≤((m*x.d:Nat):Rat):=by
  rw [←h2,Rat.natCast_mul];exact Rat.mul_le_mul_of_nonneg_right hm (Rat.le_of_lt h3)
 have h5:=Rat.natCast_le_natCast.1 h4;have h6:m*x.d≤m*D:=Nat.mul_le_mul_left _ h1;omega
theorem seek_some(c:Nat→Bool): ∀(l:List Nat) (a j:Nat),(seek c l a).2=some j→c j=true∧j∈l
 | [],a,j,h=>by cases h
 |
  i::r,a,j,h=>by
  unfold seek at h;by_cases hc:c i=true;·rw [if_pos hc]at h;injection h with h;subst h;exact⟨hc,by simp⟩
  ·rw [if_neg hc]at h;obtain⟨h1,h2⟩:=seek_some c r (a+1) j h;exact⟨h1,by simp [h2]⟩
def St.movs(S:St):Nat:=(S.el.filter S.moved).length
structure Inv(n s m:Nat)(q:Fr)(O:List Nat)(S:St):Prop where
 qok:q.ok
 qv:q.v* ((s:Rat)+1)=(m:Rat)
 ond:O.Nodup
 omem: ∀i,i∈O↔i<n
 rk: ∀k,k<m→ ∀i∈(S.V k).rk,i<n
 wok: ∀k,k<m→(S.V k).wt.ok
 at_: ∀k,k<m→ ∀i,(S.V k).wi=some i→i<n∧(S.cont i=true∨(i∈S.el∧S.moved i=false))
 nd:S.el.Nodup
 elc: ∀i∈S.el,i<n∧S.cont i=false
 mv: ∀i,S.moved i=true→i∈S.el∧S.kept i=q
 kp: ∀i,S.moved i=false→S.kept i=zero
 cons:rs (List.range n) (fun i=>(S.kept i).v)+rs (List.range m) (fun k=>(S.V k).wt.v)=(m:Rat)
 high:(∀i∈S.el,S.moved i=false→q.v<(S.tot m i).v)∨(S.el.length=s∧ ∀i,i<n→S.cont i=false)
 many:s≤(S.still O).length+S.el.length
 few:S.el.length≤s
 den: ∃D:Nat,0<D∧D≤2^(16*2^S.movs-12)∧Dv D q∧ ∀k,k<m→Dv D (S.V k).wt
 vout: ∀k,m≤k→(S.V k).wi=none
section
variable {n s m:Nat} {q:Fr} {O:List Nat} {S:St}
theorem Inv.kok(h:Inv n s m q O S)(i:Nat):(S.kept i).ok:=by
 cases hm:S.moved i with
 |true=>rw [(h.mv i hm).2];exact h.qok
 |false=>rw [h.kp i hm];exact zero_ok
theorem Inv.knn(h:Inv n s m q O S)(i:Nat):0≤(S.kept i).v:=Fr.v_nonneg (h.kok i).1
theorem Inv.wnn(h:Inv n s m q O S)(k:Nat)(hk:k<m):0≤(S.V k).wt.v:=Fr.v_nonneg (h.wok k hk).1
theorem Inv.tok(h:Inv n s m q O S)(i:Nat):(S.tot m i).ok:=(fsum_ok _ _ (h.kok i) (fun x hx=>by
 obtain⟨k,hk,rfl⟩:=List.mem_map.1 hx;exact h.wok k (mem_pile.1 hk).1)).1
theorem Inv.totv(h:Inv n s m q O S)(i:Nat):(S.tot m i).v=(S.kept i).v+rs (List.range m) (fun k=>if(S.V k).wi=some i then(S.V k).wt.v else 0):=by
 unfold St.tot
 rw [(fsum_ok _ _ (h.kok i) (fun x hx=>by
  obtain⟨k,hk,rfl⟩:=List.mem_map.1 hx;exact h.wok k (mem_pile.1 hk).1)).2,List.map_map]
 show _+rs (S.pile m (some i)) (fun k=>(S.V k).wt.v)=_;unfold St.pile;rw [rs_filter];congr 1;refine rs_congr _ _ _ fun k _=>?_;simp only [decide_eq_true_eq]
theorem Inv.tot_le(h:Inv n s m q O S){l:List Nat}(hd:l.Nodup)(hl: ∀i∈l,i<n):rs l (fun i=>(S.tot m i).v)≤(m:Rat):=by
 rw [rs_congr l _ _ (fun i _=>h.totv i),rs_add,rs_swap l hd,←h.cons];have h1:=rs_sub (fun i=>(S.kept i).v) hd (fun x hx=>List.mem_range.2 (hl x hx)) List.nodup_range (fun i _=>h.knn i);have h2:rs (List.range m) (fun k=>if(∃i∈l,(S.V k).wi=some i)then(S.V k).wt.v else 0)≤rs (List.range m) (fun k=>(S.V k).wt.v):=rs_le _ _ _ fun k hk=>by
  have:=h.wnn k (List.mem_range.1 hk);split<;>grind
 grind
theorem Inv.tot_ge(h:Inv n s m q O S){i:Nat}(hi:S.moved i=true):q.v≤(S.tot m i).v:=by
 rw [h.totv i,(h.mv i hi).2]
 have:=rs_nonneg (List.range m) (fun k=>if(S.V k).wi=some i then(S.V k).wt.v else 0) (fun k hk=>by
  have:=h.wnn k (List.mem_range.1 hk);split<;>grind)
 grind
theorem Inv.mem_over(h:Inv n s m q O S){i:Nat}:i∈S.over m q O↔i<n∧S.cont i=true∧q.v<(S.tot m i).v:=by
 simp only [St.over,St.still,List.mem_filter,h.omem,decide_eq_true_eq];exact⟨fun⟨⟨a,b⟩,c⟩=>⟨a,b,c⟩,fun⟨a,b,c⟩=>⟨⟨a,b⟩,c⟩⟩
theorem Inv.mem_still(h:Inv n s m q O S){i:Nat}:i∈S.still O↔i<n∧S.cont i=true:=by simp [St.still,h.omem]
theorem Inv.mem_wait(h:Inv n s m q O S){i:Nat}:i∈S.wait O↔i<n∧i∈S.el∧S.moved i=false:=by simp [St.wait,h.omem]
theorem Inv.few_of(h:Inv n s m q O S)(hne:S.over m q O≠ []):S.el.length+(S.over m q O).length≤s:=by
 have hhi: ∀i∈S.el,q.v≤(S.tot m i).v:=by
  intro i hi;cases hm:S.moved i with
  |true=>exact h.tot_ge hm
  |
   false=>
   rcases h.high with hh|hh;·exact Rat.le_of_lt (hh i hi hm)
   ·exfalso;obtain⟨x,hx⟩:=List.exists_mem_of_ne_nil _ hne;have:=h.mem_over.1 hx;rw [hh.2 x this.1]at this;cases this.2.1
 have hnd:(S.el++S.over m q O).Nodup:=List.nodup_append.2 ⟨h.nd,nodup_filter _ (nodup_filter _ h.ond),fun a ha b hb e=>by
  subst e;have h1:=(h.elc a ha).2;have h2:=(h.mem_over.1 hb).2.1;rw [h1]at h2;cases h2⟩
 have hle:=h.tot_le hnd (fun i hi=>by
  rcases List.mem_append.1 hi with hi|hi;·exact(h.elc i hi).1
  ·exact(h.mem_over.1 hi).1)
 rw [rs_append]at hle;have h1:(S.el.length:Rat)*q.v≤rs S.el (fun i=>(S.tot m i).v):=by
  rw [←rs_const];exact rs_le _ _ _ hhi
 have h2:((S.over m q O).length:Rat)*q.v<rs (S.over m q O) (fun i=>(S.tot m i).v):=by
  have hall: ∀i∈S.over m q O,q.v<(S.tot m i).v:=fun i hi=>(h.mem_over.1 hi).2.2;revert hall;generalize S.over m q O=l at hne;intro hall;cases l with
  |nil=>exact absurd rfl hne
  |
   cons x l=>
   have ha:=hall x (by simp);have hb:(l.length:Rat)*q.v≤rs l (fun i=>(S.tot m i).v):=by
    rw [←rs_const];exact rs_le _ _ _ (fun i hi=>Rat.le_of_lt (hall i (by simp [hi])))
   rw [rs_cons,List.length_cons,Rat.natCast_add];grind
 have h3:((S.el.length+(S.over m q O).length:Nat):Rat)*q.v<((s+1:Nat):Rat)*q.v:=by
  have h4:=h.qv;rw [Rat.natCast_add,Rat.natCast_add];grind
 have h5:=Rat.lt_of_mul_lt_mul_right h3 (Fr.v_nonneg h.qok.1);have h6:=Rat.natCast_lt_natCast.1 h5;omega
end
end Go.Proofs.YtnohcdpnnhmpfaaGreatDoor.TR
namespace Go.Proofs.YtnohcdpnnhmpfaaGreatDoor.TR
open FRP
theorem len_filter(l:List Nat)(p:Nat→Bool):(l.filter p).length+(l.filter fun x=> !p x).length=l.length:=by
 induction l with
 |nil=>rfl
 |cons x l ih=>cases h:p x<;>simp [h]<;>omega
theorem len_split(l r:List Nat)(hl:l.Nodup)(hr:r.Nodup)(hs: ∀x∈r,x∈l):(l.filter fun x=> !decide (x∈r)).length+r.length=l.length:=by
 have h1:=len_filter l (fun x=>decide (x∈r));have h2:(l.filter fun x=>decide (x∈r)).Perm r:=(List.perm_ext_iff_of_nodup (nodup_filter _ hl) hr).2 fun x=>by
  simp only [List.mem_filter,decide_eq_true_eq];exact⟨fun h=>h.2,fun h=>⟨hs x h,h⟩⟩
 rw [h2.length_eq]at h1;omega
section
variable {n s m:Nat} {q:Fr} {O:List Nat} {S:St}
theorem St.goOn_in {c:Nat→Bool}{i:Nat}{f:Fr}{k:Nat}(h:(S.V k).wi=some i):S.goOn c i f k=((S.V k).by f).go c:=if_pos h
theorem St.goOn_out {c:Nat→Bool}{i:Nat}{f:Fr}{k:Nat}(h:(S.V k).wi≠some i):S.goOn c i f k=S.V k:=if_neg h
theorem go_wi {c:Nat→Bool}{x:Vo}{j:Nat}(h:(x.go c).wi=some j):c j=true∧j∈x.rk:=by
 obtain⟨h1,h2⟩:=seek_some c _ _ _ h;exact⟨h1,List.mem_of_mem_drop h2⟩
theorem tot_same {S':St}{c:Nat→Bool}{i j:Nat}{f:Fr}(hV:S'.V=S.goOn c i f)(hji:j≠i)(hc:c j=false)(hk:S'.kept j=S.kept j):S'.tot m j=S.tot m j:=by
 unfold St.tot;rw [hk];have h1:S'.pile m (some j)=S.pile m (some j):=by
  unfold St.pile;refine List.filter_congr fun k _=>?_;rw [hV];by_cases hw:(S.V k).wi=some i
  ·rw [St.goOn_in hw,hw];have h2:(((S.V k).by f).go c).wi≠some j:=fun h=>by rw [(go_wi h).1]at hc;cases hc
   rw [decide_eq_false h2,decide_eq_false (by intro h;injection h with h;exact hji h.symm)]
  ·rw [St.goOn_out hw]
 rw [h1];congr 1;refine List.map_congr_left fun k hk=>?_;have hw:=(mem_pile.1 hk).2;rw [hV,St.goOn_out (by rw [hw];intro h;injection h with h;exact hji h)]
theorem Inv.rnd(h:Inv n s m q O S){l r:List Nat}(hl:l.Nodup)(hr:Rk (S.tot m) O l r):r.Nodup∧(∀i,i∈r↔i∈l)∧r.length=l.length:=⟨hr.perm.nodup_iff.2 hl,fun i=>hr.perm.mem_iff,hr.perm.length_eq⟩
theorem Inv.still_nd(h:Inv n s m q O S):(S.still O).Nodup:=nodup_filter _ h.ond
theorem Inv.over_nd(h:Inv n s m q O S):(S.over m q O).Nodup:=nodup_filter _ h.still_nd
theorem Inv.wait_nd(h:Inv n s m q O S):(S.wait O).Nodup:=nodup_filter _ h.ond
theorem Inv.unmoved(h:Inv n s m q O S){i:Nat}(hc:S.cont i=true):S.moved i=false:=by
 cases hm:S.moved i with
 |false=>rfl
 |true=>have:=(h.elc i (h.mv i hm).1).2;rw [hc]at this;cases this
theorem Inv.elects(h:Inv n s m q O S){r:List Nat}(hnd:r.Nodup)(hr: ∀i∈r,i∈S.still O)(hf:S.el.length+r.length≤s)
 (hh:(∀i∈r,q.v<(S.tot m i).v)∧r≠ []∨(S.el.length+r.length=s∧ ∀i∈S.still O,i∈r)):Inv n s m q O (S.elect r):=by
 have hc: ∀i∈r,i<n∧S.cont i=true:=fun i hi=>h.mem_still.1 (hr i hi);have hmv:(S.elect r).movs=S.movs:=by
  show((S.el++r).filter S.moved).length=_;rw [List.filter_append,(show r.filter S.moved= []from List.filter_eq_nil_iff.2 (fun i hi=>by rw [h.unmoved (hc i hi).2];decide)),List.append_nil];rfl
 have htot: ∀i,(S.elect r).tot m i=S.tot m i:=fun i=>rfl;refine⟨h.qok,h.qv,h.ond,h.omem,h.rk,h.wok,?_,?_,?_,?_,h.kp,h.cons,?_,?_,?_,?_,h.vout⟩
 ·intro k hk i hi;obtain⟨h1,h2⟩:=h.at_ k hk i hi;refine⟨h1,?_⟩;by_cases hir:i∈r;·exact .inr ⟨List.mem_append.2 (.inr hir),h.unmoved (hc i hir).2⟩
  ·rcases h2 with h2|h2;·left;show(S.cont i&& !decide (i∈r))=true;rw [h2,decide_eq_false hir];rfl
   ·exact .inr ⟨List.mem_append.2 (.inl h2.1),h2.2⟩
 ·exact List.nodup_append.2 ⟨h.nd,hnd,fun a ha b hb e=>by subst e;have h1:=(h.elc a ha).2;rw [(hc a hb).2]at h1;cases h1⟩
 ·intro i hi;rcases List.mem_append.1 hi with hi|hi
  ·refine⟨(h.elc i hi).1,?_⟩;show(S.cont i&& !decide (i∈r))=false;rw [(h.elc i hi).2];rfl
  ·refine⟨(hc i hi).1,?_⟩;show(S.cont i&& !decide (i∈r))=false;rw [decide_eq_true hi];simp
 ·intro i hi;exact⟨List.mem_append.2 (.inl (h.mv i hi).1),(h.mv i hi).2⟩
 ·rcases hh with⟨hh,hne⟩|⟨hh1,hh2⟩
  ·left;intro i hi hm;rw [htot];rcases List.mem_append.1 hi with hi|hi
   ·rcases h.high with hg|hg;·exact hg i hi hm
    ·exfalso;obtain⟨x,hx⟩:=List.exists_mem_of_ne_nil _ hne;have:=hc x hx;rw [hg.2 x this.1]at this;cases this.2
   ·exact hh i hi
  ·right;refine⟨by show(S.el++r).length=s;rw [List.length_append];exact hh1,fun i hi=>?_⟩;show(S.cont i&& !decide (i∈r))=false;cases hci:S.cont i with
   |false=>rfl
   |true=>rw [decide_eq_true (hh2 i (h.mem_still.2 ⟨hi,hci⟩))];rfl
 ·show s≤(O.filter fun i=>S.cont i&& !decide (i∈r)).length+(S.el++r).length;have h1:=len_split (S.still O) r h.still_nd hnd hr;have h2:(S.still O).filter (fun x=> !decide (x∈r))=O.filter fun i=>S.cont i&& !decide (i∈r):=by
   unfold St.still;rw [List.filter_filter];refine List.filter_congr fun x _=>Bool.and_comm _ _
  rw [h2]at h1;have:=h.many;rw [List.length_append];omega
 ·show(S.el++r).length≤s;rw [List.length_append];exact hf
 ·rw [hmv];exact h.den
theorem pow_step(D m A:Nat)(j:Nat)(hm:m≤4096)(hA:A≤m*D)(hD:D≤2^(16*2^j-12)):D*A≤2^(16*2^(j+1)-12):=by
 have h1:1≤2^j:=Nat.one_le_two_pow;have h2:16*2^(j+1)-12=12+(16*2^j-12)+(16*2^j-12):=by rw [Nat.pow_succ];omega
 rw [h2,Nat.pow_add,Nat.pow_add];have h3:A≤2^12*2^(16*2^j-12):=Nat.le_trans hA (Nat.mul_le_mul (show m≤2^12 from hm) hD);rw [Nat.mul_comm];exact Nat.mul_le_mul h3 hD
theorem Dv.sum {D:Nat}: ∀(l:List Fr) (a:Fr),a.ok→Dv D a→(∀x∈l,x.ok∧Dv D x)→Dv D (fsum a l)
 | [],a,_,h,_=>h
 |x::l,a,ha,h,hl=>Dv.sum l (a.add x) (Fr.add_ok ha (hl x (by simp)).1) (h.add ha (hl x (by simp)).1 (hl x (by simp)).2) fun y hy=>hl y (by simp [hy])
theorem Inv.kdv(h:Inv n s m q O S){D:Nat}(hD:Dv D q)(i:Nat):Dv D (S.kept i):=by
 cases hm:S.moved i with
 |true=>rw [(h.mv i hm).2];exact hD
 |false=>rw [h.kp i hm];exact Dv.zero D
theorem Inv.tdv(h:Inv n s m q O S){D:Nat}(hD:Dv D q)(hw: ∀k,k<m→Dv D (S.V k).wt)(i:Nat):Dv D (S.tot m i):=Dv.sum _ _ (h.kok i) (h.kdv hD i) fun x hx=>by
 obtain⟨k,hk,rfl⟩:=List.mem_map.1 hx;exact⟨h.wok k (mem_pile.1 hk).1,hw k (mem_pile.1 hk).1⟩
theorem Inv.surplus_ok(h:Inv n s m q O S){i:Nat}(hi:q.v<(S.tot m i).v):(S.surplus m q i).ok∧0<(S.tot m i).v∧(S.surplus m q i).v=((S.tot m i).v-q.v)/(S.tot m i).v∧0<(S.tot m i).n:=by
 have hq:=Fr.v_nonneg h.qok.1;have hp:0<(S.tot m i).v:=by grind
 have hn:=(Fr.v_pos (h.tok i).1).1 hp;refine⟨Fr.div_ok (Fr.sub_ok (h.tok i) h.qok) hn,hp,?_,hn⟩;unfold St.surplus;rw [Fr.v_div (Fr.sub_ok (h.tok i) h.qok) (h.tok i) hn,Fr.v_sub (h.tok i) h.qok (Rat.le_of_lt hi)]
theorem goOn_rk(c:Nat→Bool)(i:Nat)(f:Fr)(k:Nat):(S.goOn c i f k).rk=(S.V k).rk:=by
 unfold St.goOn;split<;>rfl
theorem goOn_wt(c:Nat→Bool)(i:Nat)(f:Fr)(k:Nat):(S.goOn c i f k).wt=if(S.V k).wi=some i then(S.V k).wt.mul f else(S.V k).wt:=by
 unfold St.goOn;split<;>rfl
theorem Inv.moves(h:Inv n s m q O S)(hm4:m≤4096){i:Nat}(hi:i<n)(hie:i∈S.el)(him:S.moved i=false)(hne:S.el.length≠s):Inv n s m q O (S.move m q i):=by
 have hhi: ∀j∈S.el,S.moved j=false→q.v<(S.tot m j).v:=by
  rcases h.high with hh|hh;·exact hh
  ·exact absurd hh.1 hne
 have hit:=hhi i hie him;obtain⟨fok,tpos,fv,tn⟩:=h.surplus_ok hit;have hwk: ∀k,k<m→((S.move m q i).V k).wt.ok:=fun k hk=>by
  show(S.goOn S.cont i (S.surplus m q i) k).wt.ok;rw [goOn_wt];split;·exact Fr.mul_ok (h.wok k hk) fok
  ·exact h.wok k hk
 have hwv: ∀k,k<m→((S.move m q i).V k).wt.v=(S.V k).wt.v+(if(S.V k).wi=some i then(S.V k).wt.v else 0)* ((S.surplus m q i).v-1):=fun k hk=>by
  show(S.goOn S.cont i (S.surplus m q i) k).wt.v=_;rw [goOn_wt];split;·rw [Fr.v_mul (h.wok k hk) fok];grind
  ·grind
 have hnc: ∀j∈S.el,S.cont j=false:=fun j hj=>(h.elc j hj).2;refine⟨h.qok,h.qv,h.ond,h.omem,fun k hk j hj=>?_,hwk,?_,h.nd,h.elc,?_,?_,?_,?_,h.many,h.few,?_,fun k hk=>(congrArg Vo.wi (St.goOn_out (by rw [h.vout k hk];simp))).trans (h.vout k hk)⟩
 ·rw [show((S.move m q i).V k).rk=(S.V k).rk from goOn_rk _ _ _ _]at hj;exact h.rk k hk j hj
 ·intro k hk j hj;have hj':(S.goOn S.cont i (S.surplus m q i) k).wi=some j:=hj;by_cases hw:(S.V k).wi=some i
  ·rw [St.goOn_in hw]at hj';obtain⟨h1,h2⟩:=go_wi hj';exact⟨h.rk k hk j h2,.inl h1⟩
  ·rw [St.goOn_out hw]at hj';obtain⟨h1,h2⟩:=h.at_ k hk j hj';refine⟨h1,h2.imp id fun h3=>⟨h3.1,?_⟩⟩;show(S.moved j||decide (j=i))=false;rw [h3.2,decide_eq_false (fun e=>hw (by rw [hj',e]))];rfl
 ·intro j hj;have hj':(S.moved j||decide (j=i))=true:=hj;show _∧(if j=i then q else S.kept j)=q;by_cases hji:j=i;·subst hji;exact⟨hie,if_pos rfl⟩
  ·rw [decide_eq_false hji,Bool.or_false]at hj';exact⟨(h.mv j hj').1,by rw [if_neg hji];exact(h.mv j hj').2⟩
 ·intro j hj;have hj':(S.moved j||decide (j=i))=false:=hj;rw [Bool.or_eq_false_iff]at hj';have hji:=of_decide_eq_false hj'.2;show(if j=i then q else S.kept j)=zero;rw [if_neg hji];exact h.kp j hj'.1
 ·
   have e1:rs (List.range n) (fun j=>((S.move m q i).kept j).v)=rs (List.range n) (fun j=>(S.kept j).v)+q.v:=by
    have e2: ∀j∈List.range n,((S.move m q i).kept j).v=(S.kept j).v+if j=i then q.v else 0:=fun j _=>by
     show(if j=i then q else S.kept j).v=_;by_cases hji:j=i;·rw [if_pos hji,if_pos hji,hji,h.kp i him,v_zero];grind
     ·rw [if_neg hji,if_neg hji];grind
    rw [rs_congr _ _ _ e2,rs_add];congr 1;have e3:rs (List.range n) (fun j=>if j=i then q.v else 0)=rs ((List.range n).filter fun j=>decide (j=i)) (fun _=>q.v):=by
     rw [rs_filter];exact rs_congr _ _ _ fun j _=>by simp only [decide_eq_true_eq]
    rw [e3,rs_const];have e4:((List.range n).filter fun j=>decide (j=i)).Perm [i]:=(List.perm_ext_iff_of_nodup (nodup_filter _ List.nodup_range) (by simp)).2 fun x=>by
     simp only [List.mem_filter,List.mem_range,decide_eq_true_eq,List.mem_singleton];exact⟨fun hx=>hx.2,fun hx=>⟨by omega,hx⟩⟩
    rw [e4.length_eq];show((1:Nat):Rat)*q.v=q.v;grind
   rw [e1,rs_congr (List.range m) _ _ (fun k hk=>hwv k (List.mem_range.1 hk)),rs_add,rs_mul];have e5:=h.totv i;rw [h.kp i him,v_zero]at e5;rw [show rs (List.range m) (fun k=>if(S.V k).wi=some i then(S.V k).wt.v else 0)=(S.tot m i).v by rw [e5];grind,fv];have e6:((S.tot m i).v-q.v)/(S.tot m i).v* (S.tot m i).v=(S.tot m i).v-q.v:=Rat.div_mul_cancel (fun e=>by rw [e]at tpos;exact absurd tpos (by decide));have e7:=h.cons;grind
 ·left;intro j hj hmj;have hj':(S.moved j||decide (j=i))=false:=hmj;rw [Bool.or_eq_false_iff]at hj';have hji:=of_decide_eq_false hj'.2;rw [tot_same (S':=S.move m q i) (c:=S.cont) (i:=i) (f:=S.surplus m q i) rfl hji (hnc j hj) (if_neg hji)];exact hhi j hj hj'.1
 ·obtain⟨D,h1,h2,h3,h4⟩:=h.den;obtain⟨A,hA⟩:=h.tdv h3 h4 i;obtain⟨Q,hQ⟩:=h3;have hDp:=cast_pos h1;have hAp:0<A:=by
   rw [←Rat.natCast_pos,←hA];exact Rat.mul_pos tpos hDp
  have htm:(S.tot m i).v≤(m:Rat):=by
   have:=h.tot_le (l:= [i]) (by simp) (fun j hj=>by rw [List.mem_singleton.1 hj];exact hi);rw [rs_cons,rs_nil]at this;grind
  have hAm:A≤m*D:=by
   rw [←Rat.natCast_le_natCast,←hA,Rat.natCast_mul];exact Rat.mul_le_mul_of_nonneg_right htm (Rat.le_of_lt hDp)
  have hms:(S.move m q i).movs=S.movs+1:=by
   show(S.el.filter fun j=>S.moved j||decide (j=i)).length=(S.el.filter S.moved).length+1;have hp:(S.el.filter fun j=>S.moved j||decide (j=i)).Perm (i::S.el.filter S.moved):=(List.perm_ext_iff_of_nodup (nodup_filter _ h.nd) (List.nodup_cons.2 ⟨fun hx=>(by have h9:=(List.mem_filter.1 hx).2;rw [him]at h9;exact absurd h9 (by decide)),nodup_filter _ h.nd⟩)).2 fun x=>by
    simp only [List.mem_filter,List.mem_cons,Bool.or_eq_true,decide_eq_true_eq];exact⟨fun⟨hx,hy⟩=>hy.elim (fun hy=>.inr ⟨hx,hy⟩) .inl,fun hx=>hx.elim (fun hx=>by subst hx;exact⟨hie,.inr rfl⟩) fun hx=>⟨hx.1,.inl hx.2⟩⟩
   rw [hp.length_eq];rfl
  refine⟨D*A,Nat.mul_pos h1 hAp,by rw [hms];exact pow_step D m A _ hm4 hAm h2,⟨Q*A,by rw [Rat.natCast_mul,Rat.natCast_mul,←hQ];grind⟩,fun k hk=>?_⟩;obtain⟨N,hN⟩:=h4 k hk;show Dv (D*A) (S.goOn S.cont i (S.surplus m q i) k).wt;rw [goOn_wt];split
  ·refine⟨N* (A-Q),?_⟩;have hQA:Q≤A:=by
    rw [←Rat.natCast_le_natCast,←hA,←hQ];exact Rat.mul_le_mul_of_nonneg_right (Rat.le_of_lt hit) (Rat.le_of_lt hDp)
   have e1:((A-Q:Nat):Rat)=(A:Rat)-(Q:Rat):=by
    have:((A-Q+Q:Nat):Rat)=(A:Rat):=by rw [Nat.sub_add_cancel hQA]
    rw [Rat.natCast_add]at this;grind
   rw [Fr.v_mul (h.wok k hk) fok,fv,Rat.natCast_mul,Rat.natCast_mul,e1,←hN,←hA,←hQ];have e6:((S.tot m i).v-q.v)/(S.tot m i).v* (S.tot m i).v=(S.tot m i).v-q.v:=Rat.div_mul_cancel (fun e=>by rw [e]at tpos;exact absurd tpos (by decide));generalize ((S.tot m i).v-q.v)/(S.tot m i).v=g at*;grind
  ·exact⟨N*A,by rw [Rat.natCast_mul,Rat.natCast_mul,←hN];grind⟩
theorem Inv.excls(h:Inv n s m q O S){i:Nat}(hi:i<n)(hic:S.cont i=true)(hne:S.el.length≠s)(hs:s<(S.still O).length+S.el.length):Inv n s m q O (S.excl i):=by
 have him:=h.unmoved hic;have hhi: ∀j∈S.el,S.moved j=false→q.v<(S.tot m j).v:=by
  rcases h.high with hh|hh;·exact hh
  ·exact absurd hh.1 hne
 have hwt: ∀k,k<m→((S.excl i).V k).wt=(S.V k).wt:=fun k hk=>by
  show(S.goOn (out S.cont i) i one k).wt=_;rw [goOn_wt];split;·exact Fr.mul_one (h.wok k hk)
  ·rfl
 have hlen:((S.excl i).still O).length+1=(S.still O).length:=by
  have h1:=len_split (S.still O) [i] h.still_nd (by simp) (fun x hx=>by rw [List.mem_singleton.1 hx];exact h.mem_still.2 ⟨hi,hic⟩);rw [←h1];show(O.filter (out S.cont i)).length+1=_+1;congr 2;unfold St.still;rw [List.filter_filter];refine List.filter_congr fun x _=>?_;show(S.cont x&& !decide (x=i))=_;simp [Bool.and_comm]
 refine⟨h.qok,h.qv,h.ond,h.omem,fun k hk j hj=>?_,fun k hk=>by rw [hwt k hk];exact h.wok k hk,?_,h.nd,?_,h.mv,h.kp,?_,?_,?_,h.few,?_,fun k hk=>(congrArg Vo.wi (St.goOn_out (by rw [h.vout k hk];simp))).trans (h.vout k hk)⟩
 ·rw [show((S.excl i).V k).rk=(S.V k).rk from goOn_rk _ _ _ _]at hj;exact h.rk k hk j hj
 ·intro k hk j hj;have hj':(S.goOn (out S.cont i) i one k).wi=some j:=hj;by_cases hw:(S.V k).wi=some i
  ·rw [St.goOn_in hw]at hj';obtain⟨h1,h2⟩:=go_wi hj';exact⟨h.rk k hk j h2,.inl h1⟩
  ·rw [St.goOn_out hw]at hj';obtain⟨h1,h2⟩:=h.at_ k hk j hj';refine⟨h1,h2.imp (fun h3=>?_) id⟩;show(S.cont j&& !decide (j=i))=true;rw [h3,decide_eq_false (fun e=>hw (by rw [hj',e]))];rfl
 ·intro j hj;refine⟨(h.elc j hj).1,?_⟩;show(S.cont j&& !decide (j=i))=false;rw [(h.elc j hj).2];rfl
 ·rw [rs_congr (List.range m) (fun k=>((S.excl i).V k).wt.v) (fun k=>(S.V k).wt.v) (fun k hk=>by rw [hwt k (List.mem_range.1 hk)])];exact h.cons
 ·left;intro j hj hmj;have hji:j≠i:=fun e=>by subst e;have:=(h.elc j hj).2;rw [hic]at this;cases this
  have hcj:out S.cont i j=false:=by show(S.cont j&& !decide (j=i))=false;rw [(h.elc j hj).2];rfl
  rw [tot_same (S':=S.excl i) (c:=out S.cont i) (i:=i) (f:=one) rfl hji hcj rfl];exact hhi j hj hmj
 ·show s≤((S.excl i).still O).length+S.el.length;omega
 ·obtain⟨D,h1,h2,h3,h4⟩:=h.den;exact⟨D,h1,h2,h3,fun k hk=>by rw [hwt k hk];exact h4 k hk⟩
theorem idx_inj {O:List Nat}{x y:Nat}(hx:x∈O)(hy:y∈O)(h:O.idxOf x=O.idxOf y):x=y:=by
 have h1:=List.getElem_idxOf (x:=x) (xs:=O) (List.idxOf_lt_length_of_mem hx);have h2:=List.getElem_idxOf (x:=y) (xs:=O) (List.idxOf_lt_length_of_mem hy);rw [←h1,←h2];congr 1
def St.mu(O:List Nat)(S:St):Nat:=2* (S.still O).length+(S.wait O).length
theorem Inv.next(h:Inv n s m q O S)(hm4:m≤4096){d:Nat}{r:List Nat}(hd:Dec m s q O S d r):Inv n s m q O (S.next m q d r)∧(S.next m q d r).mu O<S.mu O:=by
 have hel: ∀(r:List Nat),r.Nodup→(∀i∈r,i∈S.still O)→r≠ []→(S.elect r).mu O<S.mu O:=by
  intro r hnd hr hne;have h1:=len_split (S.still O) r h.still_nd hnd hr;have h2:(S.still O).filter (fun x=> !decide (x∈r))=(S.elect r).still O:=by
   unfold St.still;rw [List.filter_filter];refine List.filter_congr fun x _=>Bool.and_comm _ _
  rw [h2]at h1;have h3:((S.elect r).wait O).length≤(S.wait O).length+r.length:=by
   have h4: ∀x∈(S.elect r).wait O,x∈S.wait O++r:=fun x hx=>by
    have hx':x∈O.filter fun i=>decide (i∈S.el++r)&& !S.moved i:=hx;simp only [List.mem_filter,Bool.and_eq_true,decide_eq_true_eq,List.mem_append]at hx';rcases hx'.2.1 with h5|h5;·exact List.mem_append.2 (.inl (by simp [St.wait];exact⟨hx'.1,h5,by simpa using hx'.2.2⟩))
    ·exact List.mem_append.2 (.inr h5)
   have h5:((S.elect r).wait O).Nodup:=nodup_filter _ h.ond;have h6:=List.Nodup.length_le_of_subset h5 h4;rw [List.length_append]at h6;exact h6
  have h7:0<r.length:=List.length_pos_iff.2 hne;unfold St.mu;omega
 cases hd with
 |
  elect r ho hr=>
  obtain⟨a,b,c⟩:=h.rnd h.over_nd hr;have hne:r≠ []:=fun e=>by subst e;have:=hr.perm.length_eq;exact ho (List.length_eq_zero_iff.1 this.symm)
  have hin: ∀i∈r,i∈S.still O:=fun i hi=>mem_of_filter ((b i).1 hi);exact⟨h.elects a hin (by rw [c];exact h.few_of ho) (.inl ⟨fun i hi=>(h.mem_over.1 ((b i).1 hi)).2.2,hne⟩),hel r a hin hne⟩
 |
  fill r ho h1 h2 hr=>
  obtain⟨a,b,c⟩:=h.rnd h.still_nd hr;have hin: ∀i∈r,i∈S.still O:=fun i hi=>(b i).1 hi;have h3:=h.many;have h4:=h.few;have hne:r≠ []:=fun e=>by subst e;simp at c;omega
  exact⟨h.elects a hin (by omega) (.inr ⟨by omega,fun i hi=>(b i).2 hi⟩),hel r a hin hne⟩
 |
  move i r ho h1 h2 hr=>
  have hi:=h.mem_wait.1 (hr.perm.mem_iff.1 (List.mem_cons_self));refine⟨h.moves hm4 hi.1 hi.2.1 hi.2.2 h1,?_⟩;show 2* (S.still O).length+((S.move m q i).wait O).length<2* (S.still O).length+(S.wait O).length;have h3:=len_split (S.wait O) [i] h.wait_nd (by simp) (fun x hx=>by rw [List.mem_singleton.1 hx];exact h.mem_wait.2 hi);have h4:(S.wait O).filter (fun x=> !decide (x∈ [i]))=(S.move m q i).wait O:=by
   unfold St.wait;rw [List.filter_filter];refine List.filter_congr fun x _=>?_;show _=(decide (x∈S.el)&& !(S.moved x||decide (x=i)));simp only [List.mem_singleton,Bool.not_or];rw [Bool.and_comm,Bool.and_assoc]
  rw [h4]at h3;simp at h3;omega
 |
  excl i r ho h1 h2 h3 hr=>
  have hi:=h.mem_still.1 (hr.perm.mem_iff.1 (show i∈r++ [i]by simp));refine⟨h.excls hi.1 hi.2 h1 h2,?_⟩;show 2* ((S.excl i).still O).length+(S.wait O).length<_;have h4:=len_split (S.still O) [i] h.still_nd (by simp) (fun x hx=>by rw [List.mem_singleton.1 hx];exact h.mem_still.2 hi);have h5:(S.still O).filter (fun x=> !decide (x∈ [i]))=(S.excl i).still O:=by
   unfold St.still;rw [List.filter_filter];refine List.filter_congr fun x _=>?_;show _=(S.cont x&& !decide (x=i));simp only [List.mem_singleton];rw [Bool.and_comm]
  rw [h5]at h4;simp at h4;unfold St.mu;omega
end
end Go.Proofs.YtnohcdpnnhmpfaaGreatDoor.TR
namespace Go.Proofs.YtnohcdpnnhmpfaaGreatDoor.TR
open FRP
def Sml(x:Fr):Prop:= ∃e:Nat,e≤65536∧Sm (2^e) x
theorem lens_of {x e:Nat}(h:x≤2^e)(he:e≤65536):(NL.dig x).length≤65537∧(ND.dig x).length≤65537:=by
 have h1:x<2^(e+1):=Nat.lt_of_le_of_lt h (Nat.pow_lt_pow_right (by decide) (by omega));have h2:(2:Nat)^(e+1)≤1000000000^(e+1):=Nat.pow_le_pow_left (by decide) _;have h3:(2:Nat)^(e+1)≤10^(e+1):=Nat.pow_le_pow_left (by decide) _;exact⟨Nat.le_trans (NL.length_dig_le x (e+1) (Nat.lt_of_lt_of_le h1 h2)) (by omega),Nat.le_trans (ND.length_dig_le x (e+1) (Nat.lt_of_lt_of_le h1 h3)) (by omega)⟩
structure Lens(x:Fr):Prop where
 ln:(NL.dig x.n).length≤65537
 ld:(NL.dig x.d).length≤65537
 dn:(ND.dig x.n).length≤65537
 dd:(ND.dig x.d).length≤65537
theorem Sml.ok {x:Fr}(h:Sml x):x.ok:=by
 obtain⟨e,he,h1,h2,h3⟩:=h;exact h1
theorem Sml.lens {x:Fr}(h:Sml x):Lens x:=by
 obtain⟨e,he,h1,h2,h3⟩:=h;exact⟨(lens_of h2 he).1,(lens_of h3 he).1,(lens_of h2 he).2,(lens_of h3 he).2⟩
theorem Sml.wh {n:Nat}(h:n≤65536):Sml (Fr.wh n):=⟨n,h,Fr.wh_ok n,Nat.le_of_lt Nat.lt_two_pow_self,Nat.one_le_two_pow⟩
theorem Sml.one:Sml one:=Sml.wh (by decide)
section
variable {n s m:Nat} {q:Fr} {O:List Nat} {S:St}
theorem Inv.movs_le(h:Inv n s m q O S):S.movs≤n:=by
 have h1: ∀x∈S.el.filter S.moved,x∈List.range n:=fun x hx=>List.mem_range.2 (h.elc x (mem_of_filter hx)).1;have h2:=List.Nodup.length_le_of_subset (nodup_filter _ h.nd) h1;rw [List.length_range]at h2;exact h2
theorem Inv.sml(h:Inv n s m q O S)(hn:n≤12)(hm:m≤4096): ∃D:Nat,Dv D q∧(∀k,k<m→Dv D (S.V k).wt)∧ ∀x:Fr,x.ok→Dv D x→x.v≤(m:Rat)→Sml x:=by
 obtain⟨D,h1,h2,h3,h4⟩:=h.den;have h5:16*2^S.movs-12≤65524:=by
  have h6:2^S.movs≤2^12:=Nat.pow_le_pow_right (by decide) (Nat.le_trans h.movs_le hn);have h7:(2:Nat)^12=4096:=rfl;omega
 refine⟨D,h3,h4,fun x hx hd hv=>⟨16*2^S.movs-12+12,by omega,Sm.of hx hd h1 hv ?_ ?_⟩⟩
 ·rw [Nat.pow_add,Nat.mul_comm];exact Nat.mul_le_mul h2 (show m≤2^12 from hm)
 ·exact Nat.le_trans h2 (Nat.pow_le_pow_right (by decide) (by omega))
theorem Inv.rsw(h:Inv n s m q O S){L:List Nat}(hd:L.Nodup)(hL: ∀k∈L,k<m):rs L (fun k=>(S.V k).wt.v)≤rs (List.range m) (fun k=>(S.V k).wt.v):=
 rs_sub _ hd (fun x hx=>List.mem_range.2 (hL x hx)) List.nodup_range (fun k hk=>h.wnn k (List.mem_range.1 hk))
theorem Inv.kle(h:Inv n s m q O S){i:Nat}(hi:i<n):(S.kept i).v≤rs (List.range n) (fun i=>(S.kept i).v):=by
 have h1:=rs_sub (l:= [i]) (l':=List.range n) (fun i=>(S.kept i).v) (by simp) (fun x hx=>by rw [List.mem_singleton.1 hx];exact List.mem_range.2 hi) List.nodup_range (fun i _=>h.knn i);rw [rs_cons,rs_nil]at h1;grind
theorem Inv.sum_sml(h:Inv n s m q O S)(hn:n≤12)(hm:m≤4096){L:List Nat}(hd:L.Nodup)(hL: ∀k∈L,k<m):Sml (fsum zero (L.map fun k=>(S.V k).wt)):=by
 obtain⟨D,h1,h2,h3⟩:=h.sml hn hm;have h4: ∀x∈L.map (fun k=>(S.V k).wt),x.ok∧Dv D x:=fun x hx=>by
  obtain⟨k,hk,rfl⟩:=List.mem_map.1 hx;exact⟨h.wok k (hL k hk),h2 k (hL k hk)⟩
 obtain⟨h5,h6⟩:=fsum_ok _ zero zero_ok (fun x hx=>(h4 x hx).1);refine h3 _ h5 (Dv.sum _ _ zero_ok (Dv.zero D) h4) ?_;rw [h6,v_zero,List.map_map,←h.cons];have h7:=h.rsw hd hL;have h8:=rs_nonneg (List.range n) (fun i=>(S.kept i).v) (fun i _=>h.knn i);show 0+rs L (fun k=>(S.V k).wt.v)≤_;grind
theorem Inv.ksum_sml(h:Inv n s m q O S)(hn:n≤12)(hm:m≤4096){i:Nat}(hi:i<n){L:List Nat}(hd:L.Nodup)(hL: ∀k∈L,k<m):Sml (fsum (S.kept i) (L.map fun k=>(S.V k).wt)):=by
 obtain⟨D,h1,h2,h3⟩:=h.sml hn hm;have h4: ∀x∈L.map (fun k=>(S.V k).wt),x.ok∧Dv D x:=fun x hx=>by
  obtain⟨k,hk,rfl⟩:=List.mem_map.1 hx;exact⟨h.wok k (hL k hk),h2 k (hL k hk)⟩
 obtain⟨h5,h6⟩:=fsum_ok _ (S.kept i) (h.kok i) (fun x hx=>(h4 x hx).1);refine h3 _ h5 (Dv.sum _ _ (h.kok i) (h.kdv h1 i) h4) ?_;rw [h6,List.map_map,←h.cons];have h7:=h.rsw hd hL;have h8:=h.kle hi;show(S.kept i).v+rs L (fun k=>(S.V k).wt.v)≤_;grind
theorem Inv.wt_sml(h:Inv n s m q O S)(hn:n≤12)(hm:m≤4096){k:Nat}(hk:k<m):Sml (S.V k).wt:=by
 obtain⟨D,h1,h2,h3⟩:=h.sml hn hm;refine h3 _ (h.wok k hk) (h2 k hk) ?_;have h4:=h.rsw (L:= [k]) (by simp) (fun x hx=>by rw [List.mem_singleton.1 hx];exact hk);rw [rs_cons,rs_nil]at h4;have h5:=h.cons;have h8:=rs_nonneg (List.range n) (fun i=>(S.kept i).v) (fun i _=>h.knn i);grind
theorem Inv.k_sml(h:Inv n s m q O S)(hn:n≤12)(hm:m≤4096){i:Nat}(hi:i<n):Sml (S.kept i):=h.ksum_sml hn hm hi (L:= []) (by simp) (fun k hk=>by cases hk)
theorem Inv.t_sml(h:Inv n s m q O S)(hn:n≤12)(hm:m≤4096){i:Nat}(hi:i<n):Sml (S.tot m i):=h.ksum_sml hn hm hi (pile_nodup m S (some i)) (fun k hk=>(mem_pile.1 hk).1)
theorem Inv.n_sml(h:Inv n s m q O S)(hn:n≤12)(hm:m≤4096):Sml (S.non m):=h.sum_sml hn hm (pile_nodup m S none) (fun k hk=>(mem_pile.1 hk).1)
theorem Inv.q_le(h:Inv n s m q O S):q.v≤(m:Rat):=by
 have h1:=h.qv;have h2:=Fr.v_nonneg h.qok.1;have h3:(0:Rat)≤(s:Rat):=Rat.natCast_nonneg;have h4:=Rat.mul_nonneg h2 h3;grind
theorem Inv.q_sml(h:Inv n s m q O S)(hn:n≤12)(hm:m≤4096):Sml q:=by
 obtain⟨D,h1,h2,h3⟩:=h.sml hn hm;exact h3 q h.qok h1 h.q_le
theorem Inv.sur_sml(h:Inv n s m q O S)(hn:n≤12)(hm:m≤4096){i:Nat}(hi:i<n)(hq:q.v<(S.tot m i).v):Sml ((S.tot m i).sub q)∧Sml (S.surplus m q i):=by
 obtain⟨D,h1,h2,h3,h4⟩:=h.den;obtain⟨f1,f2,f3,f4⟩:=h.surplus_ok hq;have h5:16*2^S.movs-12≤65524:=by
  have h6:2^S.movs≤2^12:=Nat.pow_le_pow_right (by decide) (Nat.le_trans h.movs_le hn);have h7:(2:Nat)^12=4096:=rfl;omega
 have hDp:=cast_pos h1;obtain⟨A,hA⟩:=h.tdv h3 h4 i;obtain⟨Q,hQ⟩:=h3;have htm:(S.tot m i).v≤(m:Rat):=by
  have:=h.tot_le (l:= [i]) (by simp) (fun j hj=>by rw [List.mem_singleton.1 hj];exact hi);rw [rs_cons,rs_nil]at this;grind
 have hQA:Q≤A:=by
  rw [←Rat.natCast_le_natCast,←hA,←hQ];exact Rat.mul_le_mul_of_nonneg_right (Rat.le_of_lt hq) (Rat.le_of_lt hDp)
 have e1:((A-Q:Nat):Rat)=(A:Rat)-(Q:Rat):=by
  have:((A-Q+Q:Nat):Rat)=(A:Rat):=by rw [Nat.sub_add_cancel hQA]
  rw [Rat.natCast_add]at this;grind
 have hAp:0<A:=by
  rw [←Rat.natCast_pos,←hA];exact Rat.mul_pos f2 hDp
 have hAm:A≤m*D:=by
  rw [←Rat.natCast_le_natCast,←hA,Rat.natCast_mul];exact Rat.mul_le_mul_of_nonneg_right htm (Rat.le_of_lt hDp)
 have hmD:m*D≤2^(16*2^S.movs-12+12):=by
  rw [Nat.pow_add,Nat.mul_comm];exact Nat.mul_le_mul h2 (show m≤2^12 from hm)
 have hDD:D≤2^(16*2^S.movs-12+12):=Nat.le_trans h2 (Nat.pow_le_pow_right (by decide) (by omega));have hq0:=Fr.v_nonneg h.qok.1;constructor
 ·refine⟨16*2^S.movs-12+12,by omega,Sm.of (D:=D) (m:=m) (Fr.sub_ok (h.tok i) h.qok) ⟨A-Q,?_⟩ h1 ?_ hmD hDD⟩;·rw [Fr.v_sub (h.tok i) h.qok (Rat.le_of_lt hq),e1,←hA,←hQ];grind
  ·rw [Fr.v_sub (h.tok i) h.qok (Rat.le_of_lt hq)];grind
 ·have e6:((S.tot m i).v-q.v)/(S.tot m i).v* (S.tot m i).v=(S.tot m i).v-q.v:=Rat.div_mul_cancel (fun e=>by rw [e]at f2;exact absurd f2 (by decide));refine⟨16*2^S.movs-12+12,by omega,Sm.of (D:=A) (m:=1) f1 ⟨A-Q,?_⟩ hAp ?_ (by omega) (by omega)⟩
  ·rw [f3,e1,←hA,←hQ];generalize ((S.tot m i).v-q.v)/(S.tot m i).v=g at*;grind
  ·rw [f3];have h8:((S.tot m i).v-q.v)/(S.tot m i).v* (S.tot m i).v≤((1:Nat):Rat)* (S.tot m i).v:=by rw [e6];show _≤(1:Rat)*_;grind
   exact Rat.le_of_mul_le_mul_right h8 f2
end
end Go.Proofs.YtnohcdpnnhmpfaaGreatDoor.TR
