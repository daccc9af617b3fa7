/- Chapter 13: lists of ints in memory; the small callees. -/
import Derived.Test.YtnohcdpnnhmpfaaGreatDoorE07
import Derived.Deep.Fields
import Derived.Laws.OwnMore
import Derived.BigRegion
set_option linter.all false
set_option maxRecDepth 100000
set_option maxHeartbeats 4000000
namespace Go.Proofs.YtnohcdpnnhmpfaaGreatDoor
open Go.RowKit Tryz ML FM
namespace AU
variable{L:C0}{base n:Nat}{e:o0}{oa:s0}{v:n0}{w:m0}
def xq(L:C0):A0:=L.map fun v=>Value.int .i64 v
theorem JW(A B:C0):xq A++xq B=xq (A++B):=by simp [xq]
theorem Kb(L:C0): ∀v∈xq L,v.oneCell'=true:=by
 intro v hv;simp only [xq,jo]at hv;obtain⟨x,_,rfl⟩:=hv;rfl
structure yW(w:m0)(oa:s0)(L:C0):Prop where
 cells: ∀i (h:i<L.length),∃a,oa=some a∧a.block<w.heap.size∧w.cell? (a.add i)=some (.int .i64 L[i])
theorem yW.below {w1:m0}(h:yW w oa L)(hb:O0 w.heap.size w w1):yW w1 oa L:=⟨fun i hi=>by
 obtain⟨a,h1,h2,h3⟩:=h.cells i hi;exact⟨a,h1,jW h2 hb.size,by rw [hb.cell (by rw [yI];exact h2)];exact h3⟩⟩
theorem yW.take(h:yW w oa L)(k:Nat):yW w oa (L.take k):=⟨fun i hi=>by
 have iG:i<L.length:=by rw [jf]at hi;omega
 obtain⟨a,h1,h2,h3⟩:=h.cells i iG;exact⟨a,h1,h2,by rw [h3];simp⟩⟩
theorem yW.drew(h:yW w oa L):yW w.drew oa L:=⟨h.cells⟩
theorem zT(h:w.ownsRow base e 1 v n (xq L)): ∃oa cap,v=.slice oa L.length cap∧L.length≤cap∧yW w oa L:=by
 have hl:L.length=n:=by have:=h.1;simp [xq]at this;omega
 rcases h.2 with⟨hv,h0⟩|⟨g,cap,Es,hv,hb,hg,px,_,hc,ht⟩
 ·have:L= []:=kt.1 (by omega);subst this;exact⟨none,0,hv,jO _,⟨fun i hi=>by simp at hi⟩⟩
 ·refine⟨some ⟨g,0,none⟩,cap,by rw [hl];exact hv,by rw [hl];exact px,⟨fun i hi=>⟨_,rfl,xZ hg,?_⟩⟩⟩;exact h.cells (g:=g) (by rw [hv];rfl) i (.int .i64 L[i]) (by simp [xq,hi])
def Yi(p:Bytes×Bytes):A0:= [.string ⟨p.1.toArray⟩,.string ⟨p.2.toArray⟩]
def JF(F:List (Bytes×Bytes)):A0:=F.flatMap Yi
theorem jfD(A B:List (Bytes×Bytes)):JF A++JF B=JF (A++B):=by simp [JF]
theorem jfx(F:List (Bytes×Bytes)):(JF F).length=F.length*2:=by
 unfold JF
 induction F with
 |nil=>rfl
 |cons p r ih=>rw [List.flatMap_cons,jZ,ih,kW];simp [Yi];omega
theorem jem(F:List (Bytes×Bytes)): ∀v∈JF F,v.oneCell'=true:=by
 intro v hv;unfold JF at hv;obtain⟨p,_,h⟩:=qj.1 hv;simp only [Yi,jl,kD,kH]at h;rcases h with rfl|rfl<;>rfl
theorem jkQ(F:List (Bytes×Bytes)): ∀(i:Nat) (h:i<F.length) (j:Nat) (v:n0),(Yi F[i])[j]?=some v→(JF F)[i*2+j]?=some v:=by
 induction F with
 |nil=>intro i h;simp at h
 |
  cons p r ih=>
  intro i h j v hj;have hj2:j<2:=by have:=(xO.1 hj).1;simpa [Yi] using this
  unfold JF;rw [List.flatMap_cons];cases i with
  |
   zero=>
   rw [qZ (by simp [Yi];omega)];simpa using hj
  |
   succ i=>
   rw [kZ (by simp [Yi];omega)];have e:(i+1)*2+j-(Yi p).length=i*2+j:=by simp [Yi];omega
   rw [e];exact ih i (by simpa using h) j v (by simpa using hj)
structure FsAt(w:m0)(oa:s0)(F:List (Bytes×Bytes)):Prop where
 cells: ∀i (h:i<F.length),∃a,oa=some a∧a.block<w.heap.size∧ ∀j v,(Yi F[i])[j]?=some v→w.cell? ((a.add (i*2)).add j)=some v
theorem jgQ{F:List (Bytes×Bytes)}(h:w.ownsRow base e 2 v n (JF F)): ∃oa cap,v=.slice oa F.length cap∧F.length≤cap∧FsAt w oa F:=by
 have hl:F.length=n:=by have:=h.1;rw [jfx]at this;omega
 rcases h.2 with⟨hv,h0⟩|⟨g,cap,Es,hv,hb,hg,px,_,hc,ht⟩
 ·have:F= []:=kt.1 (by omega);subst this;exact⟨none,0,hv,jO _,⟨fun i hi=>by simp at hi⟩⟩
 ·refine⟨some ⟨g,0,none⟩,cap,by rw [hl];exact hv,by rw [hl];exact px,⟨fun i hi=>⟨_,rfl,xZ hg,fun j v hj=>?_⟩⟩⟩;rw [Go.Deep.add_add];exact h.cells (g:=g) (by rw [hv];rfl) (i*2+j) v (jkQ F i hi j v hj)
end AU
open AU
def GrT(b M:Nat)(w0:m0):Type:={w':m0 // ∀k,k<M→k≠b→w'.heap[k]?=w0.heap[k]?}
instance {b M:Nat} {w0:m0}:Nonempty (GrT b M w0):=⟨⟨w0,fun _ _ _=>rfl⟩⟩
def GrT.w {b M:Nat}{w0:m0}(x:GrT b M w0):m0:=x.1
theorem ZA {b M:Nat}{w0 w':m0}(hM:M=w0.heap.size)(h:w0.grownBy w' (some b)): ∃x:GrT b M w0,w'=x.w:=⟨⟨w',fun k hk Cs=>h.block k (by rw [←hM];exact hk) (fun he=>Cs (by injection he))⟩,rfl⟩
theorem zK {w:m0}{g:Nat}{dt:A0}{t:o0}(h:w.heap[g]?=some (.cells dt.toArray t (0,0))): ∀j u,dt[j]?=some u→w.cell? ((⟨g,0,none⟩:Addr).add j)=some u:=fun j u hj=>by
 rw [qD];exact Xf h j u hj
theorem xk {b:Nat}{w w1:m0}(h:yG b w w1):w.grownBy w1 (some b):=⟨h.os,h.tape,h.output,by rw [h.size];exact jO _,fun k _ hk=>h.block k (fun he=>hk (by rw [he]))⟩
theorem JE {b:Nat}{w w1:m0}(h:O0 w.heap.size w w1):w.grownBy w1 (some b):=⟨h.os,h.tape,h.output,h.size,fun k hk _=>h.block k hk⟩
theorem jaP(oa:s0)(L:C0)(cap:Nat)(x:Int)(w:m0)(h:yW w oa L)(hl:L.length<9223372036854775808):
 Calls Tryz.prog 38 #[.slice oa L.length cap,.int .i64 x] w fun e w'=>e=.returned (.bool (decide (x∈L)))∧w=w':=by
 have H:=jA h;clear h;go_enter Tryz.func38,Tryz.ntmps38;go_upto_region 2 with(fail)
 go_loop [9] (fun i=> ∃k:Nat,k≤L.length∧i=.int .i64 k∧x∉L.take k) (fun i=>L.length-(intOf i).toNat)
 case atStart=>exact⟨0,by omega,rfl,by simp⟩
 case round=>
 obtain⟨k,hk,rfl,fu⟩:=hrel;have HP:=jA fu;clear fu;by_cases ns:k<L.length
 ·obtain⟨dk,Ms,nu⟩:=Go.yD ns
  obtain⟨a,Us,eu,Ft⟩:=H.u.cells k ns;have TE:=jA (fun(hb:L[k]=x)=>(show decide (x∈L)=true from jT (hb▸jb ns)))
  have DT:=jA (fun(hb: ¬L[k]=x)=>(show x∉L.take (k+1)by
   rw [jh ns,jj,jm];rintro(h|h);·exact HP.u h
   ·exact hb h.symm))
  subst Us;generalize L[k]=y at*;by_cases he:y=x
  ·have h2:=jA (TE.u he);have d1:(y==x)=true:=by rw [qH];exact he
   clear he TE DT;go_wp2_with fail;go_ret;exact⟨by rw [h2.u];rfl,rfl⟩
  ·have h2:=jA (DT.u he);have d1:(y==x)=false:=by rw [jt];exact he
   clear he TE DT;go_wp2_with fail
   go_round
   case rel=>exact⟨k+1,by omega,by go_num,h2.u⟩
   case measure=>simp [intOf];omega
 ·obtain⟨dk,Ms⟩:=Go.yg ns;obtain rfl:k=L.length:=by omega
  rw [jr]at HP;have h2:=jA (show decide (x∈L)=false from jS HP.u);go_wp2_with fail;go_ret;exact⟨by rw [h2.u];rfl,rfl⟩
theorem jeV(oa ob:s0)(L:C0)(ca cb:Nat)(w:m0)(ha:yW w oa L)(hb:yW w ob L)(hl:L.length<9223372036854775808):
 Calls Tryz.prog 19 #[.slice oa L.length ca,.slice ob L.length cb] w fun e w'=>e=.returned (.bool true)∧O0 w.heap.size w w':=by
 have HA:=jA ha;have Eu:=jA hb;clear ha hb;go_enter Tryz.func19,Tryz.ntmps19;go_upto_region 4 with(fail);go_loopw [13] (fun i wr=> ∃k:Nat,k≤L.length∧i=.int .i64 k∧O0 w.heap.size w wr) (fun i _=>L.length-(intOf i).toNat);case atStart=>exact⟨0,by omega,rfl,jN _ _⟩
 case round=>
 obtain⟨k,hk,rfl,bel⟩:=hrel;by_cases ns:k<L.length
 ·obtain⟨dk,Ms,nu⟩:=Go.yD ns
  obtain⟨a,Us,eu,Ft⟩:=(HA.u.below bel).cells k ns;obtain⟨b,Mw,cD,Iy⟩:=(Eu.u.below bel).cells k ns;subst Us;subst Mw;have BL:=jA bel;clear bel;generalize L[k]=x at*;go_upto_region 6 with(fail);refine Seg.xf (fun w'=> ∃m,w'=wr.drewN m) [] [0,1,2,3,4,5,6,7] 8 (by kernel_rfl) (by kernel_rfl) (fun _ _ d _ _ h=>by cases d<;>exact h) (⟨1,rfl⟩) ?_;simp only [jK,Seg.opAt,Seg.xu];repeat (any_goals (first|go_big_quiet_step (fail)|quiet_step (fail)))
  refine jR ?_;go_wp2_with fail;go_roundw;case rel=>exact⟨k+1,by omega,by go_num,BL.u.drew⟩
  case measure=>simp [intOf];omega
 ·obtain⟨dk,Ms⟩:=Go.yg ns;go_wp2_with fail;go_ret;exact⟨rfl,bel⟩
end Go.Proofs.YtnohcdpnnhmpfaaGreatDoor
namespace Go.Proofs.YtnohcdpnnhmpfaaGreatDoor
open FM
namespace CT
variable{O P:C0}{n:Nat}
theorem ZX(x:List UInt8):Op.bytesLess x x=false:=by
 induction x with
 |nil=>rfl
 |cons a r ih=>simp [Op.bytesLess,ih]
theorem jcR: ∀(x y z:List UInt8),Op.bytesLess x y=true→Op.bytesLess y z=true→Op.bytesLess x z=true
 |_,_,[],_,h=>by cases ‹List UInt8› <;>simp [Op.bytesLess]at h
 |_,[],_::_,h,_=>by cases ‹List UInt8› <;>simp [Op.bytesLess]at h
 | [],_::_,_::_,_,_=>rfl
 |
  a::x,b::y,c::z,h1,h2=>by
  simp only [Op.bytesLess,qo,kK,jy,qH]at h1 h2 ⊢;rcases h1 with h1|⟨rfl,h1⟩
  ·rcases h2 with h2|⟨rfl,h2⟩;·exact .inl (UInt8.lt_trans h1 h2)
   ·exact .inl h1
  ·rcases h2 with h2|⟨rfl,h2⟩;·exact .inl h2
   ·exact .inr ⟨rfl,jcR x y z h1 h2⟩
theorem jiJ: ∀(x y:List UInt8),Op.bytesLess x y=false→Op.bytesLess y x=false→x=y
 | [],[],_,_=>rfl
 | [],_::_,h,_=>by simp [Op.bytesLess]at h
 |_::_,[],_,h=>by simp [Op.bytesLess]at h
 |
  a::x,b::y,h1,h2=>by
  simp only [Op.bytesLess,Bool.or_eq_false_iff,decide_eq_false_iff_not,Bool.and_eq_false_iff,jt]at h1 h2;have eu:a=b:=UInt8.le_antisymm (UInt8.not_lt.1 h2.1) (UInt8.not_lt.1 h1.1);subst eu;rw [jiJ x y (h1.2.resolve_left (fun h=>h rfl)) (h2.2.resolve_left (fun h=>h rfl))]
theorem jho(x y:List UInt8)(h:Op.bytesLess x y=true):Op.bytesLess y x=false:=by
 cases hb:Op.bytesLess y x with
 |false=>rfl
 |true=>have:=jcR x y x h hb;rw [ZX]at this;cases this
def jfK(x y:List UInt8):Int:=if Op.bytesLess x y=true then -1 else if Op.bytesLess y x=true then 1 else 0
theorem jpq(x y:List UInt8):(!(Op.bytesLess x y||x==y))=Op.bytesLess y x:=by
 cases h1:Op.bytesLess x y with
 |true=>simp [jho x y h1]
 |
  false=>
  cases h2:Op.bytesLess y x with
  |
   true=>
   have:x≠y:=by rintro rfl;rw [ZX]at h2;cases h2
   simp [this]
  |false=>simp [jiJ x y h1 h2]
theorem jhj(x y:List UInt8):decide (jfK x y<0)=Op.bytesLess x y:=by
 unfold jfK;cases h1:Op.bytesLess x y with
 |true=>simp
 |false=>cases h2:Op.bytesLess y x<;>simp
theorem jhW {α:Type}{le:α→α→Prop}(tr: ∀a b c,le a b→le b c→le a c)(A C:List α)(x:α)(h:(A++C).Pairwise le)(hc: ∀y∈C,le x y)(ha: ∀A' z,A=A'++ [z]→le z x):(A++x::C).Pairwise le:=by
 obtain⟨h1,h2,h3⟩:=vk.1 h;refine vk.2 ⟨h1,List.pairwise_cons.2 ⟨hc,h2⟩,fun a hA b hb=>?_⟩;rcases jl.1 hb with rfl|hb
 ·rcases List.eq_nil_or_concat A with rfl|⟨A',z,rfl⟩;·cases hA
  ·rw [List.concat_eq_append]at hA h1;have hz:=ha A' z (by simp);rcases jj.1 hA with h|h;·exact tr _ _ _ ((vk.1 h1).2.2 a h z (by simp)) hz
   ·obtain rfl:a=z:=by simpa using h
    exact hz
 ·exact h3 a hA b hb
theorem jdu {α:Type}(A:List α)(y x:α)(R:List α):((A++y::x::R).set (A.length+1) y).set A.length x=A++x::y::R:=by
 induction A with
 |nil=>rfl
 |cons a A ih=>simp only [vx,kW,List.set_cons_succ,ih]
def Vv(n:Nat):C0:=(List.range n).map fun k:Nat=>(k:Int)
theorem Jy(n:Nat):(Vv n).length=n:=by simp [Vv]
theorem jaT(n:Nat):Vv (n+1)=Vv n++ [(n:Int)]:=by simp [Vv,qI]
theorem jav(n:Nat)(x:Int):x∈Vv n↔0≤x∧x<n:=by
 simp only [Vv,jo,jk];constructor;·rintro⟨k,hk,rfl⟩;omega
 ·rintro⟨h1,h2⟩;exact⟨x.toNat,by omega,by omega⟩
def ltL(lot:Int→List UInt8)(a b:Int):Prop:=Op.bytesLess (lot a) (lot b)=true∨lot a=lot b∧a<b
theorem ZS(lot:Int→List UInt8)(a b c:Int)(h1:ltL lot a b)(h2:ltL lot b c):ltL lot a c:=by
 rcases h1 with h1|⟨e1,h1⟩<;>rcases h2 with h2|⟨e2,h2⟩;·exact .inl (jcR _ _ _ h1 h2)
 ·exact .inl (e2▸h1)
 ·exact .inl (e1.symm▸h2)
 ·exact .inr ⟨e1.trans e2,by omega⟩
theorem YC(lot:Int→List UInt8)(a b:Int)(h1:ltL lot a b)(h2:ltL lot b a):False:=by
 rcases h1 with h1|⟨e1,h1⟩<;>rcases h2 with h2|⟨e2,h2⟩;·rw [jho _ _ h1]at h2;cases h2
 ·rw [e2,ZX]at h1;cases h1
 ·rw [e1,ZX]at h2;cases h2
 ·omega
theorem jea(lot:Int→List UInt8)(a b:Int)(Cs:a≠b)(h: ¬ltL lot a b):ltL lot b a:=by
 unfold ltL at*;cases h1:Op.bytesLess (lot a) (lot b)with
 |true=>exact absurd (.inl h1) h
 |
  false=>
  cases h2:Op.bytesLess (lot b) (lot a)with
  |true=>exact .inl rfl
  |
   false=>
   have e:=jiJ _ _ h1 h2
   exact .inr ⟨e.symm,by
    have: ¬a<b:=fun hl=>h (.inr ⟨e,hl⟩);omega⟩
def jcT(lot:Int→List UInt8)(a b:Int):Bool:=Op.bytesLess (lot a) (lot b)||(lot a==lot b&&decide (a<b))
theorem jcS(lot:Int→List UInt8)(a b:Int):jcT lot a b=true↔ltL lot a b:=by
 simp [jcT,ltL,qo]
structure Ord(n:Nat)(lot:Int→List UInt8)(O:C0):Prop where
 perm:O.Perm (Vv n)
 srt:O.Pairwise (ltL lot)
theorem Ord.unique{lot:Int→List UInt8}{O':C0}(h:Ord n lot O)(h':Ord n lot O'):O=O':=
 List.Perm.eq_of_pairwise (fun a b _ _ h1 h2=>(YC lot a b h1 h2).elim) h.srt h'.srt (h.perm.trans h'.perm.symm)
theorem Ord.len{lot:Int→List UInt8}(h:Ord n lot O):O.length=n:=by rw [h.perm.length_eq,Jy]
theorem Ord.mem{lot:Int→List UInt8}(h:Ord n lot O){x:Int}:x∈O↔0≤x∧x<n:=by rw [h.perm.mem_iff,jav]
theorem Ord.ins{lot:Int→List UInt8}{A C:C0}(h:Ord n lot (A++C))(ha: ∀a∈A,ltL lot a n)(hc: ∀c C',C=c::C'→ ¬ltL lot c n):Ord (n+1) lot (A++(n:Int)::C):=by
 constructor
 ·rw [jaT];refine(List.perm_middle).trans ?_;exact((List.Perm.cons _ h.perm).trans (List.perm_append_comm (l₁:= [(n:Int)]) (l₂:=Vv n)))
 ·refine jhW (ZS lot) A C _ h.srt (fun y hy=>?_) (fun A' z e=>ha z (by simp [e]));cases C with
  |nil=>cases hy
  |
   cons c C'=>
   have EO:c≠(n:Int):=by
    have:=(h.mem (x:=c)).1 (by simp);omega
   have h1:=jea lot c n EO (hc c C' rfl);rcases jl.1 hy with rfl|hy;·exact h1
   ·exact ZS lot _ _ _ h1 ((List.pairwise_cons.1 (vk.1 h.srt).2.1).1 y hy)
theorem job(n:Nat):(Vv n).Pairwise (· < ·):=by
 induction n with
 |zero=>exact List.Pairwise.nil
 |
  succ n ih=>
  rw [jaT];refine vk.2 ⟨ih,List.pairwise_singleton _ _,fun a ha b hb=>?_⟩;obtain rfl:b=(n:Int):=by simpa using hb
  exact((jav n a).1 ha).2
theorem jmC(n:Nat)(lot:Int→List UInt8):(Vv n).Pairwise fun y x=>(jfK (lot x) (lot y)<0→ltL lot x y)∧(0≤jfK (lot x) (lot y)→ltL lot y x):=by
 refine(job n).imp (fun {y x} h=>⟨fun hc=>?_,fun hc=>?_⟩)
 ·have:=jhj (lot x) (lot y);rw [jT hc]at this;exact .inl this.symm
 ·refine jea lot x y (by omega) ?_;rintro(h1|⟨h1,h2⟩)
  ·have:=jhj (lot x) (lot y);rw [h1,jS (by omega)]at this;cases this
  ·omega
structure ZI(n:Nat)(O P:C0)(k:Nat):Prop where
 len:P.length=n
 at_: ∀j (h:j<O.length),j<k→P[O[j].toNat]?=some (j:Int)
theorem ZI.zero(h:P.length=n):ZI n O P 0:=⟨h,fun j _ h=>by omega⟩
theorem ZI.succ {k:Nat}{lot:Int→List UInt8}(h:ZI n O P k)(ho:Ord n lot O)(hk:k<O.length):ZI n O (P.set O[k].toNat (k:Int)) (k+1):=by
 refine⟨by simp [h.len],fun j hj mM=>?_⟩;have hb:=ho.mem.1 (jb hk);by_cases e:j=k
 ·subst e;rw [List.getElem?_set_self (by rw [h.len];omega)]
 ·have ns:j<k:=by omega
  have Cs:O[j]≠O[k]:=fun he=>by
   have:=xJ.1 ho.srt j k hj hk ns;rw [he]at this;exact YC lot _ _ this this
  have Ut:=ho.mem.1 (jb hj);rw [vv (by omega)];exact h.at_ j hj ns
theorem Ord.ins_at{lot:Int→List UInt8}(h:Ord n lot O)(m:Nat)(ha: ∀a∈O.take m,ltL lot a n)(hc: ∀c C',O.drop m=c::C'→ ¬ltL lot c n):Ord (n+1) lot (O.take m++(n:Int)::O.drop m):=
 Ord.ins (by rw [qw];exact h) ha hc
end CT
end Go.Proofs.YtnohcdpnnhmpfaaGreatDoor
namespace Go.Proofs.YtnohcdpnnhmpfaaGreatDoor
open Go.RowKit Tryz ML FM AU CT
variable{B X b base cap g k n s size:Nat}{D L S:C0}{P:Program}{a:Act}{e:o0}{v v':n0}{w w1 w2:m0}{xs:A0}
@[go_sem] theorem binOp_string_gtr (t:o0) (x y:List UInt8):binOp .gtr t (.string ⟨x.toArray⟩) (.string ⟨y.toArray⟩)=pure (.bool (Op.bytesLess y x)):=by
 rw [←jpq];simp [binOp,Op.stringOp]
theorem jmp(x:Bytes)(w:m0):Calls prog 115 #[.string ⟨x.toArray⟩] w fun e w'=>e=.returned (.bool false)∧w=w':=by
 have h:(x !=x)=false:=bne_self_eq_false x;go_enter Tryz.func115,Tryz.ntmps115;go_wp2_with fail;go_ret;exact⟨rfl,rfl⟩
theorem jmq(x:Int)(w:m0):Calls prog 143 #[.int .i64 x] w fun e w'=>e=.returned (.bool false)∧w=w':=by
 have h:(x !=x)=false:=bne_self_eq_false x;go_enter Tryz.func143,Tryz.ntmps143;go_wp2_with fail;go_ret;exact⟨rfl,rfl⟩
theorem jmW(x y:Bytes)(w:m0):Calls prog 68 #[.string ⟨x.toArray⟩,.string ⟨y.toArray⟩] w fun e w'=>e=.returned (.int .i64 (jfK x y))∧w=w':=by
 have Q:=jA (fun x w=>jmp x w);have HC:=jA (show jfK x y=if Op.bytesLess x y=true then -1 else if Op.bytesLess y x=true then 1 else 0 from rfl);cases h1:Op.bytesLess x y with
 |
  true=>
  rw [h1]at HC;go_enter Tryz.func68,Tryz.ntmps68;go_wp2_with (go_at_call 115;refine(Q.u _ _).mono ?_;rintro e w1 ⟨rfl,rfl⟩);go_ret;exact⟨by rw [HC.u];rfl,rfl⟩
 |
  false=>
  cases h2:Op.bytesLess y x with
  |
   true=>
   rw [h1,h2]at HC;go_enter Tryz.func68,Tryz.ntmps68;go_wp2_with (go_at_call 115;refine(Q.u _ _).mono ?_;rintro e w1 ⟨rfl,rfl⟩);go_ret;exact⟨by rw [HC.u];rfl,rfl⟩
  |
   false=>
   rw [h1,h2]at HC;go_enter Tryz.func68,Tryz.ntmps68;go_wp2_with (go_at_call 115;refine(Q.u _ _).mono ?_;rintro e w1 ⟨rfl,rfl⟩);go_ret;exact⟨by rw [HC.u];rfl,rfl⟩
def Ja(x y:Int):Int:=if x<y then -1 else if y<x then 1 else 0
theorem jmX(x y:Int)(w:m0):Calls prog 101 #[.int .i64 x,.int .i64 y] w fun e w'=>e=.returned (.int .i64 (Ja x y))∧w=w':=by
 have Q:=jA (fun x w=>jmq x w);have HC:=jA (show Ja x y=if x<y then -1 else if y<x then 1 else 0 from rfl);by_cases h1:x<y
 ·have d1:decide (x<y)=true:=jT h1;have HD:=jA (HC.u.trans (jP h1));clear h1;go_enter Tryz.func101,Tryz.ntmps101;go_wp2_with (go_at_call 143;refine(Q.u _ _).mono ?_;rintro e w1 ⟨rfl,rfl⟩);go_ret;exact⟨by rw [HD.u];rfl,rfl⟩
 ·have d1:decide (x<y)=false:=jS h1;by_cases h2:y<x
  ·have d2:decide (y<x)=true:=jT h2;have HD:=jA (HC.u.trans ((jQ h1).trans (jP h2)));clear h1 h2;go_enter Tryz.func101,Tryz.ntmps101;go_wp2_with (go_at_call 143;refine(Q.u _ _).mono ?_;rintro e w1 ⟨rfl,rfl⟩);go_ret;exact⟨by rw [HD.u];rfl,rfl⟩
  ·have d2:decide (y<x)=false:=jS h2;have HD:=jA (HC.u.trans ((jQ h1).trans (jQ h2)));clear h1 h2;go_enter Tryz.func101,Tryz.ntmps101;go_wp2_with (go_at_call 143;refine(Q.u _ _).mono ?_;rintro e w1 ⟨rfl,rfl⟩);go_ret;exact⟨by rw [HD.u];rfl,rfl⟩
def jdk(L:C0):Bool:=L.any fun x=>decide (x<0)
structure jaI(L:C0)(m:Int):Prop where
 mem:m∈L
 le: ∀x∈L,m≤x
theorem jaI.snoc {L:C0}{m:Int}(h:jaI L m)(x:Int):jaI (L++ [x]) (if x<m then x else m):=by
 refine⟨?_,fun y hy=>?_⟩
 ·by_cases hx:x<m;·rw [jP hx];simp
  ·rw [jQ hx];exact List.mem_append_left _ h.mem
 ·rcases jj.1 hy with h1|h1;·have:=h.le y h1;split<;>omega
  ·obtain rfl:y=x:=by simpa using h1
   split<;>omega
theorem jaI.neg{m:Int}(h:jaI L m):decide (m<0)=jdk L:=by
 unfold jdk;rw [Bool.eq_iff_iff,kK,vI];constructor;·intro hm;exact⟨m,h.mem,by simpa using hm⟩
 ·rintro⟨x,hx,hl⟩;have:=h.le x hx;have hl:x<0:=by simpa using hl
  omega
theorem jnV(oa:s0)(L:C0)(cap:Nat)(w:m0)(h:yW w oa L)(h0:0<L.length)(hl:L.length<9223372036854775807):
 Calls prog 99 #[.slice oa L.length cap] w fun e w'=>(∃m,e=.returned (.int .i64 m)∧jaI L m)∧w=w':=by
 obtain⟨a,rfl,eu,Ft⟩:=h.cells 0 h0;have H:=jA h;have d0:decide ((L.length:Int)<1)=false:=jS (by omega);have d1:decide (L.length<1)=false:=jS (by omega);have hz:(0:Int)<(L.length:Int):=by omega
 have Bu:w.cell? a=some (.int .i64 L[0]):=by have:=Ft;rwa [show a.add 0=a from by simp [Addr.add]]at this
 clear h;have HS:=jA (show jaI (L.take 1) L[0]from⟨by rw [jh h0];simp,fun x hx=>by rw [jh h0]at hx;simp at hx;omega⟩);generalize L[0]=x0 at*;go_enter Tryz.func99,Tryz.ntmps99;go_wp2_with fail;clear Ft Bu d0 d1 hz
 go_loop [3,4] (fun v i=> ∃(k:Nat) (m:Int),1≤k∧k≤L.length∧i=.int .i64 k∧v=.int .i64 m∧jaI (L.take k) m) (fun _ i=>L.length-(intOf i).toNat)
 case atStart=>exact⟨1,x0,by omega,by omega,rfl,rfl,HS.u⟩
 case round=>
 obtain⟨k,m,fZ,hk,rfl,rfl,hm⟩:=hrel;have HM:=jA hm;clear hm;by_cases ns:k<L.length
 ·obtain⟨dk,Ms,nu⟩:=Go.yD ns
  obtain⟨b,Us,hab2,Bu⟩:=H.u.cells k ns;obtain rfl:a=b:=by injection Us
  have HN:=jA (show jaI (L.take (k+1)) (if L[k]<m then L[k]else m)by rw [jh ns];exact HM.u.snoc _);generalize L[k]=y at*;go_wp2_with fail
  go_round
  case rel=>exact⟨k+1,if y<m then y else m,by omega,by omega,by go_num,rfl,HN.u⟩
  case measure=>simp [intOf];omega
 ·obtain⟨dk,Ms⟩:=Go.yg ns;obtain rfl:k=L.length:=by omega
  rw [jr]at HM;go_wp2_with fail;go_ret;exact⟨⟨m,rfl,HM.u⟩,rfl⟩
def Kept(X:Nat)(w w':m0):Prop:=w.grownBy w' (some X)
theorem Kept.refl(X:Nat)(w:m0):Kept X w w:=JE (jN _ _)
theorem Kept.drew{w':m0}(h:Kept X w w'):Kept X w w'.drew:=⟨h.os,h.tape,h.output,h.size,h.block⟩
theorem Kept.below(h:Kept X w w1)(hb:O0 w1.heap.size w1 w2):Kept X w w2:=
 ⟨hb.os.trans h.os,hb.tape.trans h.tape,hb.output.trans h.output,jU h.size hb.size,fun k hk Cs=>(hb.block k (jW hk h.size)).trans (h.block k hk Cs)⟩
theorem Kept.set(h:Kept X w w1)(o:Nat)(v:n0):Kept X w (w1.setCell ⟨X,o,none⟩ v):=by
 have hb:=(jN X w1).setCell (p:=⟨X,o,none⟩) (jO _) v;exact⟨hb.os.trans h.os,hb.tape.trans h.tape,hb.output.trans h.output,jU h.size hb.size,fun k hk Cs=>(Below.heap_setCell w1 ⟨X,o,none⟩ v k (fun e=>Cs (by rw [e]))).trans (h.block k hk Cs)⟩
theorem Kept.bel(h:Kept X w w1)(hB:B≤X)(hX:X<w.heap.size):O0 B w w1:=(jN B w).grown h (by omega) (fun k hk=>by cases hk;exact hB)
theorem YV(h:w.ownsRow base e size (.slice (some ⟨X,0,none⟩) n cap) n xs):X<w.heap.size:=by
 rcases h.2 with⟨h,_⟩|⟨g,DF,Es,hv,_,hg,_⟩;·cases h
 ·have:X=g:=by simp at hv;exact hv.1
  subst this;exact xZ hg
theorem zM(h:w.ownsRow base e size v n xs):w.drew.ownsRow base e size v n xs:=h
structure Zk(le:Int→Int→Prop)(D S:C0)(k:Nat):Prop where
 perm:S.Perm (D.take k)
 srt:S.Pairwise le
theorem jei(le:Int→Int→Prop)(D:C0):Zk le D (D.take 1) 1:=⟨List.Perm.refl _,by cases D<;>simp⟩
theorem Zk.len {le:Int→Int→Prop}(h:Zk le D S k)(hk:k≤D.length):S.length=k:=by rw [h.perm.length_eq,jf];omega
theorem Zk.next {le:Int→Int→Prop}{A C:C0}{x:Int}(h:Zk le D S k)(hk:k<D.length)(nH:A++C=S)(hx:x=D[k])(hp:(A++x::C).Pairwise le):Zk le D (A++x::C) (k+1):=⟨by
 rw [jh hk,←hx];refine List.perm_middle.trans ?_;rw [nH];exact(List.Perm.cons x h.perm).trans (List.perm_append_comm (l₁:= [x]) (l₂:=D.take k)),hp⟩
theorem Zf {r:Int→Int→Prop}(h:D.Pairwise r)(k:Nat)(hk:k<D.length)(y:Int)(hy:y∈D.take k):r y D[k]:=by
 have h2:=h.sublist (List.take_sublist (k+1) D);rw [jh hk]at h2;exact(vk.1 h2).2.2 y hy D[k] (by simp)
def Vh(le:Int→Int→Prop)(D:C0)(X cap base:Nat)(T:o0)(w w':m0):Prop:=
 ∃S,S.Perm D∧S.Pairwise le∧w'.ownsRow base T 1 (.slice (some ⟨X,0,none⟩) D.length cap) D.length (xq S)∧Kept X w w'
theorem jfB(c:Int→Int→Int)(le:Int→Int→Prop)(tr: ∀a b c,le a b→le b c→le a c)(D:C0)(X cap base:Nat)(p:Nat)(w:m0)
 (HC: ∀(x y:Int) (w':m0),x∈D→y∈D→Kept X w w'→Calls prog 67 #[.int .i64 x,.int .i64 y,.pointer (some ⟨p,0,none⟩)] w' fun e Fu=>e=.returned (.int .i64 (c x y))∧O0 w'.heap.size w' Fu)
 (hc:D.Pairwise fun y x=>(c x y<0→le x y)∧(0≤c x y→le y x)) (hl:D.length<4611686018427387904) (hD:w.ownsRow base 3 1 (.slice (some ⟨X,0,none⟩) D.length cap) D.length (xq D)):
 Calls prog 166 #[.slice (some ⟨X,0,none⟩) D.length cap,.int .i64 0,.int .i64 D.length,.func (.func 67) #[] #[.pointer (some ⟨p,0,none⟩)]] w fun e w'=>e=.returned (.tuple #[])∧Vh le D X cap base 3 w w':=by
 have TR:=jA tr;have QC:=jA HC;have PC:=jA hc;have RD:=jA hD;have hX:X<w.heap.size:=YV hD;clear tr HC hc hD;go_enter Tryz.func166,Tryz.ntmps166;go_wp2_with fail;go_loopw [8] (fun i wr=> ∃(k:Nat) (S:C0),1≤k∧(k≤D.length∨k=1)∧i=.int .i64 k∧Zk le D S k∧wr.ownsRow base 3 1 (.slice (some ⟨X,0,none⟩) D.length cap) D.length (xq (S++D.drop k))∧Kept X w wr) (fun i _=>D.length-(intOf i).toNat);case atStart=>exact⟨1,D.take 1,by omega,.inr rfl,rfl,jei le D,by rw [qw];exact RD.u,Kept.refl X w⟩
 case round=>
 clear RD;obtain⟨k,S,fZ,gG,rfl,hS,hR,hK⟩:=hrel;have HS:=jA hS;have HR:=jA hR;have HK:=jA hK;clear hS hR hK;by_cases ns:k<D.length
 ·obtain⟨dk,Ms,nu⟩:=Go.yD ns
  obtain⟨x,hx⟩: ∃x,x=D[k]:=⟨_,rfl⟩;have cy:D.drop k=x::D.drop (k+1):=by rw [hx,qA ns]
  have mK:=HS.u.len (by omega);have HXD:=jA (show x∈D by rw [hx];exact jb ns)
  have Wv:=jA (show ∀y∈S,(c x y<0→le x y)∧(0≤c x y→le y x)from fun y hy=>by
   rw [hx];exact Zf PC.u k ns y (HS.u.perm.mem_iff.1 hy))
  have HSD:=jA (show ∀y∈S,y∈D from fun y hy=>qR (HS.u.perm.mem_iff.1 hy));have Iw:=jA (show ∀A C,A++C=S→(A++x::C).Pairwise le→Zk le D (A++x::C) (k+1)from fun A C nH hp=>HS.u.next ns nH (hx▸rfl) hp);have GW:=jA (show wr.ownsRow base 3 1 (.slice (some ⟨X,0,none⟩) D.length cap) D.length (xq (S++x::D.drop (k+1)))by rw [←cy];exact HR.u);clear HR cy hx;have hLR:S.length+(1+(D.drop (k+1)).length)=D.length:=by rw [kQ];omega
  obtain⟨R,hR⟩: ∃R,R=D.drop (k+1):=⟨_,rfl⟩;rw [←hR]at hLR GW;have sH:=jA hR;clear hR;generalize Iu:w.heap.size=W at*;clear Iu;go_wp2_with fail;go_loopw [9] (fun j wr=> ∃(A C:C0),j=.int .i64 (A.length:Int)∧A++C=S∧(∀y∈C,le x y)∧wr.ownsRow base 3 1 (.slice (some ⟨X,0,none⟩) D.length cap) D.length (xq (A++x::(C++R)))∧Kept X w wr) (fun j _=>(intOf j).toNat);case atStart=>exact⟨S,[],by rw [mK],by simp,by simp,by simpa using GW.u,HK.u⟩
  case round=>
  clear GW HK;obtain⟨A,C,rfl,nH,hC,hR,hK⟩:=hrel;have CL:=jA nH;have HCC:=jA hC;have HR:=jA hR;have HK:=jA hK;have LE:A.length≤S.length:=by rw [←nH];simp
  clear nH hC hR hK;have gL:=jA (fun h=>jhW TR.u A C x (CL.u▸HS.u.srt) HCC.u h);rcases List.eq_nil_or_concat A with hA|⟨A',y,hA⟩
  ·subst hA;have d0:decide ((0:Int)<0)=false:=rfl;have HF:=jA (Iw.u [] C CL.u (gL.u (fun A' z h=>by simp at h)));go_wp2_with fail;refine Seg.xf (fun w'=> ∃m,w'=wr.drewN m) [] [0,1,2,3,4,5,6,7,8,9,10,11,12,13] 14 (by kernel_rfl) (by kernel_rfl) (fun _ _ d _ _ h=>by cases d<;>exact h) (⟨1,rfl⟩) ?_;simp only [jK,Seg.opAt,Seg.xu];repeat (any_goals (first|go_big_quiet_step (fail)|quiet_step (fail)))
   refine jR ?_;go_wp2_with fail;go_roundw;case rel=>exact⟨k+1,x::C,by omega,.inl (by omega),by go_num,HF.u,by rw [←sH.u];exact zM HR.u,HK.u.drew⟩
   case measure=>simp [intOf];omega
  ·rw [List.concat_eq_append]at hA;obtain⟨jp,hjp⟩: ∃jp,jp=A'.length:=⟨_,rfl⟩;have eV:A.length=jp+1:=by rw [hA,hjp];simp
   have uu:=HR.u.cellAt (jp+1) (by omega);have gy:=HR.u.cellAt jp (by omega);have WJ:=HR.u.frozenAt (jp+1);have uA:=HR.u.frozenAt jp;have e1:(xq (A++x::(C++R)))[jp+1]?=some (.int .i64 x):=by rw [←eV];simp [xq]
   have e0:(xq (A++x::(C++R)))[jp]?=some (.int .i64 y):=by rw [hA,hjp];simp [xq]
   rw [e1]at uu;rw [e0]at gy;clear e1 e0;have OS:y∈S:=by rw [←CL.u,hA];simp
   have QQ:=jA (fun w' (hk:Kept X w w')=>QC.u x y w' HXD.u (HSD.u y OS) hk);have CS:=jA (Wv.u y OS)
   have fX:=jA (show ∀A2 z,A=A2++ [z]→0≤c x y→le z x from fun A2 z h h0=>by
    rw [hA]at h;have hz:=(List.append_inj' h rfl).2;simp at hz;subst hz;exact CS.u.2 h0)
   have DW:=jA (show((xq (A++x::(C++R))).set (jp+1) (.int .i64 y)).set jp (.int .i64 x)=xq (A'++x::(y::C++R))by
    have:=jdu (xq A') (.int .i64 y) (.int .i64 x) (xq (C++R));rw [show(xq A').length=jp by simp [xq,hjp]]at this;rw [hA];simpa [xq] using this)
   have aY:=jA (show A'++y::C=S by rw [←CL.u,hA];simp);have z1:decide ((0:Int)<(jp:Int)+1)=true:=jT (by omega);have z2:(0:Int)<(jp:Int)+1:=by omega
   have z3:(jp:Int)+1<(D.length:Int):=by omega
   have z4:(jp:Int)<(D.length:Int):=by omega
   have z5:(A.length:Int)=(jp:Int)+1:=by omega
   rw [z5];clear z5;have HJ:=jA hjp;obtain⟨iN,MJ⟩: ∃q,q=jp+1:=⟨_,rfl⟩;have ea:((jp:Int)+1).toNat=iN:=by omega
   rw [←MJ]at uu WJ DW;have FI:=jA MJ;clear hjp hA MJ OS;have oD:=jA uu;have RP:=jA gy;by_cases Rw:c x y<0
   ·have dn:decide (c x y<0)=true:=jT Rw;have HLE:=jA (CS.u.1 Rw);clear CS fX Iw gL Rw;go_wp2_with fail;refine Seg.xf (fun w'=> ∃m,w'=wr.drewN m) [] [0,1,2,3,4,5,6,7,8,9,10,11,12,13] 14 (by kernel_rfl) (by kernel_rfl) (fun _ _ d _ _ h=>by cases d<;>exact h) (⟨1,rfl⟩) ?_;simp only [jK,Seg.opAt,Seg.xu];repeat (any_goals (first|go_big_quiet_step (fail)|quiet_step (fail)))
    refine jR ?_;go_wp2_with (go_at_call 67;refine(QQ.u _ HK.u.drew).mono ?_;rintro e w2 ⟨rfl,b2⟩;have B2:=jA b2;clear b2);have oU:X<wr.drew.heap.size:=by have:=YV HR.u;exact this
    have K2:=jA (HK.u.drew.below B2.u);have R2:=jA (yA (zM HR.u) B2.u);clear uu gy WJ uA;have uu:=(B2.u.cell (p:=⟨X,iN,none⟩) oU).trans oD.u;have gy:=(B2.u.cell (p:=⟨X,jp,none⟩) oU).trans RP.u;have WJ:=R2.u.frozenAt iN;have uA:=R2.u.frozenAt jp;have MJ:=FI.u;obtain⟨u,hcu⟩: ∃u,(w2.setCell ⟨X,iN,none⟩ (.int .i64 y)).cell? ⟨X,jp,none⟩=some u:=⟨_,(World.cell?_setCell_other _ _ _ _ (by intro e';simp only [Addr.mk.injEq]at e';omega)).trans gy⟩;have HR3:=jA (zM ((R2.u.stored iN (.int .i64 y)).1.stored jp (.int .i64 x)).1);have K3:=jA (((K2.u.set iN (.int .i64 y)).set jp (.int .i64 x)).drew);clear B2 K2 R2 HR HK oD RP oU MJ QQ;rw [DW.u]at HR3;clear DW
    go_big_region
    clear uu gy WJ uA hcu ea;generalize ((w2.setCell ⟨X,iN,none⟩ (.int .i64 y)).setCell ⟨X,jp,none⟩ (.int .i64 x)).drew=w3 at*;go_wp2_with fail;go_roundw;case rel=>exact⟨A',y::C,by rw [←HJ.u],aY.u,fun v hv=>(jl.1 hv).elim (fun h=>h▸HLE.u) (HCC.u v),HR3.u,K3.u⟩
    case measure=>simp [intOf]
   ·have dn:decide (c x y<0)=false:=jS Rw;have HF:=jA (Iw.u A C CL.u (gL.u (fun A2 z h=>fX.u A2 z h (by omega))));clear CS fX Iw gL Rw;go_wp2_with fail;refine Seg.xf (fun w'=> ∃m,w'=wr.drewN m) [] [0,1,2,3,4,5,6,7,8,9,10,11,12,13] 14 (by kernel_rfl) (by kernel_rfl) (fun _ _ d _ _ h=>by cases d<;>exact h) (⟨1,rfl⟩) ?_;simp only [jK,Seg.opAt,Seg.xu];repeat (any_goals (first|go_big_quiet_step (fail)|quiet_step (fail)))
    refine jR ?_;go_wp2_with (go_at_call 67;refine(QQ.u _ HK.u.drew).mono ?_;rintro e w2 ⟨rfl,b2⟩;have B2:=jA b2;clear b2);have K2:=jA (HK.u.drew.below B2.u);have R2:=jA (yA (zM HR.u) B2.u);clear uu gy WJ uA;go_roundw;case rel=>exact⟨k+1,A++x::C,by omega,.inl (by omega),by go_num,HF.u,by rw [←sH.u,kY];exact R2.u,K2.u⟩
    case measure=>simp [intOf];omega
 ·obtain⟨dk,Ms⟩:=Go.yg ns;have HDT:=jA (show D.take k=D from je (by omega));have uS:=jA (show D.drop k= []from xP (by omega));go_wp2_with fail
  go_end0
  exact⟨rfl,S,by have:=HS.u.perm;rwa [HDT.u]at this,HS.u.srt,by have:=HR.u;rwa [uS.u,qG]at this,HK.u⟩
structure jad(B:Nat)(w w1:m0)(X Z:t0)(T U:o0):Prop where
 bel:O0 B w w1
 x:w1.heap[B]?=some (.cells X T (0,0))
 z:w1.heap[B+1]?=some (.cells Z U (0,0))
theorem jad.mk'(w:m0)(X Z:t0)(T U:o0):jad w.heap.size w ((w.alloc (.cells X T)).alloc (.cells Z U)) X Z T U:=by
 have b1:=(jN w.heap.size w).alloc (jO _) (.cells X T);exact⟨b1.alloc (by simp) _,yM (xh rfl),xh (by simp)⟩
theorem jad.keep{X Z:t0}{T U:o0}(h:jad B w w1 X Z T U)(hB:B≤w1.heap.size)(hb:O0 w1.heap.size w1 w2):jad B w w2 X Z T U:=
 ⟨h.bel.trans (hb.mono hB),xe hb (xZ h.x) h.x,xe hb (xZ h.z) h.z⟩
def VG(v v':n0):Prop:=v.ownBlock=none∨v.ownBlock≠v'.ownBlock
theorem VG.symm(h:VG v v'):VG v' v:=by
 rcases h with h|h
 ·cases h2:v'.ownBlock with
  |none=>exact .inl h2
  |some k=>right;rw [h,h2];simp
 ·exact .inr h.symm
theorem JY{b':Nat}{e':o0}{s' n':Nat}{xs':A0}(h:w.ownsRow b e s v n xs)(h':w.ownsRow b' e' s' v' n' xs')(Cs:e≠e'):VG v v':=by
 rcases h'.2 with⟨rfl,_⟩|⟨g,cap,Es,rfl,_,hg,_⟩
 ·cases hv:v.ownBlock with
  |none=>exact .inl hv
  |some k=>exact .inr (by rw [hv];simp [Value.ownBlock])
 ·exact .inr (by simpa [Value.ownBlock] using zZ h hg Cs)
theorem jbf{v0 v1:n0}(fJ:v1.ownBlock=some g)(h:w.ownsRow b e s v n xs)(ha:VG v0 v)(hf:v0.ownBlock=some g∨g=w.heap.size):VG v1 v:=by
 right;rcases hf with hf|hf
 ·rw [fJ,←hf];rcases ha with h0|h0;·rw [h0]at hf;cases hf
  ·exact h0
 ·rw [fJ,hf];intro he;have:=(h.lt _ he.symm).2;omega
theorem QH{oa:s0}{m:Nat}(h:w.ownsRow base e 1 (.slice oa m cap) n (xq L)):yW w oa L:=by
 obtain⟨oa',DF,hv,_,hi⟩:=zT h;injection hv with h1 h2 h3;rw [h1];exact hi
theorem KC:(prog.info? 3).map (fun i=>(i.zero,i.size,i.bytes))=some (some (.int .i64 0),1,8):=by kernel_rfl
theorem yW.nil:yW w none []:=⟨fun i hi=>by simp at hi⟩
theorem xx{ops:Array Oper}{rest:List Oper}{o:Oper}{S:m0→Prop}{K:Act→Prop}(hw:Region.wanted o (yielded ops a.tmps)=true)(ty:o0)(y:Operand)(ho:o.op=.load ty y)(p:Addr)(cs:A0)(d:TypeDesc)
 (hx:a.eval y=.pointer (some p)) (hb: ∀w',S w'→ ∀j v,cs[j]?=some v→w'.cell? (p.add j)=some v) (hu:P.underlying ty=some d) (hd:d.isRow=true)
 (hi:(P.info? ty).map (·.size)=some cs.length) (h:wpQuiet P ops S K rest (a.put o.dst (.agg cs.toArray))):
 wpQuiet P ops S K (o::rest) a:=by
 unfold wpQuiet;rw [jP hw];refine⟨.agg cs.toArray,fun w' Tt=>?_,h⟩;have hl:(loadCells p cs.length).run P w'=.ok cs.toArray w':=run_loadCells_list (P:=P) w' p cs (hb w' Tt);cases hq:P.info? ty with
 |none=>simp [hq]at hi
 |
  some i=>
  have hs:i.size=cs.length:=by simpa [hq] using hi
  have nU:(isAgg ty).run P w'=.ok true w':=by
   unfold isAgg;rw [kU,run_underlying hu w'];cases d<;>simp_all
  have hr:(loadVar ty p).run P w'=.ok (.agg cs.toArray) w':=by simp [loadVar,kU,nU,sizeOf,typeInfo,hq,hs,hl]
  unfold Oper.quietAt execOp;simp only [ho,hx,Instr.loadAt,Instr.sureAddr,kU,Sem.run_pure,qQ,hr];exact⟨rfl,rfl⟩
theorem jbU{Du:Nat}{cs:t0}{t:o0}{fr:Nat×Nat}(h:w.heap[g]?=some (.cells cs t fr))(dt:A0)(hn: ∀j u,dt[j]?=some u→cs[Du+j]?=some u): ∀j u,dt[j]?=some u→w.cell? ((⟨g,Du,none⟩:Addr).add j)=some u:=fun j u hj=>by
 rw [qD,jM w g (Du+j) _ _ _ h];exact hn j u hj
theorem JM{gE:Nat}(h:w.ownsRow base e s v n xs)(hb:gE≤base):w.ownsRow gE e s v n xs:=⟨h.1,by
 rcases h.2 with h0|⟨g,cap,Es,hv,hg,rest⟩;·exact .inl h0
 ·exact .inr ⟨g,cap,Es,hv,jU hb hg,rest⟩⟩
theorem Yo{ops:Array Oper}{rest:List Oper}{op:Oper}{Q:Exit→Act→m0→Prop}(tA:op.guard=none)(ty:o0)(x:Operand)(ho:op.op=.load ty x)
 (p:Addr) (hx:a.eval x=.pointer (some p)) (cs:A0) (d:TypeDesc) (hc: ∀j v,cs[j]?=some v→w.cell? (p.add j)=some v)
 (hu:P.underlying ty=some d) (hd:d.isRow=true) (hi:(P.info? ty).map (·.size)=some cs.length)
 (h:wpList P ops Q rest (a.put op.dst (.agg cs.toArray)) w):wpList P ops Q (op::rest) a w:=by
 refine wpList_plain tA fun K hK=>?_;have hl:(loadCells p cs.length).run P w=.ok cs.toArray w:=run_loadCells_list (P:=P) w p cs hc;cases hq:P.info? ty with
 |none=>simp [hq]at hi
 |
  some i=>
  have hs:i.size=cs.length:=by simpa [hq] using hi
  have nU:(isAgg ty).run P w=.ok true w:=by
   unfold isAgg;rw [kU,run_underlying hu w];cases d<;>simp_all
  have cF:(loadVar ty p).run P w=.ok (.agg cs.toArray) w:=by simp [loadVar,kU,nU,sizeOf,typeInfo,hq,hs,hl]
  unfold Oper.wp execOp;simp only [ho,hx,Instr.loadAt,Instr.sureAddr,kU,Sem.run_pure,qQ,cF];exact hK _ _ h
end Go.Proofs.YtnohcdpnnhmpfaaGreatDoor
