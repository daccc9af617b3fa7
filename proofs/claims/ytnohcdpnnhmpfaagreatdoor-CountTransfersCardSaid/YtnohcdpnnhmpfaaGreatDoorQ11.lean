/-
  Chapter 13: lists of ints in memory; the small callees. (Turned from AuM.)
  Chapter 13: plain laws: the order of bytes; a row sorted by insertion; the order of lots.
  Chapter 13: cmp.Compare of strings and of ints; the least of ints.
  Chapter 13: slices.insertionSortCmpFunc with two comparers. Printed by tools/gensort.py.
  Chapter 13: tools of earlier parts that name no function. (Picked out of AuT, AuB, AuM, AuU, AuJ, HBox.)
-/
import Derived.Test.YtnohcdpnnhmpfaaGreatDoorQ03
import Derived.Deep.MidRow
import Derived.Deep.Fields
import Derived.Laws.OwnMore
import Derived.Deep.AppendLies
import Derived.Deep.RegionWith
import Derived.Deep.DeepCutAuto
import Derived.Test.YtnohcdpnnhmpfaaGreatDoorQ01
import Derived.BigRegion
import Derived.Deep.CutBlock
set_option linter.unusedVariables false
set_option linter.unusedSimpArgs false
set_option maxRecDepth 100000
set_option maxHeartbeats 4000000
namespace Go.Proofs.YtnohcdpnnhmpfaaGreatDoor
open Go.RowKit Tryz ML FM
namespace AU
def xU(L:List Int):List Value:=L.map fun v=>Value.int .i64 v
theorem yF(A B:List Int):xU A++xU B=xU (A++B):=by simp [xU]
theorem Qu(L:List Int): ∀v∈xU L,v.oneCell'=true:=by
 intro v hv;simp only [xU,jl]at hv;obtain⟨x,_,rfl⟩:=hv;rfl
structure yj(w:World)(oa:Option Addr)(L:List Int):Prop where
 cells: ∀i (h:i<L.length),∃a,oa=some a∧a.block<w.heap.size∧w.cell? (a.add i)=some (.int .i64 L[i])
theorem yj.below {w w1:World}{oa:Option Addr}{L:List Int}(h:yj w oa L)(hb:Below w.heap.size w w1):yj w1 oa L:=⟨fun i hi=>by
 obtain⟨a,h1,h2,h3⟩:=h.cells i hi;exact⟨a,h1,jV h2 hb.size,by rw [hb.cell (by rw [xy];exact h2)];exact h3⟩⟩
theorem yj.take {w:World}{oa:Option Addr}{L:List Int}(h:yj w oa L)(k:Nat):yj w oa (L.take k):=⟨fun i hi=>by
 have hi2:i<L.length:=by rw [jX]at hi;omega
 obtain⟨a,h1,h2,h3⟩:=h.cells i hi2;exact⟨a,h1,h2,by rw [h3];simp⟩⟩
theorem yj.drew {w:World}{oa:Option Addr}{L:List Int}(h:yj w oa L):yj w.drew oa L:=⟨h.cells⟩
theorem zz {w:World}{base:Nat}{e:TypeId}{v:Value}{n:Nat}{L:List Int}(h:w.ownsRow base e 1 v n (xU L)): ∃oa cap,v=.slice oa L.length cap∧L.length≤cap∧yj w oa L:=by
 have hl:L.length=n:=by have:=h.1;simp [xU]at this;omega
 rcases h.2 with⟨hv,h0⟩|⟨g,cap,cur,hv,hb,hg,hnc,_,hc,ht⟩
 ·have:L= []:=kY.1 (by omega);subst this;exact⟨none,0,hv,jO _,⟨fun i hi=>by simp at hi⟩⟩
 ·refine⟨some ⟨g,0,none⟩,cap,by rw [hl];exact hv,by rw [hl];exact hnc,⟨fun i hi=>⟨_,rfl,lt_of_heap hg,?_⟩⟩⟩;exact h.cells (g:=g) (by rw [hv];rfl) i (.int .i64 L[i]) (by simp [xU,hi])
def Xq(p:Bytes×Bytes):List Value:= [.string ⟨p.1.toArray⟩,.string ⟨p.2.toArray⟩]
def zh(F:List (Bytes×Bytes)):List Value:=F.flatMap Xq
theorem jdU(A B:List (Bytes×Bytes)):zh A++zh B=zh (A++B):=by simp [zh]
theorem jdN(F:List (Bytes×Bytes)):(zh F).length=F.length*2:=by
 unfold zh
 induction F with
 |nil=>rfl
 |cons p r ih=>rw [List.flatMap_cons,ja,ih,kR];simp [Xq];omega
theorem jcO(F:List (Bytes×Bytes)): ∀v∈zh F,v.oneCell'=true:=by
 intro v hv;unfold zh at hv;obtain⟨p,_,h⟩:=qs.1 hv;simp only [Xq,jg,jv,jx]at h;rcases h with rfl|rfl<;>rfl
theorem jiI(F:List (Bytes×Bytes)): ∀(i:Nat) (h:i<F.length) (j:Nat) (v:Value),(Xq F[i])[j]?=some v→(zh F)[i*2+j]?=some v:=by
 induction F with
 |nil=>intro i h;simp at h
 |
  cons p r ih=>
  intro i h j v hj;have hj2:j<2:=by have:=(xA.1 hj).1;simpa [Xq] using this
  unfold zh;rw [List.flatMap_cons];cases i with
  |
   zero=>
   rw [qJ (by simp [Xq];omega)];simpa using hj
  |
   succ i=>
   rw [ke (by simp [Xq];omega)];have e:(i+1)*2+j-(Xq p).length=i*2+j:=by simp [Xq];omega
   rw [e];exact ih i (by simpa using h) j v (by simpa using hj)
structure jgS(w:World)(oa:Option Addr)(F:List (Bytes×Bytes)):Prop where
 cells: ∀i (h:i<F.length),∃a,oa=some a∧a.block<w.heap.size∧ ∀j v,(Xq F[i])[j]?=some v→w.cell? ((a.add (i*2)).add j)=some v
theorem jgS.below {w w1:World}{oa:Option Addr}{F:List (Bytes×Bytes)}(h:jgS w oa F)(hb:Below w.heap.size w w1):jgS w1 oa F:=⟨fun i hi=>by
 obtain⟨a,h1,h2,h3⟩:=h.cells i hi;exact⟨a,h1,jV h2 hb.size,fun j v hj=>by rw [hb.cell (by rw [xy,xy];exact h2)];exact h3 j v hj⟩⟩
theorem jff {w:World}{base:Nat}{e:TypeId}{v:Value}{n:Nat}{F:List (Bytes×Bytes)}(h:w.ownsRow base e 2 v n (zh F)): ∃oa cap,v=.slice oa F.length cap∧F.length≤cap∧jgS w oa F:=by
 have hl:F.length=n:=by have:=h.1;rw [jdN]at this;omega
 rcases h.2 with⟨hv,h0⟩|⟨g,cap,cur,hv,hb,hg,hnc,_,hc,ht⟩
 ·have:F= []:=kY.1 (by omega);subst this;exact⟨none,0,hv,jO _,⟨fun i hi=>by simp at hi⟩⟩
 ·refine⟨some ⟨g,0,none⟩,cap,by rw [hl];exact hv,by rw [hl];exact hnc,⟨fun i hi=>⟨_,rfl,lt_of_heap hg,fun j v hj=>?_⟩⟩⟩;rw [Go.Deep.add_add];exact h.cells (g:=g) (by rw [hv];rfl) (i*2+j) v (jiI F i hi j v hj)
end AU
open AU
def GrT(b M:Nat)(w0:World):Type:={w':World // ∀k,k<M→k≠b→w'.heap[k]?=w0.heap[k]?}
instance {b M:Nat} {w0:World}:Nonempty (GrT b M w0):=⟨⟨w0,fun _ _ _=>rfl⟩⟩
def GrT.w {b M:Nat}{w0:World}(x:GrT b M w0):World:=x.1
theorem YG {b M:Nat}{w0 w':World}(hM:M=w0.heap.size)(h:w0.grownBy w' (some b)): ∃x:GrT b M w0,w'=x.w:=⟨⟨w',fun k hk hne=>h.block k (by rw [←hM];exact hk) (fun he=>hne (by injection he))⟩,rfl⟩
theorem zG {w:World}{g:Nat}{news:List Value}{t:TypeId}(h:w.heap[g]?=some (.cells news.toArray t (0,0))): ∀j u,news[j]?=some u→w.cell? ((⟨g,0,none⟩:Addr).add j)=some u:=fun j u hj=>by
 rw [qZ];exact Vl h j u hj
theorem xR {b:Nat}{w w1:World}(h:xp b w w1):w.grownBy w1 (some b):=⟨h.os,h.tape,h.output,by rw [h.size];exact jO _,fun k _ hk=>h.block k (fun he=>hk (by rw [he]))⟩
theorem zg {b:Nat}{w w1:World}(h:Below w.heap.size w w1):w.grownBy w1 (some b):=⟨h.os,h.tape,h.output,h.size,fun k hk _=>h.block k hk⟩
theorem jci(oa:Option Addr)(L:List Int)(cap:Nat)(x:Int)(w:World)(h:yj w oa L)(hl:L.length<9223372036854775808):
 Calls Tryz.prog 38 #[.slice oa L.length cap,.int .i64 x] w fun e w'=>e=.returned (.bool (decide (x∈L)))∧w=w':=by
 have H:=jA h;clear h;go_enter Tryz.func38,Tryz.ntmps38;go_upto_region 2 with(fail)
 go_loop [9] (fun i=> ∃k:Nat,k≤L.length∧i=.int .i64 k∧x∉L.take k) (fun i=>L.length-(intOf i).toNat)
 case atStart=>exact⟨0,by omega,rfl,by simp⟩
 case round=>
 obtain⟨k,hk,rfl,hpre⟩:=hrel;have HP:=jA hpre;clear hpre;by_cases hlt:k<L.length
 ·have dk:decide ((k:Int)<(L.length:Int))=true:=jQ (by omega);have dk2:decide (k<L.length)=true:=jQ hlt;have hki:(k:Int)<(L.length:Int):=by omega
  obtain⟨a,hoa,hab,hac⟩:=H.u.cells k hlt;have hyes:=jA (fun(hb:L[k]=x)=>(show decide (x∈L)=true from jQ (hb▸jj hlt)))
  have hno:=jA (fun(hb: ¬L[k]=x)=>(show x∉L.take (k+1)by
   rw [jk hlt,jh,jo];rintro(h|h);·exact HP.u h
   ·exact hb h.symm))
  subst hoa;generalize L[k]=y at*;by_cases he:y=x
  ·have h2:=jA (hyes.u he);have d1:(y==x)=true:=by rw [beq_iff_eq];exact he
   clear he hyes hno;go_wp2_with fail;go_ret;exact⟨by rw [h2.u];rfl,rfl⟩
  ·have h2:=jA (hno.u he);have d1:(y==x)=false:=by rw [kE];exact he
   clear he hyes hno;go_wp2_with fail
   go_round
   case rel=>exact⟨k+1,by omega,by go_num,h2.u⟩
   case measure=>simp [intOf];omega
 ·have dk:decide ((k:Int)<(L.length:Int))=false:=jS (by omega);have dk2:decide (k<L.length)=false:=jS hlt;obtain rfl:k=L.length:=by omega
  rw [kG]at HP;have h2:=jA (show decide (x∈L)=false from jS HP.u);go_wp2_with fail;go_ret;exact⟨by rw [h2.u];rfl,rfl⟩
theorem ZJ(oa ob:Option Addr)(L:List Int)(ca cb:Nat)(w:World)(ha:yj w oa L)(hb:yj w ob L)(hl:L.length<9223372036854775808):
 Calls Tryz.prog 19 #[.slice oa L.length ca,.slice ob L.length cb] w fun e w'=>e=.returned (.bool true)∧Below w.heap.size w w':=by
 have HA:=jA ha;have HBB:=jA hb;clear ha hb;go_enter Tryz.func19,Tryz.ntmps19;go_upto_region 4 with(fail);go_loopw [13] (fun i wr=> ∃k:Nat,k≤L.length∧i=.int .i64 k∧Below w.heap.size w wr) (fun i _=>L.length-(intOf i).toNat);case atStart=>exact⟨0,by omega,rfl,jN _ _⟩
 case round=>
 obtain⟨k,hk,rfl,bel⟩:=hrel;by_cases hlt:k<L.length
 ·have dk:decide ((k:Int)<(L.length:Int))=true:=jQ (by omega);have dk2:decide (k<L.length)=true:=jQ hlt;have hki:(k:Int)<(L.length:Int):=by omega
  obtain⟨a,hoa,hab,hac⟩:=(HA.u.below bel).cells k hlt;obtain⟨b,hob,hbb,hbc⟩:=(HBB.u.below bel).cells k hlt;subst hoa;subst hob;have BL:=jA bel;clear bel;generalize L[k]=x at*;go_upto_region 6 with(fail);refine Seg.xL (fun w'=> ∃m,w'=wr.drewN m) [] [0,1,2,3,4,5,6,7] 8 (by kernel_rfl) (by kernel_rfl) (fun _ _ d _ _ h=>by cases d<;>exact h) (⟨1,rfl⟩) ?_;simp only [jK,Seg.opAt,Seg.xW];repeat (any_goals (first|go_big_quiet_step (fail)|quiet_step (fail)))
  refine jP ?_;go_wp2_with fail;go_roundw;case rel=>exact⟨k+1,by omega,by go_num,BL.u.drew⟩
  case measure=>simp [intOf];omega
 ·have dk:decide ((k:Int)<(L.length:Int))=false:=jS (by omega);have dk2:decide (k<L.length)=false:=jS hlt;go_wp2_with fail;go_ret;exact⟨rfl,bel⟩
end Go.Proofs.YtnohcdpnnhmpfaaGreatDoor
namespace Go.Proofs.YtnohcdpnnhmpfaaGreatDoor
open FM
namespace CT
theorem YY(x:List UInt8):Op.bytesLess x x=false:=by
 induction x with
 |nil=>rfl
 |cons a r ih=>simp [Op.bytesLess,ih]
theorem jby: ∀(x y z:List UInt8),Op.bytesLess x y=true→Op.bytesLess y z=true→Op.bytesLess x z=true
 |_,_,[],_,h=>by cases ‹List UInt8› <;>simp [Op.bytesLess]at h
 |_,[],_::_,h,_=>by cases ‹List UInt8› <;>simp [Op.bytesLess]at h
 | [],_::_,_::_,_,_=>rfl
 |
  a::x,b::y,c::z,h1,h2=>by
  simp only [Op.bytesLess,qS,kK,jy,beq_iff_eq]at h1 h2 ⊢;rcases h1 with h1|⟨rfl,h1⟩
  ·rcases h2 with h2|⟨rfl,h2⟩;·exact .inl (UInt8.lt_trans h1 h2)
   ·exact .inl h1
  ·rcases h2 with h2|⟨rfl,h2⟩;·exact .inl h2
   ·exact .inr ⟨rfl,jby x y z h1 h2⟩
theorem jgP: ∀(x y:List UInt8),Op.bytesLess x y=false→Op.bytesLess y x=false→x=y
 | [],[],_,_=>rfl
 | [],_::_,h,_=>by simp [Op.bytesLess]at h
 |_::_,[],_,h=>by simp [Op.bytesLess]at h
 |
  a::x,b::y,h1,h2=>by
  simp only [Op.bytesLess,Bool.or_eq_false_iff,decide_eq_false_iff_not,Bool.and_eq_false_iff,kE]at h1 h2;have hab:a=b:=UInt8.le_antisymm (UInt8.not_lt.1 h2.1) (UInt8.not_lt.1 h1.1);subst hab;rw [jgP x y (h1.2.resolve_left (fun h=>h rfl)) (h2.2.resolve_left (fun h=>h rfl))]
theorem jfy(x y:List UInt8)(h:Op.bytesLess x y=true):Op.bytesLess y x=false:=by
 cases hb:Op.bytesLess y x with
 |false=>rfl
 |true=>have:=jby x y x h hb;rw [YY]at this;cases this
def jec(x y:List UInt8):Int:=if Op.bytesLess x y=true then -1 else if Op.bytesLess y x=true then 1 else 0
theorem jmn(x y:List UInt8):(!(Op.bytesLess x y||x==y))=Op.bytesLess y x:=by
 cases h1:Op.bytesLess x y with
 |true=>simp [jfy x y h1]
 |
  false=>
  cases h2:Op.bytesLess y x with
  |
   true=>
   have:x≠y:=by rintro rfl;rw [YY]at h2;cases h2
   simp [this]
  |false=>simp [jgP x y h1 h2]
theorem jfu(x y:List UInt8):decide (jec x y<0)=Op.bytesLess x y:=by
 unfold jec;cases h1:Op.bytesLess x y with
 |true=>simp
 |false=>cases h2:Op.bytesLess y x<;>simp
theorem jge {α:Type}{le:α→α→Prop}(tr: ∀a b c,le a b→le b c→le a c)(A C:List α)(x:α)(h:(A++C).Pairwise le)(hc: ∀y∈C,le x y)(ha: ∀A' z,A=A'++ [z]→le z x):(A++x::C).Pairwise le:=by
 obtain⟨h1,h2,h3⟩:=vZ.1 h;refine vZ.2 ⟨h1,List.pairwise_cons.2 ⟨hc,h2⟩,fun a hA b hb=>?_⟩;rcases jg.1 hb with rfl|hb
 ·rcases List.eq_nil_or_concat A with rfl|⟨A',z,rfl⟩;·cases hA
  ·rw [List.concat_eq_append]at hA h1;have hz:=ha A' z (by simp);rcases jh.1 hA with h|h;·exact tr _ _ _ ((vZ.1 h1).2.2 a h z (by simp)) hz
   ·obtain rfl:a=z:=by simpa using h
    exact hz
 ·exact h3 a hA b hb
theorem jbW {α:Type}(A:List α)(y x:α)(R:List α):((A++y::x::R).set (A.length+1) y).set A.length x=A++x::y::R:=by
 induction A with
 |nil=>rfl
 |cons a A ih=>simp only [vU,kR,List.set_cons_succ,ih]
def VS(n:Nat):List Int:=(List.range n).map fun k:Nat=>(k:Int)
theorem Jv(n:Nat):(VS n).length=n:=by simp [VS]
theorem Zo(n:Nat):VS (n+1)=VS n++ [(n:Int)]:=by simp [VS,qi]
theorem ZS(n:Nat)(x:Int):x∈VS n↔0≤x∧x<n:=by
 simp only [VS,jl,jf];constructor;·rintro⟨k,hk,rfl⟩;omega
 ·rintro⟨h1,h2⟩;exact⟨x.toNat,by omega,by omega⟩
def ltL(lot:Int→List UInt8)(a b:Int):Prop:=Op.bytesLess (lot a) (lot b)=true∨lot a=lot b∧a<b
theorem Zl(lot:Int→List UInt8)(a b c:Int)(h1:ltL lot a b)(h2:ltL lot b c):ltL lot a c:=by
 rcases h1 with h1|⟨e1,h1⟩<;>rcases h2 with h2|⟨e2,h2⟩;·exact .inl (jby _ _ _ h1 h2)
 ·exact .inl (e2▸h1)
 ·exact .inl (e1.symm▸h2)
 ·exact .inr ⟨e1.trans e2,by omega⟩
theorem Zm(lot:Int→List UInt8)(a b:Int)(h1:ltL lot a b)(h2:ltL lot b a):False:=by
 rcases h1 with h1|⟨e1,h1⟩<;>rcases h2 with h2|⟨e2,h2⟩;·rw [jfy _ _ h1]at h2;cases h2
 ·rw [e2,YY]at h1;cases h1
 ·rw [e1,YY]at h2;cases h2
 ·omega
theorem jcD(lot:Int→List UInt8)(a b:Int)(hne:a≠b)(h: ¬ltL lot a b):ltL lot b a:=by
 unfold ltL at*;cases h1:Op.bytesLess (lot a) (lot b)with
 |true=>exact absurd (.inl h1) h
 |
  false=>
  cases h2:Op.bytesLess (lot b) (lot a)with
  |true=>exact .inl rfl
  |
   false=>
   have e:=jgP _ _ h1 h2
   exact .inr ⟨e.symm,by
    have: ¬a<b:=fun hl=>h (.inr ⟨e,hl⟩);omega⟩
def jbA(lot:Int→List UInt8)(a b:Int):Bool:=Op.bytesLess (lot a) (lot b)||(lot a==lot b&&decide (a<b))
theorem jbz(lot:Int→List UInt8)(a b:Int):jbA lot a b=true↔ltL lot a b:=by
 simp [jbA,ltL,qS]
structure Ord(n:Nat)(lot:Int→List UInt8)(O:List Int):Prop where
 perm:O.Perm (VS n)
 srt:O.Pairwise (ltL lot)
theorem Ord.unique {n:Nat}{lot:Int→List UInt8}{O O':List Int}(h:Ord n lot O)(h':Ord n lot O'):O=O':=
 List.Perm.eq_of_pairwise (fun a b _ _ h1 h2=>(Zm lot a b h1 h2).elim) h.srt h'.srt (h.perm.trans h'.perm.symm)
theorem Ord.len {n:Nat}{lot:Int→List UInt8}{O:List Int}(h:Ord n lot O):O.length=n:=by rw [h.perm.length_eq,Jv]
theorem Ord.mem {n:Nat}{lot:Int→List UInt8}{O:List Int}(h:Ord n lot O){x:Int}:x∈O↔0≤x∧x<n:=by rw [h.perm.mem_iff,ZS]
theorem Ord.ins {n:Nat}{lot:Int→List UInt8}{A C:List Int}(h:Ord n lot (A++C))(ha: ∀a∈A,ltL lot a n)(hc: ∀c C',C=c::C'→ ¬ltL lot c n):Ord (n+1) lot (A++(n:Int)::C):=by
 constructor
 ·rw [Zo];refine(List.perm_middle).trans ?_;exact((List.Perm.cons _ h.perm).trans (List.perm_append_comm (l₁:= [(n:Int)]) (l₂:=VS n)))
 ·refine jge (Zl lot) A C _ h.srt (fun y hy=>?_) (fun A' z e=>ha z (by simp [e]));cases C with
  |nil=>cases hy
  |
   cons c C'=>
   have hcn:c≠(n:Int):=by
    have:=(h.mem (x:=c)).1 (by simp);omega
   have h1:=jcD lot c n hcn (hc c C' rfl);rcases jg.1 hy with rfl|hy;·exact h1
   ·exact Zl lot _ _ _ h1 ((List.pairwise_cons.1 (vZ.1 h.srt).2.1).1 y hy)
theorem jlj(n:Nat):(VS n).Pairwise (· < ·):=by
 induction n with
 |zero=>exact List.Pairwise.nil
 |
  succ n ih=>
  rw [Zo];refine vZ.2 ⟨ih,List.pairwise_singleton _ _,fun a ha b hb=>?_⟩;obtain rfl:b=(n:Int):=by simpa using hb
  exact((ZS n a).1 ha).2
theorem jkh(n:Nat)(lot:Int→List UInt8):(VS n).Pairwise fun y x=>(jec (lot x) (lot y)<0→ltL lot x y)∧(0≤jec (lot x) (lot y)→ltL lot y x):=by
 refine(jlj n).imp (fun {y x} h=>⟨fun hc=>?_,fun hc=>?_⟩)
 ·have:=jfu (lot x) (lot y);rw [jQ hc]at this;exact .inl this.symm
 ·refine jcD lot x y (by omega) ?_;rintro(h1|⟨h1,h2⟩)
  ·have:=jfu (lot x) (lot y);rw [h1,jS (by omega)]at this;cases this
  ·omega
structure YM(n:Nat)(O P:List Int)(k:Nat):Prop where
 len:P.length=n
 at_: ∀j (h:j<O.length),j<k→P[O[j].toNat]?=some (j:Int)
theorem YM.zero {n:Nat}{O P:List Int}(h:P.length=n):YM n O P 0:=⟨h,fun j _ h=>by omega⟩
theorem YM.succ {n k:Nat}{lot:Int→List UInt8}{O P:List Int}(h:YM n O P k)(ho:Ord n lot O)(hk:k<O.length):YM n O (P.set O[k].toNat (k:Int)) (k+1):=by
 refine⟨by simp [h.len],fun j hj hjk=>?_⟩;have hb:=ho.mem.1 (jj hk);by_cases e:j=k
 ·subst e;rw [List.getElem?_set_self (by rw [h.len];omega)]
 ·have hlt:j<k:=by omega
  have hne:O[j]≠O[k]:=fun he=>by
   have:=List.pairwise_iff_getElem.1 ho.srt j k hj hk hlt;rw [he]at this;exact Zm lot _ _ this this
  have hb2:=ho.mem.1 (jj hj);rw [vS (by omega)];exact h.at_ j hj hlt
theorem Ord.ins_at {n:Nat}{lot:Int→List UInt8}{O:List Int}(h:Ord n lot O)(m:Nat)(ha: ∀a∈O.take m,ltL lot a n)(hc: ∀c C',O.drop m=c::C'→ ¬ltL lot c n):Ord (n+1) lot (O.take m++(n:Int)::O.drop m):=
 Ord.ins (by rw [qf];exact h) ha hc
end CT
end Go.Proofs.YtnohcdpnnhmpfaaGreatDoor
namespace Go.Proofs.YtnohcdpnnhmpfaaGreatDoor
open Go.RowKit Tryz ML FM AU CT
@[go_sem] theorem binOp_string_gtr (t:TypeId) (x y:List UInt8):binOp .gtr t (.string ⟨x.toArray⟩) (.string ⟨y.toArray⟩)=pure (.bool (Op.bytesLess y x)):=by
 rw [←jmn];simp [binOp,Op.stringOp]
theorem jjY(x:Bytes)(w:World):Calls prog 115 #[.string ⟨x.toArray⟩] w fun e w'=>e=.returned (.bool false)∧w=w':=by
 have h:(x !=x)=false:=bne_self_eq_false x;go_enter Tryz.func115,Tryz.ntmps115;go_wp2_with fail;go_ret;exact⟨rfl,rfl⟩
theorem jkz(x y:Bytes)(w:World):Calls prog 68 #[.string ⟨x.toArray⟩,.string ⟨y.toArray⟩] w fun e w'=>e=.returned (.int .i64 (jec x y))∧w=w':=by
 have Q:=jA (fun x w=>jjY x w);have HC:=jA (show jec x y=if Op.bytesLess x y=true then -1 else if Op.bytesLess y x=true then 1 else 0 from rfl);cases h1:Op.bytesLess x y with
 |
  true=>
  rw [h1]at HC;go_enter Tryz.func68,Tryz.ntmps68;go_wp2_with (go_at_call 115;refine(Q.u _ _).mono ?_;rintro e w1 ⟨rfl,rfl⟩);go_ret;exact⟨by rw [HC.u];rfl,rfl⟩
 |
  false=>
  cases h2:Op.bytesLess y x with
  |
   true=>
   rw [h1,h2]at HC;go_enter Tryz.func68,Tryz.ntmps68;go_wp2_with (go_at_call 115;refine(Q.u _ _).mono ?_;rintro e w1 ⟨rfl,rfl⟩);go_ret;exact⟨by rw [HC.u];rfl,rfl⟩
  |
   false=>
   rw [h1,h2]at HC;go_enter Tryz.func68,Tryz.ntmps68;go_wp2_with (go_at_call 115;refine(Q.u _ _).mono ?_;rintro e w1 ⟨rfl,rfl⟩);go_ret;exact⟨by rw [HC.u];rfl,rfl⟩
def Jd(x y:Int):Int:=if x<y then -1 else if y<x then 1 else 0
def negB(L:List Int):Bool:=L.any fun x=>decide (x<0)
structure Least(L:List Int)(m:Int):Prop where
 mem:m∈L
 le: ∀x∈L,m≤x
def Kept(X:Nat)(w w':World):Prop:=w.grownBy w' (some X)
theorem Kept.refl(X:Nat)(w:World):Kept X w w:=zg (jN _ _)
theorem Kept.drew {X:Nat}{w w':World}(h:Kept X w w'):Kept X w w'.drew:=⟨h.os,h.tape,h.output,h.size,h.block⟩
theorem Kept.below {X:Nat}{w w1 w2:World}(h:Kept X w w1)(hb:Below w1.heap.size w1 w2):Kept X w w2:=
 ⟨hb.os.trans h.os,hb.tape.trans h.tape,hb.output.trans h.output,jU h.size hb.size,fun k hk hne=>(hb.block k (jV hk h.size)).trans (h.block k hk hne)⟩
theorem Kept.set {X:Nat}{w w1:World}(h:Kept X w w1)(o:Nat)(v:Value):Kept X w (w1.setCell ⟨X,o,none⟩ v):=by
 have hb:=(jN X w1).setCell (p:=⟨X,o,none⟩) (jO _) v;exact⟨hb.os.trans h.os,hb.tape.trans h.tape,hb.output.trans h.output,jU h.size hb.size,fun k hk hne=>(Below.heap_setCell w1 ⟨X,o,none⟩ v k (fun e=>hne (by rw [e]))).trans (h.block k hk hne)⟩
theorem Kept.bel {X B:Nat}{w w1:World}(h:Kept X w w1)(hB:B≤X)(hX:X<w.heap.size):Below B w w1:=(jN B w).grown h (by omega) (fun k hk=>by cases hk;exact hB)
theorem Xb {w:World}{base X cap n:Nat}{e:TypeId}{size:Nat}{xs:List Value}(h:w.ownsRow base e size (.slice (some ⟨X,0,none⟩) n cap) n xs):X<w.heap.size:=by
 rcases h.2 with⟨h,_⟩|⟨g,cap',cur,hv,_,hg,_⟩;·cases h
 ·have:X=g:=by simp at hv;exact hv.1
  subst this;exact lt_of_heap hg
theorem zy {w:World}{base n:Nat}{e:TypeId}{size:Nat}{v:Value}{xs:List Value}(h:w.ownsRow base e size v n xs):w.drew.ownsRow base e size v n xs:=h
structure Yk(le:Int→Int→Prop)(D S:List Int)(k:Nat):Prop where
 perm:S.Perm (D.take k)
 srt:S.Pairwise le
theorem jcJ(le:Int→Int→Prop)(D:List Int):Yk le D (D.take 1) 1:=⟨List.Perm.refl _,by cases D<;>simp⟩
theorem Yk.len {le:Int→Int→Prop}{D S:List Int}{k:Nat}(h:Yk le D S k)(hk:k≤D.length):S.length=k:=by rw [h.perm.length_eq,jX];omega
theorem Yk.next {le:Int→Int→Prop}{D S A C:List Int}{x:Int}{k:Nat}(h:Yk le D S k)(hk:k<D.length)(hAC:A++C=S)(hx:x=D[k])(hp:(A++x::C).Pairwise le):Yk le D (A++x::C) (k+1):=⟨by
 rw [jk hk,←hx];refine List.perm_middle.trans ?_;rw [hAC];exact(List.Perm.cons x h.perm).trans (List.perm_append_comm (l₁:= [x]) (l₂:=D.take k)),hp⟩
theorem Ye {r:Int→Int→Prop}{D:List Int}(h:D.Pairwise r)(k:Nat)(hk:k<D.length)(y:Int)(hy:y∈D.take k):r y D[k]:=by
 have h2:=h.sublist (List.take_sublist (k+1) D);rw [jk hk]at h2;exact(vZ.1 h2).2.2 y hy D[k] (by simp)
def Qy(le:Int→Int→Prop)(D:List Int)(X cap base:Nat)(T:TypeId)(w w':World):Prop:=
 ∃S,S.Perm D∧S.Pairwise le∧w'.ownsRow base T 1 (.slice (some ⟨X,0,none⟩) D.length cap) D.length (xU S)∧Kept X w w'
theorem jdR(c:Int→Int→Int)(le:Int→Int→Prop)(tr: ∀a b c,le a b→le b c→le a c)(D:List Int)(X cap base:Nat)(p:Nat)(w:World)
 (HC: ∀(x y:Int) (w':World),x∈D→y∈D→Kept X w w'→Calls prog 67 #[.int .i64 x,.int .i64 y,.pointer (some ⟨p,0,none⟩)] w' fun e w''=>e=.returned (.int .i64 (c x y))∧Below w'.heap.size w' w'')
 (hc:D.Pairwise fun y x=>(c x y<0→le x y)∧(0≤c x y→le y x)) (hl:D.length<4611686018427387904) (hD:w.ownsRow base 3 1 (.slice (some ⟨X,0,none⟩) D.length cap) D.length (xU D)):
 Calls prog 166 #[.slice (some ⟨X,0,none⟩) D.length cap,.int .i64 0,.int .i64 D.length,.func (.func 67) #[] #[.pointer (some ⟨p,0,none⟩)]] w fun e w'=>e=.returned (.tuple #[])∧Qy le D X cap base 3 w w':=by
 have TR:=jA tr;have QC:=jA HC;have PC:=jA hc;have RD:=jA hD;have hX:X<w.heap.size:=Xb hD;clear tr HC hc hD;go_enter Tryz.func166,Tryz.ntmps166;go_wp2_with fail;go_loopw [8] (fun i wr=> ∃(k:Nat) (S:List Int),1≤k∧(k≤D.length∨k=1)∧i=.int .i64 k∧Yk le D S k∧wr.ownsRow base 3 1 (.slice (some ⟨X,0,none⟩) D.length cap) D.length (xU (S++D.drop k))∧Kept X w wr) (fun i _=>D.length-(intOf i).toNat);case atStart=>exact⟨1,D.take 1,by omega,.inr rfl,rfl,jcJ le D,by rw [qf];exact RD.u,Kept.refl X w⟩
 case round=>
 clear RD;obtain⟨k,S,hk1,hk2,rfl,hS,hR,hK⟩:=hrel;have HS:=jA hS;have HR:=jA hR;have HK:=jA hK;clear hS hR hK;by_cases hlt:k<D.length
 ·have dk:decide ((k:Int)<(D.length:Int))=true:=jQ (by omega);have dk2:decide (k<D.length)=true:=jQ hlt;have hki:(k:Int)<(D.length:Int):=by omega
  obtain⟨x,hx⟩: ∃x,x=D[k]:=⟨_,rfl⟩;have hdr:D.drop k=x::D.drop (k+1):=by rw [hx,kh hlt]
  have hSl:=HS.u.len (by omega);have HXD:=jA (show x∈D by rw [hx];exact jj hlt)
  have HCS:=jA (show ∀y∈S,(c x y<0→le x y)∧(0≤c x y→le y x)from fun y hy=>by
   rw [hx];exact Ye PC.u k hlt y (HS.u.perm.mem_iff.1 hy))
  have HSD:=jA (show ∀y∈S,y∈D from fun y hy=>qU (HS.u.perm.mem_iff.1 hy));have HNX:=jA (show ∀A C,A++C=S→(A++x::C).Pairwise le→Yk le D (A++x::C) (k+1)from fun A C hAC hp=>HS.u.next hlt hAC (hx▸rfl) hp);have HRX:=jA (show wr.ownsRow base 3 1 (.slice (some ⟨X,0,none⟩) D.length cap) D.length (xU (S++x::D.drop (k+1)))by rw [←hdr];exact HR.u);clear HR hdr hx;have hLR:S.length+(1+(D.drop (k+1)).length)=D.length:=by rw [jq];omega
  obtain⟨R,hR⟩: ∃R,R=D.drop (k+1):=⟨_,rfl⟩;rw [←hR]at hLR HRX;have HRR:=jA hR;clear hR;generalize hsz:w.heap.size=W at*;clear hsz;go_wp2_with fail;go_loopw [9] (fun j wr=> ∃(A C:List Int),j=.int .i64 (A.length:Int)∧A++C=S∧(∀y∈C,le x y)∧wr.ownsRow base 3 1 (.slice (some ⟨X,0,none⟩) D.length cap) D.length (xU (A++x::(C++R)))∧Kept X w wr) (fun j _=>(intOf j).toNat);case atStart=>exact⟨S,[],by rw [hSl],by simp,by simp,by simpa using HRX.u,HK.u⟩
  case round=>
  clear HRX HK;obtain⟨A,C,rfl,hAC,hC,hR,hK⟩:=hrel;have HAC:=jA hAC;have HCC:=jA hC;have HR:=jA hR;have HK:=jA hK;have hAl:A.length≤S.length:=by rw [←hAC];simp
  clear hAC hC hR hK;have HPW:=jA (fun h=>jge TR.u A C x (HAC.u▸HS.u.srt) HCC.u h);rcases List.eq_nil_or_concat A with hA|⟨A',y,hA⟩
  ·subst hA;have d0:decide ((0:Int)<0)=false:=rfl;have HF:=jA (HNX.u [] C HAC.u (HPW.u (fun A' z h=>by simp at h)));go_wp2_with fail;refine Seg.xL (fun w'=> ∃m,w'=wr.drewN m) [] [0,1,2,3,4,5,6,7,8,9,10,11,12,13] 14 (by kernel_rfl) (by kernel_rfl) (fun _ _ d _ _ h=>by cases d<;>exact h) (⟨1,rfl⟩) ?_;simp only [jK,Seg.opAt,Seg.xW];repeat (any_goals (first|go_big_quiet_step (fail)|quiet_step (fail)))
   refine jP ?_;go_wp2_with fail;go_roundw;case rel=>exact⟨k+1,x::C,by omega,.inl (by omega),by go_num,HF.u,by rw [←HRR.u];exact zy HR.u,HK.u.drew⟩
   case measure=>simp [intOf];omega
  ·rw [List.concat_eq_append]at hA;obtain⟨jp,hjp⟩: ∃jp,jp=A'.length:=⟨_,rfl⟩;have hAl2:A.length=jp+1:=by rw [hA,hjp];simp
   have hc1:=HR.u.cellAt (jp+1) (by omega);have hc0:=HR.u.cellAt jp (by omega);have hf1:=HR.u.frozenAt (jp+1);have hf0:=HR.u.frozenAt jp;have e1:(xU (A++x::(C++R)))[jp+1]?=some (.int .i64 x):=by rw [←hAl2];simp [xU]
   have e0:(xU (A++x::(C++R)))[jp]?=some (.int .i64 y):=by rw [hA,hjp];simp [xU]
   rw [e1]at hc1;rw [e0]at hc0;clear e1 e0;have hyS:y∈S:=by rw [←HAC.u,hA];simp
   have QQ:=jA (fun w' (hk:Kept X w w')=>QC.u x y w' HXD.u (HSD.u y hyS) hk);have CS:=jA (HCS.u y hyS)
   have HLA:=jA (show ∀A2 z,A=A2++ [z]→0≤c x y→le z x from fun A2 z h h0=>by
    rw [hA]at h;have hz:=(List.append_inj' h rfl).2;simp at hz;subst hz;exact CS.u.2 h0)
   have HSW:=jA (show((xU (A++x::(C++R))).set (jp+1) (.int .i64 y)).set jp (.int .i64 x)=xU (A'++x::(y::C++R))by
    have:=jbW (xU A') (.int .i64 y) (.int .i64 x) (xU (C++R));rw [show(xU A').length=jp by simp [xU,hjp]]at this;rw [hA];simpa [xU] using this)
   have HAC2:=jA (show A'++y::C=S by rw [←HAC.u,hA];simp);have z1:decide ((0:Int)<(jp:Int)+1)=true:=jQ (by omega);have z2:(0:Int)<(jp:Int)+1:=by omega
   have z3:(jp:Int)+1<(D.length:Int):=by omega
   have z4:(jp:Int)<(D.length:Int):=by omega
   have z5:(A.length:Int)=(jp:Int)+1:=by omega
   rw [z5];clear z5;have HJ:=jA hjp;have HAA:=jA hA;obtain⟨iN,hiN⟩: ∃q,q=jp+1:=⟨_,rfl⟩;have ea:((jp:Int)+1).toNat=iN:=by omega
   rw [←hiN]at hc1 hf1 HSW;have HIN:=jA hiN;clear hjp hA hiN hyS;have HC1:=jA hc1;have HC0:=jA hc0;by_cases hneg:c x y<0
   ·have dn:decide (c x y<0)=true:=jQ hneg;have HLE:=jA (CS.u.1 hneg);clear CS HLA HNX HPW hneg;go_wp2_with fail;refine Seg.xL (fun w'=> ∃m,w'=wr.drewN m) [] [0,1,2,3,4,5,6,7,8,9,10,11,12,13] 14 (by kernel_rfl) (by kernel_rfl) (fun _ _ d _ _ h=>by cases d<;>exact h) (⟨1,rfl⟩) ?_;simp only [jK,Seg.opAt,Seg.xW];repeat (any_goals (first|go_big_quiet_step (fail)|quiet_step (fail)))
    refine jP ?_;go_wp2_with (go_at_call 67;refine(QQ.u _ HK.u.drew).mono ?_;rintro e w2 ⟨rfl,b2⟩;have B2:=jA b2;clear b2);have hXr:X<wr.drew.heap.size:=by have:=Xb HR.u;exact this
    have K2:=jA (HK.u.drew.below B2.u);have R2:=jA (xk (zy HR.u) B2.u);clear hc1 hc0 hf1 hf0;have hc1:=(B2.u.cell (p:=⟨X,iN,none⟩) hXr).trans HC1.u;have hc0:=(B2.u.cell (p:=⟨X,jp,none⟩) hXr).trans HC0.u;have hf1:=R2.u.frozenAt iN;have hf0:=R2.u.frozenAt jp;have hiN:=HIN.u;obtain⟨u,hcu⟩: ∃u,(w2.setCell ⟨X,iN,none⟩ (.int .i64 y)).cell? ⟨X,jp,none⟩=some u:=⟨_,(World.cell?_setCell_other _ _ _ _ (by intro e';simp only [Addr.mk.injEq]at e';omega)).trans hc0⟩;have HR3:=jA (zy ((R2.u.stored iN (.int .i64 y)).1.stored jp (.int .i64 x)).1);have K3:=jA (((K2.u.set iN (.int .i64 y)).set jp (.int .i64 x)).drew);clear B2 K2 R2 HR HK HC1 HC0 hXr hiN QQ;rw [HSW.u]at HR3;clear HSW
    go_big_region
    clear hc1 hc0 hf1 hf0 hcu ea;generalize ((w2.setCell ⟨X,iN,none⟩ (.int .i64 y)).setCell ⟨X,jp,none⟩ (.int .i64 x)).drew=w3 at*;go_wp2_with fail;go_roundw;case rel=>exact⟨A',y::C,by rw [←HJ.u],HAC2.u,fun v hv=>(jg.1 hv).elim (fun h=>h▸HLE.u) (HCC.u v),HR3.u,K3.u⟩
    case measure=>simp [intOf]
   ·have dn:decide (c x y<0)=false:=jS hneg;have HF:=jA (HNX.u A C HAC.u (HPW.u (fun A2 z h=>HLA.u A2 z h (by omega))));clear CS HLA HNX HPW hneg;go_wp2_with fail;refine Seg.xL (fun w'=> ∃m,w'=wr.drewN m) [] [0,1,2,3,4,5,6,7,8,9,10,11,12,13] 14 (by kernel_rfl) (by kernel_rfl) (fun _ _ d _ _ h=>by cases d<;>exact h) (⟨1,rfl⟩) ?_;simp only [jK,Seg.opAt,Seg.xW];repeat (any_goals (first|go_big_quiet_step (fail)|quiet_step (fail)))
    refine jP ?_;go_wp2_with (go_at_call 67;refine(QQ.u _ HK.u.drew).mono ?_;rintro e w2 ⟨rfl,b2⟩;have B2:=jA b2;clear b2);have K2:=jA (HK.u.drew.below B2.u);have R2:=jA (xk (zy HR.u) B2.u);clear hc1 hc0 hf1 hf0;go_roundw;case rel=>exact⟨k+1,A++x::C,by omega,.inl (by omega),by go_num,HF.u,by rw [←HRR.u,kS];exact R2.u,K2.u⟩
    case measure=>simp [intOf];omega
 ·have dk:decide ((k:Int)<(D.length:Int))=false:=jS (by omega);have dk2:decide (k<D.length)=false:=jS hlt;have HDT:=jA (show D.take k=D from jc (by omega));have HDD:=jA (show D.drop k= []from ve (by omega));go_wp2_with fail
  go_end0
  exact⟨rfl,S,by have:=HS.u.perm;rwa [HDT.u]at this,HS.u.srt,by have:=HR.u;rwa [HDD.u,qD]at this,HK.u⟩
structure ZB(B:Nat)(w w1:World)(X Z:Array Value)(T U:TypeId):Prop where
 bel:Below B w w1
 x:w1.heap[B]?=some (.cells X T (0,0))
 z:w1.heap[B+1]?=some (.cells Z U (0,0))
theorem ZB.mk'(w:World)(X Z:Array Value)(T U:TypeId):ZB w.heap.size w ((w.alloc (.cells X T)).alloc (.cells Z U)) X Z T U:=by
 have b1:=(jN w.heap.size w).alloc (jO _) (.cells X T);exact⟨b1.alloc (by simp) _,xx (xN rfl),xN (by simp)⟩
theorem ZB.keep {B:Nat}{w w1 w2:World}{X Z:Array Value}{T U:TypeId}(h:ZB B w w1 X Z T U)(hB:B≤w1.heap.size)(hb:Below w1.heap.size w1 w2):ZB B w w2 X Z T U:=
 ⟨h.bel.trans (hb.mono hB),xK hb (lt_of_heap h.x) h.x,xK hb (lt_of_heap h.z) h.z⟩
def Qb(v v':Value):Prop:=v.ownBlock=none∨v.ownBlock≠v'.ownBlock
theorem Qb.symm {v v':Value}(h:Qb v v'):Qb v' v:=by
 rcases h with h|h
 ·cases h2:v'.ownBlock with
  |none=>exact .inl h2
  |some k=>right;rw [h,h2];simp
 ·exact .inr h.symm
theorem Jy {w:World}{b b':Nat}{e e':TypeId}{s s' n n':Nat}{v v':Value}{xs xs':List Value}(h:w.ownsRow b e s v n xs)(h':w.ownsRow b' e' s' v' n' xs')(hne:e≠e'):Qb v v':=by
 rcases h'.2 with⟨rfl,_⟩|⟨g,cap,cur,rfl,_,hg,_⟩
 ·cases hv:v.ownBlock with
  |none=>exact .inl hv
  |some k=>exact .inr (by rw [hv];simp [Value.ownBlock])
 ·exact .inr (by simpa [Value.ownBlock] using zE h hg hne)
theorem jab {w:World}{b:Nat}{e:TypeId}{s n:Nat}{v v0 v1:Value}{xs:List Value}{g:Nat}(hv1:v1.ownBlock=some g)(h:w.ownsRow b e s v n xs)(ha:Qb v0 v)(hf:v0.ownBlock=some g∨g=w.heap.size):Qb v1 v:=by
 right;rcases hf with hf|hf
 ·rw [hv1,←hf];rcases ha with h0|h0;·rw [h0]at hf;cases hf
  ·exact h0
 ·rw [hv1,hf];intro he;have:=(h.lt _ he.symm).2;omega
theorem Ka {w:World}{base:Nat}{e:TypeId}{oa:Option Addr}{m cap n:Nat}{L:List Int}(h:w.ownsRow base e 1 (.slice oa m cap) n (xU L)):yj w oa L:=by
 obtain⟨oa',cap',hv,_,hi⟩:=zz h;injection hv with h1 h2 h3;rw [h1];exact hi
theorem KL:(prog.info? 3).map (fun i=>(i.zero,i.size,i.bytes))=some (some (.int .i64 0),1,8):=by kernel_rfl
theorem yj.nil {w:World}:yj w none []:=⟨fun i hi=>by simp at hi⟩
theorem xV {P:Program}{ops:Array Oper}{rest:List Oper}{o:Oper}{a:Act}{S:World→Prop}{K:Act→Prop}(hw:Region.wanted o (yielded ops a.tmps)=true)(ty:TypeId)(y:Operand)(ho:o.op=.load ty y)(p:Addr)(cs:List Value)(d:TypeDesc)
 (hx:a.eval y=.pointer (some p)) (hb: ∀w',S w'→ ∀j v,cs[j]?=some v→w'.cell? (p.add j)=some v) (hu:P.underlying ty=some d) (hd:d.isRow=true)
 (hi:(P.info? ty).map (·.size)=some cs.length) (h:wpQuiet P ops S K rest (a.put o.dst (.agg cs.toArray))):
 wpQuiet P ops S K (o::rest) a:=by
 unfold wpQuiet;rw [jR hw];refine⟨.agg cs.toArray,fun w' hw'=>?_,h⟩;have hl:(loadCells p cs.length).run P w'=.ok cs.toArray w':=run_loadCells_list (P:=P) w' p cs (hb w' hw');cases hq:P.info? ty with
 |none=>simp [hq]at hi
 |
  some i=>
  have hs:i.size=cs.length:=by simpa [hq] using hi
  have hagg:(isAgg ty).run P w'=.ok true w':=by
   unfold isAgg;rw [kJ,vK hu w'];cases d<;>simp_all
  have hr:(loadVar ty p).run P w'=.ok (.agg cs.toArray) w':=by simp [loadVar,kJ,hagg,sizeOf,typeInfo,hq,hs,hl]
  unfold Oper.quietAt execOp;simp only [ho,hx,Instr.loadAt,Instr.sureAddr,kJ,qo,qF,hr];exact⟨rfl,rfl⟩
theorem jaO {w:World}{g off:Nat}{cs:Array Value}{t:TypeId}{fr:Nat×Nat}(h:w.heap[g]?=some (.cells cs t fr))(news:List Value)(hn: ∀j u,news[j]?=some u→cs[off+j]?=some u): ∀j u,news[j]?=some u→w.cell? ((⟨g,off,none⟩:Addr).add j)=some u:=fun j u hj=>by
 rw [qZ,jM w g (off+j) _ _ _ h];exact hn j u hj
theorem zq {w:World}{base base':Nat}{e:TypeId}{s:Nat}{v:Value}{n:Nat}{xs:List Value}(h:w.ownsRow base e s v n xs)(hb:base'≤base):w.ownsRow base' e s v n xs:=⟨h.1,by
 rcases h.2 with h0|⟨g,cap,cur,hv,hg,rest⟩;·exact .inl h0
 ·exact .inr ⟨g,cap,cur,hv,jU hb hg,rest⟩⟩
theorem JF {P:Program}{ops:Array Oper}{rest:List Oper}{op:Oper}{a:Act}{w:World}{Q:Exit→Act→World→Prop}(hgd:op.guard=none)(ty:TypeId)(x:Operand)(ho:op.op=.load ty x)
 (p:Addr) (hx:a.eval x=.pointer (some p)) (cs:List Value) (d:TypeDesc) (hc: ∀j v,cs[j]?=some v→w.cell? (p.add j)=some v)
 (hu:P.underlying ty=some d) (hd:d.isRow=true) (hi:(P.info? ty).map (·.size)=some cs.length)
 (h:wpList P ops Q rest (a.put op.dst (.agg cs.toArray)) w):wpList P ops Q (op::rest) a w:=by
 refine wpList_plain hgd fun K hK=>?_;have hl:(loadCells p cs.length).run P w=.ok cs.toArray w:=run_loadCells_list (P:=P) w p cs hc;cases hq:P.info? ty with
 |none=>simp [hq]at hi
 |
  some i=>
  have hs:i.size=cs.length:=by simpa [hq] using hi
  have hagg:(isAgg ty).run P w=.ok true w:=by
   unfold isAgg;rw [kJ,vK hu w];cases d<;>simp_all
  have hrun:(loadVar ty p).run P w=.ok (.agg cs.toArray) w:=by simp [loadVar,kJ,hagg,sizeOf,typeInfo,hq,hs,hl]
  unfold Oper.wp execOp;simp only [ho,hx,Instr.loadAt,Instr.sureAddr,kJ,qo,qF,hrun];exact hK _ _ h
end Go.Proofs.YtnohcdpnnhmpfaaGreatDoor
