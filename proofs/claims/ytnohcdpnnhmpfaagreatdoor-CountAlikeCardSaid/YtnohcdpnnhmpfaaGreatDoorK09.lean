/-
  Chapter 13: lists of ints in memory; the small callees. (Turned from AuM.)
  Chapter 13: plain laws: the order of bytes; a row sorted by insertion; the order of lots.
  Chapter 13: cmp.Compare of strings and of ints; the least of ints.
  Chapter 13: slices.insertionSortCmpFunc with two comparers. Printed by tools/gensort.py.
  Chapter 13: tools of earlier parts that name no function. (Picked out of AuT, AuB, AuM, AuU, AuJ, HBox.)
-/
import Derived.Test.YtnohcdpnnhmpfaaGreatDoorK04
import Derived.Test.YtnohcdpnnhmpfaaGreatDoorK08
import Derived.Deep.MidRow
import Derived.Deep.Fields
import Derived.Laws.OwnMore
import Derived.Deep.AppendLies
import Derived.Deep.RegionWith
import Derived.Deep.DeepCutAuto
import Derived.Test.YtnohcdpnnhmpfaaGreatDoorK01
import Derived.BigRegion
import Derived.Deep.CutBlock
set_option linter.unusedVariables false
set_option linter.unusedSimpArgs false
set_option maxRecDepth 100000
set_option maxHeartbeats 4000000
namespace Go.Proofs.YtnohcdpnnhmpfaaGreatDoor
open Go.RowKit ML FM
namespace AU
def ivals(L:List Int):List Value:=L.map fun v=>Value.int .i64 v
theorem ivals_append(A B:List Int):ivals A++ivals B=ivals (A++B):=by simp [ivals]
theorem ivals_one(L:List Int): ∀v∈ivals L,v.oneCell'=true:=by
 intro v hv;simp only [ivals,List.mem_map]at hv;obtain⟨x,_,rfl⟩:=hv;rfl
structure IsAt(w:World)(oa:Option Addr)(L:List Int):Prop where
 cells: ∀i (h:i<L.length),∃a,oa=some a∧a.block<w.heap.size∧w.cell? (a.add i)=some (.int .i64 L[i])
theorem IsAt.below {w w1:World}{oa:Option Addr}{L:List Int}(h:IsAt w oa L)(hb:Below w.heap.size w w1):IsAt w1 oa L:=⟨fun i hi=>by
 obtain⟨a,h1,h2,h3⟩:=h.cells i hi;exact⟨a,h1,Nat.lt_of_lt_of_le h2 hb.size,by rw [hb.cell (by rw [addr_block];exact h2)];exact h3⟩⟩
theorem IsAt.take {w:World}{oa:Option Addr}{L:List Int}(h:IsAt w oa L)(k:Nat):IsAt w oa (L.take k):=⟨fun i hi=>by
 have hi2:i<L.length:=by rw [List.length_take]at hi;omega
 obtain⟨a,h1,h2,h3⟩:=h.cells i hi2;exact⟨a,h1,h2,by rw [h3];simp⟩⟩
theorem IsAt.drew {w:World}{oa:Option Addr}{L:List Int}(h:IsAt w oa L):IsAt w.drew oa L:=⟨h.cells⟩
theorem isAt_own {w:World}{base:Nat}{e:TypeId}{v:Value}{n:Nat}{L:List Int}(h:w.ownsRow base e 1 v n (ivals L)): ∃oa cap,v=.slice oa L.length cap∧L.length≤cap∧IsAt w oa L:=by
 have hl:L.length=n:=by have:=h.1;simp [ivals]at this;omega
 rcases h.2 with⟨hv,h0⟩|⟨g,cap,cur,hv,hb,hg,hnc,_,hc,ht⟩
 ·have:L= []:=List.length_eq_zero_iff.1 (by omega);subst this;exact⟨none,0,hv,Nat.le_refl _,⟨fun i hi=>by simp at hi⟩⟩
 ·refine⟨some ⟨g,0,none⟩,cap,by rw [hl];exact hv,by rw [hl];exact hnc,⟨fun i hi=>⟨_,rfl,lt_of_heap hg,?_⟩⟩⟩;exact h.cells (g:=g) (by rw [hv];rfl) i (.int .i64 L[i]) (by simp [ivals,hi])
def fcell(p:Bytes×Bytes):List Value:= [.string ⟨p.1.toArray⟩,.string ⟨p.2.toArray⟩]
def fvals(F:List (Bytes×Bytes)):List Value:=F.flatMap fcell
theorem fvals_append(A B:List (Bytes×Bytes)):fvals A++fvals B=fvals (A++B):=by simp [fvals]
theorem length_fvals(F:List (Bytes×Bytes)):(fvals F).length=F.length*2:=by
 unfold fvals
 induction F with
 |nil=>rfl
 |cons p r ih=>rw [List.flatMap_cons,List.length_append,ih,List.length_cons];simp [fcell];omega
theorem fvals_one(F:List (Bytes×Bytes)): ∀v∈fvals F,v.oneCell'=true:=by
 intro v hv;unfold fvals at hv;obtain⟨p,_,h⟩:=List.mem_flatMap.1 hv;simp only [fcell,List.mem_cons,List.not_mem_nil,or_false]at h;rcases h with rfl|rfl<;>rfl
theorem fvals_get(F:List (Bytes×Bytes)): ∀(i:Nat) (h:i<F.length) (j:Nat) (v:Value),(fcell F[i])[j]?=some v→(fvals F)[i*2+j]?=some v:=by
 induction F with
 |nil=>intro i h;simp at h
 |
  cons p r ih=>
  intro i h j v hj;have hj2:j<2:=by have:=(List.getElem?_eq_some_iff.1 hj).1;simpa [fcell] using this
  unfold fvals;rw [List.flatMap_cons];cases i with
  |
   zero=>
   rw [List.getElem?_append_left (by simp [fcell];omega)];simpa using hj
  |
   succ i=>
   rw [List.getElem?_append_right (by simp [fcell];omega)];have e:(i+1)*2+j-(fcell p).length=i*2+j:=by simp [fcell];omega
   rw [e];exact ih i (by simpa using h) j v (by simpa using hj)
structure FsAt(w:World)(oa:Option Addr)(F:List (Bytes×Bytes)):Prop where
 cells: ∀i (h:i<F.length),∃a,oa=some a∧a.block<w.heap.size∧ ∀j v,(fcell F[i])[j]?=some v→w.cell? ((a.add (i*2)).add j)=some v
theorem fsAt_own {w:World}{base:Nat}{e:TypeId}{v:Value}{n:Nat}{F:List (Bytes×Bytes)}(h:w.ownsRow base e 2 v n (fvals F)): ∃oa cap,v=.slice oa F.length cap∧F.length≤cap∧FsAt w oa F:=by
 have hl:F.length=n:=by have:=h.1;rw [length_fvals]at this;omega
 rcases h.2 with⟨hv,h0⟩|⟨g,cap,cur,hv,hb,hg,hnc,_,hc,ht⟩
 ·have:F= []:=List.length_eq_zero_iff.1 (by omega);subst this;exact⟨none,0,hv,Nat.le_refl _,⟨fun i hi=>by simp at hi⟩⟩
 ·refine⟨some ⟨g,0,none⟩,cap,by rw [hl];exact hv,by rw [hl];exact hnc,⟨fun i hi=>⟨_,rfl,lt_of_heap hg,fun j v hj=>?_⟩⟩⟩;rw [Go.Deep.add_add];exact h.cells (g:=g) (by rw [hv];rfl) (i*2+j) v (fvals_get F i hi j v hj)
end AU
open AU
def GrT(b M:Nat)(w0:World):Type:={w':World // ∀k,k<M→k≠b→w'.heap[k]?=w0.heap[k]?}
instance {b M:Nat} {w0:World}:Nonempty (GrT b M w0):=⟨⟨w0,fun _ _ _=>rfl⟩⟩
def GrT.w {b M:Nat}{w0:World}(x:GrT b M w0):World:=x.1
theorem grT_of {b M:Nat}{w0 w':World}(hM:M=w0.heap.size)(h:w0.grownBy w' (some b)): ∃x:GrT b M w0,w'=x.w:=⟨⟨w',fun k hk hne=>h.block k (by rw [←hM];exact hk) (fun he=>hne (by injection he))⟩,rfl⟩
theorem news_blk {w:World}{g:Nat}{news:List Value}{t:TypeId}(h:w.heap[g]?=some (.cells news.toArray t (0,0))): ∀j u,news[j]?=some u→w.cell? ((⟨g,0,none⟩:Addr).add j)=some u:=fun j u hj=>by
 rw [Addr.add_mid];exact rangeAt_block h j u hj
theorem grown_only {b:Nat}{w w1:World}(h:Only b w w1):w.grownBy w1 (some b):=⟨h.os,h.tape,h.output,by rw [h.size];exact Nat.le_refl _,fun k _ hk=>h.block k (fun he=>hk (by rw [he]))⟩
theorem grown_below {b:Nat}{w w1:World}(h:Below w.heap.size w w1):w.grownBy w1 (some b):=⟨h.os,h.tape,h.output,h.size,fun k hk _=>h.block k hk⟩
end Go.Proofs.YtnohcdpnnhmpfaaGreatDoor
namespace Go.Proofs.YtnohcdpnnhmpfaaGreatDoor
open FM
namespace CT
theorem bl_irrefl(x:List UInt8):Op.bytesLess x x=false:=by
 induction x with
 |nil=>rfl
 |cons a r ih=>simp [Op.bytesLess,ih]
theorem bl_trans: ∀(x y z:List UInt8),Op.bytesLess x y=true→Op.bytesLess y z=true→Op.bytesLess x z=true
 |_,_,[],_,h=>by cases ‹List UInt8› <;>simp [Op.bytesLess]at h
 |_,[],_::_,h,_=>by cases ‹List UInt8› <;>simp [Op.bytesLess]at h
 | [],_::_,_::_,_,_=>rfl
 |
  a::x,b::y,c::z,h1,h2=>by
  simp only [Op.bytesLess,Bool.or_eq_true,decide_eq_true_eq,Bool.and_eq_true,beq_iff_eq]at h1 h2 ⊢;rcases h1 with h1|⟨rfl,h1⟩
  ·rcases h2 with h2|⟨rfl,h2⟩;·exact .inl (UInt8.lt_trans h1 h2)
   ·exact .inl h1
  ·rcases h2 with h2|⟨rfl,h2⟩;·exact .inl h2
   ·exact .inr ⟨rfl,bl_trans x y z h1 h2⟩
theorem bl_tri: ∀(x y:List UInt8),Op.bytesLess x y=false→Op.bytesLess y x=false→x=y
 | [],[],_,_=>rfl
 | [],_::_,h,_=>by simp [Op.bytesLess]at h
 |_::_,[],_,h=>by simp [Op.bytesLess]at h
 |
  a::x,b::y,h1,h2=>by
  simp only [Op.bytesLess,Bool.or_eq_false_iff,decide_eq_false_iff_not,Bool.and_eq_false_iff,beq_eq_false_iff_ne]at h1 h2;have hab:a=b:=UInt8.le_antisymm (UInt8.not_lt.1 h2.1) (UInt8.not_lt.1 h1.1);subst hab;rw [bl_tri x y (h1.2.resolve_left (fun h=>h rfl)) (h2.2.resolve_left (fun h=>h rfl))]
theorem bl_asymm(x y:List UInt8)(h:Op.bytesLess x y=true):Op.bytesLess y x=false:=by
 cases hb:Op.bytesLess y x with
 |false=>rfl
 |true=>have:=bl_trans x y x h hb;rw [bl_irrefl]at this;cases this
def cmpB(x y:List UInt8):Int:=if Op.bytesLess x y=true then -1 else if Op.bytesLess y x=true then 1 else 0
theorem bl_gt(x y:List UInt8):(!(Op.bytesLess x y||x==y))=Op.bytesLess y x:=by
 cases h1:Op.bytesLess x y with
 |true=>simp [bl_asymm x y h1]
 |
  false=>
  cases h2:Op.bytesLess y x with
  |
   true=>
   have:x≠y:=by rintro rfl;rw [bl_irrefl]at h2;cases h2
   simp [this]
  |false=>simp [bl_tri x y h1 h2]
theorem cmpB_neg(x y:List UInt8):decide (cmpB x y<0)=Op.bytesLess x y:=by
 unfold cmpB;cases h1:Op.bytesLess x y with
 |true=>simp
 |false=>cases h2:Op.bytesLess y x<;>simp
theorem pw_ins {α:Type}{le:α→α→Prop}(tr: ∀a b c,le a b→le b c→le a c)(A C:List α)(x:α)(h:(A++C).Pairwise le)(hc: ∀y∈C,le x y)(ha: ∀A' z,A=A'++ [z]→le z x):(A++x::C).Pairwise le:=by
 obtain⟨h1,h2,h3⟩:=List.pairwise_append.1 h;refine List.pairwise_append.2 ⟨h1,List.pairwise_cons.2 ⟨hc,h2⟩,fun a hA b hb=>?_⟩;rcases List.mem_cons.1 hb with rfl|hb
 ·rcases List.eq_nil_or_concat A with rfl|⟨A',z,rfl⟩;·cases hA
  ·rw [List.concat_eq_append]at hA h1;have hz:=ha A' z (by simp);rcases List.mem_append.1 hA with h|h;·exact tr _ _ _ ((List.pairwise_append.1 h1).2.2 a h z (by simp)) hz
   ·obtain rfl:a=z:=by simpa using h
    exact hz
 ·exact h3 a hA b hb
theorem swap_list {α:Type}(A:List α)(y x:α)(R:List α):((A++y::x::R).set (A.length+1) y).set A.length x=A++x::y::R:=by
 induction A with
 |nil=>rfl
 |cons a A ih=>simp only [List.cons_append,List.length_cons,List.set_cons_succ,ih]
def iota(n:Nat):List Int:=(List.range n).map fun k:Nat=>(k:Int)
theorem length_iota(n:Nat):(iota n).length=n:=by simp [iota]
theorem iota_snoc(n:Nat):iota (n+1)=iota n++ [(n:Int)]:=by simp [iota,List.range_succ]
theorem mem_iota(n:Nat)(x:Int):x∈iota n↔0≤x∧x<n:=by
 simp only [iota,List.mem_map,List.mem_range];constructor;·rintro⟨k,hk,rfl⟩;omega
 ·rintro⟨h1,h2⟩;exact⟨x.toNat,by omega,by omega⟩
def ltL(lot:Int→List UInt8)(a b:Int):Prop:=Op.bytesLess (lot a) (lot b)=true∨lot a=lot b∧a<b
theorem ltL_trans(lot:Int→List UInt8)(a b c:Int)(h1:ltL lot a b)(h2:ltL lot b c):ltL lot a c:=by
 rcases h1 with h1|⟨e1,h1⟩<;>rcases h2 with h2|⟨e2,h2⟩;·exact .inl (bl_trans _ _ _ h1 h2)
 ·exact .inl (e2▸h1)
 ·exact .inl (e1.symm▸h2)
 ·exact .inr ⟨e1.trans e2,by omega⟩
theorem ltL_asymm(lot:Int→List UInt8)(a b:Int)(h1:ltL lot a b)(h2:ltL lot b a):False:=by
 rcases h1 with h1|⟨e1,h1⟩<;>rcases h2 with h2|⟨e2,h2⟩;·rw [bl_asymm _ _ h1]at h2;cases h2
 ·rw [e2,bl_irrefl]at h1;cases h1
 ·rw [e1,bl_irrefl]at h2;cases h2
 ·omega
theorem ltL_total(lot:Int→List UInt8)(a b:Int)(hne:a≠b)(h: ¬ltL lot a b):ltL lot b a:=by
 unfold ltL at*;cases h1:Op.bytesLess (lot a) (lot b)with
 |true=>exact absurd (.inl h1) h
 |
  false=>
  cases h2:Op.bytesLess (lot b) (lot a)with
  |true=>exact .inl rfl
  |
   false=>
   have e:=bl_tri _ _ h1 h2
   exact .inr ⟨e.symm,by
    have: ¬a<b:=fun hl=>h (.inr ⟨e,hl⟩);omega⟩
def aheadB(lot:Int→List UInt8)(a b:Int):Bool:=Op.bytesLess (lot a) (lot b)||(lot a==lot b&&decide (a<b))
structure Ord(n:Nat)(lot:Int→List UInt8)(O:List Int):Prop where
 perm:O.Perm (iota n)
 srt:O.Pairwise (ltL lot)
theorem Ord.unique {n:Nat}{lot:Int→List UInt8}{O O':List Int}(h:Ord n lot O)(h':Ord n lot O'):O=O':=
 List.Perm.eq_of_pairwise (fun a b _ _ h1 h2=>(ltL_asymm lot a b h1 h2).elim) h.srt h'.srt (h.perm.trans h'.perm.symm)
theorem Ord.len {n:Nat}{lot:Int→List UInt8}{O:List Int}(h:Ord n lot O):O.length=n:=by rw [h.perm.length_eq,length_iota]
theorem Ord.mem {n:Nat}{lot:Int→List UInt8}{O:List Int}(h:Ord n lot O){x:Int}:x∈O↔0≤x∧x<n:=by rw [h.perm.mem_iff,mem_iota]
theorem iota_lt(n:Nat):(iota n).Pairwise (· < ·):=by
 induction n with
 |zero=>exact List.Pairwise.nil
 |
  succ n ih=>
  rw [iota_snoc];refine List.pairwise_append.2 ⟨ih,List.pairwise_singleton _ _,fun a ha b hb=>?_⟩;obtain rfl:b=(n:Int):=by simpa using hb
  exact((mem_iota n a).1 ha).2
theorem iota_cmp(n:Nat)(lot:Int→List UInt8):(iota n).Pairwise fun y x=>(cmpB (lot x) (lot y)<0→ltL lot x y)∧(0≤cmpB (lot x) (lot y)→ltL lot y x):=by
 refine(iota_lt n).imp (fun {y x} h=>⟨fun hc=>?_,fun hc=>?_⟩)
 ·have:=cmpB_neg (lot x) (lot y);rw [decide_eq_true hc]at this;exact .inl this.symm
 ·refine ltL_total lot x y (by omega) ?_;rintro(h1|⟨h1,h2⟩)
  ·have:=cmpB_neg (lot x) (lot y);rw [h1,decide_eq_false (by omega)]at this;cases this
  ·omega
structure PlaceK(n:Nat)(O P:List Int)(k:Nat):Prop where
 len:P.length=n
 at_: ∀j (h:j<O.length),j<k→P[O[j].toNat]?=some (j:Int)
theorem PlaceK.zero {n:Nat}{O P:List Int}(h:P.length=n):PlaceK n O P 0:=⟨h,fun j _ h=>by omega⟩
theorem PlaceK.succ {n k:Nat}{lot:Int→List UInt8}{O P:List Int}(h:PlaceK n O P k)(ho:Ord n lot O)(hk:k<O.length):PlaceK n O (P.set O[k].toNat (k:Int)) (k+1):=by
 refine⟨by simp [h.len],fun j hj hjk=>?_⟩;have hb:=ho.mem.1 (List.getElem_mem hk);by_cases e:j=k
 ·subst e;rw [List.getElem?_set_self (by rw [h.len];omega)]
 ·have hlt:j<k:=by omega
  have hne:O[j]≠O[k]:=fun he=>by
   have:=List.pairwise_iff_getElem.1 ho.srt j k hj hk hlt;rw [he]at this;exact ltL_asymm lot _ _ this this
  have hb2:=ho.mem.1 (List.getElem_mem hj);rw [List.getElem?_set_ne (by omega)];exact h.at_ j hj hlt
end CT
end Go.Proofs.YtnohcdpnnhmpfaaGreatDoor
namespace Go.Proofs.YtnohcdpnnhmpfaaGreatDoor
open Go.RowKit ML FM AU CT
@[go_sem] theorem binOp_string_gtr (t:TypeId) (x y:List UInt8):binOp .gtr t (.string ⟨x.toArray⟩) (.string ⟨y.toArray⟩)=pure (.bool (Op.bytesLess y x)):=by
 rw [←bl_gt];simp [binOp,Op.stringOp]
theorem nanS_any(x:Bytes)(w:World):Calls Tryz.prog 115 #[.string ⟨x.toArray⟩] w fun e w'=>e=.returned (.bool false)∧w=w':=by
 have h:(x !=x)=false:=bne_self_eq_false x;go_enter Tryz.func115,Tryz.ntmps115;go_wp2_with fail;go_ret;exact⟨rfl,rfl⟩
theorem nanI_any(x:Int)(w:World):Calls Tryz.prog 143 #[.int .i64 x] w fun e w'=>e=.returned (.bool false)∧w=w':=by
 have h:(x !=x)=false:=bne_self_eq_false x;go_enter Tryz.func143,Tryz.ntmps143;go_wp2_with fail;go_ret;exact⟨rfl,rfl⟩
theorem cmpS_any(x y:Bytes)(w:World):Calls Tryz.prog 68 #[.string ⟨x.toArray⟩,.string ⟨y.toArray⟩] w fun e w'=>e=.returned (.int .i64 (cmpB x y))∧w=w':=by
 have Q:=Lib.hid (fun x w=>nanS_any x w);have HC:=Lib.hid (show cmpB x y=if Op.bytesLess x y=true then -1 else if Op.bytesLess y x=true then 1 else 0 from rfl);cases h1:Op.bytesLess x y with
 |
  true=>
  rw [h1]at HC;go_enter Tryz.func68,Tryz.ntmps68;go_wp2_with (go_at_call 115;refine(Q.out _ _).mono ?_;rintro e w1 ⟨rfl,rfl⟩);go_ret;exact⟨by rw [HC.out];rfl,rfl⟩
 |
  false=>
  cases h2:Op.bytesLess y x with
  |
   true=>
   rw [h1,h2]at HC;go_enter Tryz.func68,Tryz.ntmps68;go_wp2_with (go_at_call 115;refine(Q.out _ _).mono ?_;rintro e w1 ⟨rfl,rfl⟩);go_ret;exact⟨by rw [HC.out];rfl,rfl⟩
  |
   false=>
   rw [h1,h2]at HC;go_enter Tryz.func68,Tryz.ntmps68;go_wp2_with (go_at_call 115;refine(Q.out _ _).mono ?_;rintro e w1 ⟨rfl,rfl⟩);go_ret;exact⟨by rw [HC.out];rfl,rfl⟩
def cmpI(x y:Int):Int:=if x<y then -1 else if y<x then 1 else 0
theorem cmpI_any(x y:Int)(w:World):Calls Tryz.prog 101 #[.int .i64 x,.int .i64 y] w fun e w'=>e=.returned (.int .i64 (cmpI x y))∧w=w':=by
 have Q:=Lib.hid (fun x w=>nanI_any x w);have HC:=Lib.hid (show cmpI x y=if x<y then -1 else if y<x then 1 else 0 from rfl);by_cases h1:x<y
 ·have d1:decide (x<y)=true:=decide_eq_true h1;have HD:=Lib.hid (HC.out.trans (if_pos h1));clear h1;go_enter Tryz.func101,Tryz.ntmps101;go_wp2_with (go_at_call 143;refine(Q.out _ _).mono ?_;rintro e w1 ⟨rfl,rfl⟩);go_ret;exact⟨by rw [HD.out];rfl,rfl⟩
 ·have d1:decide (x<y)=false:=decide_eq_false h1;by_cases h2:y<x
  ·have d2:decide (y<x)=true:=decide_eq_true h2;have HD:=Lib.hid (HC.out.trans ((if_neg h1).trans (if_pos h2)));clear h1 h2;go_enter Tryz.func101,Tryz.ntmps101;go_wp2_with (go_at_call 143;refine(Q.out _ _).mono ?_;rintro e w1 ⟨rfl,rfl⟩);go_ret;exact⟨by rw [HD.out];rfl,rfl⟩
  ·have d2:decide (y<x)=false:=decide_eq_false h2;have HD:=Lib.hid (HC.out.trans ((if_neg h1).trans (if_neg h2)));clear h1 h2;go_enter Tryz.func101,Tryz.ntmps101;go_wp2_with (go_at_call 143;refine(Q.out _ _).mono ?_;rintro e w1 ⟨rfl,rfl⟩);go_ret;exact⟨by rw [HD.out];rfl,rfl⟩
def negB(L:List Int):Bool:=L.any fun x=>decide (x<0)
structure Least(L:List Int)(m:Int):Prop where
 mem:m∈L
 le: ∀x∈L,m≤x
theorem Least.snoc {L:List Int}{m:Int}(h:Least L m)(x:Int):Least (L++ [x]) (if x<m then x else m):=by
 refine⟨?_,fun y hy=>?_⟩
 ·by_cases hx:x<m;·rw [if_pos hx];simp
  ·rw [if_neg hx];exact List.mem_append_left _ h.mem
 ·rcases List.mem_append.1 hy with h1|h1;·have:=h.le y h1;split<;>omega
  ·obtain rfl:y=x:=by simpa using h1
   split<;>omega
theorem Least.neg {L:List Int}{m:Int}(h:Least L m):decide (m<0)=negB L:=by
 unfold negB;rw [Bool.eq_iff_iff,decide_eq_true_eq,List.any_eq_true];constructor;·intro hm;exact⟨m,h.mem,by simpa using hm⟩
 ·rintro⟨x,hx,hl⟩;have:=h.le x hx;have hl:x<0:=by simpa using hl
  omega
theorem min_any(oa:Option Addr)(L:List Int)(cap:Nat)(w:World)(h:IsAt w oa L)(h0:0<L.length)(hl:L.length<9223372036854775807):
 Calls Tryz.prog 99 #[.slice oa L.length cap] w fun e w'=>(∃m,e=.returned (.int .i64 m)∧Least L m)∧w=w':=by
 obtain⟨a,rfl,hab,hac⟩:=h.cells 0 h0;have H:=Lib.hid h;have d0:decide ((L.length:Int)<1)=false:=decide_eq_false (by omega);have d1:decide (L.length<1)=false:=decide_eq_false (by omega);have hz:(0:Int)<(L.length:Int):=by omega
 have hac2:w.cell? a=some (.int .i64 L[0]):=by have:=hac;rwa [show a.add 0=a from by simp [Addr.add]]at this
 clear h;have HS:=Lib.hid (show Least (L.take 1) L[0]from⟨by rw [List.take_succ_eq_append_getElem h0];simp,fun x hx=>by rw [List.take_succ_eq_append_getElem h0]at hx;simp at hx;omega⟩);generalize L[0]=x0 at*;go_enter Tryz.func99,Tryz.ntmps99;go_wp2_with fail;clear hac hac2 d0 d1 hz
 go_loop [3,4] (fun v i=> ∃(k:Nat) (m:Int),1≤k∧k≤L.length∧i=.int .i64 k∧v=.int .i64 m∧Least (L.take k) m) (fun _ i=>L.length-(intOf i).toNat)
 case atStart=>exact⟨1,x0,by omega,by omega,rfl,rfl,HS.out⟩
 case round=>
 obtain⟨k,m,hk1,hk,rfl,rfl,hm⟩:=hrel;have HM:=Lib.hid hm;clear hm;by_cases hlt:k<L.length
 ·have dk:decide ((k:Int)<(L.length:Int))=true:=decide_eq_true (by omega);have dk2:decide (k<L.length)=true:=decide_eq_true hlt;have hki:(k:Int)<(L.length:Int):=by omega
  obtain⟨b,hoa,hab2,hac2⟩:=H.out.cells k hlt;obtain rfl:a=b:=by injection hoa
  have HN:=Lib.hid (show Least (L.take (k+1)) (if L[k]<m then L[k]else m)by rw [List.take_succ_eq_append_getElem hlt];exact HM.out.snoc _);generalize L[k]=y at*;go_wp2_with fail
  go_round
  case rel=>exact⟨k+1,if y<m then y else m,by omega,by omega,by go_num,rfl,HN.out⟩
  case measure=>simp [intOf];omega
 ·have dk:decide ((k:Int)<(L.length:Int))=false:=decide_eq_false (by omega);have dk2:decide (k<L.length)=false:=decide_eq_false hlt;obtain rfl:k=L.length:=by omega
  rw [List.take_length]at HM;go_wp2_with fail;go_ret;exact⟨⟨m,rfl,HM.out⟩,rfl⟩
def Kept(X:Nat)(w w':World):Prop:=w.grownBy w' (some X)
theorem Kept.refl(X:Nat)(w:World):Kept X w w:=grown_below (Below.refl _ _)
theorem Kept.drew {X:Nat}{w w':World}(h:Kept X w w'):Kept X w w'.drew:=⟨h.os,h.tape,h.output,h.size,h.block⟩
theorem Kept.below {X:Nat}{w w1 w2:World}(h:Kept X w w1)(hb:Below w1.heap.size w1 w2):Kept X w w2:=
 ⟨hb.os.trans h.os,hb.tape.trans h.tape,hb.output.trans h.output,Nat.le_trans h.size hb.size,fun k hk hne=>(hb.block k (Nat.lt_of_lt_of_le hk h.size)).trans (h.block k hk hne)⟩
theorem Kept.set {X:Nat}{w w1:World}(h:Kept X w w1)(o:Nat)(v:Value):Kept X w (w1.setCell ⟨X,o,none⟩ v):=by
 have hb:=(Below.refl X w1).setCell (p:=⟨X,o,none⟩) (Nat.le_refl _) v;exact⟨hb.os.trans h.os,hb.tape.trans h.tape,hb.output.trans h.output,Nat.le_trans h.size hb.size,fun k hk hne=>(Below.heap_setCell w1 ⟨X,o,none⟩ v k (fun e=>hne (by rw [e]))).trans (h.block k hk hne)⟩
theorem Kept.bel {X B:Nat}{w w1:World}(h:Kept X w w1)(hB:B≤X)(hX:X<w.heap.size):Below B w w1:=(Below.refl B w).grown h (by omega) (fun k hk=>by cases hk;exact hB)
theorem ownsRow_lt {w:World}{base X cap n:Nat}{e:TypeId}{size:Nat}{xs:List Value}(h:w.ownsRow base e size (.slice (some ⟨X,0,none⟩) n cap) n xs):X<w.heap.size:=by
 rcases h.2 with⟨h,_⟩|⟨g,cap',cur,hv,_,hg,_⟩;·cases h
 ·have:X=g:=by simp at hv;exact hv.1
  subst this;exact lt_of_heap hg
theorem ownsRow_drew {w:World}{base n:Nat}{e:TypeId}{size:Nat}{v:Value}{xs:List Value}(h:w.ownsRow base e size v n xs):w.drew.ownsRow base e size v n xs:=h
structure InsAt(le:Int→Int→Prop)(D S:List Int)(k:Nat):Prop where
 perm:S.Perm (D.take k)
 srt:S.Pairwise le
theorem insAt_one(le:Int→Int→Prop)(D:List Int):InsAt le D (D.take 1) 1:=⟨List.Perm.refl _,by cases D<;>simp⟩
theorem InsAt.len {le:Int→Int→Prop}{D S:List Int}{k:Nat}(h:InsAt le D S k)(hk:k≤D.length):S.length=k:=by rw [h.perm.length_eq,List.length_take];omega
theorem InsAt.next {le:Int→Int→Prop}{D S A C:List Int}{x:Int}{k:Nat}(h:InsAt le D S k)(hk:k<D.length)(hAC:A++C=S)(hx:x=D[k])(hp:(A++x::C).Pairwise le):InsAt le D (A++x::C) (k+1):=⟨by
 rw [List.take_succ_eq_append_getElem hk,←hx];refine List.perm_middle.trans ?_;rw [hAC];exact(List.Perm.cons x h.perm).trans (List.perm_append_comm (l₁:= [x]) (l₂:=D.take k)),hp⟩
theorem pairwise_take {r:Int→Int→Prop}{D:List Int}(h:D.Pairwise r)(k:Nat)(hk:k<D.length)(y:Int)(hy:y∈D.take k):r y D[k]:=by
 have h2:=h.sublist (List.take_sublist (k+1) D);rw [List.take_succ_eq_append_getElem hk]at h2;exact(List.pairwise_append.1 h2).2.2 y hy D[k] (by simp)
def SortedRow(le:Int→Int→Prop)(D:List Int)(X cap base:Nat)(T:TypeId)(w w':World):Prop:=
 ∃S,S.Perm D∧S.Pairwise le∧w'.ownsRow base T 1 (.slice (some ⟨X,0,none⟩) D.length cap) D.length (ivals S)∧Kept X w w'
theorem insSortD_any(c:Int→Int→Int)(le:Int→Int→Prop)(tr: ∀a b c,le a b→le b c→le a c)(D:List Int)(X cap base:Nat)(p:Nat)(w:World)
 (HC: ∀(x y:Int) (w':World),x∈D→y∈D→Kept X w w'→Calls Tryz.prog 67 #[.int .i64 x,.int .i64 y,.pointer (some ⟨p,0,none⟩)] w' fun e w''=>e=.returned (.int .i64 (c x y))∧Below w'.heap.size w' w'')
 (hc:D.Pairwise fun y x=>(c x y<0→le x y)∧(0≤c x y→le y x)) (hl:D.length<4611686018427387904) (hD:w.ownsRow base 3 1 (.slice (some ⟨X,0,none⟩) D.length cap) D.length (ivals D)):
 Calls Tryz.prog 166 #[.slice (some ⟨X,0,none⟩) D.length cap,.int .i64 0,.int .i64 D.length,.func (.func 67) #[] #[.pointer (some ⟨p,0,none⟩)]] w fun e w'=>e=.returned (.tuple #[])∧SortedRow le D X cap base 3 w w':=by
 have TR:=Lib.hid tr;have QC:=Lib.hid HC;have PC:=Lib.hid hc;have RD:=Lib.hid hD;have hX:X<w.heap.size:=ownsRow_lt hD;clear tr HC hc hD;go_enter Tryz.func166,Tryz.ntmps166;go_wp2_with fail;go_loopw [8] (fun i wr=> ∃(k:Nat) (S:List Int),1≤k∧(k≤D.length∨k=1)∧i=.int .i64 k∧InsAt le D S k∧wr.ownsRow base 3 1 (.slice (some ⟨X,0,none⟩) D.length cap) D.length (ivals (S++D.drop k))∧Kept X w wr) (fun i _=>D.length-(intOf i).toNat);case atStart=>exact⟨1,D.take 1,by omega,.inr rfl,rfl,insAt_one le D,by rw [List.take_append_drop];exact RD.out,Kept.refl X w⟩
 case round=>
 clear RD;obtain⟨k,S,hk1,hk2,rfl,hS,hR,hK⟩:=hrel;have HS:=Lib.hid hS;have HR:=Lib.hid hR;have HK:=Lib.hid hK;clear hS hR hK;by_cases hlt:k<D.length
 ·have dk:decide ((k:Int)<(D.length:Int))=true:=decide_eq_true (by omega);have dk2:decide (k<D.length)=true:=decide_eq_true hlt;have hki:(k:Int)<(D.length:Int):=by omega
  obtain⟨x,hx⟩: ∃x,x=D[k]:=⟨_,rfl⟩;have hdr:D.drop k=x::D.drop (k+1):=by rw [hx,List.drop_eq_getElem_cons hlt]
  have hSl:=HS.out.len (by omega);have HXD:=Lib.hid (show x∈D by rw [hx];exact List.getElem_mem hlt)
  have HCS:=Lib.hid (show ∀y∈S,(c x y<0→le x y)∧(0≤c x y→le y x)from fun y hy=>by
   rw [hx];exact pairwise_take PC.out k hlt y (HS.out.perm.mem_iff.1 hy))
  have HSD:=Lib.hid (show ∀y∈S,y∈D from fun y hy=>List.mem_of_mem_take (HS.out.perm.mem_iff.1 hy));have HNX:=Lib.hid (show ∀A C,A++C=S→(A++x::C).Pairwise le→InsAt le D (A++x::C) (k+1)from fun A C hAC hp=>HS.out.next hlt hAC (hx▸rfl) hp);have HRX:=Lib.hid (show wr.ownsRow base 3 1 (.slice (some ⟨X,0,none⟩) D.length cap) D.length (ivals (S++x::D.drop (k+1)))by rw [←hdr];exact HR.out);clear HR hdr hx;have hLR:S.length+(1+(D.drop (k+1)).length)=D.length:=by rw [List.length_drop];omega
  obtain⟨R,hR⟩: ∃R,R=D.drop (k+1):=⟨_,rfl⟩;rw [←hR]at hLR HRX;have HRR:=Lib.hid hR;clear hR;generalize hsz:w.heap.size=W at*;clear hsz;go_wp2_with fail;go_loopw [9] (fun j wr=> ∃(A C:List Int),j=.int .i64 (A.length:Int)∧A++C=S∧(∀y∈C,le x y)∧wr.ownsRow base 3 1 (.slice (some ⟨X,0,none⟩) D.length cap) D.length (ivals (A++x::(C++R)))∧Kept X w wr) (fun j _=>(intOf j).toNat);case atStart=>exact⟨S,[],by rw [hSl],by simp,by simp,by simpa using HRX.out,HK.out⟩
  case round=>
  clear HRX HK;obtain⟨A,C,rfl,hAC,hC,hR,hK⟩:=hrel;have HAC:=Lib.hid hAC;have HCC:=Lib.hid hC;have HR:=Lib.hid hR;have HK:=Lib.hid hK;have hAl:A.length≤S.length:=by rw [←hAC];simp
  clear hAC hC hR hK;have HPW:=Lib.hid (fun h=>pw_ins TR.out A C x (HAC.out▸HS.out.srt) HCC.out h);rcases List.eq_nil_or_concat A with hA|⟨A',y,hA⟩
  ·subst hA;have d0:decide ((0:Int)<0)=false:=rfl;have HF:=Lib.hid (HNX.out [] C HAC.out (HPW.out (fun A' z h=>by simp at h)));go_wp2_with fail;refine Seg.wp_region_segs (fun w'=> ∃m,w'=wr.drewN m) [] [0,1,2,3,4,5,6,7,8,9,10,11,12,13] 14 (by kernel_rfl) (by kernel_rfl) (fun _ _ d _ _ h=>by cases d<;>exact h) (⟨1,rfl⟩) ?_;simp only [List.map_cons,List.map_nil,Seg.opAt,List.drop_succ_cons,List.drop_zero,Seg.wpSegs,Array.getD_eq_getD_getElem?,List.getElem?_toArray,List.getElem?_cons_succ,List.getElem?_cons_zero,Option.getD_some];repeat (any_goals (first|go_big_quiet_step (fail)|quiet_step (fail)))
   refine wpQuiet_nil ?_;go_wp2_with fail;go_roundw;case rel=>exact⟨k+1,x::C,by omega,.inl (by omega),by go_num,HF.out,by rw [←HRR.out];exact ownsRow_drew HR.out,HK.out.drew⟩
   case measure=>simp [intOf];omega
  ·rw [List.concat_eq_append]at hA;obtain⟨jp,hjp⟩: ∃jp,jp=A'.length:=⟨_,rfl⟩;have hAl2:A.length=jp+1:=by rw [hA,hjp];simp
   have hc1:=HR.out.cellAt (jp+1) (by omega);have hc0:=HR.out.cellAt jp (by omega);have hf1:=HR.out.frozenAt (jp+1);have hf0:=HR.out.frozenAt jp;have e1:(ivals (A++x::(C++R)))[jp+1]?=some (.int .i64 x):=by rw [←hAl2];simp [ivals]
   have e0:(ivals (A++x::(C++R)))[jp]?=some (.int .i64 y):=by rw [hA,hjp];simp [ivals]
   rw [e1]at hc1;rw [e0]at hc0;clear e1 e0;have hyS:y∈S:=by rw [←HAC.out,hA];simp
   have QQ:=Lib.hid (fun w' (hk:Kept X w w')=>QC.out x y w' HXD.out (HSD.out y hyS) hk);have CS:=Lib.hid (HCS.out y hyS)
   have HLA:=Lib.hid (show ∀A2 z,A=A2++ [z]→0≤c x y→le z x from fun A2 z h h0=>by
    rw [hA]at h;have hz:=(List.append_inj' h rfl).2;simp at hz;subst hz;exact CS.out.2 h0)
   have HSW:=Lib.hid (show((ivals (A++x::(C++R))).set (jp+1) (.int .i64 y)).set jp (.int .i64 x)=ivals (A'++x::(y::C++R))by
    have:=swap_list (ivals A') (.int .i64 y) (.int .i64 x) (ivals (C++R));rw [show(ivals A').length=jp by simp [ivals,hjp]]at this;rw [hA];simpa [ivals] using this)
   have HAC2:=Lib.hid (show A'++y::C=S by rw [←HAC.out,hA];simp);have z1:decide ((0:Int)<(jp:Int)+1)=true:=decide_eq_true (by omega);have z2:(0:Int)<(jp:Int)+1:=by omega
   have z3:(jp:Int)+1<(D.length:Int):=by omega
   have z4:(jp:Int)<(D.length:Int):=by omega
   have z5:(A.length:Int)=(jp:Int)+1:=by omega
   rw [z5];clear z5;have HJ:=Lib.hid hjp;have HAA:=Lib.hid hA;obtain⟨iN,hiN⟩: ∃q,q=jp+1:=⟨_,rfl⟩;have ea:((jp:Int)+1).toNat=iN:=by omega
   rw [←hiN]at hc1 hf1 HSW;have HIN:=Lib.hid hiN;clear hjp hA hiN hyS;have HC1:=Lib.hid hc1;have HC0:=Lib.hid hc0;by_cases hneg:c x y<0
   ·have dn:decide (c x y<0)=true:=decide_eq_true hneg;have HLE:=Lib.hid (CS.out.1 hneg);clear CS HLA HNX HPW hneg;go_wp2_with fail;refine Seg.wp_region_segs (fun w'=> ∃m,w'=wr.drewN m) [] [0,1,2,3,4,5,6,7,8,9,10,11,12,13] 14 (by kernel_rfl) (by kernel_rfl) (fun _ _ d _ _ h=>by cases d<;>exact h) (⟨1,rfl⟩) ?_;simp only [List.map_cons,List.map_nil,Seg.opAt,List.drop_succ_cons,List.drop_zero,Seg.wpSegs,Array.getD_eq_getD_getElem?,List.getElem?_toArray,List.getElem?_cons_succ,List.getElem?_cons_zero,Option.getD_some];repeat (any_goals (first|go_big_quiet_step (fail)|quiet_step (fail)))
    refine wpQuiet_nil ?_;go_wp2_with (go_at_call 67;refine(QQ.out _ HK.out.drew).mono ?_;rintro e w2 ⟨rfl,b2⟩;have B2:=Lib.hid b2;clear b2);have hXr:X<wr.drew.heap.size:=by have:=ownsRow_lt HR.out;exact this
    have K2:=Lib.hid (HK.out.drew.below B2.out);have R2:=Lib.hid (own_below (ownsRow_drew HR.out) B2.out);clear hc1 hc0 hf1 hf0;have hc1:=(B2.out.cell (p:=⟨X,iN,none⟩) hXr).trans HC1.out;have hc0:=(B2.out.cell (p:=⟨X,jp,none⟩) hXr).trans HC0.out;have hf1:=R2.out.frozenAt iN;have hf0:=R2.out.frozenAt jp;have hiN:=HIN.out;obtain⟨u,hcu⟩: ∃u,(w2.setCell ⟨X,iN,none⟩ (.int .i64 y)).cell? ⟨X,jp,none⟩=some u:=⟨_,(World.cell?_setCell_other _ _ _ _ (by intro e';simp only [Addr.mk.injEq]at e';omega)).trans hc0⟩;have HR3:=Lib.hid (ownsRow_drew ((R2.out.stored iN (.int .i64 y)).1.stored jp (.int .i64 x)).1);have K3:=Lib.hid (((K2.out.set iN (.int .i64 y)).set jp (.int .i64 x)).drew);clear B2 K2 R2 HR HK HC1 HC0 hXr hiN QQ;rw [HSW.out]at HR3;clear HSW
    go_big_region
    clear hc1 hc0 hf1 hf0 hcu ea;generalize ((w2.setCell ⟨X,iN,none⟩ (.int .i64 y)).setCell ⟨X,jp,none⟩ (.int .i64 x)).drew=w3 at*;go_wp2_with fail;go_roundw;case rel=>exact⟨A',y::C,by rw [←HJ.out],HAC2.out,fun v hv=>(List.mem_cons.1 hv).elim (fun h=>h▸HLE.out) (HCC.out v),HR3.out,K3.out⟩
    case measure=>simp [intOf]
   ·have dn:decide (c x y<0)=false:=decide_eq_false hneg;have HF:=Lib.hid (HNX.out A C HAC.out (HPW.out (fun A2 z h=>HLA.out A2 z h (by omega))));clear CS HLA HNX HPW hneg;go_wp2_with fail;refine Seg.wp_region_segs (fun w'=> ∃m,w'=wr.drewN m) [] [0,1,2,3,4,5,6,7,8,9,10,11,12,13] 14 (by kernel_rfl) (by kernel_rfl) (fun _ _ d _ _ h=>by cases d<;>exact h) (⟨1,rfl⟩) ?_;simp only [List.map_cons,List.map_nil,Seg.opAt,List.drop_succ_cons,List.drop_zero,Seg.wpSegs,Array.getD_eq_getD_getElem?,List.getElem?_toArray,List.getElem?_cons_succ,List.getElem?_cons_zero,Option.getD_some];repeat (any_goals (first|go_big_quiet_step (fail)|quiet_step (fail)))
    refine wpQuiet_nil ?_;go_wp2_with (go_at_call 67;refine(QQ.out _ HK.out.drew).mono ?_;rintro e w2 ⟨rfl,b2⟩;have B2:=Lib.hid b2;clear b2);have K2:=Lib.hid (HK.out.drew.below B2.out);have R2:=Lib.hid (own_below (ownsRow_drew HR.out) B2.out);clear hc1 hc0 hf1 hf0;go_roundw;case rel=>exact⟨k+1,A++x::C,by omega,.inl (by omega),by go_num,HF.out,by rw [←HRR.out,List.append_assoc];exact R2.out,K2.out⟩
    case measure=>simp [intOf];omega
 ·have dk:decide ((k:Int)<(D.length:Int))=false:=decide_eq_false (by omega);have dk2:decide (k<D.length)=false:=decide_eq_false hlt;have HDT:=Lib.hid (show D.take k=D from List.take_of_length_le (by omega));have HDD:=Lib.hid (show D.drop k= []from List.drop_eq_nil_of_le (by omega));go_wp2_with fail
  go_end0
  exact⟨rfl,S,by have:=HS.out.perm;rwa [HDT.out]at this,HS.out.srt,by have:=HR.out;rwa [HDD.out,List.append_nil]at this,HK.out⟩
structure BoxR(B:Nat)(w w1:World)(X Z:Array Value)(T U:TypeId):Prop where
 bel:Below B w w1
 x:w1.heap[B]?=some (.cells X T (0,0))
 z:w1.heap[B+1]?=some (.cells Z U (0,0))
theorem BoxR.mk'(w:World)(X Z:Array Value)(T U:TypeId):BoxR w.heap.size w ((w.alloc (.cells X T)).alloc (.cells Z U)) X Z T U:=by
 have b1:=(Below.refl w.heap.size w).alloc (Nat.le_refl _) (.cells X T);exact⟨b1.alloc (by simp) _,heap_lt (heap_at rfl),heap_at (by simp)⟩
theorem BoxR.keep {B:Nat}{w w1 w2:World}{X Z:Array Value}{T U:TypeId}(h:BoxR B w w1 X Z T U)(hB:B≤w1.heap.size)(hb:Below w1.heap.size w1 w2):BoxR B w w2 X Z T U:=
 ⟨h.bel.trans (hb.mono hB),bel_keep hb (lt_of_heap h.x) h.x,bel_keep hb (lt_of_heap h.z) h.z⟩
theorem wp_store_whole {P:Program}{o:Oper}{a:Act}{w:World}{K:Act→World→Prop}{Q:Exit→Act→World→Prop}(hdst:o.dst=none)(ty:TypeId)(x y:Operand)(ho:o.op=.store ty x y)(b:Nat)(cs new:Array Value)(t:TypeId)
 (hx:a.eval x=.pointer (some ⟨b,0,none⟩)) (hy:a.eval y=.agg new) (hb:w.heap[b]?=some (.cells cs t (0,0))) (hs:cs.size=new.size)
 (hi:(P.info? ty).map (·.size)=some new.size) (h1:new.all (·.oneCell')=true)
 (h: ∀w1,Only b w w1→w1.heap[b]?=some (.cells new t (0,0))→K a w1):o.wp P a w K Q:=
 wp_store_mid ty x y ho b 0 new hx hy
  (fun j hj=>by
   rw [Nat.zero_add,cell_of_row w b j cs t _ hb];exact⟨by simp [hs,hj],frozen_of_row w b j cs t hb⟩) hi h1 (by rw [hdst];exact h _ (setCells_only b _ _ _) (setCells_whole hb hs))
def Apart(v v':Value):Prop:=v.ownBlock=none∨v.ownBlock≠v'.ownBlock
theorem Apart.symm {v v':Value}(h:Apart v v'):Apart v' v:=by
 rcases h with h|h
 ·cases h2:v'.ownBlock with
  |none=>exact .inl h2
  |some k=>right;rw [h,h2];simp
 ·exact .inr h.symm
theorem apart_types {w:World}{b b':Nat}{e e':TypeId}{s s' n n':Nat}{v v':Value}{xs xs':List Value}(h:w.ownsRow b e s v n xs)(h':w.ownsRow b' e' s' v' n' xs')(hne:e≠e'):Apart v v':=by
 rcases h'.2 with⟨rfl,_⟩|⟨g,cap,cur,rfl,_,hg,_⟩
 ·cases hv:v.ownBlock with
  |none=>exact .inl hv
  |some k=>exact .inr (by rw [hv];simp [Value.ownBlock])
 ·exact .inr (by simpa [Value.ownBlock] using own_ne h hg hne)
theorem apart_new {w:World}{b:Nat}{e:TypeId}{s n:Nat}{v v0 v1:Value}{xs:List Value}{g:Nat}(hv1:v1.ownBlock=some g)(h:w.ownsRow b e s v n xs)(ha:Apart v0 v)(hf:v0.ownBlock=some g∨g=w.heap.size):Apart v1 v:=by
 right;rcases hf with hf|hf
 ·rw [hv1,←hf];rcases ha with h0|h0;·rw [h0]at hf;cases hf
  ·exact h0
 ·rw [hv1,hf];intro he;have:=(h.lt _ he.symm).2;omega
theorem isAt_own2 {w:World}{base:Nat}{e:TypeId}{oa:Option Addr}{m cap n:Nat}{L:List Int}(h:w.ownsRow base e 1 (.slice oa m cap) n (ivals L)):IsAt w oa L:=by
 obtain⟨oa',cap',hv,_,hi⟩:=isAt_own h;injection hv with h1 h2 h3;rw [h1];exact hi
theorem info_i64:(Tryz.prog.info? 3).map (fun i=>(i.zero,i.size,i.bytes))=some (some (.int .i64 0),1,8):=by kernel_rfl
theorem wpQuiet_load_at {P:Program}{ops:Array Oper}{rest:List Oper}{o:Oper}{a:Act}{S:World→Prop}{K:Act→Prop}(hw:Region.wanted o (yielded ops a.tmps)=true)(ty:TypeId)(y:Operand)(ho:o.op=.load ty y)(p:Addr)(cs:List Value)(d:TypeDesc)
 (hx:a.eval y=.pointer (some p)) (hb: ∀w',S w'→ ∀j v,cs[j]?=some v→w'.cell? (p.add j)=some v) (hu:P.underlying ty=some d) (hd:d.isRow=true)
 (hi:(P.info? ty).map (·.size)=some cs.length) (h:wpQuiet P ops S K rest (a.put o.dst (.agg cs.toArray))):
 wpQuiet P ops S K (o::rest) a:=by
 unfold wpQuiet;rw [if_pos hw];refine⟨.agg cs.toArray,fun w' hw'=>?_,h⟩;have hl:(loadCells p cs.length).run P w'=.ok cs.toArray w':=run_loadCells_list (P:=P) w' p cs (hb w' hw');cases hq:P.info? ty with
 |none=>simp [hq]at hi
 |
  some i=>
  have hs:i.size=cs.length:=by simpa [hq] using hi
  have hagg:(isAgg ty).run P w'=.ok true w':=by
   unfold isAgg;rw [Sem.run_bind,run_underlying hu w'];cases d<;>simp_all
  have hr:(loadVar ty p).run P w'=.ok (.agg cs.toArray) w':=by simp [loadVar,Sem.run_bind,hagg,sizeOf,typeInfo,hq,hs,hl]
  unfold Oper.quietAt execOp;simp only [ho,hx,Instr.loadAt,Instr.sureAddr,Sem.run_bind,Sem.run_pure,Result.andThen_ok,hr];exact⟨rfl,rfl⟩
theorem mid_blk {w:World}{g off:Nat}{cs:Array Value}{t:TypeId}{fr:Nat×Nat}(h:w.heap[g]?=some (.cells cs t fr))(news:List Value)(hn: ∀j u,news[j]?=some u→cs[off+j]?=some u): ∀j u,news[j]?=some u→w.cell? ((⟨g,off,none⟩:Addr).add j)=some u:=fun j u hj=>by
 rw [Addr.add_mid,cell_of_row w g (off+j) _ _ _ h];exact hn j u hj
theorem own_base {w:World}{base base':Nat}{e:TypeId}{s:Nat}{v:Value}{n:Nat}{xs:List Value}(h:w.ownsRow base e s v n xs)(hb:base'≤base):w.ownsRow base' e s v n xs:=⟨h.1,by
 rcases h.2 with h0|⟨g,cap,cur,hv,hg,rest⟩;·exact .inl h0
 ·exact .inr ⟨g,cap,cur,hv,Nat.le_trans hb hg,rest⟩⟩
theorem wpList_load_at {P:Program}{ops:Array Oper}{rest:List Oper}{op:Oper}{a:Act}{w:World}{Q:Exit→Act→World→Prop}(hgd:op.guard=none)(ty:TypeId)(x:Operand)(ho:op.op=.load ty x)
 (p:Addr) (hx:a.eval x=.pointer (some p)) (cs:List Value) (d:TypeDesc) (hc: ∀j v,cs[j]?=some v→w.cell? (p.add j)=some v)
 (hu:P.underlying ty=some d) (hd:d.isRow=true) (hi:(P.info? ty).map (·.size)=some cs.length)
 (h:wpList P ops Q rest (a.put op.dst (.agg cs.toArray)) w):wpList P ops Q (op::rest) a w:=by
 refine wpList_plain hgd fun K hK=>?_;have hl:(loadCells p cs.length).run P w=.ok cs.toArray w:=run_loadCells_list (P:=P) w p cs hc;cases hq:P.info? ty with
 |none=>simp [hq]at hi
 |
  some i=>
  have hs:i.size=cs.length:=by simpa [hq] using hi
  have hagg:(isAgg ty).run P w=.ok true w:=by
   unfold isAgg;rw [Sem.run_bind,run_underlying hu w];cases d<;>simp_all
  have hrun:(loadVar ty p).run P w=.ok (.agg cs.toArray) w:=by simp [loadVar,Sem.run_bind,hagg,sizeOf,typeInfo,hq,hs,hl]
  unfold Oper.wp execOp;simp only [ho,hx,Instr.loadAt,Instr.sureAddr,Sem.run_bind,Sem.run_pure,Result.andThen_ok,hrun];exact hK _ _ h
end Go.Proofs.YtnohcdpnnhmpfaaGreatDoor
