/-
  Chapter 13, Elect: totals of the ballots, and what Elect answers under each rule. No program in sight but the types.
  Chapter 13, CountAlike: names and order, the plain law of what a choice is, of the lots, of totals. No program in sight but the types.
-/
import Derived.Test.YtnohcdpnnhmpfaaGreatDoorK27
import Derived.Test.YtnohcdpnnhmpfaaGreatDoorK32
import Derived.Test.YtnohcdpnnhmpfaaGreatDoorK33
import Derived.Test.YtnohcdpnnhmpfaaGreatDoorK29
set_option linter.unusedVariables false
set_option linter.unusedSimpArgs false
namespace Go.Proofs.YtnohcdpnnhmpfaaGreatDoor.TR
open Go.RowKit ML FRP AU CT FM
def sm(x y:Int):Int:=wrap64 (x+y)
def addTo(T b:List Int)(i:Nat):List Int:=(List.range i).foldl (fun T j=>T.set j (sm (T.getD j 0) (b.getD j 0))) T
theorem addTo_succ(T b:List Int)(i:Nat):addTo T b (i+1)=(addTo T b i).set i (sm ((addTo T b i).getD i 0) (b.getD i 0)):=by
 unfold addTo;rw [List.range_succ,List.foldl_append];rfl
theorem addTo_len(T b:List Int)(i:Nat):(addTo T b i).length=T.length:=by
 induction i with
 |zero=>rfl
 |succ i ih=>rw [addTo_succ,List.length_set,ih]
def totL(n:Nat)(P:List (Value×List Int)):List Int:=P.foldl (fun T p=>addTo T p.2 n) (List.replicate n 0)
theorem totL_snoc(n:Nat)(P:List (Value×List Int))(p:Value×List Int):totL n (P++ [p])=addTo (totL n P) p.2 n:=by
 unfold totL;rw [List.foldl_append];rfl
theorem totL_len(n:Nat)(P:List (Value×List Int)):(totL n P).length=n:=by
 have key: ∀(P:List (Value×List Int)) (T:List Int),T.length=n→(P.foldl (fun T p=>addTo T p.2 n) T).length=n:=by
  intro P
  induction P with
  |nil=>intro T h;exact h
  |cons p P ih=>intro T h;exact ih _ (by rw [addTo_len];exact h)
 exact key P _ (List.length_replicate ..)
theorem elIvals_get(T:List Int)(j:Nat)(h:j<T.length):(ivals T)[j]?=some (.int .i64 (T.getD j 0)):=by
 simp [ivals,h]
theorem elRow_cell {w:World}{M:Nat}{T:List Int}{e:TypeId}(h:w.heap[M]?=some (.cells (ivals T).toArray e (0,0)))(j:Nat)(hj:j<T.length):w.cell? ⟨M,j,none⟩=some (.int .i64 (T.getD j 0)):=by
 rw [cell_of_row w M j _ _ _ h,List.getElem?_toArray,elIvals_get T j hj]
theorem elRow_set {w:World}{M:Nat}{T:List Int}{e:TypeId}(h:w.heap[M]?=some (.cells (ivals T).toArray e (0,0)))(j:Nat)(z:Int):(w.setCell ⟨M,j,none⟩ (.int .i64 z)).heap[M]?=some (.cells (ivals (T.set j z)).toArray e (0,0)):=by
 rw [heap_setCell_same w M j _ _ _ h];congr 2;unfold ivals;rw [List.map_set,List.setIfInBounds_toArray]
theorem elRow_isAt {w:World}{M:Nat}{T:List Int}{e:TypeId}(h:w.heap[M]?=some (.cells (ivals T).toArray e (0,0))):IsAt w (some ⟨M,0,none⟩) T:=⟨fun i hi=>⟨_,rfl,lt_of_heap h,by
 rw [Addr.add_mid,Nat.zero_add,elRow_cell h i hi];simp [hi]⟩⟩
theorem elMade_row(n:Nat):madeCells #[Value.int .i64 0] n=(ivals (totL n [])).toArray:=by
 rw [←Array.toList_inj,List.toList_toArray,toList_madeCells_one];show List.replicate n (Value.int .i64 0)=(List.replicate n 0).map _;rw [List.map_replicate]
def FirstTop(n:Nat)(W:Mx)(O:List Int)(i:Nat):Prop:=Top n W i∧ ∃k,k<O.length∧O.take (k+1)=O.take k++ [(i:Int)]∧ ∀x∈O.take k,¬Top n W x.toNat
theorem FirstTop.unique {n:Nat}{W W':Mx}{O:List Int}{i i':Nat}(hW: ∀a b,a<n→b<n→W a b=W' a b)(h:FirstTop n W O i)(h':FirstTop n W' O i'):i=i':=by
 have top: ∀a,Top n W a↔Top n W' a:=fun a=>by
  unfold Top;constructor
  ·rintro⟨h1,h2⟩;exact⟨h1,fun j hj=>by rw [←hW a j h1 hj,←hW j a hj h1];exact h2 j hj⟩
  ·rintro⟨h1,h2⟩;exact⟨h1,fun j hj=>by rw [hW a j h1 hj,hW j a hj h1];exact h2 j hj⟩
 obtain⟨t,k,hk,e,hb⟩:=h;obtain⟨t',k',hk',e',hb'⟩:=h';have mem: ∀{a b:Nat} {x:Nat},O.take (a+1)=O.take a++ [(x:Int)]→a+1≤b→(x:Int)∈O.take b:=by
  intro a b x he hab;have h1:(x:Int)∈O.take (a+1):=by rw [he];simp
  have h2:O.take (a+1)=(O.take b).take (a+1):=by rw [List.take_take,Nat.min_eq_left hab]
  rw [h2]at h1;exact List.mem_of_mem_take h1
 rcases Nat.lt_trichotomy k k' with hlt|rfl|hlt
 ·have h1:=hb' _ (mem e hlt);rw [Int.toNat_natCast]at h1;exact absurd ((top i).1 t) h1
 ·rw [e]at e';have h1:=List.append_cancel_left e';injection h1 with h1 _;exact Int.ofNat.inj h1
 ·have h1:=hb _ (mem e' hlt);rw [Int.toNat_natCast]at h1;exact absurd ((top i').2 t') h1
def okTo(W:Mx)(i j:Nat):Bool:=(List.range j).all fun a=>decide (W a i≤W i a)
def MostEnd(c:CTest)(lots:Bytes)(T:List Int)(w':World)(v:Value)(E:Int):Prop:=
 if mostE c T=0 then ∃S oS cS,Best c.op.length T (lotF c lots) S∧IsAt w' oS (S.take c.se.toNat)∧v=.slice oS (S.take c.se.toNat).length cS∧E=0
 else v=.slice none 0 0∧E=mostE c T
theorem MostGot.fin {c:CTest}{lots:Bytes}{T:List Int}{w w':World}{e:Ending}(h:MostGot c lots T w e w'): ∃v E,e=.returned (.tuple #[v,.int .i64 E])∧MostEnd c lots T w' v E∧Below w.heap.size w w':=by
 obtain⟨hb,h⟩:=h;by_cases h0:mostE c T=0
 ·rw [if_pos h0]at h;obtain⟨S,oS,cS,h1,h2,rfl⟩:=h;exact⟨_,_,rfl,by unfold MostEnd;rw [if_pos h0];exact⟨S,oS,cS,h1,h2,rfl,rfl⟩,hb⟩
 ·rw [if_neg h0]at h;exact⟨_,_,h,by unfold MostEnd;rw [if_neg h0];exact⟨rfl,rfl⟩,hb⟩
def kept(c:CTest)(P:List (Value×List Int)):List (Value×List Int):=P.filter (keepP (c.rule c.rl))
def ElEnd(c:CTest)(P:List (Value×List Int))(lots:Bytes)(w':World)(v:Value)(E:Int):Prop:=
 if c.rl=3 then ∃(O:List Int) (R:List Rd) (S:St) (oE:Option Addr) (cE:Nat),Ord c.op.length (lotF c lots) O∧
  Runs c.op.length (kept c P).length c.se.toNat (quotaF (kept c P).length c.se.toNat) (O.map Int.toNat) (S0 c.op.length (ranksOf (kept c P)) (kept c P).length) R S∧
  End (kept c P).length c.se.toNat (quotaF (kept c P).length c.se.toNat) (O.map Int.toNat) S∧v=.slice oE (nats S.el).length cE∧E=0∧IsAt w' oE (nats S.el)
 else if c.rl=4 then ∃(O:List Int) (W:Mx) (i:Nat) (oo:Option Addr) (co:Nat),Ord c.op.length (lotF c lots) O∧Strong (edge (pairM (kept c P))) c.op.length W∧FirstTop c.op.length W O i∧v=.slice oo 1 co∧E=0∧IsAt w' oo [(i:Int)]
 else MostEnd c lots (totL c.op.length (kept c P)) w' v E
def ElGot(c:CTest)(P:List (Value×List Int))(lots:Bytes)(w:World)(e:Ending)(w':World):Prop:=
 Below w.heap.size w w'∧ ∃v E,e=.returned (.tuple #[v,.int .i64 E])∧if prE c P=0 then ElEnd c P lots w' v E else v=.slice none 0 0∧E=prE c P
theorem ElGot.bad {c:CTest}{P:List (Value×List Int)}{lots:Bytes}{w w':World}{E:Int}(hE:prE c P=E)(h0:E≠0)(hb:Below w.heap.size w w'):ElGot c P lots w (.returned (.tuple #[.slice none 0 0,.int .i64 E])) w':=
 ⟨hb,_,_,rfl,by rw [hE,if_neg h0];exact⟨rfl,rfl⟩⟩
theorem ElGot.tr {c:CTest}{P:List (Value×List Int)}{lots:Bytes}{w w':World}(hE:prE c P=0)(h3:c.rl=3)(hb:Below w.heap.size w w'){O:List Int}{R:List Rd}{S:St}{oE:Option Addr}{n cE:Nat}(hO:Ord c.op.length (lotF c lots) O)
 (hR:Runs c.op.length (kept c P).length c.se.toNat (quotaF (kept c P).length c.se.toNat) (O.map Int.toNat) (S0 c.op.length (ranksOf (kept c P)) (kept c P).length) R S)
 (hD:End (kept c P).length c.se.toNat (quotaF (kept c P).length c.se.toNat) (O.map Int.toNat) S) (hn:n=(nats S.el).length) (hI:IsAt w' oE (nats S.el)):ElGot c P lots w (.returned (.tuple #[.slice oE n cE,.int .i64 0])) w':=
 ⟨hb,_,_,rfl,by rw [if_pos hE];unfold ElEnd;rw [if_pos h3];exact⟨O,R,S,oE,cE,hO,hR,hD,by rw [hn],rfl,hI⟩⟩
theorem ElGot.pr {c:CTest}{P:List (Value×List Int)}{lots:Bytes}{w w':World}(hE:prE c P=0)(h4:c.rl=4)(hb:Below w.heap.size w w'){O:List Int}{W:Mx}{i:Nat}{oo:Option Addr}{co:Nat}(hO:Ord c.op.length (lotF c lots) O)
 (hS:Strong (edge (pairM (kept c P))) c.op.length W) (hF:FirstTop c.op.length W O i) (hI:IsAt w' oo [(i:Int)]):ElGot c P lots w (.returned (.tuple #[.slice oo 1 co,.int .i64 0])) w':=
 ⟨hb,_,_,rfl,by rw [if_pos hE];unfold ElEnd;rw [if_neg (by omega),if_pos h4];exact⟨O,W,i,oo,co,hO,hS,hF,rfl,rfl,hI⟩⟩
theorem ElGot.ms {c:CTest}{P:List (Value×List Int)}{lots:Bytes}{w w':World}(hE:prE c P=0)(h3:c.rl≠3)(h4:c.rl≠4)(hb:Below w.heap.size w w'){v:Value}{E:Int}(h:MostEnd c lots (totL c.op.length (kept c P)) w' v E):ElGot c P lots w (.returned (.tuple #[v,.int .i64 E])) w':=
 ⟨hb,_,_,rfl,by rw [if_pos hE];unfold ElEnd;rw [if_neg h3,if_neg h4];exact h⟩
theorem firstTop_of {n i k:Nat}{W:Mx}{O:List Int}(hO: ∀x∈O,0≤x∧x<n)(ht:Top n W i)(hk:k<O.length)(he:O.take (k+1)=O.take k++ [(i:Int)])(hb: ∀x∈O.take k,O.any (above W x.toNat)=true):FirstTop n W O i:=
 ⟨ht,k,hk,he,fun x hx h=>by have:=hb x hx;rw [above_top hO h]at this;cases this⟩
theorem okL_iff(c:CTest): ∀(b A:List Int),okL c A b=true↔(∀x∈b,0≤x∧x≤topI c)∧(ranksB c.rl=true→(b.filter fun x=>decide (0<x)).Nodup∧ ∀x∈b,0<x→x∉A)
 | [],A=>by simp [okL]
 |
  x::b,A=>by
  show(okX c A x&&okL c (A++ [x]) b)=true↔_;rw [Bool.and_eq_true,okL_iff c b (A++ [x])];unfold okX;rw [Bool.and_eq_true,decide_eq_true_eq,Bool.not_eq_true',←Bool.not_eq_true,Bool.and_eq_true,Bool.and_eq_true,decide_eq_true_eq,decide_eq_true_eq];constructor
  ·rintro⟨⟨h1,h2⟩,h3,h4⟩;refine⟨fun y hy=>?_,fun hr=>?_⟩
   ·rcases List.mem_cons.1 hy with rfl|hy;·exact h1
    ·exact h3 y hy
   ·obtain⟨h5,h6⟩:=h4 hr;refine⟨?_,fun y hy hp=>?_⟩
    ·rw [List.filter_cons];by_cases hx:0<x
     ·rw [if_pos (decide_eq_true hx),List.nodup_cons]
      exact⟨fun hm=>by
       obtain⟨hm1,hm2⟩:=List.mem_filter.1 hm;exact h6 x hm1 hx (by simp),h5⟩
     ·rw [if_neg (by simpa using hx)];exact h5
    ·rcases List.mem_cons.1 hy with rfl|hy;·exact fun hA=>h2 ⟨⟨hr,hp⟩,hA⟩
     ·exact fun hA=>h6 y hy hp (by simp [hA])
  ·rintro⟨h1,h2⟩;refine⟨⟨h1 x (by simp),?_⟩,fun y hy=>h1 y (by simp [hy]),fun hr=>?_⟩
   ·rintro⟨⟨hr,hp⟩,hA⟩;exact(h2 hr).2 x (by simp) hp hA
   ·obtain⟨h3,h4⟩:=h2 hr;rw [List.filter_cons]at h3;by_cases hx:0<x
    ·rw [if_pos (decide_eq_true hx),List.nodup_cons]at h3;refine⟨h3.2,fun y hy hp hm=>?_⟩;rcases List.mem_append.1 hm with hm|hm;·exact h4 y (by simp [hy]) hp hm
     ·rw [List.mem_singleton.1 hm]at hy;exact h3.1 (List.mem_filter.2 ⟨hy,decide_eq_true hx⟩)
    ·rw [if_neg (by simpa using hx)]at h3;refine⟨h3,fun y hy hp hm=>?_⟩;rcases List.mem_append.1 hm with hm|hm;·exact h4 y (by simp [hy]) hp hm
     ·rw [List.mem_singleton.1 hm]at hp;exact hx hp
theorem posN_perm {b b':List Int}(h:b.Perm b'):posN b=posN b':=(h.filter _).length_eq
theorem fitsB_perm {c d:CTest}(h1:c.rl=d.rl)(h2:c.mo=d.mo)(h3:c.op.length=d.op.length){b b':List Int}(h:b.Perm b'):fitsB c b=fitsB d b':=by
 have ht:topI c=topI d:=by unfold topI;rw [h1,h3]
 have h4:okL c [] b=okL d [] b':=by
  rw [Bool.eq_iff_iff,okL_iff,okL_iff,ht,h1];constructor
  ·rintro⟨x1,x2⟩;exact⟨fun x hx=>x1 x (h.mem_iff.2 hx),fun hr=>⟨((h.filter _).nodup_iff).1 (x2 hr).1,fun x hx hp=>(x2 hr).2 x (h.mem_iff.2 hx) hp⟩⟩
  ·rintro⟨x1,x2⟩;exact⟨fun x hx=>x1 x (h.mem_iff.1 hx),fun hr=>⟨((h.filter _).nodup_iff).2 (x2 hr).1,fun x hx hp=>(x2 hr).2 x (h.mem_iff.1 hx) hp⟩⟩
 have h5:gapL b (posN b)=gapL b' (posN b'):=by
  rw [posN_perm h];unfold gapL;congr 1;funext k;congr 1;rw [eq_iff_iff];exact h.mem_iff
 unfold fitsB;rw [h4,h5,h1,h2,posN_perm h]
theorem somePos_perm {b b':List Int}(h:b.Perm b'):somePos b=somePos b':=by
 unfold somePos;congr 1;rw [eq_iff_iff];exact⟨fun⟨x,h1,h2⟩=>⟨x,h.mem_iff.1 h1,h2⟩,fun⟨x,h1,h2⟩=>⟨x,h.mem_iff.2 h1,h2⟩⟩
def nmF(N:List Int)(k:Nat):Nat:=(N.getD k 0).toNat
structure Names(n:Nat)(N:List Int):Prop where
 len:N.length=n
 all: ∀i:Nat,i<n→(i:Int)∈N
theorem perm_of_sub: ∀{l m:List Int},l.Nodup→(∀x∈l,x∈m)→m.length≤l.length→l.Perm m
 |
  [],m,_,_,h=>by
  have:m= []:=List.length_eq_zero_iff.1 (Nat.le_zero.1 h);subst this;exact List.Perm.refl _
 |
  x::l,m,hn,hs,h=>by
  obtain⟨h1,h2⟩:=List.nodup_cons.1 hn;have hx:x∈m:=hs x (by simp);have hp:=List.perm_cons_erase hx;refine((perm_of_sub h2 (fun y hy=>?_) ?_).cons x).trans hp.symm;·exact(List.mem_erase_of_ne (show y≠x from fun e=>h1 (by rw [←e];exact hy))).2 (hs y (by simp [hy]))
  ·have:=hp.length_eq;simp only [List.length_cons]at this h;omega
theorem Names.perm {n:Nat}{N:List Int}(h:Names n N):N.Perm (iota n):=by
 have h1:(iota n).Nodup:=by
  unfold iota;exact List.Pairwise.map _ (fun a b hab e=>hab (Int.ofNat.inj e)) List.nodup_range
 have h2: ∀x∈iota n,x∈N:=fun x hx=>by
  obtain⟨h1,h2⟩:=(mem_iota n x).1 hx;have:=h.all x.toNat (by omega)
  rwa [Int.toNat_of_nonneg h1]at this
 exact(perm_of_sub h1 h2 (by rw [h.len,length_iota];exact Nat.le_refl _)).symm
theorem Names.nm {n:Nat}{N:List Int}(h:Names n N):Nm n (nmF N)∧ ∀k,k<n→N[k]?=some ((nmF N k:Nat):Int):=by
 have hp:=h.perm;have hmem: ∀x∈N,0≤x∧x<n:=fun x hx=>(mem_iota n x).1 (hp.mem_iff.1 hx)
 have hnd:N.Nodup:=hp.nodup_iff.2 (by
  unfold iota;exact List.Pairwise.map _ (fun a b hab e=>hab (Int.ofNat.inj e)) List.nodup_range)
 have hget: ∀k,k<n→N[k]?=some ((nmF N k:Nat):Int):=fun k hk=>by
  have hk':k<N.length:=by rw [h.len];exact hk
  have h1:=hmem N[k] (List.getElem_mem hk');unfold nmF;rw [List.getD_eq_getElem?_getD,List.getElem?_eq_getElem hk',Option.getD_some,Int.toNat_of_nonneg h1.1]
 refine⟨⟨fun i hi=>?_,fun i j hi hj e=>?_,fun k hk=>?_⟩,hget⟩
 ·have hk':i<N.length:=by rw [h.len];exact hi
  have h1:=hget i hi;rw [List.getElem?_eq_getElem hk']at h1;injection h1 with h1;have:=hmem N[i] (List.getElem_mem hk');omega
 ·have hi':i<N.length:=by rw [h.len];exact hi
  have hj':j<N.length:=by rw [h.len];exact hj
  have h1:=hget i hi;have h2:=hget j hj;rw [List.getElem?_eq_getElem hi']at h1;rw [List.getElem?_eq_getElem hj']at h2;injection h1 with h1;injection h2 with h2;rcases Nat.lt_trichotomy i j with hl|hl|hl;·exact absurd (h1.trans ((by rw [e]:((nmF N i:Nat):Int)=(nmF N j:Nat)).trans h2.symm)) ((List.pairwise_iff_getElem.1 hnd) i j hi' hj' hl)
  ·exact hl
  ·exact absurd (h2.trans ((by rw [e]:((nmF N j:Nat):Int)=(nmF N i:Nat)).trans h1.symm)) ((List.pairwise_iff_getElem.1 hnd) j i hj' hi' hl)
 ·obtain⟨i,hi,he⟩:=List.mem_iff_getElem.1 (h.all k hk);refine⟨i,by rw [←h.len];exact hi,?_⟩;have h1:=hget i (by rw [←h.len];exact hi);rw [List.getElem?_eq_getElem hi,he]at h1;injection h1 with h1;omega
def ctN(c:CTest)(N:List Int):CTest:=⟨c.nm,N.map fun i=>c.op.getD i.toNat [],c.rl,c.se,c.mo⟩
theorem lotN_ren {c:CTest}{N:List Int}(h:Names c.op.length N)(lots:Bytes){k:Nat}(hk:k<c.op.length):lotF (ctN c N) lots (k:Int)=lotF c lots ((nmF N k:Nat):Int):=by
 have h1:=h.nm.2 k hk;have h2:=h.nm.1.lt k hk;unfold lotF lotN ctN;simp only [Int.toNat_natCast];rw [List.getD_eq_getElem?_getD (l:=List.map _ _),List.getElem?_map,h1];simp
theorem ctN_len {c:CTest}{N:List Int}(h:Names c.op.length N):(ctN c N).op.length=c.op.length:=by
 unfold ctN;simp only [List.length_map];exact h.len
theorem iota_names {n:Nat}{N:List Int}(h:Names n N):(iota n).map (fun x=>((nmF N x.toNat:Nat):Int))=N:=by
 apply List.ext_getElem?;intro k;unfold iota;rw [List.map_map,List.getElem?_map];by_cases hk:k<n
 ·rw [List.getElem?_range hk,h.nm.2 k hk];simp
 ·rw [List.getElem?_eq_none (by rw [List.length_range];omega),List.getElem?_eq_none (by rw [h.len];omega)];rfl
def Apt(c:CTest)(lots:Bytes):Prop:= ∀i j:Nat,i<c.op.length→j<c.op.length→i≠j→lotF c lots (i:Int)≠lotF c lots (j:Int)
theorem Ord.ren {c:CTest}{N:List Int}(h:Names c.op.length N){lots:Bytes}(hd:Apt c lots){O:List Int}(ho:Ord (ctN c N).op.length (lotF (ctN c N) lots) O):Ord c.op.length (lotF c lots) (O.map fun x=>((nmF N x.toNat:Nat):Int)):=by
 rw [ctN_len h]at ho;constructor
 ·refine(ho.perm.map _).trans ?_;rw [iota_names h];exact h.perm
 ·rw [List.pairwise_map];refine ho.srt.imp_of_mem (fun {a b} ha hb hab=>?_);have h1:=ho.mem.1 ha;have h2:=ho.mem.1 hb;obtain⟨i,rfl⟩: ∃i:Nat,a=i:=⟨a.toNat,by omega⟩;obtain⟨j,rfl⟩: ∃j:Nat,b=j:=⟨b.toNat,by omega⟩;have hi:i<c.op.length:=by omega
  have hj:j<c.op.length:=by omega
  rw [Int.toNat_natCast,Int.toNat_natCast];unfold ltL at hab ⊢;rw [lotN_ren h lots hi,lotN_ren h lots hj]at hab;rcases hab with hab|⟨e,hl⟩;·exact .inl hab
  ·exact absurd e (hd _ _ (h.nm.1.lt i hi) (h.nm.1.lt j hj) (fun e2=>by have:=h.nm.1.inj i j hi hj e2;omega))
theorem wrap_add(x y:Int):wrap64 (wrap64 x+y)=wrap64 (x+y):=by unfold wrap64;omega
theorem addTo_get(T b:List Int)(j:Nat)(hj:j<T.length): ∀i,(addTo T b i).getD j 0=if j<i then sm (T.getD j 0) (b.getD j 0)else T.getD j 0
 |0=>by rw [if_neg (by omega)];rfl
 |
  i+1=>by
  rw [addTo_succ,List.getD_eq_getElem?_getD,List.getElem?_set];by_cases e:i=j
  ·subst e;rw [if_pos rfl,if_pos (by rw [addTo_len];exact hj),if_pos (by omega),Option.getD_some,addTo_get T b i hj i,if_neg (by omega)]
  ·rw [if_neg e,←List.getD_eq_getElem?_getD,addTo_get T b j hj i];by_cases h:j<i;·rw [if_pos h,if_pos (by omega)]
   ·rw [if_neg h,if_neg (by omega)]
def sumJ(P:List (Value×List Int))(j:Nat):Int:=(P.map fun p=>p.2.getD j 0).sum
theorem totL_get(n:Nat)(P:List (Value×List Int))(j:Nat)(hj:j<n):(totL n P).getD j 0=wrap64 (sumJ P j):=by
 have key: ∀(P:List (Value×List Int)) (T:List Int) (z:Int),T.length=n→T.getD j 0=wrap64 z→(P.foldl (fun T p=>addTo T p.2 n) T).getD j 0=wrap64 (z+sumJ P j):=by
  intro P
  induction P with
  |nil=>intro T z hT hz;rw [List.foldl_nil,hz];unfold sumJ;simp
  |
   cons p P ih=>
   intro T z hT hz
   rw [List.foldl_cons,ih (addTo T p.2 n) (z+p.2.getD j 0) (by rw [addTo_len];exact hT) (by
    rw [addTo_get T p.2 j (by rw [hT];exact hj) n,if_pos hj,hz];exact wrap_add _ _)]
   unfold sumJ;rw [List.map_cons,List.sum_cons,Int.add_assoc]
 have:=key P (List.replicate n 0) 0 (List.length_replicate ..) (by
  rw [List.getD_eq_getElem?_getD,List.getElem?_replicate,if_pos hj];show(0:Int)=wrap64 0;unfold wrap64;omega)
 rw [Int.zero_add]at this;exact this
def renB(N:List Int)(b:List Int):List Int:=N.map fun i=>b.getD i.toNat 0
theorem renB_get {n:Nat}{N:List Int}(h:Names n N)(b:List Int){k:Nat}(hk:k<n):(renB N b).getD k 0=b.getD (nmF N k) 0:=by
 unfold renB;rw [List.getD_eq_getElem?_getD,List.getElem?_map,h.nm.2 k hk];simp
theorem renB_perm {n:Nat}{N:List Int}(h:Names n N){b:List Int}(hb:b.length=n):(renB N b).Perm b:=by
 unfold renB;refine(h.perm.map _).trans (List.Perm.of_eq ?_);apply List.ext_getElem?;intro k;unfold iota;rw [List.map_map,List.getElem?_map];by_cases hk:k<n
 ·rw [List.getElem?_range hk,List.getElem?_eq_getElem (by omega:k<b.length)];simp [hb,hk]
 ·rw [List.getElem?_eq_none (by rw [List.length_range];omega),List.getElem?_eq_none (by omega)];rfl
end Go.Proofs.YtnohcdpnnhmpfaaGreatDoor.TR
