/-
  Chapter 13, Transfer: a hall in memory, and how it is turned.
-/
import Derived.Test.YtnohcdpnnhmpfaaGreatDoorK03
import Derived.Test.YtnohcdpnnhmpfaaGreatDoorK04
import Derived.Test.YtnohcdpnnhmpfaaGreatDoorK07
import Derived.Test.YtnohcdpnnhmpfaaGreatDoorK13
set_option linter.unusedVariables false
set_option linter.unusedSimpArgs false
namespace Go.Proofs.YtnohcdpnnhmpfaaGreatDoor.TR
open Go.RowKit ML FRP AU CT
structure Trn(T:TypeId)(b0:Nat)(X:Option Nat)(w w':World):Prop where
 grown:w.grownBy w' X
 ty: ∀x,X=some x→b0≤x∧ ∃cs f,w.heap[x]?=some (.cells cs T f)∧ ∀u∈cs.toList,noLimb u=true
section
variable {T b0:Nat} {X:Option Nat} {w w':World}
theorem Trn.keep(t:Trn T b0 X w w'){b:Nat}{cs:Array Value}{T':TypeId}{f:Nat×Nat}(hb:w.heap[b]?=some (.cells cs T' f))(hne:T'≠T):w'.heap[b]?=some (.cells cs T' f):=by
 rw [t.grown.block b (lt_of_heap hb) (fun e=>?_)];·exact hb
 ·obtain⟨_,cs',f',h1,_⟩:=t.ty b e.symm;rw [hb]at h1;injection h1 with h1;injection h1 with _ h1;exact hne h1
theorem Trn.keepX(t:Trn T b0 X w w'){b:Nat}{o:Obj}(hb:w.heap[b]?=some o)(hne:X≠some b):w'.heap[b]?=some o:=by
 rw [t.grown.block b (lt_of_heap hb) (fun e=>hne e.symm)];exact hb
theorem Trn.limbs(t:Trn T b0 X w w'){oc:Option Addr}{L:List Nat}(h:LimbsAt w oc L):LimbsAt w' oc L:=⟨fun i hi=>by
 obtain⟨a,h1,h2,h3⟩:=h.cells i hi;refine⟨a,h1,Nat.lt_of_lt_of_le h2 t.grown.size,?_⟩;have hb:(a.add i).block=a.block:=addr_block' a i
 rw [World.cell?_of_block (w:=w) (by
  rw [hb];refine t.grown.block _ h2 (fun e=>?_);obtain⟨_,cs,f,g1,g2⟩:=t.ty _ e.symm;unfold World.cell? at h3;rw [hb,g1]at h3;simp only at h3;split at h3;·cases h3
  ·have hmem:=Array.mem_of_getElem? h3;have:=g2 _ (by simpa using hmem);cases this)]
 exact h3⟩
theorem Trn.below {w0:World}(t:Trn T w0.heap.size X w w')(h:Below w0.heap.size w0 w):Below w0.heap.size w0 w':=h.grown t.grown h.size (fun x hx=>(t.ty x hx).1)
theorem Trn.row(t:Trn T b0 X w w'){good:Value→Bool}{base:Nat}{e:TypeId}{size n:Nat}{v:Value}{xs:List Value}(h:GRow good w base e size v n xs)(hne:v.ownBlock=none∨v.ownBlock≠X):GRow good w' base e size v n xs:=h.kept t.grown hne
theorem GRow.typed {good:Value→Bool}{base:Nat}{e:TypeId}{size n:Nat}{v:Value}{xs:List Value}(h:GRow good w base e size v n xs): ∀x,v.ownBlock=some x→base≤x∧ ∃cs f,w.heap[x]?=some (.cells cs e f)∧ ∀u∈cs.toList,good u=true:=by
 intro x hx;rcases h.own.2 with⟨rfl,_⟩|⟨g,cap,cur,rfl,h1,hg,_⟩;·cases hx
 ·have e2:g=x:=by simpa [Value.ownBlock] using hx
  subst e2;exact⟨h1,cur,(0,0),hg,fun u hu=>h.all g cur e (0,0) rfl hg u hu⟩
theorem GRow.lift {good:Value→Bool}{base base':Nat}{e:TypeId}{size n:Nat}{v:Value}{xs:List Value}(h:GRow good w base e size v n xs)(hb:base'≤base):GRow good w base' e size v n xs:=⟨own_base h.own hb,h.all⟩
theorem Trn.rowT(t:Trn T b0 X w w'){good:Value→Bool}{base:Nat}{e:TypeId}{size n:Nat}{v:Value}{xs:List Value}(h:GRow good w base e size v n xs)(hne:e≠T):GRow good w' base e size v n xs:=t.row h (by
 cases hv:v.ownBlock with
 |none=>exact .inl rfl
 |
  some x=>
  right;intro e2;obtain⟨_,cs,f,h1,_⟩:=GRow.typed h x hv;obtain⟨_,cs',f',h2,_⟩:=t.ty x e2.symm;rw [h1]at h2;injection h2 with h2;injection h2 with _ h2;exact hne h2)
theorem Trn.of_below(h:Below w.heap.size w w')(T:TypeId)(b0:Nat):Trn T b0 none w w':=⟨⟨h.os,h.tape,h.output,h.size,fun k hk _=>h.block k hk⟩,fun x hx=>by cases hx⟩
theorem Trn.of_only {b:Nat}{cs:Array Value}{f:Nat×Nat}(ho:Only b w w')(hb:w.heap[b]?=some (.cells cs T f))(h0:b0≤b)(hn: ∀u∈cs.toList,noLimb u=true):Trn T b0 (some b) w w':=⟨grown_only ho,fun x hx=>by injection hx with hx;subst hx;exact⟨h0,cs,f,hb,hn⟩⟩
end
theorem only_cell {w:World}{b:Nat}(j:Nat)(v:Value):Only b w (w.setCell ⟨b,j,none⟩ v):=⟨rfl,rfl,rfl,by simp [World.setCell],fun k hk=>heap_setCell_other w _ k v hk⟩
def FrV(w:World)(x:Fr)(a b:Value):Prop:= ∃oa ca ob cb,a=.slice oa (NL.dig x.n).length ca∧b=.slice ob (NL.dig x.d).length cb∧LFr w x.n x.d oa ob
theorem FrV.below {w w':World}{x:Fr}{a b:Value}(h:FrV w x a b)(hb:Below w.heap.size w w'):FrV w' x a b:=by
 obtain⟨oa,ca,ob,cb,h1,h2,h3⟩:=h;exact⟨oa,ca,ob,cb,h1,h2,h3.below hb⟩
theorem Trn.fr {T b0:Nat}{X:Option Nat}{w w':World}(t:Trn T b0 X w w'){x:Fr}{a b:Value}(h:FrV w x a b):FrV w' x a b:=by
 obtain⟨oa,ca,ob,cb,h1,h2,h3⟩:=h;exact⟨oa,ca,ob,cb,h1,h2,⟨t.limbs h3.num,t.limbs h3.den⟩⟩
theorem FrV.noLimb {w:World}{x:Fr}{a b:Value}(h:FrV w x a b):noLimb a=true∧noLimb b=true∧a.oneCell'=true∧b.oneCell'=true:=by
 obtain⟨oa,ca,ob,cb,rfl,rfl,_⟩:=h;exact⟨rfl,rfl,rfl,rfl⟩
def upd {α β:Type} [DecidableEq α](f:α→β)(i:α)(x:β):α→β:=fun j=>if j=i then x else f j
theorem upd_same {α β:Type} [DecidableEq α](f:α→β)(i:α)(x:β):upd f i x i=x:=if_pos rfl
theorem upd_ne {α β:Type} [DecidableEq α](f:α→β)(i j:α)(x:β)(h:j≠i):upd f i x j=f j:=if_neg h
structure HK where
 c:CTest
 oa:Option Addr
 cap:Nat
 oO:Option Addr
 cO:Nat
 oP:Option Addr
 cP:Nat
 O:List Int
 P:List Int
 qn:Value
 qd:Value
 hb:Nat
 wb:Nat
 kb:Nat
 cb:Nat
 mb:Nat
 eb:Nat
 m:Nat
 pb:Nat→Nat
 rg:Nat→Nat
 rn:Nat→Nat
 rc:Nat→Array Value
 w0:World
def HK.n(K:HK):Nat:=K.c.op.length
structure HG where
 pv:Nat→Value
 nv:Value
 ev:Value
 PL:Option Nat→List Nat
 wn:Nat→Value
 wd:Nat→Value
 kn:Nat→Value
 kd:Nat→Value
def row1(b n:Nat):Value:=.slice (some ⟨b,0,none⟩) n n
def hallC(K:HK)(G:HG):Array Value:= #[.string ⟨K.c.nm.toArray⟩,.slice K.oa K.c.op.length K.cap,.int .i64 K.c.rl,.int .i64 K.c.se,.int .i64 K.c.mo,.slice K.oO K.O.length K.cO,.slice K.oP K.P.length K.cP,K.qn,K.qd,.slice (some ⟨K.wb,0,none⟩) K.c.op.length K.c.op.length,G.nv,.slice (some ⟨K.kb,0,none⟩) K.c.op.length K.c.op.length,.slice (some ⟨K.cb,0,none⟩) K.c.op.length K.c.op.length,.slice (some ⟨K.mb,0,none⟩) K.c.op.length K.c.op.length,G.ev]
def paperC(K:HK)(S:St)(G:HG)(k:Nat):Array Value:= #[.slice (some ⟨K.rg k,0,none⟩) (S.V k).rk.length (K.rn k),G.wn k,G.wd k,.int .i64 ((S.V k).nx:Int)]
def withC(K:HK)(G:HG):Array Value:=((List.range K.c.op.length).map G.pv).toArray
def keptC(K:HK)(G:HG):Array Value:=((List.range K.c.op.length).flatMap fun i=> [G.kn i,G.kd i]).toArray
def boolC(n:Nat)(f:Nat→Bool):Array Value:=((List.range n).map fun i=>Value.bool (f i)).toArray
def ptrs(K:HK)(l:List Nat):List Value:=l.map fun k=>Value.pointer (some ⟨K.pb k,0,none⟩)
def noLimbs(cs:Array Value):Prop:= ∀u∈cs.toList,noLimb u=true
structure HallAt(K:HK)(q:Fr)(S:St)(G:HG)(w:World):Prop where
 bel:Below K.w0.heap.size K.w0 w
 hall:w.heap[K.hb]?=some (.cells (hallC K G) 116 (0,0))
 withs:w.heap[K.wb]?=some (.cells (withC K G) 113 (0,0))
 kepts:w.heap[K.kb]?=some (.cells (keptC K G) 90 (0,0))
 conts:w.heap[K.cb]?=some (.cells (boolC K.c.op.length S.cont) 4 (0,0))
 moveds:w.heap[K.mb]?=some (.cells (boolC K.c.op.length S.moved) 4 (0,0))
 cm:K.cb≠K.mb
 papers: ∀k,k<K.m→w.heap[K.pb k]?=some (.cells (paperC K S G k) 168 (0,0))
 pinj: ∀k j,k<K.m→j<K.m→K.pb k=K.pb j→k=j
 ranks: ∀k,k<K.m→w.heap[K.rg k]?=some (.cells (K.rc k) 3 (0,0))∧K.rg k<K.eb
 rkc: ∀k,k<K.m→ ∀j (h:j<(S.V k).rk.length),(K.rc k)[j]?=some (.int .i64 (((S.V k).rk[j]:Nat):Int))
 rkl: ∀k,k<K.m→(S.V k).rk.length≤K.rn k∧(S.V k).rk.length≤12∧(S.V k).nx≤(S.V k).rk.length
 wts: ∀k,k<K.m→FrV w (S.V k).wt (G.wn k) (G.wd k)
 keps: ∀i,i<K.c.op.length→FrV w (S.kept i) (G.kn i) (G.kd i)
 quo:FrV w q K.qn K.qd
 piles: ∀i,i<K.c.op.length→GRow noLimb w K.w0.heap.size 165 1 (G.pv i) (G.PL (some i)).length (ptrs K (G.PL (some i)))
 nones:GRow noLimb w K.w0.heap.size 165 1 G.nv (G.PL none).length (ptrs K (G.PL none))
 apart: ∀i j,i<K.c.op.length→j<K.c.op.length→i≠j→Apart (G.pv i) (G.pv j)
 apartN: ∀i,i<K.c.op.length→Apart (G.pv i) G.nv
 pls: ∀o,(G.PL o).Nodup∧ ∀k∈G.PL o,k<K.m∧(S.V k).wi=o
 els:GRow noLimb w K.eb 3 1 G.ev S.el.length (ivals (S.el.map fun i:Nat=>(i:Int)))
 bases:K.w0.heap.size≤K.hb∧K.w0.heap.size≤K.wb∧K.w0.heap.size≤K.kb∧K.w0.heap.size≤K.cb∧K.w0.heap.size≤K.mb∧K.w0.heap.size≤K.eb∧ ∀k,k<K.m→K.w0.heap.size≤K.pb k
 contb: ∀i,S.cont i=true→i<K.c.op.length
 ebs:K.eb≤w.heap.size
section
variable {K:HK} {q:Fr} {S:St} {G:HG} {w w':World}
theorem noLimb_hall(h:HallAt K q S G w):noLimbs (hallC K G):=by
 obtain⟨o1,c1,o2,c2,h1,h2,_⟩:=h.quo;have h3:noLimb G.nv=true:=by
  rcases h.nones.own.2 with⟨e,_⟩|⟨g,cap,cur,e,_⟩<;>rw [e]<;>rfl
 have h4:noLimb G.ev=true:=by
  rcases h.els.own.2 with⟨e,_⟩|⟨g,cap,cur,e,_⟩<;>rw [e]<;>rfl
 intro u hu;simp only [hallC,List.mem_cons,List.not_mem_nil,or_false]at hu;rcases hu with rfl|rfl|rfl|rfl|rfl|rfl|rfl|rfl|rfl|rfl|rfl|rfl|rfl|rfl|rfl<;>first|rfl|assumption|(rw [h1];rfl)|(rw [h2];rfl)
theorem noLimb_paper(h:HallAt K q S G w){k:Nat}(hk:k<K.m):noLimbs (paperC K S G k):=by
 have h1:=(h.wts k hk).noLimb;intro u hu;simp only [paperC,List.mem_cons,List.not_mem_nil,or_false]at hu;rcases hu with rfl|rfl|rfl|rfl;·rfl
 ·exact h1.1
 ·exact h1.2.1
 ·rfl
theorem noLimb_bool(n:Nat)(f:Nat→Bool):noLimbs (boolC n f):=by
 intro u hu;simp only [boolC,List.mem_map]at hu;obtain⟨i,_,rfl⟩:=hu;rfl
theorem noLimb_with(h:HallAt K q S G w):noLimbs (withC K G):=by
 intro u hu;simp only [withC,List.mem_map,List.mem_range]at hu;obtain⟨i,hi,rfl⟩:=hu;rcases(h.piles i hi).own.2 with⟨e,_⟩|⟨g,cap,cur,e,_⟩<;>rw [e]<;>rfl
theorem noLimb_kept(h:HallAt K q S G w):noLimbs (keptC K G):=by
 intro u hu;simp only [keptC,List.mem_flatMap,List.mem_range,List.mem_cons,List.not_mem_nil,or_false]at hu;obtain⟨i,hi,rfl|rfl⟩:=hu;·exact(h.keps i hi).noLimb.1
 ·exact(h.keps i hi).noLimb.2.1
theorem ne_of_types {b b':Nat}{cs cs':Array Value}{T T':TypeId}{f f':Nat×Nat}(h:w.heap[b]?=some (.cells cs T f))(h':w.heap[b']?=some (.cells cs' T' f'))(hT:T≠T'):b≠b':=fun e=>by
 subst e;rw [h]at h';injection h' with h';injection h' with _ h';exact hT h'
theorem HallAt.below(h:HallAt K q S G w)(hb:Below w.heap.size w w'):HallAt K q S G w':=by
 have t:=Trn.of_below hb 0 K.w0.heap.size
 exact⟨t.below h.bel,t.keepX h.hall (by simp),t.keepX h.withs (by simp),t.keepX h.kepts (by simp),t.keepX h.conts (by simp),t.keepX h.moveds (by simp),h.cm,
  fun k hk=>t.keepX (h.papers k hk) (by simp),h.pinj,fun k hk=>⟨t.keepX (h.ranks k hk).1 (by simp),(h.ranks k hk).2⟩,h.rkc,h.rkl,fun k hk=>t.fr (h.wts k hk),fun i hi=>t.fr (h.keps i hi),t.fr h.quo,
  fun i hi=>(h.piles i hi).kept t.grown (by cases (G.pv i).ownBlock<;>simp),h.nones.kept t.grown (by cases G.nv.ownBlock<;>simp),h.apart,h.apartN,h.pls,h.els.kept t.grown (by cases G.ev.ownBlock<;>simp),h.bases,h.contb,Nat.le_trans h.ebs t.grown.size⟩
theorem HallAt.paper(h:HallAt K q S G w){k:Nat}(hk:k<K.m)(nx:Nat)(wt:Fr)(a b:Value)(ho:Only (K.pb k) w w')
 (hp:w'.heap[K.pb k]?=some (.cells #[.slice (some ⟨K.rg k,0,none⟩) (S.V k).rk.length (K.rn k),a,b,.int .i64 (nx:Int)] 168 (0,0))) (hnx:nx≤(S.V k).rk.length) (hf:FrV w wt a b):
 HallAt K q ⟨upd S.V k ⟨(S.V k).rk,nx,(S.V k).wi,wt⟩,S.cont,S.moved,S.kept,S.el⟩ ⟨G.pv,G.nv,G.ev,G.PL,upd G.wn k a,upd G.wd k b,G.kn,G.kd⟩ w':=by
 have t:Trn 168 K.w0.heap.size (some (K.pb k)) w w':=Trn.of_only ho (h.papers k hk) (h.bases.2.2.2.2.2.2 k hk) (noLimb_paper h hk);have hrk: ∀j,(upd S.V k ⟨(S.V k).rk,nx,(S.V k).wi,wt⟩ j).rk=(S.V j).rk:=fun j=>by
  unfold upd;split;·rename_i e;rw [e]
  ·rfl
 have hwi: ∀j,(upd S.V k ⟨(S.V k).rk,nx,(S.V k).wi,wt⟩ j).wi=(S.V j).wi:=fun j=>by
  unfold upd;split;·rename_i e;rw [e]
  ·rfl
 refine⟨t.below h.bel,t.keep h.hall (by decide),t.keep h.withs (by decide),t.keep h.kepts (by decide),t.keep h.conts (by decide),t.keep h.moveds (by decide),h.cm,
  fun j hj=>?_,h.pinj,fun j hj=>⟨t.keep (h.ranks j hj).1 (by decide),(h.ranks j hj).2⟩,fun j hj=>?_,fun j hj=>?_,fun j hj=>?_,fun i hi=>t.fr (h.keps i hi),t.fr h.quo,
  fun i hi=>t.rowT (h.piles i hi) (by decide),t.rowT h.nones (by decide),h.apart,h.apartN,fun o=>⟨(h.pls o).1,fun j hj=>⟨((h.pls o).2 j hj).1,(hwi j).trans ((h.pls o).2 j hj).2⟩⟩,t.rowT h.els (by decide),h.bases,h.contb,Nat.le_trans h.ebs t.grown.size⟩
 ·by_cases e:j=k
  ·subst e;rw [hp];simp only [paperC,upd_same]
  ·rw [t.keepX (h.papers j hj) (fun e2=>e (h.pinj _ _ hj hk (by injection e2 with e2;exact e2.symm)))];simp only [paperC,upd_ne _ _ _ _ e]
 ·show ∀i (hi:i<(upd S.V k ⟨(S.V k).rk,nx,(S.V k).wi,wt⟩ j).rk.length),(K.rc j)[i]?=some (.int .i64 ((((upd S.V k ⟨(S.V k).rk,nx,(S.V k).wi,wt⟩ j).rk[i]:Nat)):Int));rw [hrk];exact h.rkc j hj
 ·show _∧_∧(upd S.V k ⟨(S.V k).rk,nx,(S.V k).wi,wt⟩ j).nx≤_;rw [hrk];refine⟨(h.rkl j hj).1,(h.rkl j hj).2.1,?_⟩;by_cases e:j=k;·subst e;rw [upd_same];exact hnx
  ·rw [upd_ne _ _ _ _ e];exact(h.rkl j hj).2.2
 ·show FrV w' (upd S.V k ⟨(S.V k).rk,nx,(S.V k).wi,wt⟩ j).wt (upd G.wn k a j) (upd G.wd k b j);by_cases e:j=k;·subst e;rw [upd_same,upd_same,upd_same];exact t.fr hf
  ·rw [upd_ne _ _ _ _ e,upd_ne _ _ _ _ e,upd_ne _ _ _ _ e];exact t.fr (h.wts j hj)
theorem map_range_upd {β:Type}(f:Nat→β)(n i:Nat)(x:β)(hi:i<n):((List.range n).map (upd f i x)).toArray=((List.range n).map f).toArray.setIfInBounds i x:=by
 apply Array.ext_getElem?;intro j;simp only [List.getElem?_toArray,Array.getElem?_setIfInBounds,List.getElem?_map,List.getElem?_range,List.size_toArray,List.length_map,List.length_range];by_cases hj:j<n
 ·rw [List.getElem?_range hj];by_cases e:i=j;·subst e;rw [if_pos rfl,if_pos hi];simp [upd_same]
  ·rw [if_neg e];simp [upd_ne _ _ _ _ (fun e2:j=i=>e e2.symm)]
 ·rw [List.getElem?_eq_none (by simpa using hj)];by_cases e:i=j;·omega
  ·rw [if_neg e];rfl
theorem HallAt.piled(h:HallAt K q S G w){i k:Nat}(hi:i<K.c.op.length)(hk:k<K.m)(hkn: ∀o,k∉G.PL o){w1:World}{v':Value}{g:Nat}(hg:w.grownBy w1 (G.pv i).ownBlock)
 (hr:GRow noLimb w1 K.w0.heap.size 165 1 v' ((G.PL (some i)).length+1) (ptrs K (G.PL (some i))++ [.pointer (some ⟨K.pb k,0,none⟩)])) (hv:v'.ownBlock=some g) (hf:(G.pv i).ownBlock=some g∨g=w.heap.size)
 (hw:(S.V k).wi=some i):
 HallAt K q S ⟨upd G.pv i v',G.nv,G.ev,upd G.PL (some i) (G.PL (some i)++ [k]),G.wn,G.wd,G.kn,G.kd⟩ (w1.setCell ⟨K.wb,i,none⟩ v'):=by
 have t1:Trn 165 K.w0.heap.size (G.pv i).ownBlock w w1:=⟨hg,GRow.typed (h.piles i hi)⟩;have hw1:=t1.keep h.withs (by decide);have t2:Trn 113 K.w0.heap.size (some K.wb) w1 (w1.setCell ⟨K.wb,i,none⟩ v'):=Trn.of_only (only_cell i v') hw1 h.bases.2.1 (noLimb_with h);have hne: ∀{v:Value} {l:List Nat},GRow noLimb w K.w0.heap.size 165 1 v l.length (ptrs K l)→Apart (G.pv i) v→v.ownBlock=none∨v.ownBlock≠(G.pv i).ownBlock:=fun {v l} hr ha=>by
  rcases ha.symm with h1|h1;·exact .inl h1
  ·exact .inr h1
 have hap: ∀{v:Value} {l:List Nat},GRow noLimb w K.w0.heap.size 165 1 v l.length (ptrs K l)→Apart (G.pv i) v→Apart v' v:=fun {v l} hr ha=>apart_new hv hr.own ha hf
 refine⟨t2.below (t1.below h.bel),t2.keep (t1.keep h.hall (by decide)) (by decide),?_,t2.keep (t1.keep h.kepts (by decide)) (by decide),t2.keep (t1.keep h.conts (by decide)) (by decide),t2.keep (t1.keep h.moveds (by decide)) (by decide),h.cm,
  fun j hj=>t2.keep (t1.keep (h.papers j hj) (by decide)) (by decide),h.pinj,fun j hj=>⟨t2.keep (t1.keep (h.ranks j hj).1 (by decide)) (by decide),(h.ranks j hj).2⟩,h.rkc,h.rkl,fun j hj=>t2.fr (t1.fr (h.wts j hj)),fun j hj=>t2.fr (t1.fr (h.keps j hj)),t2.fr (t1.fr h.quo),
  fun j hj=>?_,?_,fun j l hj hl hjl=>?_,fun j hj=>?_,fun o=>?_,t2.rowT (t1.rowT h.els (by decide)) (by decide),h.bases,h.contb,Nat.le_trans h.ebs (Nat.le_trans t1.grown.size t2.grown.size)⟩
 ·rw [heap_setCell_same w1 K.wb i _ _ v' hw1];unfold withC;rw [map_range_upd _ _ _ _ hi]
 ·by_cases e:j=i
  ·subst e;show GRow noLimb _ _ _ _ (upd G.pv j v' j) (upd G.PL (some j) (G.PL (some j)++ [k]) (some j)).length (ptrs K (upd G.PL (some j) (G.PL (some j)++ [k]) (some j)));rw [upd_same,upd_same];have h1:=t2.rowT hr (by decide);unfold ptrs at*;rw [List.map_append,List.length_append];exact h1
  ·show GRow noLimb _ _ _ _ (upd G.pv i v' j) (upd G.PL (some i) (G.PL (some i)++ [k]) (some j)).length (ptrs K (upd G.PL (some i) (G.PL (some i)++ [k]) (some j)));rw [upd_ne _ _ _ _ e,upd_ne _ _ _ _ (by intro e2;injection e2 with e2;exact e e2)];exact t2.rowT (t1.row (h.piles j hj) (hne (h.piles j hj) (h.apart i j hi hj (fun e2=>e e2.symm)))) (by decide)
 ·show GRow noLimb _ _ _ _ G.nv (upd G.PL (some i) (G.PL (some i)++ [k]) none).length (ptrs K (upd G.PL (some i) (G.PL (some i)++ [k]) none));rw [upd_ne _ _ _ _ (by simp)];exact t2.rowT (t1.row h.nones (hne h.nones (h.apartN i hi))) (by decide)
 ·show Apart (upd G.pv i v' j) (upd G.pv i v' l);by_cases e:j=i
  ·subst e;rw [upd_same,upd_ne _ _ _ _ (fun e2=>hjl e2.symm)];exact hap (h.piles l hl) (h.apart j l hj hl hjl)
  ·rw [upd_ne _ _ _ _ e];by_cases e2:l=i
   ·subst e2;rw [upd_same];exact(hap (h.piles j hj) (h.apart l j hl hj (fun e3=>e e3.symm))).symm
   ·rw [upd_ne _ _ _ _ e2];exact h.apart j l hj hl hjl
 ·show Apart (upd G.pv i v' j) G.nv;by_cases e:j=i;·subst e;rw [upd_same];exact hap h.nones (h.apartN j hj)
  ·rw [upd_ne _ _ _ _ e];exact h.apartN j hj
 ·show(upd G.PL (some i) (G.PL (some i)++ [k]) o).Nodup∧ ∀j∈upd G.PL (some i) (G.PL (some i)++ [k]) o,_;by_cases e:o=some i
  ·subst e;rw [upd_same];refine⟨List.nodup_append.2 ⟨(h.pls _).1,by simp,fun a ha b hb e=>?_⟩,fun j hj=>?_⟩
   ·rw [List.mem_singleton.1 hb]at e;exact hkn _ (e▸ha)
   ·rcases List.mem_append.1 hj with hj|hj;·exact(h.pls _).2 j hj
    ·rw [List.mem_singleton.1 hj];exact⟨hk,hw⟩
  ·rw [upd_ne _ _ _ _ e];exact h.pls o
theorem HallAt.noned(h:HallAt K q S G w){k:Nat}(hk:k<K.m)(hkn: ∀o,k∉G.PL o){w1:World}{v':Value}{g:Nat}(hg:w.grownBy w1 G.nv.ownBlock)
 (hr:GRow noLimb w1 K.w0.heap.size 165 1 v' ((G.PL none).length+1) (ptrs K (G.PL none)++ [.pointer (some ⟨K.pb k,0,none⟩)])) (hv:v'.ownBlock=some g) (hf:G.nv.ownBlock=some g∨g=w.heap.size)
 (hw:(S.V k).wi=none):
 HallAt K q S ⟨G.pv,v',G.ev,upd G.PL none (G.PL none++ [k]),G.wn,G.wd,G.kn,G.kd⟩ (w1.setCell ⟨K.hb,10,none⟩ v'):=by
 have t1:Trn 165 K.w0.heap.size G.nv.ownBlock w w1:=⟨hg,GRow.typed h.nones⟩;have hw1:=t1.keep h.hall (by decide);have t2:Trn 116 K.w0.heap.size (some K.hb) w1 (w1.setCell ⟨K.hb,10,none⟩ v'):=Trn.of_only (only_cell 10 v') hw1 h.bases.1 (noLimb_hall h)
 refine⟨t2.below (t1.below h.bel),?_,t2.keep (t1.keep h.withs (by decide)) (by decide),t2.keep (t1.keep h.kepts (by decide)) (by decide),t2.keep (t1.keep h.conts (by decide)) (by decide),t2.keep (t1.keep h.moveds (by decide)) (by decide),h.cm,
  fun j hj=>t2.keep (t1.keep (h.papers j hj) (by decide)) (by decide),h.pinj,fun j hj=>⟨t2.keep (t1.keep (h.ranks j hj).1 (by decide)) (by decide),(h.ranks j hj).2⟩,h.rkc,h.rkl,fun j hj=>t2.fr (t1.fr (h.wts j hj)),fun j hj=>t2.fr (t1.fr (h.keps j hj)),t2.fr (t1.fr h.quo),
  fun j hj=>?_,?_,h.apart,fun j hj=>?_,fun o=>?_,t2.rowT (t1.rowT h.els (by decide)) (by decide),h.bases,h.contb,Nat.le_trans h.ebs (Nat.le_trans t1.grown.size t2.grown.size)⟩
 ·rw [heap_setCell_same w1 K.hb 10 _ _ v' hw1];rfl
 ·show GRow noLimb _ _ _ _ (G.pv j) (upd G.PL none (G.PL none++ [k]) (some j)).length (ptrs K (upd G.PL none (G.PL none++ [k]) (some j)));rw [upd_ne _ _ _ _ (by simp)];refine t2.rowT (t1.row (h.piles j hj) ?_) (by decide);rcases h.apartN j hj with h1|h1;·exact .inl h1
  ·exact .inr h1
 ·show GRow noLimb _ _ _ _ v' (upd G.PL none (G.PL none++ [k]) none).length (ptrs K (upd G.PL none (G.PL none++ [k]) none));rw [upd_same];have h1:=t2.rowT hr (by decide);unfold ptrs at*;rw [List.map_append,List.length_append];exact h1
 ·exact(apart_new hv (h.piles j hj).own (h.apartN j hj).symm hf).symm
 ·show(upd G.PL none (G.PL none++ [k]) o).Nodup∧ ∀j∈upd G.PL none (G.PL none++ [k]) o,_;by_cases e:o=none
  ·subst e;rw [upd_same];refine⟨List.nodup_append.2 ⟨(h.pls _).1,by simp,fun a ha b hb e=>?_⟩,fun j hj=>?_⟩
   ·rw [List.mem_singleton.1 hb]at e;exact hkn _ (e▸ha)
   ·rcases List.mem_append.1 hj with hj|hj;·exact(h.pls _).2 j hj
    ·rw [List.mem_singleton.1 hj];exact⟨hk,hw⟩
  ·rw [upd_ne _ _ _ _ e];exact h.pls o
theorem HallAt.taken(h:HallAt K q S G w){i:Nat}(hi:i<K.c.op.length):
 HallAt K q S ⟨upd G.pv i (.slice none 0 0),G.nv,G.ev,upd G.PL (some i) [],G.wn,G.wd,G.kn,G.kd⟩ (w.setCell ⟨K.wb,i,none⟩ (.slice none 0 0)):=by
 have t2:Trn 113 K.w0.heap.size (some K.wb) w (w.setCell ⟨K.wb,i,none⟩ (.slice none 0 0)):=Trn.of_only (only_cell i _) h.withs h.bases.2.1 (noLimb_with h)
 refine⟨t2.below h.bel,t2.keep h.hall (by decide),?_,t2.keep h.kepts (by decide),t2.keep h.conts (by decide),t2.keep h.moveds (by decide),h.cm,
  fun j hj=>t2.keep (h.papers j hj) (by decide),h.pinj,fun j hj=>⟨t2.keep (h.ranks j hj).1 (by decide),(h.ranks j hj).2⟩,h.rkc,h.rkl,fun j hj=>t2.fr (h.wts j hj),fun j hj=>t2.fr (h.keps j hj),t2.fr h.quo,
  fun j hj=>?_,?_,fun j l hj hl hjl=>?_,fun j hj=>?_,fun o=>?_,t2.rowT h.els (by decide),h.bases,h.contb,Nat.le_trans h.ebs t2.grown.size⟩
 ·rw [heap_setCell_same w K.wb i _ _ _ h.withs];unfold withC;rw [map_range_upd _ _ _ _ hi]
 ·show GRow noLimb _ _ _ _ (upd G.pv i (.slice none 0 0) j) (upd G.PL (some i) [] (some j)).length (ptrs K (upd G.PL (some i) [] (some j)));by_cases e:j=i;·subst e;rw [upd_same,upd_same];exact GRow.nil
  ·rw [upd_ne _ _ _ _ e,upd_ne _ _ _ _ (by intro e2;injection e2 with e2;exact e e2)];exact t2.rowT (h.piles j hj) (by decide)
 ·show GRow noLimb _ _ _ _ G.nv (upd G.PL (some i) [] none).length (ptrs K (upd G.PL (some i) [] none));rw [upd_ne _ _ _ _ (by simp)];exact t2.rowT h.nones (by decide)
 ·show Apart (upd G.pv i (.slice none 0 0) j) (upd G.pv i (.slice none 0 0) l);by_cases e:j=i;·subst e;rw [upd_same];exact .inl rfl
  ·rw [upd_ne _ _ _ _ e];by_cases e2:l=i;·subst e2;rw [upd_same];exact Apart.symm (.inl rfl)
   ·rw [upd_ne _ _ _ _ e2];exact h.apart j l hj hl hjl
 ·show Apart (upd G.pv i (.slice none 0 0) j) G.nv;by_cases e:j=i;·subst e;rw [upd_same];exact .inl rfl
  ·rw [upd_ne _ _ _ _ e];exact h.apartN j hj
 ·show(upd G.PL (some i) [] o).Nodup∧ ∀j∈upd G.PL (some i) [] o,_;by_cases e:o=some i;·subst e;rw [upd_same];exact⟨List.nodup_nil,fun j hj=>by cases hj⟩
  ·rw [upd_ne _ _ _ _ e];exact h.pls o
theorem boolC_upd(n:Nat)(f:Nat→Bool)(i:Nat)(b:Bool)(hi:i<n):boolC n (upd f i b)=(boolC n f).setIfInBounds i (.bool b):=by
 unfold boolC;rw [←map_range_upd _ _ _ _ hi];congr 1;refine List.map_congr_left fun j _=>?_;unfold upd;split<;>rfl
theorem HallAt.outed(h:HallAt K q S G w){i:Nat}(hi:i<K.c.op.length):HallAt K q ⟨S.V,upd S.cont i false,S.moved,S.kept,S.el⟩ G (w.setCell ⟨K.cb,i,none⟩ (.bool false)):=by
 have t2:Trn 4 K.w0.heap.size (some K.cb) w (w.setCell ⟨K.cb,i,none⟩ (.bool false)):=Trn.of_only (only_cell i _) h.conts h.bases.2.2.2.1 (noLimb_bool _ _)
 refine⟨t2.below h.bel,t2.keep h.hall (by decide),t2.keep h.withs (by decide),t2.keep h.kepts (by decide),?_,t2.keepX h.moveds (by intro e;injection e with e;exact h.cm e),h.cm,
  fun j hj=>t2.keep (h.papers j hj) (by decide),h.pinj,fun j hj=>⟨t2.keep (h.ranks j hj).1 (by decide),(h.ranks j hj).2⟩,h.rkc,h.rkl,fun j hj=>t2.fr (h.wts j hj),fun j hj=>t2.fr (h.keps j hj),t2.fr h.quo,
  fun j hj=>t2.rowT (h.piles j hj) (by decide),t2.rowT h.nones (by decide),h.apart,h.apartN,h.pls,t2.rowT h.els (by decide),h.bases,fun j hj=>?_,Nat.le_trans h.ebs t2.grown.size⟩
 ·rw [heap_setCell_same w K.cb i _ _ _ h.conts];show _=some (Obj.cells (boolC _ (upd S.cont i false)) _ _);rw [boolC_upd _ _ _ _ hi]
 ·have hj':upd S.cont i false j=true:=hj;unfold upd at hj';split at hj';·cases hj'
  ·exact h.contb j hj'
theorem HallAt.movd(h:HallAt K q S G w){i:Nat}(hi:i<K.c.op.length):HallAt K q ⟨S.V,S.cont,upd S.moved i true,S.kept,S.el⟩ G (w.setCell ⟨K.mb,i,none⟩ (.bool true)):=by
 have t2:Trn 4 K.w0.heap.size (some K.mb) w (w.setCell ⟨K.mb,i,none⟩ (.bool true)):=Trn.of_only (only_cell i _) h.moveds h.bases.2.2.2.2.1 (noLimb_bool _ _)
 refine⟨t2.below h.bel,t2.keep h.hall (by decide),t2.keep h.withs (by decide),t2.keep h.kepts (by decide),t2.keepX h.conts (by intro e;injection e with e;exact h.cm e.symm),?_,h.cm,
  fun j hj=>t2.keep (h.papers j hj) (by decide),h.pinj,fun j hj=>⟨t2.keep (h.ranks j hj).1 (by decide),(h.ranks j hj).2⟩,h.rkc,h.rkl,fun j hj=>t2.fr (h.wts j hj),fun j hj=>t2.fr (h.keps j hj),t2.fr h.quo,
  fun j hj=>t2.rowT (h.piles j hj) (by decide),t2.rowT h.nones (by decide),h.apart,h.apartN,h.pls,t2.rowT h.els (by decide),h.bases,h.contb,Nat.le_trans h.ebs t2.grown.size⟩
 ·rw [heap_setCell_same w K.mb i _ _ _ h.moveds];show _=some (Obj.cells (boolC _ (upd S.moved i true)) _ _);rw [boolC_upd _ _ _ _ hi]
theorem HallAt.keeps(h:HallAt K q S G w){i:Nat}(hi:i<K.c.op.length){x:Fr}{a b:Value}(hf:FrV w x a b)(ho:Only K.kb w w')(hp:w'.heap[K.kb]?=some (.cells (keptC K ⟨G.pv,G.nv,G.ev,G.PL,G.wn,G.wd,upd G.kn i a,upd G.kd i b⟩) 90 (0,0))):
 HallAt K q ⟨S.V,S.cont,S.moved,upd S.kept i x,S.el⟩ ⟨G.pv,G.nv,G.ev,G.PL,G.wn,G.wd,upd G.kn i a,upd G.kd i b⟩ w':=by
 have t2:Trn 90 K.w0.heap.size (some K.kb) w w':=Trn.of_only ho h.kepts h.bases.2.2.1 (noLimb_kept h)
 refine⟨t2.below h.bel,t2.keep h.hall (by decide),t2.keep h.withs (by decide),hp,t2.keep h.conts (by decide),t2.keep h.moveds (by decide),h.cm,
  fun j hj=>t2.keep (h.papers j hj) (by decide),h.pinj,fun j hj=>⟨t2.keep (h.ranks j hj).1 (by decide),(h.ranks j hj).2⟩,h.rkc,h.rkl,fun j hj=>t2.fr (h.wts j hj),fun j hj=>?_,t2.fr h.quo,
  fun j hj=>t2.rowT (h.piles j hj) (by decide),t2.rowT h.nones (by decide),h.apart,h.apartN,h.pls,t2.rowT h.els (by decide),h.bases,h.contb,Nat.le_trans h.ebs t2.grown.size⟩
 show FrV w' (upd S.kept i x j) (upd G.kn i a j) (upd G.kd i b j);by_cases e:j=i;·subst e;rw [upd_same,upd_same,upd_same];exact t2.fr hf
 ·rw [upd_ne _ _ _ _ e,upd_ne _ _ _ _ e,upd_ne _ _ _ _ e];exact t2.fr (h.keps j hj)
theorem HallAt.eld(h:HallAt K q S G w){i:Nat}{w1:World}{v':Value}(hg:w.grownBy w1 G.ev.ownBlock)(hr:GRow noLimb w1 K.eb 3 1 v' (S.el.length+1) (ivals (S.el.map fun i:Nat=>(i:Int))++ [.int .i64 (i:Int)])):
 HallAt K q ⟨S.V,S.cont,S.moved,S.kept,S.el++ [i]⟩ ⟨G.pv,G.nv,v',G.PL,G.wn,G.wd,G.kn,G.kd⟩ (w1.setCell ⟨K.hb,14,none⟩ v'):=by
 have t1:Trn 3 K.w0.heap.size G.ev.ownBlock w w1:=⟨hg,GRow.typed (GRow.lift h.els h.bases.2.2.2.2.2.1)⟩;have hw1:=t1.keep h.hall (by decide);have t2:Trn 116 K.w0.heap.size (some K.hb) w1 (w1.setCell ⟨K.hb,14,none⟩ v'):=Trn.of_only (only_cell 14 v') hw1 h.bases.1 (noLimb_hall h)
 refine⟨t2.below (t1.below h.bel),?_,t2.keep (t1.keep h.withs (by decide)) (by decide),t2.keep (t1.keep h.kepts (by decide)) (by decide),t2.keep (t1.keep h.conts (by decide)) (by decide),t2.keep (t1.keep h.moveds (by decide)) (by decide),h.cm,
  fun j hj=>t2.keep (t1.keep (h.papers j hj) (by decide)) (by decide),h.pinj,fun j hj=>⟨t2.keep (t1.keepX (h.ranks j hj).1 ?_) (by decide),(h.ranks j hj).2⟩,h.rkc,h.rkl,fun j hj=>t2.fr (t1.fr (h.wts j hj)),fun j hj=>t2.fr (t1.fr (h.keps j hj)),t2.fr (t1.fr h.quo),
  fun j hj=>t2.rowT (t1.rowT (h.piles j hj) (by decide)) (by decide),t2.rowT (t1.rowT h.nones (by decide)) (by decide),h.apart,h.apartN,h.pls,?_,h.bases,h.contb,Nat.le_trans h.ebs (Nat.le_trans t1.grown.size t2.grown.size)⟩
 ·rw [heap_setCell_same w1 K.hb 14 _ _ v' hw1];rfl
 ·intro e;have h1:=(GRow.typed h.els _ e).1;have h2:=(h.ranks j hj).2;omega
 ·show GRow noLimb _ _ _ _ v' (S.el++ [i]).length (ivals ((S.el++ [i]).map fun i:Nat=>(i:Int)));have h1:=t2.rowT hr (by decide);rw [List.map_append,List.length_append,←ivals_append];exact h1
end
end Go.Proofs.YtnohcdpnnhmpfaaGreatDoor.TR
