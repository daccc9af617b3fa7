/- Chapter 13, Transfer: a hall in memory, and BQ it is turned. -/
import Derived.Test.YtnohcdpnnhmpfaaGreatDoorE03
import Derived.Test.YtnohcdpnnhmpfaaGreatDoorE12
set_option linter.all false
namespace Go.Proofs.YtnohcdpnnhmpfaaGreatDoor.TR
open Go.RowKit ML FRP AU CT
structure Trn(T:o0)(b0:Nat)(X:L0)(w w':m0):Prop where
 grown:w.grownBy w' X
 ty: ∀x,X=some x→b0≤x∧ ∃cs f,w.heap[x]?=some (.cells cs T f)∧ ∀u∈cs.toList,noLimb u=true
section
variable {T b0:Nat} {X:L0} {w w':m0}
theorem Trn.keep(t:Trn T b0 X w w'){b:Nat}{cs:t0}{T':o0}{f:Nat×Nat}(hb:w.heap[b]?=some (.cells cs T' f))(Cs:T'≠T):w'.heap[b]?=some (.cells cs T' f):=by
 rw [t.grown.block b (xZ hb) (fun e=>?_)];·exact hb
 ·obtain⟨_,gv,f',h1,_⟩:=t.ty b e.symm;rw [hb]at h1;injection h1 with h1;injection h1 with _ h1;exact Cs h1
theorem Trn.keepX(t:Trn T b0 X w w'){b:Nat}{o:Obj}(hb:w.heap[b]?=some o)(Cs:X≠some b):w'.heap[b]?=some o:=by
 rw [t.grown.block b (xZ hb) (fun e=>Cs e.symm)];exact hb
theorem Trn.limbs(t:Trn T b0 X w w'){oc:s0}{L:E0}(h:LimbsAt w oc L):LimbsAt w' oc L:=⟨fun i hi=>by
 obtain⟨a,h1,h2,h3⟩:=h.cells i hi;refine⟨a,h1,jW h2 t.grown.size,?_⟩;have hb:(a.add i).block=a.block:=yo a i
 rw [vA (w:=w) (by
  rw [hb];refine t.grown.block _ h2 (fun e=>?_);obtain⟨_,cs,f,g1,g2⟩:=t.ty _ e.symm;unfold World.cell? at h3;rw [hb,g1]at h3;simp only at h3;split at h3;·cases h3
  ·have Mu:=xL h3;have:=g2 _ (by simpa using Mu);cases this)]
 exact h3⟩
theorem Trn.below {w0:m0}(t:Trn T w0.heap.size X w w')(h:O0 w0.heap.size w0 w):O0 w0.heap.size w0 w':=h.grown t.grown h.size (fun x hx=>(t.ty x hx).1)
theorem Trn.row(t:Trn T b0 X w w'){good:n0→Bool}{base:Nat}{e:o0}{size n:Nat}{v:n0}{xs:A0}(h:GRow good w base e size v n xs)(Cs:v.ownBlock=none∨v.ownBlock≠X):GRow good w' base e size v n xs:=h.kept t.grown Cs
theorem GRow.typed {good:n0→Bool}{base:Nat}{e:o0}{size n:Nat}{v:n0}{xs:A0}(h:GRow good w base e size v n xs): ∀x,v.ownBlock=some x→base≤x∧ ∃cs f,w.heap[x]?=some (.cells cs e f)∧ ∀u∈cs.toList,good u=true:=by
 intro x hx;rcases h.own.2 with⟨rfl,_⟩|⟨g,cap,Es,rfl,h1,hg,_⟩;·cases hx
 ·have e2:g=x:=by simpa [Value.ownBlock] using hx
  subst e2;exact⟨h1,Es,(0,0),hg,fun u hu=>h.all g Es e (0,0) rfl hg u hu⟩
theorem GRow.lift {good:n0→Bool}{base gE:Nat}{e:o0}{size n:Nat}{v:n0}{xs:A0}(h:GRow good w base e size v n xs)(hb:gE≤base):GRow good w gE e size v n xs:=⟨JM h.own hb,h.all⟩
theorem Trn.rowT(t:Trn T b0 X w w'){good:n0→Bool}{base:Nat}{e:o0}{size n:Nat}{v:n0}{xs:A0}(h:GRow good w base e size v n xs)(Cs:e≠T):GRow good w' base e size v n xs:=t.row h (by
 cases hv:v.ownBlock with
 |none=>exact .inl rfl
 |
  some x=>
  right;intro e2;obtain⟨_,cs,f,h1,_⟩:=GRow.typed h x hv;obtain⟨_,gv,f',h2,_⟩:=t.ty x e2.symm;rw [h1]at h2;injection h2 with h2;injection h2 with _ h2;exact Cs h2)
theorem Trn.of_below(h:O0 w.heap.size w w')(T:o0)(b0:Nat):Trn T b0 none w w':=⟨⟨h.os,h.tape,h.output,h.size,fun k hk _=>h.block k hk⟩,fun x hx=>by cases hx⟩
theorem Trn.of_only {b:Nat}{cs:t0}{f:Nat×Nat}(ho:yG b w w')(hb:w.heap[b]?=some (.cells cs T f))(h0:b0≤b)(hn: ∀u∈cs.toList,noLimb u=true):Trn T b0 (some b) w w':=⟨xk ho,fun x hx=>by injection hx with hx;subst hx;exact⟨h0,cs,f,hb,hn⟩⟩
end
theorem yC {w:m0}{b:Nat}(j:Nat)(v:n0):yG b w (w.setCell ⟨b,j,none⟩ v):=⟨rfl,rfl,rfl,by simp [World.setCell],fun k hk=>qf w _ k v hk⟩
def FrV(w:m0)(x:Fr)(a b:n0):Prop:= ∃oa ca ob cb,a=.slice oa (NL.dig x.n).length ca∧b=.slice ob (NL.dig x.d).length cb∧LFr w x.n x.d oa ob
theorem FrV.below {w w':m0}{x:Fr}{a b:n0}(h:FrV w x a b)(hb:O0 w.heap.size w w'):FrV w' x a b:=by
 obtain⟨oa,ca,ob,cb,h1,h2,h3⟩:=h;exact⟨oa,ca,ob,cb,h1,h2,h3.below hb⟩
theorem Trn.fr {T b0:Nat}{X:L0}{w w':m0}(t:Trn T b0 X w w'){x:Fr}{a b:n0}(h:FrV w x a b):FrV w' x a b:=by
 obtain⟨oa,ca,ob,cb,h1,h2,h3⟩:=h;exact⟨oa,ca,ob,cb,h1,h2,⟨t.limbs h3.num,t.limbs h3.den⟩⟩
theorem FrV.noLimb {w:m0}{x:Fr}{a b:n0}(h:FrV w x a b):noLimb a=true∧noLimb b=true∧a.oneCell'=true∧b.oneCell'=true:=by
 obtain⟨oa,ca,ob,cb,rfl,rfl,_⟩:=h;exact⟨rfl,rfl,rfl,rfl⟩
def upd {α β:Type} [DecidableEq α](f:α→β)(i:α)(x:β):α→β:=fun j=>if j=i then x else f j
theorem xp {α β:Type} [DecidableEq α](f:α→β)(i:α)(x:β):upd f i x i=x:=jP rfl
theorem xw {α β:Type} [DecidableEq α](f:α→β)(i j:α)(x:β)(h:j≠i):upd f i x j=f j:=jQ h
structure HK where
 c:yH
 oa:s0
 cap:Nat
 oO:s0
 cO:Nat
 oP:s0
 cP:Nat
 O:C0
 P:C0
 qn:n0
 qd:n0
 hb:Nat
 wb:Nat
 kb:Nat
 cb:Nat
 mb:Nat
 eb:Nat
 m:Nat
 pb:Nat→Nat
 rg:Nat→Nat
 rn:Nat→Nat
 rc:Nat→t0
 w0:m0
def HK.n(K:HK):Nat:=K.c.op.length
structure HG where
 pv:Nat→n0
 nv:n0
 ev:n0
 PL:L0→E0
 wn:Nat→n0
 wd:Nat→n0
 kn:Nat→n0
 kd:Nat→n0
def jjT(b n:Nat):n0:=.slice (some ⟨b,0,none⟩) n n
def jel(K:HK)(G:HG):t0:= #[.string ⟨K.c.nm.toArray⟩,.slice K.oa K.c.op.length K.cap,.int .i64 K.c.rl,.int .i64 K.c.se,.int .i64 K.c.mo,.slice K.oO K.O.length K.cO,.slice K.oP K.P.length K.cP,K.qn,K.qd,.slice (some ⟨K.wb,0,none⟩) K.c.op.length K.c.op.length,G.nv,.slice (some ⟨K.kb,0,none⟩) K.c.op.length K.c.op.length,.slice (some ⟨K.cb,0,none⟩) K.c.op.length K.c.op.length,.slice (some ⟨K.mb,0,none⟩) K.c.op.length K.c.op.length,G.ev]
def YU(K:HK)(S:St)(G:HG)(k:Nat):t0:= #[.slice (some ⟨K.rg k,0,none⟩) (S.V k).rk.length (K.rn k),G.wn k,G.wd k,.int .i64 ((S.V k).nx:Int)]
def jbZ(K:HK)(G:HG):t0:=((List.range K.c.op.length).map G.pv).toArray
def jjf(K:HK)(G:HG):t0:=((List.range K.c.op.length).flatMap fun i=> [G.kn i,G.kd i]).toArray
def XZ(n:Nat)(f:Nat→Bool):t0:=((List.range n).map fun i=>Value.bool (f i)).toArray
def Kh(K:HK)(l:E0):A0:=l.map fun k=>Value.pointer (some ⟨K.pb k,0,none⟩)
def YX(cs:t0):Prop:= ∀u∈cs.toList,noLimb u=true
structure yB(K:HK)(q:Fr)(S:St)(G:HG)(w:m0):Prop where
 bel:O0 K.w0.heap.size K.w0 w
 hall:w.heap[K.hb]?=some (.cells (jel K G) 116 (0,0))
 withs:w.heap[K.wb]?=some (.cells (jbZ K G) 113 (0,0))
 kepts:w.heap[K.kb]?=some (.cells (jjf K G) 90 (0,0))
 conts:w.heap[K.cb]?=some (.cells (XZ K.c.op.length S.cont) 4 (0,0))
 moveds:w.heap[K.mb]?=some (.cells (XZ K.c.op.length S.moved) 4 (0,0))
 cm:K.cb≠K.mb
 papers: ∀k,k<K.m→w.heap[K.pb k]?=some (.cells (YU K S G k) 168 (0,0))
 pinj: ∀k j,k<K.m→j<K.m→K.pb k=K.pb j→k=j
 ranks: ∀k,k<K.m→w.heap[K.rg k]?=some (.cells (K.rc k) 3 (0,0))∧K.rg k<K.eb
 rkc: ∀k,k<K.m→ ∀j (h:j<(S.V k).rk.length),(K.rc k)[j]?=some (.int .i64 (((S.V k).rk[j]:Nat):Int))
 rkl: ∀k,k<K.m→(S.V k).rk.length≤K.rn k∧(S.V k).rk.length≤12∧(S.V k).nx≤(S.V k).rk.length
 wts: ∀k,k<K.m→FrV w (S.V k).wt (G.wn k) (G.wd k)
 keps: ∀i,i<K.c.op.length→FrV w (S.kept i) (G.kn i) (G.kd i)
 quo:FrV w q K.qn K.qd
 piles: ∀i,i<K.c.op.length→GRow noLimb w K.w0.heap.size 165 1 (G.pv i) (G.PL (some i)).length (Kh K (G.PL (some i)))
 nones:GRow noLimb w K.w0.heap.size 165 1 G.nv (G.PL none).length (Kh K (G.PL none))
 apart: ∀i j,i<K.c.op.length→j<K.c.op.length→i≠j→VG (G.pv i) (G.pv j)
 apartN: ∀i,i<K.c.op.length→VG (G.pv i) G.nv
 pls: ∀o,(G.PL o).Nodup∧ ∀k∈G.PL o,k<K.m∧(S.V k).wi=o
 els:GRow noLimb w K.eb 3 1 G.ev S.el.length (xq (S.el.map fun i:Nat=>(i:Int)))
 bases:K.w0.heap.size≤K.hb∧K.w0.heap.size≤K.wb∧K.w0.heap.size≤K.kb∧K.w0.heap.size≤K.cb∧K.w0.heap.size≤K.mb∧K.w0.heap.size≤K.eb∧ ∀k,k<K.m→K.w0.heap.size≤K.pb k
 contb: ∀i,S.cont i=true→i<K.c.op.length
 ebs:K.eb≤w.heap.size
section
variable {K:HK} {q:Fr} {S:St} {G:HG} {w w':m0}
theorem Yu(h:yB K q S G w):YX (jel K G):=by
 obtain⟨o1,c1,o2,c2,h1,h2,_⟩:=h.quo;have h3:noLimb G.nv=true:=by
  rcases h.nones.own.2 with⟨e,_⟩|⟨g,cap,Es,e,_⟩<;>rw [e]<;>rfl
 have h4:noLimb G.ev=true:=by
  rcases h.els.own.2 with⟨e,_⟩|⟨g,cap,Es,e,_⟩<;>rw [e]<;>rfl
 intro u hu;simp only [jel,jl,kD,kH]at hu;rcases hu with rfl|rfl|rfl|rfl|rfl|rfl|rfl|rfl|rfl|rfl|rfl|rfl|rfl|rfl|rfl<;>first|rfl|assumption|(rw [h1];rfl)|(rw [h2];rfl)
theorem jau(h:yB K q S G w){k:Nat}(hk:k<K.m):YX (YU K S G k):=by
 have h1:=(h.wts k hk).noLimb;intro u hu;simp only [YU,jl,kD,kH]at hu;rcases hu with rfl|rfl|rfl|rfl;·rfl
 ·exact h1.1
 ·exact h1.2.1
 ·rfl
theorem Ka(n:Nat)(f:Nat→Bool):YX (XZ n f):=by
 intro u hu;simp only [XZ,jo]at hu;obtain⟨i,_,rfl⟩:=hu;rfl
theorem XO(h:yB K q S G w):YX (jbZ K G):=by
 intro u hu;simp only [jbZ,jo,jk]at hu;obtain⟨i,hi,rfl⟩:=hu;rcases(h.piles i hi).own.2 with⟨e,_⟩|⟨g,cap,Es,e,_⟩<;>rw [e]<;>rfl
theorem jbs(h:yB K q S G w):YX (jjf K G):=by
 intro u hu;simp only [jjf,qj,jk,jl,kD,kH]at hu;obtain⟨i,hi,rfl|rfl⟩:=hu;·exact(h.keps i hi).noLimb.1
 ·exact(h.keps i hi).noLimb.2.1
theorem zR {b b':Nat}{cs gv:t0}{T T':o0}{f f':Nat×Nat}(h:w.heap[b]?=some (.cells cs T f))(h':w.heap[b']?=some (.cells gv T' f'))(hT:T≠T'):b≠b':=fun e=>by
 subst e;rw [h]at h';injection h' with h';injection h' with _ h';exact hT h'
theorem yB.below(h:yB K q S G w)(hb:O0 w.heap.size w w'):yB K q S G w':=by
 have t:=Trn.of_below hb 0 K.w0.heap.size
 exact⟨t.below h.bel,t.keepX h.hall (by simp),t.keepX h.withs (by simp),t.keepX h.kepts (by simp),t.keepX h.conts (by simp),t.keepX h.moveds (by simp),h.cm,
  fun k hk=>t.keepX (h.papers k hk) (by simp),h.pinj,fun k hk=>⟨t.keepX (h.ranks k hk).1 (by simp),(h.ranks k hk).2⟩,h.rkc,h.rkl,fun k hk=>t.fr (h.wts k hk),fun i hi=>t.fr (h.keps i hi),t.fr h.quo,
  fun i hi=>(h.piles i hi).kept t.grown (by cases (G.pv i).ownBlock<;>simp),h.nones.kept t.grown (by cases G.nv.ownBlock<;>simp),h.apart,h.apartN,h.pls,h.els.kept t.grown (by cases G.ev.ownBlock<;>simp),h.bases,h.contb,jU h.ebs t.grown.size⟩
theorem yB.paper(h:yB K q S G w){k:Nat}(hk:k<K.m)(nx:Nat)(wt:Fr)(a b:n0)(ho:yG (K.pb k) w w')
 (hp:w'.heap[K.pb k]?=some (.cells #[.slice (some ⟨K.rg k,0,none⟩) (S.V k).rk.length (K.rn k),a,b,.int .i64 (nx:Int)] 168 (0,0))) (WH:nx≤(S.V k).rk.length) (hf:FrV w wt a b):
 yB K q ⟨upd S.V k ⟨(S.V k).rk,nx,(S.V k).wi,wt⟩,S.cont,S.moved,S.kept,S.el⟩ ⟨G.pv,G.nv,G.ev,G.PL,upd G.wn k a,upd G.wd k b,G.kn,G.kd⟩ w':=by
 have t:Trn 168 K.w0.heap.size (some (K.pb k)) w w':=Trn.of_only ho (h.papers k hk) (h.bases.2.2.2.2.2.2 k hk) (jau h hk);have Pu: ∀j,(upd S.V k ⟨(S.V k).rk,nx,(S.V k).wi,wt⟩ j).rk=(S.V j).rk:=fun j=>by
  unfold upd;split;·rename_i e;rw [e]
  ·rfl
 have Hy: ∀j,(upd S.V k ⟨(S.V k).rk,nx,(S.V k).wi,wt⟩ j).wi=(S.V j).wi:=fun j=>by
  unfold upd;split;·rename_i e;rw [e]
  ·rfl
 refine⟨t.below h.bel,t.keep h.hall (by decide),t.keep h.withs (by decide),t.keep h.kepts (by decide),t.keep h.conts (by decide),t.keep h.moveds (by decide),h.cm,
  fun j hj=>?_,h.pinj,fun j hj=>⟨t.keep (h.ranks j hj).1 (by decide),(h.ranks j hj).2⟩,fun j hj=>?_,fun j hj=>?_,fun j hj=>?_,fun i hi=>t.fr (h.keps i hi),t.fr h.quo,
  fun i hi=>t.rowT (h.piles i hi) (by decide),t.rowT h.nones (by decide),h.apart,h.apartN,fun o=>⟨(h.pls o).1,fun j hj=>⟨((h.pls o).2 j hj).1,(Hy j).trans ((h.pls o).2 j hj).2⟩⟩,t.rowT h.els (by decide),h.bases,h.contb,jU h.ebs t.grown.size⟩
 ·by_cases e:j=k
  ·subst e;rw [hp];simp only [YU,xp]
  ·rw [t.keepX (h.papers j hj) (fun e2=>e (h.pinj _ _ hj hk (by injection e2 with e2;exact e2.symm)))];simp only [YU,xw _ _ _ _ e]
 ·show ∀i (hi:i<(upd S.V k ⟨(S.V k).rk,nx,(S.V k).wi,wt⟩ j).rk.length),(K.rc j)[i]?=some (.int .i64 ((((upd S.V k ⟨(S.V k).rk,nx,(S.V k).wi,wt⟩ j).rk[i]:Nat)):Int));rw [Pu];exact h.rkc j hj
 ·show _∧_∧(upd S.V k ⟨(S.V k).rk,nx,(S.V k).wi,wt⟩ j).nx≤_;rw [Pu];refine⟨(h.rkl j hj).1,(h.rkl j hj).2.1,?_⟩;by_cases e:j=k;·subst e;rw [xp];exact WH
  ·rw [xw _ _ _ _ e];exact(h.rkl j hj).2.2
 ·show FrV w' (upd S.V k ⟨(S.V k).rk,nx,(S.V k).wi,wt⟩ j).wt (upd G.wn k a j) (upd G.wd k b j);by_cases e:j=k;·subst e;rw [xp,xp,xp];exact t.fr hf
  ·rw [xw _ _ _ _ e,xw _ _ _ _ e,xw _ _ _ _ e];exact t.fr (h.wts j hj)
theorem Xi {β:Type}(f:Nat→β)(n i:Nat)(x:β)(hi:i<n):((List.range n).map (upd f i x)).toArray=((List.range n).map f).toArray.setIfInBounds i x:=by
 apply Array.ext_getElem?;intro j;simp only [jE,Array.getElem?_setIfInBounds,qe,xQ,xI,kS,ku];by_cases hj:j<n
 ·rw [xQ hj];by_cases e:i=j;·subst e;rw [jP rfl,jP hi];simp [xp]
  ·rw [jQ e];simp [xw _ _ _ _ (fun e2:j=i=>e e2.symm)]
 ·rw [kR (by simpa using hj)];by_cases e:i=j;·omega
  ·rw [jQ e];rfl
theorem yB.piled(h:yB K q S G w){i k:Nat}(hi:i<K.c.op.length)(hk:k<K.m)(Bx: ∀o,k∉G.PL o){w1:m0}{v':n0}{g:Nat}(hg:w.grownBy w1 (G.pv i).ownBlock)
 (hr:GRow noLimb w1 K.w0.heap.size 165 1 v' ((G.PL (some i)).length+1) (Kh K (G.PL (some i))++ [.pointer (some ⟨K.pb k,0,none⟩)])) (hv:v'.ownBlock=some g) (hf:(G.pv i).ownBlock=some g∨g=w.heap.size)
 (hw:(S.V k).wi=some i):
 yB K q S ⟨upd G.pv i v',G.nv,G.ev,upd G.PL (some i) (G.PL (some i)++ [k]),G.wn,G.wd,G.kn,G.kd⟩ (w1.setCell ⟨K.wb,i,none⟩ v'):=by
 have t1:Trn 165 K.w0.heap.size (G.pv i).ownBlock w w1:=⟨hg,GRow.typed (h.piles i hi)⟩;have ts:=t1.keep h.withs (by decide);have t2:Trn 113 K.w0.heap.size (some K.wb) w1 (w1.setCell ⟨K.wb,i,none⟩ v'):=Trn.of_only (yC i v') ts h.bases.2.1 (XO h);have Cs: ∀{v:n0} {l:E0},GRow noLimb w K.w0.heap.size 165 1 v l.length (Kh K l)→VG (G.pv i) v→v.ownBlock=none∨v.ownBlock≠(G.pv i).ownBlock:=fun {v l} hr ha=>by
  rcases ha.symm with h1|h1;·exact .inl h1
  ·exact .inr h1
 have hap: ∀{v:n0} {l:E0},GRow noLimb w K.w0.heap.size 165 1 v l.length (Kh K l)→VG (G.pv i) v→VG v' v:=fun {v l} hr ha=>jbf hv hr.own ha hf
 refine⟨t2.below (t1.below h.bel),t2.keep (t1.keep h.hall (by decide)) (by decide),?_,t2.keep (t1.keep h.kepts (by decide)) (by decide),t2.keep (t1.keep h.conts (by decide)) (by decide),t2.keep (t1.keep h.moveds (by decide)) (by decide),h.cm,
  fun j hj=>t2.keep (t1.keep (h.papers j hj) (by decide)) (by decide),h.pinj,fun j hj=>⟨t2.keep (t1.keep (h.ranks j hj).1 (by decide)) (by decide),(h.ranks j hj).2⟩,h.rkc,h.rkl,fun j hj=>t2.fr (t1.fr (h.wts j hj)),fun j hj=>t2.fr (t1.fr (h.keps j hj)),t2.fr (t1.fr h.quo),
  fun j hj=>?_,?_,fun j l hj hl By=>?_,fun j hj=>?_,fun o=>?_,t2.rowT (t1.rowT h.els (by decide)) (by decide),h.bases,h.contb,jU h.ebs (jU t1.grown.size t2.grown.size)⟩
 ·rw [jd w1 K.wb i _ _ v' ts];unfold jbZ;rw [Xi _ _ _ _ hi]
 ·by_cases e:j=i
  ·subst e;show GRow noLimb _ _ _ _ (upd G.pv j v' j) (upd G.PL (some j) (G.PL (some j)++ [k]) (some j)).length (Kh K (upd G.PL (some j) (G.PL (some j)++ [k]) (some j)));rw [xp,xp];have h1:=t2.rowT hr (by decide);unfold Kh at*;rw [qk,jZ];exact h1
  ·show GRow noLimb _ _ _ _ (upd G.pv i v' j) (upd G.PL (some i) (G.PL (some i)++ [k]) (some j)).length (Kh K (upd G.PL (some i) (G.PL (some i)++ [k]) (some j)));rw [xw _ _ _ _ e,xw _ _ _ _ (by intro e2;injection e2 with e2;exact e e2)];exact t2.rowT (t1.row (h.piles j hj) (Cs (h.piles j hj) (h.apart i j hi hj (fun e2=>e e2.symm)))) (by decide)
 ·show GRow noLimb _ _ _ _ G.nv (upd G.PL (some i) (G.PL (some i)++ [k]) none).length (Kh K (upd G.PL (some i) (G.PL (some i)++ [k]) none));rw [xw _ _ _ _ (by simp)];exact t2.rowT (t1.row h.nones (Cs h.nones (h.apartN i hi))) (by decide)
 ·show VG (upd G.pv i v' j) (upd G.pv i v' l);by_cases e:j=i
  ·subst e;rw [xp,xw _ _ _ _ (fun e2=>By e2.symm)];exact hap (h.piles l hl) (h.apart j l hj hl By)
  ·rw [xw _ _ _ _ e];by_cases e2:l=i
   ·subst e2;rw [xp];exact(hap (h.piles j hj) (h.apart l j hl hj (fun e3=>e e3.symm))).symm
   ·rw [xw _ _ _ _ e2];exact h.apart j l hj hl By
 ·show VG (upd G.pv i v' j) G.nv;by_cases e:j=i;·subst e;rw [xp];exact hap h.nones (h.apartN j hj)
  ·rw [xw _ _ _ _ e];exact h.apartN j hj
 ·show(upd G.PL (some i) (G.PL (some i)++ [k]) o).Nodup∧ ∀j∈upd G.PL (some i) (G.PL (some i)++ [k]) o,_;by_cases e:o=some i
  ·subst e;rw [xp];refine⟨vH.2 ⟨(h.pls _).1,by simp,fun a ha b hb e=>?_⟩,fun j hj=>?_⟩
   ·rw [jm.1 hb]at e;exact Bx _ (e▸ha)
   ·rcases jj.1 hj with hj|hj;·exact(h.pls _).2 j hj
    ·rw [jm.1 hj];exact⟨hk,hw⟩
  ·rw [xw _ _ _ _ e];exact h.pls o
theorem yB.noned(h:yB K q S G w){k:Nat}(hk:k<K.m)(Bx: ∀o,k∉G.PL o){w1:m0}{v':n0}{g:Nat}(hg:w.grownBy w1 G.nv.ownBlock)
 (hr:GRow noLimb w1 K.w0.heap.size 165 1 v' ((G.PL none).length+1) (Kh K (G.PL none)++ [.pointer (some ⟨K.pb k,0,none⟩)])) (hv:v'.ownBlock=some g) (hf:G.nv.ownBlock=some g∨g=w.heap.size)
 (hw:(S.V k).wi=none):
 yB K q S ⟨G.pv,v',G.ev,upd G.PL none (G.PL none++ [k]),G.wn,G.wd,G.kn,G.kd⟩ (w1.setCell ⟨K.hb,10,none⟩ v'):=by
 have t1:Trn 165 K.w0.heap.size G.nv.ownBlock w w1:=⟨hg,GRow.typed h.nones⟩;have ts:=t1.keep h.hall (by decide);have t2:Trn 116 K.w0.heap.size (some K.hb) w1 (w1.setCell ⟨K.hb,10,none⟩ v'):=Trn.of_only (yC 10 v') ts h.bases.1 (Yu h)
 refine⟨t2.below (t1.below h.bel),?_,t2.keep (t1.keep h.withs (by decide)) (by decide),t2.keep (t1.keep h.kepts (by decide)) (by decide),t2.keep (t1.keep h.conts (by decide)) (by decide),t2.keep (t1.keep h.moveds (by decide)) (by decide),h.cm,
  fun j hj=>t2.keep (t1.keep (h.papers j hj) (by decide)) (by decide),h.pinj,fun j hj=>⟨t2.keep (t1.keep (h.ranks j hj).1 (by decide)) (by decide),(h.ranks j hj).2⟩,h.rkc,h.rkl,fun j hj=>t2.fr (t1.fr (h.wts j hj)),fun j hj=>t2.fr (t1.fr (h.keps j hj)),t2.fr (t1.fr h.quo),
  fun j hj=>?_,?_,h.apart,fun j hj=>?_,fun o=>?_,t2.rowT (t1.rowT h.els (by decide)) (by decide),h.bases,h.contb,jU h.ebs (jU t1.grown.size t2.grown.size)⟩
 ·rw [jd w1 K.hb 10 _ _ v' ts];rfl
 ·show GRow noLimb _ _ _ _ (G.pv j) (upd G.PL none (G.PL none++ [k]) (some j)).length (Kh K (upd G.PL none (G.PL none++ [k]) (some j)));rw [xw _ _ _ _ (by simp)];refine t2.rowT (t1.row (h.piles j hj) ?_) (by decide);rcases h.apartN j hj with h1|h1;·exact .inl h1
  ·exact .inr h1
 ·show GRow noLimb _ _ _ _ v' (upd G.PL none (G.PL none++ [k]) none).length (Kh K (upd G.PL none (G.PL none++ [k]) none));rw [xp];have h1:=t2.rowT hr (by decide);unfold Kh at*;rw [qk,jZ];exact h1
 ·exact(jbf hv (h.piles j hj).own (h.apartN j hj).symm hf).symm
 ·show(upd G.PL none (G.PL none++ [k]) o).Nodup∧ ∀j∈upd G.PL none (G.PL none++ [k]) o,_;by_cases e:o=none
  ·subst e;rw [xp];refine⟨vH.2 ⟨(h.pls _).1,by simp,fun a ha b hb e=>?_⟩,fun j hj=>?_⟩
   ·rw [jm.1 hb]at e;exact Bx _ (e▸ha)
   ·rcases jj.1 hj with hj|hj;·exact(h.pls _).2 j hj
    ·rw [jm.1 hj];exact⟨hk,hw⟩
  ·rw [xw _ _ _ _ e];exact h.pls o
theorem yB.taken(h:yB K q S G w){i:Nat}(hi:i<K.c.op.length):
 yB K q S ⟨upd G.pv i (.slice none 0 0),G.nv,G.ev,upd G.PL (some i) [],G.wn,G.wd,G.kn,G.kd⟩ (w.setCell ⟨K.wb,i,none⟩ (.slice none 0 0)):=by
 have t2:Trn 113 K.w0.heap.size (some K.wb) w (w.setCell ⟨K.wb,i,none⟩ (.slice none 0 0)):=Trn.of_only (yC i _) h.withs h.bases.2.1 (XO h)
 refine⟨t2.below h.bel,t2.keep h.hall (by decide),?_,t2.keep h.kepts (by decide),t2.keep h.conts (by decide),t2.keep h.moveds (by decide),h.cm,
  fun j hj=>t2.keep (h.papers j hj) (by decide),h.pinj,fun j hj=>⟨t2.keep (h.ranks j hj).1 (by decide),(h.ranks j hj).2⟩,h.rkc,h.rkl,fun j hj=>t2.fr (h.wts j hj),fun j hj=>t2.fr (h.keps j hj),t2.fr h.quo,
  fun j hj=>?_,?_,fun j l hj hl By=>?_,fun j hj=>?_,fun o=>?_,t2.rowT h.els (by decide),h.bases,h.contb,jU h.ebs t2.grown.size⟩
 ·rw [jd w K.wb i _ _ _ h.withs];unfold jbZ;rw [Xi _ _ _ _ hi]
 ·show GRow noLimb _ _ _ _ (upd G.pv i (.slice none 0 0) j) (upd G.PL (some i) [] (some j)).length (Kh K (upd G.PL (some i) [] (some j)));by_cases e:j=i;·subst e;rw [xp,xp];exact GRow.nil
  ·rw [xw _ _ _ _ e,xw _ _ _ _ (by intro e2;injection e2 with e2;exact e e2)];exact t2.rowT (h.piles j hj) (by decide)
 ·show GRow noLimb _ _ _ _ G.nv (upd G.PL (some i) [] none).length (Kh K (upd G.PL (some i) [] none));rw [xw _ _ _ _ (by simp)];exact t2.rowT h.nones (by decide)
 ·show VG (upd G.pv i (.slice none 0 0) j) (upd G.pv i (.slice none 0 0) l);by_cases e:j=i;·subst e;rw [xp];exact .inl rfl
  ·rw [xw _ _ _ _ e];by_cases e2:l=i;·subst e2;rw [xp];exact VG.symm (.inl rfl)
   ·rw [xw _ _ _ _ e2];exact h.apart j l hj hl By
 ·show VG (upd G.pv i (.slice none 0 0) j) G.nv;by_cases e:j=i;·subst e;rw [xp];exact .inl rfl
  ·rw [xw _ _ _ _ e];exact h.apartN j hj
 ·show(upd G.PL (some i) [] o).Nodup∧ ∀j∈upd G.PL (some i) [] o,_;by_cases e:o=some i;·subst e;rw [xp];exact⟨List.nodup_nil,fun j hj=>by cases hj⟩
  ·rw [xw _ _ _ _ e];exact h.pls o
theorem jbe(n:Nat)(f:Nat→Bool)(i:Nat)(b:Bool)(hi:i<n):XZ n (upd f i b)=(XZ n f).setIfInBounds i (.bool b):=by
 unfold XZ;rw [←Xi _ _ _ _ hi];congr 1;refine qz fun j _=>?_;unfold upd;split<;>rfl
theorem yB.outed(h:yB K q S G w){i:Nat}(hi:i<K.c.op.length):yB K q ⟨S.V,upd S.cont i false,S.moved,S.kept,S.el⟩ G (w.setCell ⟨K.cb,i,none⟩ (.bool false)):=by
 have t2:Trn 4 K.w0.heap.size (some K.cb) w (w.setCell ⟨K.cb,i,none⟩ (.bool false)):=Trn.of_only (yC i _) h.conts h.bases.2.2.2.1 (Ka _ _)
 refine⟨t2.below h.bel,t2.keep h.hall (by decide),t2.keep h.withs (by decide),t2.keep h.kepts (by decide),?_,t2.keepX h.moveds (by intro e;injection e with e;exact h.cm e),h.cm,
  fun j hj=>t2.keep (h.papers j hj) (by decide),h.pinj,fun j hj=>⟨t2.keep (h.ranks j hj).1 (by decide),(h.ranks j hj).2⟩,h.rkc,h.rkl,fun j hj=>t2.fr (h.wts j hj),fun j hj=>t2.fr (h.keps j hj),t2.fr h.quo,
  fun j hj=>t2.rowT (h.piles j hj) (by decide),t2.rowT h.nones (by decide),h.apart,h.apartN,h.pls,t2.rowT h.els (by decide),h.bases,fun j hj=>?_,jU h.ebs t2.grown.size⟩
 ·rw [jd w K.cb i _ _ _ h.conts];show _=some (Obj.cells (XZ _ (upd S.cont i false)) _ _);rw [jbe _ _ _ _ hi]
 ·have Ew:upd S.cont i false j=true:=hj;unfold upd at Ew;split at Ew;·cases Ew
  ·exact h.contb j Ew
theorem yB.movd(h:yB K q S G w){i:Nat}(hi:i<K.c.op.length):yB K q ⟨S.V,S.cont,upd S.moved i true,S.kept,S.el⟩ G (w.setCell ⟨K.mb,i,none⟩ (.bool true)):=by
 have t2:Trn 4 K.w0.heap.size (some K.mb) w (w.setCell ⟨K.mb,i,none⟩ (.bool true)):=Trn.of_only (yC i _) h.moveds h.bases.2.2.2.2.1 (Ka _ _)
 refine⟨t2.below h.bel,t2.keep h.hall (by decide),t2.keep h.withs (by decide),t2.keep h.kepts (by decide),t2.keepX h.conts (by intro e;injection e with e;exact h.cm e.symm),?_,h.cm,
  fun j hj=>t2.keep (h.papers j hj) (by decide),h.pinj,fun j hj=>⟨t2.keep (h.ranks j hj).1 (by decide),(h.ranks j hj).2⟩,h.rkc,h.rkl,fun j hj=>t2.fr (h.wts j hj),fun j hj=>t2.fr (h.keps j hj),t2.fr h.quo,
  fun j hj=>t2.rowT (h.piles j hj) (by decide),t2.rowT h.nones (by decide),h.apart,h.apartN,h.pls,t2.rowT h.els (by decide),h.bases,h.contb,jU h.ebs t2.grown.size⟩
 ·rw [jd w K.mb i _ _ _ h.moveds];show _=some (Obj.cells (XZ _ (upd S.moved i true)) _ _);rw [jbe _ _ _ _ hi]
theorem yB.keeps(h:yB K q S G w){i:Nat}(hi:i<K.c.op.length){x:Fr}{a b:n0}(hf:FrV w x a b)(ho:yG K.kb w w')(hp:w'.heap[K.kb]?=some (.cells (jjf K ⟨G.pv,G.nv,G.ev,G.PL,G.wn,G.wd,upd G.kn i a,upd G.kd i b⟩) 90 (0,0))):
 yB K q ⟨S.V,S.cont,S.moved,upd S.kept i x,S.el⟩ ⟨G.pv,G.nv,G.ev,G.PL,G.wn,G.wd,upd G.kn i a,upd G.kd i b⟩ w':=by
 have t2:Trn 90 K.w0.heap.size (some K.kb) w w':=Trn.of_only ho h.kepts h.bases.2.2.1 (jbs h)
 refine⟨t2.below h.bel,t2.keep h.hall (by decide),t2.keep h.withs (by decide),hp,t2.keep h.conts (by decide),t2.keep h.moveds (by decide),h.cm,
  fun j hj=>t2.keep (h.papers j hj) (by decide),h.pinj,fun j hj=>⟨t2.keep (h.ranks j hj).1 (by decide),(h.ranks j hj).2⟩,h.rkc,h.rkl,fun j hj=>t2.fr (h.wts j hj),fun j hj=>?_,t2.fr h.quo,
  fun j hj=>t2.rowT (h.piles j hj) (by decide),t2.rowT h.nones (by decide),h.apart,h.apartN,h.pls,t2.rowT h.els (by decide),h.bases,h.contb,jU h.ebs t2.grown.size⟩
 show FrV w' (upd S.kept i x j) (upd G.kn i a j) (upd G.kd i b j);by_cases e:j=i;·subst e;rw [xp,xp,xp];exact t2.fr hf
 ·rw [xw _ _ _ _ e,xw _ _ _ _ e,xw _ _ _ _ e];exact t2.fr (h.keps j hj)
theorem yB.eld(h:yB K q S G w){i:Nat}{w1:m0}{v':n0}(hg:w.grownBy w1 G.ev.ownBlock)(hr:GRow noLimb w1 K.eb 3 1 v' (S.el.length+1) (xq (S.el.map fun i:Nat=>(i:Int))++ [.int .i64 (i:Int)])):
 yB K q ⟨S.V,S.cont,S.moved,S.kept,S.el++ [i]⟩ ⟨G.pv,G.nv,v',G.PL,G.wn,G.wd,G.kn,G.kd⟩ (w1.setCell ⟨K.hb,14,none⟩ v'):=by
 have t1:Trn 3 K.w0.heap.size G.ev.ownBlock w w1:=⟨hg,GRow.typed (GRow.lift h.els h.bases.2.2.2.2.2.1)⟩;have ts:=t1.keep h.hall (by decide);have t2:Trn 116 K.w0.heap.size (some K.hb) w1 (w1.setCell ⟨K.hb,14,none⟩ v'):=Trn.of_only (yC 14 v') ts h.bases.1 (Yu h)
 refine⟨t2.below (t1.below h.bel),?_,t2.keep (t1.keep h.withs (by decide)) (by decide),t2.keep (t1.keep h.kepts (by decide)) (by decide),t2.keep (t1.keep h.conts (by decide)) (by decide),t2.keep (t1.keep h.moveds (by decide)) (by decide),h.cm,
  fun j hj=>t2.keep (t1.keep (h.papers j hj) (by decide)) (by decide),h.pinj,fun j hj=>⟨t2.keep (t1.keepX (h.ranks j hj).1 ?_) (by decide),(h.ranks j hj).2⟩,h.rkc,h.rkl,fun j hj=>t2.fr (t1.fr (h.wts j hj)),fun j hj=>t2.fr (t1.fr (h.keps j hj)),t2.fr (t1.fr h.quo),
  fun j hj=>t2.rowT (t1.rowT (h.piles j hj) (by decide)) (by decide),t2.rowT (t1.rowT h.nones (by decide)) (by decide),h.apart,h.apartN,h.pls,?_,h.bases,h.contb,jU h.ebs (jU t1.grown.size t2.grown.size)⟩
 ·rw [jd w1 K.hb 14 _ _ v' ts];rfl
 ·intro e;have h1:=(GRow.typed h.els _ e).1;have h2:=(h.ranks j hj).2;omega
 ·show GRow noLimb _ _ _ _ v' (S.el++ [i]).length (xq ((S.el++ [i]).map fun i:Nat=>(i:Int)));have h1:=t2.rowT hr (by decide);rw [qk,jZ,←JW];exact h1
end
end Go.Proofs.YtnohcdpnnhmpfaaGreatDoor.TR
