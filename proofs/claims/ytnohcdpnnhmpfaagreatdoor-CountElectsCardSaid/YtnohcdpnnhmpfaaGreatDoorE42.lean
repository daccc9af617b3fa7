/- Chapter 13, the reference's Transfer: what lies in memory between two rounds, and BQ it is turned. -/
import Derived.Test.YtnohcdpnnhmpfaaGreatDoorE41
set_option linter.all false
namespace Go.Proofs.YtnohcdpnnhmpfaaGreatDoor.TR
open Go.RowKit Tryz ML FRP AU CT FM
structure Off(x:Fr)(a b:n0)(y:Nat):Prop where
 num:0<x.n→a.ownBlock≠some y
 den:0<x.d→b.ownBlock≠some y
theorem YD {M y:Nat}{x:Fr}{a b:n0}(h:jaa (fun z=>M≤z) a b)(hy:y<M):Off x a b y:=⟨fun _ e=>by have:=h.1 y e;omega,fun _ e=>by have:=h.2 y e;omega⟩
theorem jjg {w:m0}{oa:s0}{L:E0}{n ca:Nat}(h:IntsAt w oa L)(hL:L≠ []){y:Nat}(hy:(Value.slice oa n ca).ownBlock=some y):y<w.heap.size:=by
 obtain⟨a,h1,h2,_⟩:=h.cells 0 (qh.2 hL);subst h1;have e:a.block=y:=by injection hy
 rw [←e];exact h2
theorem jbc {n:Nat}(h:0<n):ND.dig n≠ []:=by rw [ND.JQ h];simp
theorem NrV.off_new {w:m0}{x:Fr}{a b:n0}(h:NrV w x a b){y:Nat}(hy:w.heap.size≤y):Off x a b y:=by
 obtain⟨oa,ca,ob,cb,rfl,rfl,h3⟩:=h;exact⟨fun h0 e=>by have:=jjg h3.num (jbc h0) e;omega,fun h0 e=>by have:=jjg h3.den (jbc h0) e;omega⟩
theorem jgK {w w':m0}{X:L0}{oa:s0}{L:E0}{n ca:Nat}(h:IntsAt w oa L)(hg:w.grownBy w' X)(hX: ∀y,X=some y→L≠ []→(Value.slice oa n ca).ownBlock≠some y):IntsAt w' oa L:=⟨fun i hi=>by
 obtain⟨a,h1,h2,h3⟩:=h.cells i hi;have Cs:L≠ []:=fun e=>by rw [e]at hi;simp at hi
 refine⟨a,h1,jW h2 hg.size,?_⟩
 rw [vA (w:=w) (by
  have hb:(a.add i).block=a.block:=yo a i;rw [hb];refine hg.block _ h2 (fun e=>?_);subst h1;exact hX a.block e.symm Cs rfl)]
 exact h3⟩
theorem NrV.turn {w w':m0}{X:L0}{x:Fr}{a b:n0}(h:NrV w x a b)(hg:w.grownBy w' X)(hX: ∀y,X=some y→Off x a b y):NrV w' x a b:=by
 obtain⟨oa,ca,ob,cb,rfl,rfl,h3⟩:=h;refine⟨oa,ca,ob,cb,rfl,rfl,⟨jgK (n:=(ND.dig x.n).length) (ca:=ca) h3.num hg (fun y hy Cs=>(hX y hy).num ?_),jgK (n:=(ND.dig x.d).length) (ca:=cb) h3.den hg (fun y hy Cs=>(hX y hy).den ?_)⟩⟩
 ·rcases vP x.n with e|e;·rw [e,ND.yi]at Cs;exact absurd rfl Cs
  ·exact e
 ·rcases vP x.d with e|e;·rw [e,ND.yi]at Cs;exact absurd rfl Cs
  ·exact e
theorem NrV.spare {w w':m0}{X:Nat}{x:Fr}{a b:n0}(h:NrV w x a b)(ho:yG X w w'){cs:t0}{T:o0}{f:Nat×Nat}(hX:w.heap[X]?=some (.cells cs T f))(hn:cs.all zE=true):NrV w' x a b:=by
 obtain⟨oa,ca,ob,cb,rfl,rfl,h3⟩:=h;exact⟨oa,ca,ob,cb,rfl,rfl,⟨h3.num.spared hX hn ho,h3.den.spared hX hn ho⟩⟩
structure RK where
 c:yH
 oa:s0
 cap:Nat
 m:Nat
 B:Nat
 RB:Nat
 OB:Nat
 NB:Nat
 QB:Nat
 OUT:Nat
 CV:Nat
 WV:Nat
 CA:Nat
 WA:Nat
 KA:Nat
 oO:s0
 cO:Nat
 O:E0
 vb:Nat→Nat
 ob:Nat→s0
 cb:Nat→Nat
 L:Nat→C0
 qa:n0
 qb:n0
 w0:m0
structure RG where
 ka:Nat→n0
 kb:Nat→n0
 wn:Nat→n0
 wd:Nat→n0
 rr:Nat→Nat
 wf:Nat→Bool
 ev:n0
def St.waits(S:St):Nat→Bool:=fun i=>decide (i∈S.el)&& !S.moved i
def jah(K:RK)(S:St)(G:RG)(k:Nat):t0:= #[.slice (K.ob k) (K.L k).length (K.cb k),.int .i64 (wiI (S.V k).wi),.int .i64 (G.rr k:Int),G.wn k,G.wd k]
def Jh(K:RK)(G:RG)(y:Nat):Prop:=(∃k,k<K.m∧y=K.vb k)∨G.ev.ownBlock=some y
structure yX(K:RK)(q:Fr)(S:St)(G:RG)(w:m0):Prop where
 bel:O0 K.w0.heap.size K.w0 w
 ctb:w.heap[K.B]?=some (.cells #[.string ⟨K.c.nm.toArray⟩,.slice K.oa K.c.op.length K.cap,.int .i64 K.c.rl,.int .i64 K.c.se,.int .i64 K.c.mo] 24 (0,0))
 res:w.heap[K.RB]?=some (.cells #[.string ⟨#[]⟩,.string ⟨#[]⟩,.slice none 0 0,.slice none 0 0] 31 (0,0))
 ordc:w.heap[K.OB]?=some (.cells #[.slice K.oO K.c.op.length K.cO] 29 (0,0))
 nc:w.heap[K.NB]?=some (.cells #[.int .i64 (K.c.op.length:Int)] 3 (0,0))
 qc:w.heap[K.QB]?=some (.cells #[K.qa,K.qb] 69 (0,0))
 cv:w.heap[K.CV]?=some (.cells #[.slice (some ⟨K.CA,0,none⟩) K.c.op.length K.c.op.length] 39 (0,0))
 wv:w.heap[K.WV]?=some (.cells #[.slice (some ⟨K.WA,0,none⟩) K.c.op.length K.c.op.length] 39 (0,0))
 ca:w.heap[K.CA]?=some (.cells (zp K.c.op.length S.cont).toArray 4 (0,0))
 wa:w.heap[K.WA]?=some (.cells (zp K.c.op.length G.wf).toArray 4 (0,0))
 cw:K.CA≠K.WA
 kar:w.heap[K.KA]?=some (.cells (yy K.c.op.length G.ka G.kb).toArray 69 (0,0))
 kq:K.KA≠K.QB
 vs: ∀k,k<K.m→w.heap[K.vb k]?=some (.cells (jah K S G k) 77 (0,0))
 vinj: ∀k j,k<K.m→j<K.m→K.vb k=K.vb j→k=j
 quo:NrV w q K.qa K.qb
 kfr: ∀i,i<K.c.op.length→NrV w (S.kept i) (G.ka i) (G.kb i)
 vfr: ∀k,k<K.m→NrV w (S.V k).wt (G.wn k) (G.wd k)
 vrk: ∀k,k<K.m→(S.V k).rk=Jb (K.L k)∧(S.V k).nx≤JK (K.L k)∧((S.V k).wi≠none→G.rr k=(S.V k).nx)
 bal: ∀k,k<K.m→yW K.w0 (K.ob k) (K.L k)∧Rnk K.c.op.length (K.L k)
 ord:yW K.w0 K.oO (yK K.O)
 els:w.ownsRow K.w0.heap.size 3 1 G.ev S.el.length (xq (yK S.el))
 bases:K.w0.heap.size≤K.CA∧K.w0.heap.size≤K.WA∧K.w0.heap.size≤K.KA∧ ∀k,k<K.m→K.w0.heap.size≤K.vb k
 oq: ∀y,Jh K G y→Off q K.qa K.qb y
 ok: ∀y,Jh K G y→ ∀i,i<K.c.op.length→Off (S.kept i) (G.ka i) (G.kb i) y
 ov: ∀y,Jh K G y→ ∀k,k<K.m→Off (S.V k).wt (G.wn k) (G.wd k) y
 en:G.ev.ownBlock≠some K.NB
section
variable {K:RK} {q:Fr} {S S':St} {G G':RG} {w w':m0}
theorem yX.below(h:yX K q S G w)(hb:O0 w.heap.size w w'):yX K q S G w':=
 {
  h with
  bel:=h.bel.trans (hb.mono h.bel.size)
  ctb:=xe hb (xZ h.ctb) h.ctb
  res:=xe hb (xZ h.res) h.res
  ordc:=xe hb (xZ h.ordc) h.ordc
  nc:=xe hb (xZ h.nc) h.nc
  qc:=xe hb (xZ h.qc) h.qc
  cv:=xe hb (xZ h.cv) h.cv
  wv:=xe hb (xZ h.wv) h.wv
  ca:=xe hb (xZ h.ca) h.ca
  wa:=xe hb (xZ h.wa) h.wa
  kar:=xe hb (xZ h.kar) h.kar
  vs:=fun k hk=>xe hb (xZ (h.vs k hk)) (h.vs k hk)
  quo:=h.quo.below hb
  kfr:=fun i hi=>(h.kfr i hi).below hb
  vfr:=fun k hk=>(h.vfr k hk).below hb
  els:=yA h.els hb}
theorem zD {b b':Nat}{cs gv:t0}{T T':o0}{f f':Nat×Nat}(h:w.heap[b]?=some (.cells cs T f))(h':w.heap[b']?=some (.cells gv T' f'))(hT:T≠T'):b≠b':=zR h h' hT
theorem jaG {l:A0}(h: ∀u∈l,zE u=true):l.toArray.all zE=true:=by
 simpa [kw] using h
theorem VD(n:Nat)(f:Nat→Bool):(zp n f).toArray.all zE=true:=jaG fun u hu=>by
 unfold zp at hu;obtain⟨j,_,hj⟩:=jo.1 hu;rw [←hj];rfl
theorem Zu {n:Nat}{xa xb:Nat→n0}{T:Nat→Fr}(h: ∀i,i<n→NrV w (T i) (xa i) (xb i)):(yy n xa xb).toArray.all zE=true:=jaG fun u hu=>by
 unfold yy at hu;obtain⟨j,hj,hx⟩:=qj.1 hu;obtain⟨oa,ca,ob,cb,e1,e2,_⟩:=h j (jk.1 hj);simp only [jl,kD,kH]at hx;rcases hx with hx|hx;·rw [hx,e1];rfl
 ·rw [hx,e2];rfl
theorem zZ {b0 n:Nat}{v:n0}{xs:A0}(h:w.ownsRow b0 3 1 v n xs){X:Nat}{cs:t0}{T:o0}{f:Nat×Nat}(hX:w.heap[X]?=some (.cells cs T f))(hT:3≠T):v.ownBlock≠some X:=fun e=>by
 rcases h.2 with⟨hv,_⟩|⟨g,cap,Es,hv,_,hg,_⟩;·rw [hv]at e;cases e
 ·rw [hv]at e;have e2:g=X:=by injection e
  subst e2;rw [hX]at hg;injection hg with hg;injection hg with _ hg;exact hT hg.symm
theorem JL {b0 n:Nat}{v:n0}{xs:A0}(h:w.ownsRow b0 3 1 v n xs){X:Nat}(ho:yG X w w')(Cs:v.ownBlock≠some X):w'.ownsRow b0 3 1 v n xs:=by
 refine⟨h.1,?_⟩;rcases h.2 with h'|⟨g,cap,Es,hv,hb,hg,rest⟩;·exact .inl h'
 ·refine .inr ⟨g,cap,Es,hv,hb,?_,rest⟩;rw [ho.block g (fun e=>Cs (by rw [hv,e];rfl))];exact hg
theorem yX.setCont(h:yX K q S G w)(f:Nat→Bool)(ho:yG K.CA w w')(hp:w'.heap[K.CA]?=some (.cells (zp K.c.op.length f).toArray 4 (0,0))):yX K q ⟨S.V,f,S.moved,S.kept,S.el⟩ G w':=by
 have k: ∀{b:Nat} {cs:t0} {T:o0},w.heap[b]?=some (.cells cs T (0,0))→4≠T→w'.heap[b]?=some (.cells cs T (0,0)):=fun {b cs T} hb hT=>by
  rw [ho.block b (zD h.ca hb hT).symm];exact hb
 have hn:=VD K.c.op.length S.cont
 exact {h with
  bel:=xl h.bel ho h.bases.1
  ctb:=k h.ctb (by decide)
  res:=k h.res (by decide)
  ordc:=k h.ordc (by decide)
  nc:=k h.nc (by decide)
  qc:=k h.qc (by decide)
  cv:=k h.cv (by decide)
  wv:=k h.wv (by decide)
  ca:=hp
  wa:=by rw [ho.block K.WA (fun e=>h.cw e.symm)];exact h.wa
  kar:=k h.kar (by decide)
  vs:=fun j hj=>k (h.vs j hj) (by decide)
  quo:=h.quo.spare ho h.ca hn
  kfr:=fun i hi=>(h.kfr i hi).spare ho h.ca hn
  vfr:=fun j hj=>(h.vfr j hj).spare ho h.ca hn
  els:=JL h.els ho (zZ h.els h.ca (by decide))}
theorem yX.setWait(h:yX K q S G w)(f:Nat→Bool)(ho:yG K.WA w w')(hp:w'.heap[K.WA]?=some (.cells (zp K.c.op.length f).toArray 4 (0,0))):yX K q S ⟨G.ka,G.kb,G.wn,G.wd,G.rr,f,G.ev⟩ w':=by
 have k: ∀{b:Nat} {cs:t0} {T:o0},w.heap[b]?=some (.cells cs T (0,0))→4≠T→w'.heap[b]?=some (.cells cs T (0,0)):=fun {b cs T} hb hT=>by
  rw [ho.block b (zD h.wa hb hT).symm];exact hb
 have hn:=VD K.c.op.length G.wf
 exact {h with
  bel:=xl h.bel ho h.bases.2.1
  ctb:=k h.ctb (by decide)
  res:=k h.res (by decide)
  ordc:=k h.ordc (by decide)
  nc:=k h.nc (by decide)
  qc:=k h.qc (by decide)
  cv:=k h.cv (by decide)
  wv:=k h.wv (by decide)
  ca:=by rw [ho.block K.CA (fun e=>h.cw e)];exact h.ca
  wa:=hp
  kar:=k h.kar (by decide)
  vs:=fun j hj=>k (h.vs j hj) (by decide)
  quo:=h.quo.spare ho h.wa hn
  kfr:=fun i hi=>(h.kfr i hi).spare ho h.wa hn
  vfr:=fun j hj=>(h.vfr j hj).spare ho h.wa hn
  els:=JL h.els ho (zZ h.els h.wa (by decide))}
theorem yX.setKept(h:yX K q S G w)(i:Nat)(ho:yG K.KA w w')(hp:w'.heap[K.KA]?=some (.cells (yy K.c.op.length (upd G.ka i K.qa) (upd G.kb i K.qb)).toArray 69 (0,0))):yX K q ⟨S.V,S.cont,S.moved,upd S.kept i q,S.el⟩ ⟨upd G.ka i K.qa,upd G.kb i K.qb,G.wn,G.wd,G.rr,G.wf,G.ev⟩ w':=by
 have k: ∀{b:Nat} {cs:t0} {T:o0},w.heap[b]?=some (.cells cs T (0,0))→69≠T→w'.heap[b]?=some (.cells cs T (0,0)):=fun {b cs T} hb hT=>by
  rw [ho.block b (zD h.kar hb hT).symm];exact hb
 have hn:=Zu h.kfr;have hq:=h.quo.spare ho h.kar hn
 exact {h with
  bel:=xl h.bel ho h.bases.2.2.1
  ctb:=k h.ctb (by decide)
  res:=k h.res (by decide)
  ordc:=k h.ordc (by decide)
  nc:=k h.nc (by decide)
  qc:=by rw [ho.block K.QB (fun e=>h.kq e.symm)];exact h.qc
  cv:=k h.cv (by decide)
  wv:=k h.wv (by decide)
  ca:=k h.ca (by decide)
  wa:=k h.wa (by decide)
  kar:=hp
  vs:=fun j hj=>k (h.vs j hj) (by decide)
  quo:=hq
  kfr:=fun j hj=>by
   by_cases e:j=i;·subst e;simp only [xp];exact hq
   ·simp only [xw _ _ _ _ e];exact(h.kfr j hj).spare ho h.kar hn
  vfr:=fun j hj=>(h.vfr j hj).spare ho h.kar hn
  els:=JL h.els ho (zZ h.els h.kar (by decide))
  ok:=fun y hy j hj=>by
   by_cases e:j=i;·subst e;simp only [xp];exact h.oq y hy
   ·simp only [xw _ _ _ _ e];exact h.ok y hy j hj}
theorem jlt {j k:Nat}(hj:j≠k)(x:Vo)(a b:n0)(r:Nat)(f:Nat→Bool):jah K (zF S k x) ⟨G.ka,G.kb,upd G.wn k a,upd G.wd k b,upd G.rr k r,f,G.ev⟩ j=jah K S G j:=by
 unfold jah zF;simp only [xw _ _ _ _ hj]
theorem yX.setVote(h:yX K q S G w){k:Nat}(hk:k<K.m)(x:Vo)(a b:n0)(r:Nat)(ho:yG (K.vb k) w w')
 (hp:w'.heap[K.vb k]?=some (.cells #[.slice (K.ob k) (K.L k).length (K.cb k),.int .i64 (wiI x.wi),.int .i64 (r:Int),a,b] 77 (0,0)))
 (hN:NrV w x.wt a b) (tC: ∀y,Jh K G y→Off x.wt a b y) (Pu:x.rk=(S.V k).rk) (WH:x.nx≤JK (K.L k)) (hr:x.wi≠none→r=x.nx):
 yX K q (zF S k x) ⟨G.ka,G.kb,upd G.wn k a,upd G.wd k b,upd G.rr k r,G.wf,G.ev⟩ w':=by
 have kp: ∀{b:Nat} {cs:t0} {T:o0},w.heap[b]?=some (.cells cs T (0,0))→77≠T→w'.heap[b]?=some (.cells cs T (0,0)):=fun {b cs T} hb hT=>by
  rw [ho.block b (zD (h.vs k hk) hb hT).symm];exact hb
 have hT:Jh K G (K.vb k):=.inl ⟨k,hk,rfl⟩;have hg:=xk ho;have tn: ∀{y:Fr} {c d:n0},NrV w y c d→Off y c d (K.vb k)→NrV w' y c d:=fun hy hf=>hy.turn hg fun z hz=>by injection hz with hz;subst hz;exact hf
 exact {h with
  bel:=xl h.bel ho (h.bases.2.2.2 k hk)
  ctb:=kp h.ctb (by decide)
  res:=kp h.res (by decide)
  ordc:=kp h.ordc (by decide)
  nc:=kp h.nc (by decide)
  qc:=kp h.qc (by decide)
  cv:=kp h.cv (by decide)
  wv:=kp h.wv (by decide)
  ca:=kp h.ca (by decide)
  wa:=kp h.wa (by decide)
  kar:=kp h.kar (by decide)
  vs:=fun j hj=>by
   by_cases e:j=k
   ·subst e;show w'.heap[K.vb j]?=some (.cells (jah K (zF S j x) _ j) _ _);rw [hp];unfold jah zF;simp only [xp]
   ·rw [jlt e,ho.block _ (fun e2=>e (h.vinj j k hj hk e2))];exact h.vs j hj
  quo:=tn h.quo (h.oq _ hT)
  kfr:=fun i hi=>tn (h.kfr i hi) (h.ok _ hT i hi)
  vfr:=fun j hj=>by
   by_cases e:j=k;·subst e;simp only [zF,xp];exact tn hN (tC _ hT)
   ·simp only [zF,xw _ _ _ _ e];exact tn (h.vfr j hj) (h.ov _ hT j hj)
  vrk:=fun j hj=>by
   by_cases e:j=k;·subst e;simp only [zF,xp];exact⟨Pu.trans (h.vrk j hj).1,WH,hr⟩
   ·simp only [zF,xw _ _ _ _ e];exact h.vrk j hj
  els:=JL h.els ho (zZ h.els (h.vs k hk) (by decide))
  ov:=fun y hy j hj=>by
   by_cases e:j=k;·subst e;simp only [zF,xp];exact tC y hy
   ·simp only [zF,xw _ _ _ _ e];exact h.ov y hy j hj}
theorem yX.addEl(h:yX K q S G w)(i:Nat){v:n0}(hg:w.grownBy w' G.ev.ownBlock)(own:w'.ownsRow K.w0.heap.size 3 1 v (S.el++ [i]).length (xq (yK (S.el++ [i]))))(hv: ∀y,v.ownBlock=some y→G.ev.ownBlock=some y∨w.heap.size≤y):
 yX K q ⟨S.V,S.cont,S.moved,S.kept,S.el++ [i]⟩ ⟨G.ka,G.kb,G.wn,G.wd,G.rr,G.wf,v⟩ w':=by
 have kp: ∀{b:Nat} {cs:t0} {T:o0},w.heap[b]?=some (.cells cs T (0,0))→3≠T→w'.heap[b]?=some (.cells cs T (0,0)):=fun {b cs T} hb hT=>by
  rw [hg.block b (xZ hb) (fun e=>zZ h.els hb hT e.symm)];exact hb
 have tn: ∀{y:Fr} {c d:n0},NrV w y c d→(∀z,Jh K G z→Off y c d z)→NrV w' y c d:=fun hy hf=>hy.turn hg fun z hz=>hf z (.inr hz);have tu: ∀{y:Fr} {c d:n0},NrV w y c d→(∀z,Jh K G z→Off y c d z)→ ∀z,Jh K ⟨G.ka,G.kb,G.wn,G.wd,G.rr,G.wf,v⟩ z→Off y c d z:=fun hy hf z hz=>by
  rcases hz with hz|hz;·exact hf z (.inl hz)
  ·rcases hv z hz with h1|h1;·exact hf z (.inr h1)
   ·exact hy.off_new h1
 exact {h with
  bel:=h.bel.grown hg h.bel.size (fun y hy=>(h.els.lt y hy).1)
  ctb:=kp h.ctb (by decide)
  res:=kp h.res (by decide)
  ordc:=kp h.ordc (by decide)
  nc:=by rw [hg.block K.NB (xZ h.nc) (fun e=>h.en e.symm)];exact h.nc
  qc:=kp h.qc (by decide)
  cv:=kp h.cv (by decide)
  wv:=kp h.wv (by decide)
  ca:=kp h.ca (by decide)
  wa:=kp h.wa (by decide)
  kar:=kp h.kar (by decide)
  vs:=fun j hj=>kp (h.vs j hj) (by decide)
  quo:=tn h.quo h.oq
  kfr:=fun j hj=>tn (h.kfr j hj) (fun z hz=>h.ok z hz j hj)
  vfr:=fun j hj=>tn (h.vfr j hj) (fun z hz=>h.ov z hz j hj)
  els:=own
  oq:=tu h.quo h.oq
  ok:=fun z hz j hj=>tu (h.kfr j hj) (fun z hz=>h.ok z hz j hj) z hz
  ov:=fun z hz j hj=>tu (h.vfr j hj) (fun z hz=>h.ov z hz j hj) z hz
  en:=fun e=>by
   rcases hv _ e with h1|h1;·exact h.en h1
   ·have:=xZ h.nc;omega}
end
end Go.Proofs.YtnohcdpnnhmpfaaGreatDoor.TR
namespace Go.Proofs.YtnohcdpnnhmpfaaGreatDoor.TR
open Go.RowKit Tryz ML FRP AU CT FM
structure VS(K:RK)(G:RG)(w:m0)(l:E0)(v:n0):Prop where
 ex: ∃g Du cap Es,v=.slice (some ⟨g,Du,none⟩) l.length cap∧w.heap[g]?=some (.cells Es 3 (0,0))∧(∀j (h:j<l.length),Es[Du+j]?=some (.int .i64 ((l[j]:Nat):Int)))∧ ¬Jh K G g∧K.w0.heap.size≤g
structure RdR(K:RK)(G:RG)(w:m0)(rd:Rd)(c:A0):Prop where
 ex: ∃tv wv,c= [tv,.string ⟨(txt rd.non).1.toArray⟩,.string ⟨(txt rd.non).2.toArray⟩,.int .i64 (rd.d:Int),wv]∧
  w.ownsRow K.w0.heap.size 27 2 tv rd.tots.length (JF (rd.tots.map txt))∧VS K G w rd.who wv
structure JG(K:RK)(q:Fr)(G:RG)(w:m0)(R:List Rd)(vR:n0)(CS:List (A0)):Prop where
 u:w.heap[K.OUT]?=some (.cells #[.string ⟨(txt q).1.toArray⟩,.string ⟨(txt q).2.toArray⟩,vR,G.ev] 31 (0,0))
 rows:w.ownsRow K.w0.heap.size 44 5 vR R.length CS.flatten
 len:CS.length=R.length
 each: ∀i (h:i<R.length) (h':i<CS.length),RdR K G w R[i] CS[i]
 ob:K.w0.heap.size≤K.OUT
 nr:K.OUT≠K.RB
section
variable {K:RK} {q:Fr} {G G':RG} {w w':m0} {R:List Rd} {vR:n0} {CS:List (A0)}
theorem zw {b0 n s:Nat}{e T:o0}{v:n0}{xs:A0}(h:w.ownsRow b0 e s v n xs){X:L0}(hg:w.grownBy w' X)(hX: ∀x,X=some x→ ∃cs f,w.heap[x]?=some (.cells cs T f))(Cs:e≠T):w'.ownsRow b0 e s v n xs:=by
 refine⟨h.1,?_⟩;rcases h.2 with h'|⟨g,cap,Es,hv,hb,hh,rest⟩;·exact .inl h'
 ·refine .inr ⟨g,cap,Es,hv,hb,?_,rest⟩;rw [hg.block g (xZ hh) (fun e2=>?_)];·exact hh
  ·obtain⟨cs,f,h2⟩:=hX g e2.symm;rw [hh]at h2;injection h2 with h2;injection h2 with _ h2;exact Cs h2
theorem VS.turn {l:E0}{v:n0}(h:VS K G w l v){X:L0}(hg:w.grownBy w' X)(hX: ∀x,X=some x→Jh K G x∨ ∃cs T f,w.heap[x]?=some (.cells cs T f)∧T≠3)(hv: ∀y,G'.ev.ownBlock=some y→G.ev.ownBlock=some y∨w.heap.size≤y):VS K G' w' l v:=by
 obtain⟨g,Du,cap,Es,h1,h2,h3,h4,h5⟩:=h.ex;refine⟨g,Du,cap,Es,h1,?_,h3,?_,h5⟩
 ·rw [hg.block g (xZ h2) (fun e=>?_)];·exact h2
  ·rcases hX g e.symm with h6|⟨cs,T,f,h6,h7⟩;·exact h4 h6
   ·rw [h2]at h6;injection h6 with h6;injection h6 with _ h6;exact h7 h6.symm
 ·rintro(h6|h6);·exact h4 (.inl h6)
  ·rcases hv g h6 with h7|h7;·exact h4 (.inr h7)
   ·have:=xZ h2;omega
theorem RdR.turn {rd:Rd}{c:A0}(h:RdR K G w rd c){X:L0}(hg:w.grownBy w' X)(hX: ∀x,X=some x→ ∃cs T f,w.heap[x]?=some (.cells cs T f)∧T≠27∧(Jh K G x∨T≠3))(hv: ∀y,G'.ev.ownBlock=some y→G.ev.ownBlock=some y∨w.heap.size≤y):RdR K G' w' rd c:=by
 obtain⟨tv,wv,h1,h2,h3⟩:=h.ex;refine⟨tv,wv,h1,?_,h3.turn hg (fun x hx=>?_) hv⟩
 ·cases CM:X with
  |none=>exact zw (T:=0) h2 hg (fun x hx=>by rw [CM]at hx;cases hx) (by decide)
  |
   some x=>
   obtain⟨cs,T,f,g1,g2,_⟩:=hX x CM;exact zw (T:=T) h2 hg (fun y hy=>by rw [CM]at hy;injection hy with hy;subst hy;exact⟨cs,f,g1⟩) (fun e=>g2 e.symm)
 ·obtain⟨cs,T,f,g1,_,g3⟩:=hX x hx;rcases g3 with g3|g3;·exact .inl g3
  ·exact .inr ⟨cs,T,f,g1,g3⟩
theorem JG.turn(h:JG K q G w R vR CS){X:L0}(hg:w.grownBy w' X)(hX: ∀x,X=some x→ ∃cs T f,w.heap[x]?=some (.cells cs T f)∧T≠27∧T≠44∧T≠31∧(Jh K G x∨T≠3))(hv:G'.ev=G.ev):JG K q G' w' R vR CS:=by
 have hk:w'.heap[K.OUT]?=w.heap[K.OUT]?:=hg.block K.OUT (xZ h.u) (fun e=>by
  obtain⟨cs,T,f,g1,_,_,g2,_⟩:=hX _ e.symm;rw [h.u]at g1;injection g1 with g1;injection g1 with _ g1;exact g2 g1.symm)
 refine⟨by rw [hk,hv];exact h.u,?_,h.len,fun i hi Cx=>(h.each i hi Cx).turn hg (fun x hx=>?_) (fun y hy=>.inl (by rw [hv]at hy;exact hy)),h.ob,h.nr⟩
 ·cases CM:X with
  |none=>exact zw (T:=0) h.rows hg (fun x hx=>by rw [CM]at hx;cases hx) (by decide)
  |
   some x=>
   obtain⟨cs,T,f,g1,_,g2,_⟩:=hX x CM;exact zw (T:=T) h.rows hg (fun y hy=>by rw [CM]at hy;injection hy with hy;subst hy;exact⟨cs,f,g1⟩) (fun e=>g2 e.symm)
 ·obtain⟨cs,T,f,g1,g2,_,_,g3⟩:=hX x hx;exact⟨cs,T,f,g1,g2,g3⟩
theorem JG.below(h:JG K q G w R vR CS)(hb:O0 w.heap.size w w'):JG K q G w' R vR CS:=h.turn (X:=none) ⟨hb.os,hb.tape,hb.output,hb.size,fun k hk _=>hb.block k hk⟩ (fun x hx=>by cases hx) rfl
theorem JG.addEl(h:JG K q G w R vR CS){v:n0}(hg:w.grownBy w' G.ev.ownBlock)(hE: ∀y,G.ev.ownBlock=some y→ ∃cs f,w.heap[y]?=some (.cells cs 3 f))(hv: ∀y,v.ownBlock=some y→G.ev.ownBlock=some y∨w.heap.size≤y):
 JG K q ⟨G.ka,G.kb,G.wn,G.wd,G.rr,G.wf,v⟩ (w'.setCell ⟨K.OUT,3,none⟩ v) R vR CS:=by
 have hk:w'.heap[K.OUT]?=w.heap[K.OUT]?:=hg.block K.OUT (xZ h.u) (fun e=>by
  obtain⟨cs,f,g1⟩:=hE _ e.symm;rw [h.u]at g1;injection g1 with g1;injection g1 with _ g1;exact absurd g1 (by decide))
 have dM:w'.heap[K.OUT]?=some (.cells #[.string ⟨(txt q).1.toArray⟩,.string ⟨(txt q).2.toArray⟩,vR,G.ev] 31 (0,0)):=by rw [hk];exact h.u
 have Hu:w'.grownBy (w'.setCell ⟨K.OUT,3,none⟩ v) (some K.OUT):=xk (yC 3 v);have hX1: ∀x,G.ev.ownBlock=some x→ ∃cs T f,w.heap[x]?=some (.cells cs T f)∧T≠27∧(Jh K G x∨T≠3):=fun x hx=>by
  obtain⟨cs,f,g1⟩:=hE x hx;exact⟨cs,_,f,g1,by decide,.inl (.inr hx)⟩
 refine⟨jd w' K.OUT 3 _ _ _ dM,?_,h.len,fun i hi Cx=>?_,h.ob,h.nr⟩
 ·have r1:w'.ownsRow K.w0.heap.size 44 5 vR R.length CS.flatten:=zw (T:=3) h.rows hg hE (by decide);exact zw (T:=31) r1 Hu (fun x hx=>by injection hx with hx;subst hx;exact⟨_,_,dM⟩) (by decide)
 ·have r1:RdR K ⟨G.ka,G.kb,G.wn,G.wd,G.rr,G.wf,v⟩ w' R[i] CS[i]:=(h.each i hi Cx).turn hg hX1 hv;exact r1.turn Hu (fun x hx=>by injection hx with hx;subst hx;exact⟨_,_,_,dM,by decide,.inr (by decide)⟩) (fun y hy=>.inl hy)
theorem JG.push(h:JG K q G w R vR CS){wa wx:m0}{v':n0}(hb:O0 w.heap.size w wa)(hg:wa.grownBy wx vR.ownBlock){rd:Rd}{c:A0}{n:Nat}(hn:n=R.length+1)
 (own:wx.ownsRow K.w0.heap.size 44 5 v' n (CS.flatten++c)) (he:RdR K G w rd c):
 wx.cell? ⟨K.OUT,2,none⟩=some vR∧wx.frozen? ⟨K.OUT,2,none⟩=false∧K.OUT<wx.heap.size∧JG K q G (wx.setCell ⟨K.OUT,2,none⟩ v') (R++ [rd]) v' (CS++ [c]):=by
 subst hn;have ha:=h.below hb;have hE: ∀y,vR.ownBlock=some y→ ∃cs f,wa.heap[y]?=some (.cells cs 44 f):=fun y hy=>by
  rcases ha.rows.2 with⟨hv,_⟩|⟨g,cap,Es,hv,_,Cz,_⟩;·rw [hv]at hy;cases hy
  ·rw [hv]at hy;have e:g=y:=by injection hy
   subst e;exact⟨_,_,Cz⟩
 have hk:wx.heap[K.OUT]?=wa.heap[K.OUT]?:=hg.block K.OUT (xZ ha.u) (fun e=>by
  obtain⟨cs,f,g1⟩:=hE _ e.symm;rw [ha.u]at g1;injection g1 with g1;injection g1 with _ g1;exact absurd g1 (by decide))
 have dM:wx.heap[K.OUT]?=some (.cells #[.string ⟨(txt q).1.toArray⟩,.string ⟨(txt q).2.toArray⟩,vR,G.ev] 31 (0,0)):=by rw [hk];exact ha.u
 have Hu:wx.grownBy (wx.setCell ⟨K.OUT,2,none⟩ v') (some K.OUT):=xk (yC 2 v');have Rv: ∀{rd':Rd} {c':A0},RdR K G wa rd' c'→RdR K G (wx.setCell ⟨K.OUT,2,none⟩ v') rd' c':=fun h1=>by
  have h2:RdR K G wx _ _:=h1.turn hg (fun x hx=>by obtain⟨cs,f,g1⟩:=hE x hx;exact⟨cs,_,f,g1,by decide,.inr (by decide)⟩) (fun y hy=>.inl hy);exact h2.turn Hu (fun x hx=>by injection hx with hx;subst hx;exact⟨_,_,_,dM,by decide,.inr (by decide)⟩) (fun y hy=>.inl hy)
 have nZ:w.grownBy wa none:=⟨hb.os,hb.tape,hb.output,hb.size,fun k hk _=>hb.block k hk⟩;refine⟨jM wx K.OUT 2 _ _ _ dM,jc wx K.OUT 2 _ _ dM,xZ dM,jd wx K.OUT 2 _ _ _ dM,?_,by simp [h.len],fun i hi Cx=>?_,h.ob,h.nr⟩
 ·have e:(CS++ [c]).flatten=CS.flatten++c:=by simp
  rw [e,jZ,kM];exact zw (T:=31) own Hu (fun x hx=>by injection hx with hx;subst hx;exact⟨_,_,dM⟩) (by decide)
 ·by_cases hl:i<R.length
  ·have hl':i<CS.length:=by rw [h.len];exact hl
   rw [xV hl,xV hl'];exact Rv (ha.each i hl hl')
  ·have e1:i=R.length:=by simp at hi;omega
   have e2:i=CS.length:=by rw [h.len];exact e1
   have g1:(R++ [rd])[i]=rd:=by subst e1;simp
   have g2:(CS++ [c])[i]=c:=by subst e2;simp
   rw [g1,g2];exact Rv (he.turn nZ (fun x hx=>by cases hx) (fun y hy=>.inl hy))
end
end Go.Proofs.YtnohcdpnnhmpfaaGreatDoor.TR
namespace Go.Proofs.YtnohcdpnnhmpfaaGreatDoor.TR
open FRP
section
variable {n s m:Nat} {q:Fr} {O:E0} {S:St}
theorem ZQ(S:St)(k:Nat)(i:L0):S.pile (k+1) i=S.pile k i++if(S.V k).wi=i then [k]else []:=by
 unfold St.pile;rw [qI,qY];congr 1;by_cases h:(S.V k).wi=i;·rw [jP h];simp [h]
 ·rw [jQ h];simp [h]
theorem jlA(S:St)(i:Nat):S.tot 0 i=S.kept i:=rfl
theorem jmn(S:St):S.non 0=zero:=rfl
theorem joG {k i:Nat}(h:(S.V k).wi=some i):S.tot (k+1) i=(S.tot k i).add (S.V k).wt:=by
 unfold St.tot;rw [ZQ,jP h,qk];unfold Qy;rw [List.foldl_append];rfl
theorem jiS {k i:Nat}(h:(S.V k).wi≠some i):S.tot (k+1) i=S.tot k i:=by
 unfold St.tot;rw [ZQ,jQ h,qG]
theorem joS {k:Nat}(h:(S.V k).wi=none):S.non (k+1)=(S.non k).add (S.V k).wt:=by
 unfold St.non;rw [ZQ,jP h,qk];unfold Qy;rw [List.foldl_append];rfl
theorem jnS {k:Nat}(h:(S.V k).wi≠none):S.non (k+1)=S.non k:=by
 unfold St.non;rw [ZQ,jQ h,qG]
theorem Inv.tot_sml(h:Inv n s m q O S)(hn:n≤12)(hm:m≤4096){k:Nat}(hk:k≤m){i:Nat}(hi:i<n):Sml (S.tot k i):=h.ksum_sml hn hm hi (Vr k S (some i)) (fun j hj=>by have:=(KP.1 hj).1;omega)
theorem Inv.non_sml(h:Inv n s m q O S)(hn:n≤12)(hm:m≤4096){k:Nat}(hk:k≤m):Sml (S.non k):=h.sum_sml hn hm (Vr k S none) (fun j hj=>by have:=(KP.1 hj).1;omega)
theorem jnO(h:Inv n s m q O S):(O.filter fun i=>S.cont i&&decide (0<VM (S.tot m i) q))=S.over m q O:=by
 unfold St.over St.still;rw [xH];refine vS fun i _=>?_;have e:decide (0<VM (S.tot m i) q)=decide (q.v<(S.tot m i).v):=by
  rcases Qb (h.tok i).1 h.qok.1 with⟨h1,h2⟩|⟨h1,h2⟩|⟨h1,h2⟩;·rw [h1,jS (by decide),jS (by grind)]
  ·rw [h1,jS (by decide),jS (by grind)]
  ·rw [h1,jT (by decide),jT h2]
 rw [e,Bool.and_comm]
theorem Rk.ex(T:Nat→Fr)(O l:E0)(hl: ∀i∈l,i∈O)(hd:l.Nodup): ∃r,Rk T O l r:=by
 induction l with
 |nil=>exact⟨[],List.Perm.refl _,List.Pairwise.nil⟩
 |
  cons x l ih=>
  obtain⟨r,h1,h2⟩:=ih (fun i hi=>hl i (by simp [hi])) (vh.1 hd).2;have hx:x∉r:=fun hx=>(vh.1 hd).1 (h1.mem_iff.1 hx);have hxO:=hl x (by simp);have Rv: ∀r:E0,(∀i∈r,i∈O)→x∉r→r.Pairwise (bef T O)→ ∃r':E0,r'.Perm (x::r)∧r'.Pairwise (bef T O):=by
   intro r hr hx hp
   induction r with
   |nil=>exact⟨[x],List.Perm.refl _,by simp⟩
   |
    cons y r ih2=>
    obtain⟨sw,Ru⟩:=List.pairwise_cons.1 hp;have Uu:x≠y:=fun e=>hx (by simp [e]);by_cases hb:bef T O x y
    ·refine⟨x::y::r,List.Perm.refl _,List.pairwise_cons.2 ⟨fun z hz=>?_,hp⟩⟩;rcases jl.1 hz with rfl|hz;·exact hb
     ·exact jeB _ _ _ _ _ hb (sw z hz)
    ·
      have aJ:bef T O y x:=by
       have CD:O.idxOf x≠O.idxOf y:=fun e=>Uu (jji hxO (hr y (by simp)) e);unfold bef at*;grind
      obtain⟨r',h3,h4⟩:=ih2 (fun i hi=>hr i (by simp [hi])) (fun e=>hx (by simp [e])) Ru;refine⟨y::r',(List.Perm.cons y h3).trans (List.Perm.swap x y r),List.pairwise_cons.2 ⟨fun z hz=>?_,h4⟩⟩;rcases jl.1 (h3.mem_iff.1 hz)with rfl|hz;·exact aJ
      ·exact sw z hz
  obtain⟨r',h3,h4⟩:=Rv r (fun i hi=>hl i (by simp [h1.mem_iff.1 hi])) hx h2;exact⟨r',h3.trans (List.Perm.cons x h1),h4⟩
def goK(S:St)(c:Nat→Bool)(i:Nat)(f:Fr)(k:Nat):St:=⟨fun j=>if j<k then S.goOn c i f j else S.V j,S.cont,S.moved,S.kept,S.el⟩
theorem jmH(S:St)(c:Nat→Bool)(i:Nat)(f:Fr):goK S c i f 0=S:=by
 unfold goK;congr 1
theorem jmK(S:St)(c:Nat→Bool)(i:Nat)(f:Fr)(k:Nat):(goK S c i f k).V k=S.V k:=jQ (Nat.lt_irrefl k)
theorem jgO(S:St)(c:Nat→Bool)(i:Nat)(f:Fr)(k:Nat):goK S c i f (k+1)=zF (goK S c i f k) k (S.goOn c i f k):=by
 unfold goK zF;congr 1;funext j;by_cases e:j=k;·subst e;rw [xp,jP (Nat.lt_succ_self j)]
 ·rw [xw _ _ _ _ e];by_cases hj:j<k;·rw [jP (by omega)];exact(jP hj).symm
  ·rw [jQ (by omega)];exact(jQ hj).symm
theorem jmJ {c:Nat→Bool}{i:Nat}{f:Fr}{k:Nat}(h:(S.V k).wi≠some i):goK S c i f (k+1)=goK S c i f k:=by
 rw [jgO,St.goOn_out h]
 conv=>rhs;rw [←jdz (goK S c i f k) k,jmK]
theorem jmI {c:Nat→Bool}{i:Nat}{f:Fr}{k:Nat}(h:(S.V k).wi=some i):goK S c i f (k+1)=zF (goK S c i f k) k (((S.V k).by f).go c):=by
 rw [jgO,St.goOn_in h]
end
end Go.Proofs.YtnohcdpnnhmpfaaGreatDoor.TR
namespace Go.Proofs.YtnohcdpnnhmpfaaGreatDoor.TR
open Go.RowKit Tryz ML FRP AU CT FM
def XU(n:Nat):Code→Option Code
 | .block m c=>if m=n then some (.block m c)else XU n c
 |
  .seq a b=>match XU n a with
  |some c=>some c
  |none=>XU n b
 |
  .cond _ a b=>match XU n a with
  |some c=>some c
  |none=>XU n b
 | .loop c=>XU n c
 | .scope c=>XU n c
 |_=>none
noncomputable def jfZ(n:Nat):Code:=((Tryz.f10.body.bind (XU n)).getD .skip)
theorem jeo {n i:Nat}{xa xb:Nat→n0}(a b:n0)(hi:i<n):((yy n xa xb).set (i*2) a).set (i*2+1) b=yy n (upd xa i a) (upd xb i b):=by
 have hl: ∀(xa xb:Nat→n0),(yy n xa xb).length=n*2:=fun xa xb=>JU n xa xb;apply List.ext_getElem?;intro j;have hj:j=(j/2)*2∨j=(j/2)*2+1:=by omega
 simp only [List.getElem?_set,kE,hl];by_cases az:j/2<n
 ·obtain⟨g1,g2⟩:=QU n xa xb (j/2) az;obtain⟨g3,g4⟩:=QU n (upd xa i a) (upd xb i b) (j/2) az;rcases hj with hj|hj
  ·rw [jQ (show ¬(i*2+1=j)by omega)];by_cases e:i=j/2
   ·rw [jP (show i*2=j by omega),jP (by omega)];rw [hj,g3,←e,xp]
   ·rw [jQ (show ¬(i*2=j)by omega),hj,g1,g3,xw _ _ _ _ (fun e2=>e e2.symm)]
  ·by_cases e:i=j/2
   ·rw [jP (show i*2+1=j by omega),jP (by omega)];rw [hj,g4,←e,xp]
   ·rw [jQ (show ¬(i*2+1=j)by omega),jQ (show ¬(i*2=j)by omega),hj,g2,g4,xw _ _ _ _ (fun e2=>e e2.symm)]
 ·rw [jQ (show ¬(i*2+1=j)by omega),jQ (show ¬(i*2=j)by omega),kR (by rw [hl];omega),kR (by rw [hl];omega)]
theorem NrV.slices {w:m0}{x:Fr}{a b:n0}(h:NrV w x a b):zE a=true∧zE b=true:=by
 obtain⟨oa,ca,ob,cb,rfl,rfl,_⟩:=h;exact⟨rfl,rfl⟩
structure Jo(w:m0)(base g cg n:Nat)(T:Nat→Fr)(xa xb:Nat→n0):Prop where
 row:GRow zE w base 69 2 (.slice (some ⟨g,0,none⟩) n cg) n (yy n xa xb)
 frs: ∀i,i<n→NrV w (T i) (xa i) (xb i)
section
variable {w w':m0} {base g cg n:Nat} {T:Nat→Fr} {xa xb:Nat→n0}
theorem Jo.tot(h:Jo w base g cg n T xa xb):jfP w base g cg n T xa xb:=⟨h.row.own,h.frs⟩
theorem Jo.below(h:Jo w base g cg n T xa xb)(hb:O0 w.heap.size w w'):Jo w' base g cg n T xa xb:=⟨h.row.below hb,fun i hi=>(h.frs i hi).below hb⟩
theorem Jo.congr {T':Nat→Fr}(h:Jo w base g cg n T xa xb)(e: ∀i,i<n→T' i=T i):Jo w base g cg n T' xa xb:=⟨h.row,fun i hi=>by rw [e i hi];exact h.frs i hi⟩
theorem Jo.only(h:Jo w base g cg n T xa xb){X:Nat}(ho:yG X w w'){cs:t0}{t:o0}{f:Nat×Nat}(hX:w.heap[X]?=some (.cells cs t f))(hn:cs.all zE=true)(Cs:g≠X):Jo w' base g cg n T xa xb:=
 ⟨h.row.kept (xk ho) (.inr (by intro e;injection e with e;exact Cs e)),fun i hi=>(h.frs i hi).spare ho hX hn⟩
theorem Jo.blk(h:Jo w base g cg n T xa xb): ∃Es,w.heap[g]?=some (.cells Es 69 (0,0))∧Es.all zE=true:=by
 rcases h.row.own.2 with⟨h0,_⟩|⟨g2,CF,Es,h0,_,hg,_⟩;·cases h0
 ·injection h0 with h0;injection h0 with h0;injection h0 with h0;subst h0;exact⟨Es,hg,Array.all_eq_true_iff_forall_mem.2 fun u hu=>h.row.all g Es _ _ rfl hg u (by simpa using hu)⟩
theorem Jo.there(h:Jo w base g cg n T xa xb){i:Nat}(hi:i<n):w.there g (i*2) 2:=fun j hj=>by
 rcases h.row.own.2 with⟨h0,_⟩|⟨g2,CF,Es,h0,_,hg,px,_,Dz,_⟩;·cases h0
 ·injection h0 with h0;injection h0 with h0;injection h0 with h0;subst h0;rw [jM w g (i*2+j) Es _ _ hg];exact⟨by simp;omega,jc w g (i*2+j) Es _ hg⟩
theorem Jo.put(h:Jo w base g cg n T xa xb){i:Nat}(hi:i<n){x:Fr}{a b:n0}(hN:NrV w x a b):Jo (w.setCells g (i*2) [a,b]) base g cg n (upd T i x) (upd xa i a) (upd xb i b):=by
 obtain⟨Es,hg,hn⟩:=h.blk;have ho:yG g w (w.setCells g (i*2) [a,b]):=zf g [a,b] (i*2) w;refine⟨?_,fun j hj=>?_⟩
 ·have:=(h.row.stored (i*2) a hN.slices.1).stored (i*2+1) b hN.slices.2;rw [jeo a b hi]at this;exact this
 ·by_cases e:j=i
  ·subst e;rw [xp,xp,xp];exact hN.spare ho hg hn
  ·rw [xw _ _ _ _ e,xw _ _ _ _ e,xw _ _ _ _ e];exact(h.frs j hj).spare ho hg hn
end
structure zH(K:RK)(w:m0)(oV:s0):Prop where
 cells: ∀k,k<K.m→ ∃a,oV=some a∧a.block<w.heap.size∧w.cell? (a.add k)=some (.pointer (some ⟨K.vb k,0,none⟩))
 typ: ∀a,oV=some a→ ∃cs f,w.heap[a.block]?=some (.cells cs 75 f)
theorem zH.below {K:RK}{w w':m0}{oV:s0}(h:zH K w oV)(hb:O0 w.heap.size w w'):zH K w' oV:=
 ⟨
  fun k hk=>by
  obtain⟨a,h1,h2,h3⟩:=h.cells k hk;exact⟨a,h1,jW h2 hb.size,(hb.cell (by rw [yo];exact h2)).trans h3⟩,
  fun a ha=>by
   obtain⟨cs,f,h1⟩:=h.typ a ha;exact⟨cs,f,(hb.block _ (xZ h1)).trans h1⟩⟩
theorem zH.only {K:RK}{w w':m0}{oV:s0}(h:zH K w oV){X:L0}(hg:w.grownBy w' X)(hX: ∀x,X=some x→ ∃cs T f,w.heap[x]?=some (.cells cs T f)∧T≠75):zH K w' oV:=by
 have Cs: ∀a,oV=some a→some a.block≠X:=fun a ha e=>by
  obtain⟨cs,f,h1⟩:=h.typ a ha;obtain⟨cs2,T,f2,h2,h3⟩:=hX a.block e.symm;rw [h1]at h2;injection h2 with h2;injection h2 with _ h2;exact h3 h2.symm
 refine⟨fun k hk=>?_,fun a ha=>?_⟩
 ·obtain⟨a,h1,h2,h3⟩:=h.cells k hk;refine⟨a,h1,jW h2 hg.size,?_⟩;rw [vA (w:=w) (by rw [yo];exact hg.block _ h2 (Cs a h1))];exact h3
 ·obtain⟨cs,f,h1⟩:=h.typ a ha;exact⟨cs,f,(hg.block _ (xZ h1) (Cs a ha)).trans h1⟩
end Go.Proofs.YtnohcdpnnhmpfaaGreatDoor.TR
