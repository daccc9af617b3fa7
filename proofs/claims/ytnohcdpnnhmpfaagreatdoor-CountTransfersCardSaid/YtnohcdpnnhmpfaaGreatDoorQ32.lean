/-
  Chapter 13, the reference's Transfer: what lies in memory between two rounds, and how it is turned.
  Chapter 13, the reference's Transfer: what is answered, while it grows: rounds and elected.
  Chapter 13, the reference's Transfer: sums vote by vote, what is done, votes gone on one by one: the plain law. No program in sight.
  Chapter 13: what Lots answers. Printed by tools/genmost.py.
-/
import Derived.Test.YtnohcdpnnhmpfaaGreatDoorQ31
import Derived.Test.YtnohcdpnnhmpfaaGreatDoorQ27
import Derived.Test.YtnohcdpnnhmpfaaGreatDoorQ30
import Derived.Test.YtnohcdpnnhmpfaaGreatDoorQ25
import Derived.Test.YtnohcdpnnhmpfaaGreatDoorQ18
set_option linter.unusedVariables false
set_option linter.unusedSimpArgs false
namespace Go.Proofs.YtnohcdpnnhmpfaaGreatDoor.TR
open Go.RowKit ML FRP AU CT FM
structure Off(x:Fr)(a b:Value)(y:Nat):Prop where
 num:0<x.n→a.ownBlock≠some y
 den:0<x.d→b.ownBlock≠some y
theorem XJ {M y:Nat}{x:Fr}{a b:Value}(h:Yy (fun z=>M≤z) a b)(hy:y<M):Off x a b y:=⟨fun _ e=>by have:=h.1 y e;omega,fun _ e=>by have:=h.2 y e;omega⟩
theorem jhj {w:World}{oa:Option Addr}{L:List Nat}{n ca:Nat}(h:IntsAt w oa L)(hL:L≠ []){y:Nat}(hy:(Value.slice oa n ca).ownBlock=some y):y<w.heap.size:=by
 obtain⟨a,h1,h2,_⟩:=h.cells 0 (qO.2 hL);subst h1;have e:a.block=y:=by injection hy
 rw [←e];exact h2
theorem Zy {n:Nat}(h:0<n):ND.dig n≠ []:=by rw [ND.zt h];simp
theorem NrV.off_new {w:World}{x:Fr}{a b:Value}(h:NrV w x a b){y:Nat}(hy:w.heap.size≤y):Off x a b y:=by
 obtain⟨oa,ca,ob,cb,rfl,rfl,h3⟩:=h;exact⟨fun h0 e=>by have:=jhj h3.num (Zy h0) e;omega,fun h0 e=>by have:=jhj h3.den (Zy h0) e;omega⟩
theorem jeZ {w w':World}{X:Option Nat}{oa:Option Addr}{L:List Nat}{n ca:Nat}(h:IntsAt w oa L)(hg:w.grownBy w' X)(hX: ∀y,X=some y→L≠ []→(Value.slice oa n ca).ownBlock≠some y):IntsAt w' oa L:=⟨fun i hi=>by
 obtain⟨a,h1,h2,h3⟩:=h.cells i hi;have hne:L≠ []:=fun e=>by rw [e]at hi;simp at hi
 refine⟨a,h1,jV h2 hg.size,?_⟩
 rw [qh (w:=w) (by
  have hb:(a.add i).block=a.block:=yM a i;rw [hb];refine hg.block _ h2 (fun e=>?_);subst h1;exact hX a.block e.symm hne rfl)]
 exact h3⟩
theorem NrV.turn {w w':World}{X:Option Nat}{x:Fr}{a b:Value}(h:NrV w x a b)(hg:w.grownBy w' X)(hX: ∀y,X=some y→Off x a b y):NrV w' x a b:=by
 obtain⟨oa,ca,ob,cb,rfl,rfl,h3⟩:=h;refine⟨oa,ca,ob,cb,rfl,rfl,⟨jeZ (n:=(ND.dig x.n).length) (ca:=ca) h3.num hg (fun y hy hne=>(hX y hy).num ?_),jeZ (n:=(ND.dig x.d).length) (ca:=cb) h3.den hg (fun y hy hne=>(hX y hy).den ?_)⟩⟩
 ·rcases qz x.n with e|e;·rw [e,ND.yP]at hne;exact absurd rfl hne
  ·exact e
 ·rcases qz x.d with e|e;·rw [e,ND.yP]at hne;exact absurd rfl hne
  ·exact e
theorem NrV.spare {w w':World}{X:Nat}{x:Fr}{a b:Value}(h:NrV w x a b)(ho:xp X w w'){cs:Array Value}{T:TypeId}{f:Nat×Nat}(hX:w.heap[X]?=some (.cells cs T f))(hn:cs.all ym=true):NrV w' x a b:=by
 obtain⟨oa,ca,ob,cb,rfl,rfl,h3⟩:=h;exact⟨oa,ca,ob,cb,rfl,rfl,⟨h3.num.spared hX hn ho,h3.den.spared hX hn ho⟩⟩
structure RK where
 c:yE
 oa:Option Addr
 cap:Nat
 m:Nat
 B:Nat
 RB:Nat
 OB:Nat
 NB:Nat
 QB:Nat
 OUT:Nat
 CV:Nat
 WV:Nat
 CA:Nat
 WA:Nat
 KA:Nat
 oO:Option Addr
 cO:Nat
 O:List Nat
 vb:Nat→Nat
 ob:Nat→Option Addr
 cb:Nat→Nat
 L:Nat→List Int
 qa:Value
 qb:Value
 w0:World
structure RG where
 ka:Nat→Value
 kb:Nat→Value
 wn:Nat→Value
 wd:Nat→Value
 rr:Nat→Nat
 wf:Nat→Bool
 ev:Value
def St.waits(S:St):Nat→Bool:=fun i=>decide (i∈S.el)&& !S.moved i
def ZF(K:RK)(S:St)(G:RG)(k:Nat):Array Value:= #[.slice (K.ob k) (K.L k).length (K.cb k),.int .i64 (wiI (S.V k).wi),.int .i64 (G.rr k:Int),G.wn k,G.wd k]
def JK(K:RK)(G:RG)(y:Nat):Prop:=(∃k,k<K.m∧y=K.vb k)∨G.ev.ownBlock=some y
structure yI(K:RK)(q:Fr)(S:St)(G:RG)(w:World):Prop where
 bel:Below K.w0.heap.size K.w0 w
 ctb:w.heap[K.B]?=some (.cells #[.string ⟨K.c.nm.toArray⟩,.slice K.oa K.c.op.length K.cap,.int .i64 K.c.rl,.int .i64 K.c.se,.int .i64 K.c.mo] 24 (0,0))
 res:w.heap[K.RB]?=some (.cells #[.string ⟨#[]⟩,.string ⟨#[]⟩,.slice none 0 0,.slice none 0 0] 31 (0,0))
 ordc:w.heap[K.OB]?=some (.cells #[.slice K.oO K.c.op.length K.cO] 29 (0,0))
 nc:w.heap[K.NB]?=some (.cells #[.int .i64 (K.c.op.length:Int)] 3 (0,0))
 qc:w.heap[K.QB]?=some (.cells #[K.qa,K.qb] 69 (0,0))
 cv:w.heap[K.CV]?=some (.cells #[.slice (some ⟨K.CA,0,none⟩) K.c.op.length K.c.op.length] 39 (0,0))
 wv:w.heap[K.WV]?=some (.cells #[.slice (some ⟨K.WA,0,none⟩) K.c.op.length K.c.op.length] 39 (0,0))
 ca:w.heap[K.CA]?=some (.cells (zO K.c.op.length S.cont).toArray 4 (0,0))
 wa:w.heap[K.WA]?=some (.cells (zO K.c.op.length G.wf).toArray 4 (0,0))
 cw:K.CA≠K.WA
 kar:w.heap[K.KA]?=some (.cells (yg K.c.op.length G.ka G.kb).toArray 69 (0,0))
 kq:K.KA≠K.QB
 vs: ∀k,k<K.m→w.heap[K.vb k]?=some (.cells (ZF K S G k) 77 (0,0))
 vinj: ∀k j,k<K.m→j<K.m→K.vb k=K.vb j→k=j
 quo:NrV w q K.qa K.qb
 kfr: ∀i,i<K.c.op.length→NrV w (S.kept i) (G.ka i) (G.kb i)
 vfr: ∀k,k<K.m→NrV w (S.V k).wt (G.wn k) (G.wd k)
 vrk: ∀k,k<K.m→(S.V k).rk=JE (K.L k)∧(S.V k).nx≤zo (K.L k)∧((S.V k).wi≠none→G.rr k=(S.V k).nx)
 bal: ∀k,k<K.m→yj K.w0 (K.ob k) (K.L k)∧Rnk K.c.op.length (K.L k)
 ord:yj K.w0 K.oO (xq K.O)
 els:w.ownsRow K.w0.heap.size 3 1 G.ev S.el.length (xU (xq S.el))
 bases:K.w0.heap.size≤K.CA∧K.w0.heap.size≤K.WA∧K.w0.heap.size≤K.KA∧ ∀k,k<K.m→K.w0.heap.size≤K.vb k
 oq: ∀y,JK K G y→Off q K.qa K.qb y
 ok: ∀y,JK K G y→ ∀i,i<K.c.op.length→Off (S.kept i) (G.ka i) (G.kb i) y
 ov: ∀y,JK K G y→ ∀k,k<K.m→Off (S.V k).wt (G.wn k) (G.wd k) y
 en:G.ev.ownBlock≠some K.NB
section
variable {K:RK} {q:Fr} {S S':St} {G G':RG} {w w':World}
theorem yI.below(h:yI K q S G w)(hb:Below w.heap.size w w'):yI K q S G w':=
 {
  h with
  bel:=h.bel.trans (hb.mono h.bel.size)
  ctb:=xK hb (lt_of_heap h.ctb) h.ctb
  res:=xK hb (lt_of_heap h.res) h.res
  ordc:=xK hb (lt_of_heap h.ordc) h.ordc
  nc:=xK hb (lt_of_heap h.nc) h.nc
  qc:=xK hb (lt_of_heap h.qc) h.qc
  cv:=xK hb (lt_of_heap h.cv) h.cv
  wv:=xK hb (lt_of_heap h.wv) h.wv
  ca:=xK hb (lt_of_heap h.ca) h.ca
  wa:=xK hb (lt_of_heap h.wa) h.wa
  kar:=xK hb (lt_of_heap h.kar) h.kar
  vs:=fun k hk=>xK hb (lt_of_heap (h.vs k hk)) (h.vs k hk)
  quo:=h.quo.below hb
  kfr:=fun i hi=>(h.kfr i hi).below hb
  vfr:=fun k hk=>(h.vfr k hk).below hb
  els:=xk h.els hb}
theorem yl {b b':Nat}{cs cs':Array Value}{T T':TypeId}{f f':Nat×Nat}(h:w.heap[b]?=some (.cells cs T f))(h':w.heap[b']?=some (.cells cs' T' f'))(hT:T≠T'):b≠b':=yy h h' hT
theorem Zc {l:List Value}(h: ∀u∈l,ym u=true):l.toArray.all ym=true:=by
 simpa [kr] using h
theorem QV(n:Nat)(f:Nat→Bool):(zO n f).toArray.all ym=true:=Zc fun u hu=>by
 unfold zO at hu;obtain⟨j,_,hj⟩:=jl.1 hu;rw [←hj];rfl
theorem Yt {n:Nat}{xa xb:Nat→Value}{T:Nat→Fr}(h: ∀i,i<n→NrV w (T i) (xa i) (xb i)):(yg n xa xb).toArray.all ym=true:=Zc fun u hu=>by
 unfold yg at hu;obtain⟨j,hj,hx⟩:=qs.1 hu;obtain⟨oa,ca,ob,cb,e1,e2,_⟩:=h j (jf.1 hj);simp only [jg,jv,jx]at hx;rcases hx with hx|hx;·rw [hx,e1];rfl
 ·rw [hx,e2];rfl
theorem zE {b0 n:Nat}{v:Value}{xs:List Value}(h:w.ownsRow b0 3 1 v n xs){X:Nat}{cs:Array Value}{T:TypeId}{f:Nat×Nat}(hX:w.heap[X]?=some (.cells cs T f))(hT:3≠T):v.ownBlock≠some X:=fun e=>by
 rcases h.2 with⟨hv,_⟩|⟨g,cap,cur,hv,_,hg,_⟩;·rw [hv]at e;cases e
 ·rw [hv]at e;have e2:g=X:=by injection e
  subst e2;rw [hX]at hg;injection hg with hg;injection hg with _ hg;exact hT hg.symm
theorem zp {b0 n:Nat}{v:Value}{xs:List Value}(h:w.ownsRow b0 3 1 v n xs){X:Nat}(ho:xp X w w')(hne:v.ownBlock≠some X):w'.ownsRow b0 3 1 v n xs:=by
 refine⟨h.1,?_⟩;rcases h.2 with h'|⟨g,cap,cur,hv,hb,hg,rest⟩;·exact .inl h'
 ·refine .inr ⟨g,cap,cur,hv,hb,?_,rest⟩;rw [ho.block g (fun e=>hne (by rw [hv,e];rfl))];exact hg
theorem yI.setCont(h:yI K q S G w)(f:Nat→Bool)(ho:xp K.CA w w')(hp:w'.heap[K.CA]?=some (.cells (zO K.c.op.length f).toArray 4 (0,0))):yI K q ⟨S.V,f,S.moved,S.kept,S.el⟩ G w':=by
 have k: ∀{b:Nat} {cs:Array Value} {T:TypeId},w.heap[b]?=some (.cells cs T (0,0))→4≠T→w'.heap[b]?=some (.cells cs T (0,0)):=fun {b cs T} hb hT=>by
  rw [ho.block b (yl h.ca hb hT).symm];exact hb
 have hn:=QV K.c.op.length S.cont
 exact {h with
  bel:=xQ h.bel ho h.bases.1
  ctb:=k h.ctb (by decide)
  res:=k h.res (by decide)
  ordc:=k h.ordc (by decide)
  nc:=k h.nc (by decide)
  qc:=k h.qc (by decide)
  cv:=k h.cv (by decide)
  wv:=k h.wv (by decide)
  ca:=hp
  wa:=by rw [ho.block K.WA (fun e=>h.cw e.symm)];exact h.wa
  kar:=k h.kar (by decide)
  vs:=fun j hj=>k (h.vs j hj) (by decide)
  quo:=h.quo.spare ho h.ca hn
  kfr:=fun i hi=>(h.kfr i hi).spare ho h.ca hn
  vfr:=fun j hj=>(h.vfr j hj).spare ho h.ca hn
  els:=zp h.els ho (zE h.els h.ca (by decide))}
theorem yI.setWait(h:yI K q S G w)(f:Nat→Bool)(ho:xp K.WA w w')(hp:w'.heap[K.WA]?=some (.cells (zO K.c.op.length f).toArray 4 (0,0))):yI K q S ⟨G.ka,G.kb,G.wn,G.wd,G.rr,f,G.ev⟩ w':=by
 have k: ∀{b:Nat} {cs:Array Value} {T:TypeId},w.heap[b]?=some (.cells cs T (0,0))→4≠T→w'.heap[b]?=some (.cells cs T (0,0)):=fun {b cs T} hb hT=>by
  rw [ho.block b (yl h.wa hb hT).symm];exact hb
 have hn:=QV K.c.op.length G.wf
 exact {h with
  bel:=xQ h.bel ho h.bases.2.1
  ctb:=k h.ctb (by decide)
  res:=k h.res (by decide)
  ordc:=k h.ordc (by decide)
  nc:=k h.nc (by decide)
  qc:=k h.qc (by decide)
  cv:=k h.cv (by decide)
  wv:=k h.wv (by decide)
  ca:=by rw [ho.block K.CA (fun e=>h.cw e)];exact h.ca
  wa:=hp
  kar:=k h.kar (by decide)
  vs:=fun j hj=>k (h.vs j hj) (by decide)
  quo:=h.quo.spare ho h.wa hn
  kfr:=fun i hi=>(h.kfr i hi).spare ho h.wa hn
  vfr:=fun j hj=>(h.vfr j hj).spare ho h.wa hn
  els:=zp h.els ho (zE h.els h.wa (by decide))}
theorem yI.setKept(h:yI K q S G w)(i:Nat)(ho:xp K.KA w w')(hp:w'.heap[K.KA]?=some (.cells (yg K.c.op.length (upd G.ka i K.qa) (upd G.kb i K.qb)).toArray 69 (0,0))):yI K q ⟨S.V,S.cont,S.moved,upd S.kept i q,S.el⟩ ⟨upd G.ka i K.qa,upd G.kb i K.qb,G.wn,G.wd,G.rr,G.wf,G.ev⟩ w':=by
 have k: ∀{b:Nat} {cs:Array Value} {T:TypeId},w.heap[b]?=some (.cells cs T (0,0))→69≠T→w'.heap[b]?=some (.cells cs T (0,0)):=fun {b cs T} hb hT=>by
  rw [ho.block b (yl h.kar hb hT).symm];exact hb
 have hn:=Yt h.kfr;have hq:=h.quo.spare ho h.kar hn
 exact {h with
  bel:=xQ h.bel ho h.bases.2.2.1
  ctb:=k h.ctb (by decide)
  res:=k h.res (by decide)
  ordc:=k h.ordc (by decide)
  nc:=k h.nc (by decide)
  qc:=by rw [ho.block K.QB (fun e=>h.kq e.symm)];exact h.qc
  cv:=k h.cv (by decide)
  wv:=k h.wv (by decide)
  ca:=k h.ca (by decide)
  wa:=k h.wa (by decide)
  kar:=hp
  vs:=fun j hj=>k (h.vs j hj) (by decide)
  quo:=hq
  kfr:=fun j hj=>by
   by_cases e:j=i;·subst e;simp only [xT];exact hq
   ·simp only [xX _ _ _ _ e];exact(h.kfr j hj).spare ho h.kar hn
  vfr:=fun j hj=>(h.vfr j hj).spare ho h.kar hn
  els:=zp h.els ho (zE h.els h.kar (by decide))
  ok:=fun y hy j hj=>by
   by_cases e:j=i;·subst e;simp only [xT];exact h.oq y hy
   ·simp only [xX _ _ _ _ e];exact h.ok y hy j hj}
theorem jjl {j k:Nat}(hj:j≠k)(x:Vo)(a b:Value)(r:Nat)(f:Nat→Bool):ZF K (yn S k x) ⟨G.ka,G.kb,upd G.wn k a,upd G.wd k b,upd G.rr k r,f,G.ev⟩ j=ZF K S G j:=by
 unfold ZF yn;simp only [xX _ _ _ _ hj]
theorem yI.setVote(h:yI K q S G w){k:Nat}(hk:k<K.m)(x:Vo)(a b:Value)(r:Nat)(ho:xp (K.vb k) w w')
 (hp:w'.heap[K.vb k]?=some (.cells #[.slice (K.ob k) (K.L k).length (K.cb k),.int .i64 (wiI x.wi),.int .i64 (r:Int),a,b] 77 (0,0)))
 (hN:NrV w x.wt a b) (hoff: ∀y,JK K G y→Off x.wt a b y) (hrk:x.rk=(S.V k).rk) (hnx:x.nx≤zo (K.L k)) (hr:x.wi≠none→r=x.nx):
 yI K q (yn S k x) ⟨G.ka,G.kb,upd G.wn k a,upd G.wd k b,upd G.rr k r,G.wf,G.ev⟩ w':=by
 have kp: ∀{b:Nat} {cs:Array Value} {T:TypeId},w.heap[b]?=some (.cells cs T (0,0))→77≠T→w'.heap[b]?=some (.cells cs T (0,0)):=fun {b cs T} hb hT=>by
  rw [ho.block b (yl (h.vs k hk) hb hT).symm];exact hb
 have hT:JK K G (K.vb k):=.inl ⟨k,hk,rfl⟩;have hg:=xR ho;have tn: ∀{y:Fr} {c d:Value},NrV w y c d→Off y c d (K.vb k)→NrV w' y c d:=fun hy hf=>hy.turn hg fun z hz=>by injection hz with hz;subst hz;exact hf
 exact {h with
  bel:=xQ h.bel ho (h.bases.2.2.2 k hk)
  ctb:=kp h.ctb (by decide)
  res:=kp h.res (by decide)
  ordc:=kp h.ordc (by decide)
  nc:=kp h.nc (by decide)
  qc:=kp h.qc (by decide)
  cv:=kp h.cv (by decide)
  wv:=kp h.wv (by decide)
  ca:=kp h.ca (by decide)
  wa:=kp h.wa (by decide)
  kar:=kp h.kar (by decide)
  vs:=fun j hj=>by
   by_cases e:j=k
   ·subst e;show w'.heap[K.vb j]?=some (.cells (ZF K (yn S j x) _ j) _ _);rw [hp];unfold ZF yn;simp only [xT]
   ·rw [jjl e,ho.block _ (fun e2=>e (h.vinj j k hj hk e2))];exact h.vs j hj
  quo:=tn h.quo (h.oq _ hT)
  kfr:=fun i hi=>tn (h.kfr i hi) (h.ok _ hT i hi)
  vfr:=fun j hj=>by
   by_cases e:j=k;·subst e;simp only [yn,xT];exact tn hN (hoff _ hT)
   ·simp only [yn,xX _ _ _ _ e];exact tn (h.vfr j hj) (h.ov _ hT j hj)
  vrk:=fun j hj=>by
   by_cases e:j=k;·subst e;simp only [yn,xT];exact⟨hrk.trans (h.vrk j hj).1,hnx,hr⟩
   ·simp only [yn,xX _ _ _ _ e];exact h.vrk j hj
  els:=zp h.els ho (zE h.els (h.vs k hk) (by decide))
  ov:=fun y hy j hj=>by
   by_cases e:j=k;·subst e;simp only [yn,xT];exact hoff y hy
   ·simp only [yn,xX _ _ _ _ e];exact h.ov y hy j hj}
theorem yI.addEl(h:yI K q S G w)(i:Nat){v:Value}(hg:w.grownBy w' G.ev.ownBlock)(own:w'.ownsRow K.w0.heap.size 3 1 v (S.el++ [i]).length (xU (xq (S.el++ [i]))))(hv: ∀y,v.ownBlock=some y→G.ev.ownBlock=some y∨w.heap.size≤y):
 yI K q ⟨S.V,S.cont,S.moved,S.kept,S.el++ [i]⟩ ⟨G.ka,G.kb,G.wn,G.wd,G.rr,G.wf,v⟩ w':=by
 have kp: ∀{b:Nat} {cs:Array Value} {T:TypeId},w.heap[b]?=some (.cells cs T (0,0))→3≠T→w'.heap[b]?=some (.cells cs T (0,0)):=fun {b cs T} hb hT=>by
  rw [hg.block b (lt_of_heap hb) (fun e=>zE h.els hb hT e.symm)];exact hb
 have tn: ∀{y:Fr} {c d:Value},NrV w y c d→(∀z,JK K G z→Off y c d z)→NrV w' y c d:=fun hy hf=>hy.turn hg fun z hz=>hf z (.inr hz);have tu: ∀{y:Fr} {c d:Value},NrV w y c d→(∀z,JK K G z→Off y c d z)→ ∀z,JK K ⟨G.ka,G.kb,G.wn,G.wd,G.rr,G.wf,v⟩ z→Off y c d z:=fun hy hf z hz=>by
  rcases hz with hz|hz;·exact hf z (.inl hz)
  ·rcases hv z hz with h1|h1;·exact hf z (.inr h1)
   ·exact hy.off_new h1
 exact {h with
  bel:=h.bel.grown hg h.bel.size (fun y hy=>(h.els.lt y hy).1)
  ctb:=kp h.ctb (by decide)
  res:=kp h.res (by decide)
  ordc:=kp h.ordc (by decide)
  nc:=by rw [hg.block K.NB (lt_of_heap h.nc) (fun e=>h.en e.symm)];exact h.nc
  qc:=kp h.qc (by decide)
  cv:=kp h.cv (by decide)
  wv:=kp h.wv (by decide)
  ca:=kp h.ca (by decide)
  wa:=kp h.wa (by decide)
  kar:=kp h.kar (by decide)
  vs:=fun j hj=>kp (h.vs j hj) (by decide)
  quo:=tn h.quo h.oq
  kfr:=fun j hj=>tn (h.kfr j hj) (fun z hz=>h.ok z hz j hj)
  vfr:=fun j hj=>tn (h.vfr j hj) (fun z hz=>h.ov z hz j hj)
  els:=own
  oq:=tu h.quo h.oq
  ok:=fun z hz j hj=>tu (h.kfr j hj) (fun z hz=>h.ok z hz j hj) z hz
  ov:=fun z hz j hj=>tu (h.vfr j hj) (fun z hz=>h.ov z hz j hj) z hz
  en:=fun e=>by
   rcases hv _ e with h1|h1;·exact h.en h1
   ·have:=lt_of_heap h.nc;omega}
end
end Go.Proofs.YtnohcdpnnhmpfaaGreatDoor.TR
namespace Go.Proofs.YtnohcdpnnhmpfaaGreatDoor.TR
open Go.RowKit ML FRP AU CT FM
structure Qh(K:RK)(G:RG)(w:World)(l:List Nat)(v:Value):Prop where
 ex: ∃g off cap cur,v=.slice (some ⟨g,off,none⟩) l.length cap∧w.heap[g]?=some (.cells cur 3 (0,0))∧(∀j (h:j<l.length),cur[off+j]?=some (.int .i64 ((l[j]:Nat):Int)))∧ ¬JK K G g∧K.w0.heap.size≤g
structure RdR(K:RK)(G:RG)(w:World)(rd:Rd)(c:List Value):Prop where
 ex: ∃tv wv,c= [tv,.string ⟨(txt rd.non).1.toArray⟩,.string ⟨(txt rd.non).2.toArray⟩,.int .i64 (rd.d:Int),wv]∧
  w.ownsRow K.w0.heap.size 27 2 tv rd.tots.length (zh (rd.tots.map txt))∧Qh K G w rd.who wv
structure zk(K:RK)(q:Fr)(G:RG)(w:World)(R:List Rd)(vR:Value)(CS:List (List Value)):Prop where
 u:w.heap[K.OUT]?=some (.cells #[.string ⟨(txt q).1.toArray⟩,.string ⟨(txt q).2.toArray⟩,vR,G.ev] 31 (0,0))
 rows:w.ownsRow K.w0.heap.size 44 5 vR R.length CS.flatten
 len:CS.length=R.length
 each: ∀i (h:i<R.length) (h':i<CS.length),RdR K G w R[i] CS[i]
 ob:K.w0.heap.size≤K.OUT
 nr:K.OUT≠K.RB
section
variable {K:RK} {q:Fr} {G G':RG} {w w':World} {R:List Rd} {vR:Value} {CS:List (List Value)}
theorem zV {b0 n s:Nat}{e T:TypeId}{v:Value}{xs:List Value}(h:w.ownsRow b0 e s v n xs){X:Option Nat}(hg:w.grownBy w' X)(hX: ∀x,X=some x→ ∃cs f,w.heap[x]?=some (.cells cs T f))(hne:e≠T):w'.ownsRow b0 e s v n xs:=by
 refine⟨h.1,?_⟩;rcases h.2 with h'|⟨g,cap,cur,hv,hb,hh,rest⟩;·exact .inl h'
 ·refine .inr ⟨g,cap,cur,hv,hb,?_,rest⟩;rw [hg.block g (lt_of_heap hh) (fun e2=>?_)];·exact hh
  ·obtain⟨cs,f,h2⟩:=hX g e2.symm;rw [hh]at h2;injection h2 with h2;injection h2 with _ h2;exact hne h2
theorem Qh.turn {l:List Nat}{v:Value}(h:Qh K G w l v){X:Option Nat}(hg:w.grownBy w' X)(hX: ∀x,X=some x→JK K G x∨ ∃cs T f,w.heap[x]?=some (.cells cs T f)∧T≠3)(hv: ∀y,G'.ev.ownBlock=some y→G.ev.ownBlock=some y∨w.heap.size≤y):Qh K G' w' l v:=by
 obtain⟨g,off,cap,cur,h1,h2,h3,h4,h5⟩:=h.ex;refine⟨g,off,cap,cur,h1,?_,h3,?_,h5⟩
 ·rw [hg.block g (lt_of_heap h2) (fun e=>?_)];·exact h2
  ·rcases hX g e.symm with h6|⟨cs,T,f,h6,h7⟩;·exact h4 h6
   ·rw [h2]at h6;injection h6 with h6;injection h6 with _ h6;exact h7 h6.symm
 ·rintro(h6|h6);·exact h4 (.inl h6)
  ·rcases hv g h6 with h7|h7;·exact h4 (.inr h7)
   ·have:=lt_of_heap h2;omega
theorem RdR.turn {rd:Rd}{c:List Value}(h:RdR K G w rd c){X:Option Nat}(hg:w.grownBy w' X)(hX: ∀x,X=some x→ ∃cs T f,w.heap[x]?=some (.cells cs T f)∧T≠27∧(JK K G x∨T≠3))(hv: ∀y,G'.ev.ownBlock=some y→G.ev.ownBlock=some y∨w.heap.size≤y):RdR K G' w' rd c:=by
 obtain⟨tv,wv,h1,h2,h3⟩:=h.ex;refine⟨tv,wv,h1,?_,h3.turn hg (fun x hx=>?_) hv⟩
 ·cases hXv:X with
  |none=>exact zV (T:=0) h2 hg (fun x hx=>by rw [hXv]at hx;cases hx) (by decide)
  |
   some x=>
   obtain⟨cs,T,f,g1,g2,_⟩:=hX x hXv;exact zV (T:=T) h2 hg (fun y hy=>by rw [hXv]at hy;injection hy with hy;subst hy;exact⟨cs,f,g1⟩) (fun e=>g2 e.symm)
 ·obtain⟨cs,T,f,g1,_,g3⟩:=hX x hx;rcases g3 with g3|g3;·exact .inl g3
  ·exact .inr ⟨cs,T,f,g1,g3⟩
theorem zk.turn(h:zk K q G w R vR CS){X:Option Nat}(hg:w.grownBy w' X)(hX: ∀x,X=some x→ ∃cs T f,w.heap[x]?=some (.cells cs T f)∧T≠27∧T≠44∧T≠31∧(JK K G x∨T≠3))(hv:G'.ev=G.ev):zk K q G' w' R vR CS:=by
 have hk:w'.heap[K.OUT]?=w.heap[K.OUT]?:=hg.block K.OUT (lt_of_heap h.u) (fun e=>by
  obtain⟨cs,T,f,g1,_,_,g2,_⟩:=hX _ e.symm;rw [h.u]at g1;injection g1 with g1;injection g1 with _ g1;exact g2 g1.symm)
 refine⟨by rw [hk,hv];exact h.u,?_,h.len,fun i hi hi'=>(h.each i hi hi').turn hg (fun x hx=>?_) (fun y hy=>.inl (by rw [hv]at hy;exact hy)),h.ob,h.nr⟩
 ·cases hXv:X with
  |none=>exact zV (T:=0) h.rows hg (fun x hx=>by rw [hXv]at hx;cases hx) (by decide)
  |
   some x=>
   obtain⟨cs,T,f,g1,_,g2,_⟩:=hX x hXv;exact zV (T:=T) h.rows hg (fun y hy=>by rw [hXv]at hy;injection hy with hy;subst hy;exact⟨cs,f,g1⟩) (fun e=>g2 e.symm)
 ·obtain⟨cs,T,f,g1,g2,_,_,g3⟩:=hX x hx;exact⟨cs,T,f,g1,g2,g3⟩
theorem zk.below(h:zk K q G w R vR CS)(hb:Below w.heap.size w w'):zk K q G w' R vR CS:=h.turn (X:=none) ⟨hb.os,hb.tape,hb.output,hb.size,fun k hk _=>hb.block k hk⟩ (fun x hx=>by cases hx) rfl
theorem zk.addEl(h:zk K q G w R vR CS){v:Value}(hg:w.grownBy w' G.ev.ownBlock)(hE: ∀y,G.ev.ownBlock=some y→ ∃cs f,w.heap[y]?=some (.cells cs 3 f))(hv: ∀y,v.ownBlock=some y→G.ev.ownBlock=some y∨w.heap.size≤y):
 zk K q ⟨G.ka,G.kb,G.wn,G.wd,G.rr,G.wf,v⟩ (w'.setCell ⟨K.OUT,3,none⟩ v) R vR CS:=by
 have hk:w'.heap[K.OUT]?=w.heap[K.OUT]?:=hg.block K.OUT (lt_of_heap h.u) (fun e=>by
  obtain⟨cs,f,g1⟩:=hE _ e.symm;rw [h.u]at g1;injection g1 with g1;injection g1 with _ g1;exact absurd g1 (by decide))
 have ho':w'.heap[K.OUT]?=some (.cells #[.string ⟨(txt q).1.toArray⟩,.string ⟨(txt q).2.toArray⟩,vR,G.ev] 31 (0,0)):=by rw [hk];exact h.u
 have hg2:w'.grownBy (w'.setCell ⟨K.OUT,3,none⟩ v) (some K.OUT):=xR (xh 3 v);have hX1: ∀x,G.ev.ownBlock=some x→ ∃cs T f,w.heap[x]?=some (.cells cs T f)∧T≠27∧(JK K G x∨T≠3):=fun x hx=>by
  obtain⟨cs,f,g1⟩:=hE x hx;exact⟨cs,_,f,g1,by decide,.inl (.inr hx)⟩
 refine⟨jd w' K.OUT 3 _ _ _ ho',?_,h.len,fun i hi hi'=>?_,h.ob,h.nr⟩
 ·have r1:w'.ownsRow K.w0.heap.size 44 5 vR R.length CS.flatten:=zV (T:=3) h.rows hg hE (by decide);exact zV (T:=31) r1 hg2 (fun x hx=>by injection hx with hx;subst hx;exact⟨_,_,ho'⟩) (by decide)
 ·have r1:RdR K ⟨G.ka,G.kb,G.wn,G.wd,G.rr,G.wf,v⟩ w' R[i] CS[i]:=(h.each i hi hi').turn hg hX1 hv;exact r1.turn hg2 (fun x hx=>by injection hx with hx;subst hx;exact⟨_,_,_,ho',by decide,.inr (by decide)⟩) (fun y hy=>.inl hy)
theorem zk.push(h:zk K q G w R vR CS){wa wx:World}{v':Value}(hb:Below w.heap.size w wa)(hg:wa.grownBy wx vR.ownBlock){rd:Rd}{c:List Value}{n:Nat}(hn:n=R.length+1)
 (own:wx.ownsRow K.w0.heap.size 44 5 v' n (CS.flatten++c)) (he:RdR K G w rd c):
 wx.cell? ⟨K.OUT,2,none⟩=some vR∧wx.frozen? ⟨K.OUT,2,none⟩=false∧K.OUT<wx.heap.size∧zk K q G (wx.setCell ⟨K.OUT,2,none⟩ v') (R++ [rd]) v' (CS++ [c]):=by
 subst hn;have ha:=h.below hb;have hE: ∀y,vR.ownBlock=some y→ ∃cs f,wa.heap[y]?=some (.cells cs 44 f):=fun y hy=>by
  rcases ha.rows.2 with⟨hv,_⟩|⟨g,cap,cur,hv,_,hg',_⟩;·rw [hv]at hy;cases hy
  ·rw [hv]at hy;have e:g=y:=by injection hy
   subst e;exact⟨_,_,hg'⟩
 have hk:wx.heap[K.OUT]?=wa.heap[K.OUT]?:=hg.block K.OUT (lt_of_heap ha.u) (fun e=>by
  obtain⟨cs,f,g1⟩:=hE _ e.symm;rw [ha.u]at g1;injection g1 with g1;injection g1 with _ g1;exact absurd g1 (by decide))
 have ho':wx.heap[K.OUT]?=some (.cells #[.string ⟨(txt q).1.toArray⟩,.string ⟨(txt q).2.toArray⟩,vR,G.ev] 31 (0,0)):=by rw [hk];exact ha.u
 have hg2:wx.grownBy (wx.setCell ⟨K.OUT,2,none⟩ v') (some K.OUT):=xR (xh 2 v');have key: ∀{rd':Rd} {c':List Value},RdR K G wa rd' c'→RdR K G (wx.setCell ⟨K.OUT,2,none⟩ v') rd' c':=fun h1=>by
  have h2:RdR K G wx _ _:=h1.turn hg (fun x hx=>by obtain⟨cs,f,g1⟩:=hE x hx;exact⟨cs,_,f,g1,by decide,.inr (by decide)⟩) (fun y hy=>.inl hy);exact h2.turn hg2 (fun x hx=>by injection hx with hx;subst hx;exact⟨_,_,_,ho',by decide,.inr (by decide)⟩) (fun y hy=>.inl hy)
 have hgb:w.grownBy wa none:=⟨hb.os,hb.tape,hb.output,hb.size,fun k hk _=>hb.block k hk⟩;refine⟨jM wx K.OUT 2 _ _ _ ho',jb wx K.OUT 2 _ _ ho',lt_of_heap ho',jd wx K.OUT 2 _ _ _ ho',?_,by simp [h.len],fun i hi hi'=>?_,h.ob,h.nr⟩
 ·have e:(CS++ [c]).flatten=CS.flatten++c:=by simp
  rw [e,ja,kL];exact zV (T:=31) own hg2 (fun x hx=>by injection hx with hx;subst hx;exact⟨_,_,ho'⟩) (by decide)
 ·by_cases hl:i<R.length
  ·have hl':i<CS.length:=by rw [h.len];exact hl
   rw [xG hl,xG hl'];exact key (ha.each i hl hl')
  ·have e1:i=R.length:=by simp at hi;omega
   have e2:i=CS.length:=by rw [h.len];exact e1
   have g1:(R++ [rd])[i]=rd:=by subst e1;simp
   have g2:(CS++ [c])[i]=c:=by subst e2;simp
   rw [g1,g2];exact key (he.turn hgb (fun x hx=>by cases hx) (fun y hy=>.inl hy))
end
end Go.Proofs.YtnohcdpnnhmpfaaGreatDoor.TR
namespace Go.Proofs.YtnohcdpnnhmpfaaGreatDoor.TR
open FRP
section
variable {n s m:Nat} {q:Fr} {O:List Nat} {S:St}
theorem YT(S:St)(k:Nat)(i:Option Nat):S.pile (k+1) i=S.pile k i++if(S.V k).wi=i then [k]else []:=by
 unfold St.pile;rw [qi,qP];congr 1;by_cases h:(S.V k).wi=i;·rw [jR h];simp [h]
 ·rw [jT h];simp [h]
theorem jjs(S:St)(i:Nat):S.tot 0 i=S.kept i:=rfl
theorem jjW(S:St):S.non 0=zero:=rfl
theorem jlL {k i:Nat}(h:(S.V k).wi=some i):S.tot (k+1) i=(S.tot k i).add (S.V k).wt:=by
 unfold St.tot;rw [YT,jR h,qx];unfold QH;rw [List.foldl_append];rfl
theorem jgW {k i:Nat}(h:(S.V k).wi≠some i):S.tot (k+1) i=S.tot k i:=by
 unfold St.tot;rw [YT,jT h,qD]
theorem jlT {k:Nat}(h:(S.V k).wi=none):S.non (k+1)=(S.non k).add (S.V k).wt:=by
 unfold St.non;rw [YT,jR h,qx];unfold QH;rw [List.foldl_append];rfl
theorem jlc {k:Nat}(h:(S.V k).wi≠none):S.non (k+1)=S.non k:=by
 unfold St.non;rw [YT,jT h,qD]
theorem Inv.tot_sml(h:Inv n s m q O S)(hn:n≤12)(hm:m≤4096){k:Nat}(hk:k≤m){i:Nat}(hi:i<n):Sml (S.tot k i):=h.ksum_sml hn hm hi (VI k S (some i)) (fun j hj=>by have:=(Jl.1 hj).1;omega)
theorem Inv.non_sml(h:Inv n s m q O S)(hn:n≤12)(hm:m≤4096){k:Nat}(hk:k≤m):Sml (S.non k):=h.sum_sml hn hm (VI k S none) (fun j hj=>by have:=(Jl.1 hj).1;omega)
theorem jkY(h:Inv n s m q O S):(O.filter fun i=>S.cont i&&decide (0<Qe (S.tot m i) q))=S.over m q O:=by
 unfold St.over St.still;rw [vm];refine vC fun i _=>?_;have e:decide (0<Qe (S.tot m i) q)=decide (q.v<(S.tot m i).v):=by
  rcases Kh (h.tok i).1 h.qok.1 with⟨h1,h2⟩|⟨h1,h2⟩|⟨h1,h2⟩;·rw [h1,jS (by decide),jS (by grind)]
  ·rw [h1,jS (by decide),jS (by grind)]
  ·rw [h1,jQ (by decide),jQ h2]
 rw [e,Bool.and_comm]
theorem Rk.ex(T:Nat→Fr)(O l:List Nat)(hl: ∀i∈l,i∈O)(hd:l.Nodup): ∃r,Rk T O l r:=by
 induction l with
 |nil=>exact⟨[],List.Perm.refl _,List.Pairwise.nil⟩
 |
  cons x l ih=>
  obtain⟨r,h1,h2⟩:=ih (fun i hi=>hl i (by simp [hi])) (vM.1 hd).2;have hx:x∉r:=fun hx=>(vM.1 hd).1 (h1.mem_iff.1 hx);have hxO:=hl x (by simp);have key: ∀r:List Nat,(∀i∈r,i∈O)→x∉r→r.Pairwise (bef T O)→ ∃r':List Nat,r'.Perm (x::r)∧r'.Pairwise (bef T O):=by
   intro r hr hx hp
   induction r with
   |nil=>exact⟨[x],List.Perm.refl _,by simp⟩
   |
    cons y r ih2=>
    obtain⟨hp1,hp2⟩:=List.pairwise_cons.1 hp;have hxy:x≠y:=fun e=>hx (by simp [e]);by_cases hb:bef T O x y
    ·refine⟨x::y::r,List.Perm.refl _,List.pairwise_cons.2 ⟨fun z hz=>?_,hp⟩⟩;rcases jg.1 hz with rfl|hz;·exact hb
     ·exact jdb _ _ _ _ _ hb (hp1 z hz)
    ·
      have hyx:bef T O y x:=by
       have hidx:O.idxOf x≠O.idxOf y:=fun e=>hxy (jhl hxO (hr y (by simp)) e);unfold bef at*;grind
      obtain⟨r',h3,h4⟩:=ih2 (fun i hi=>hr i (by simp [hi])) (fun e=>hx (by simp [e])) hp2;refine⟨y::r',(List.Perm.cons y h3).trans (List.Perm.swap x y r),List.pairwise_cons.2 ⟨fun z hz=>?_,h4⟩⟩;rcases jg.1 (h3.mem_iff.1 hz)with rfl|hz;·exact hyx
      ·exact hp1 z hz
  obtain⟨r',h3,h4⟩:=key r (fun i hi=>hl i (by simp [h1.mem_iff.1 hi])) hx h2;exact⟨r',h3.trans (List.Perm.cons x h1),h4⟩
def goK(S:St)(c:Nat→Bool)(i:Nat)(f:Fr)(k:Nat):St:=⟨fun j=>if j<k then S.goOn c i f j else S.V j,S.cont,S.moved,S.kept,S.el⟩
theorem jkm(S:St)(c:Nat→Bool)(i:Nat)(f:Fr):goK S c i f 0=S:=by
 unfold goK;congr 1
theorem jkp(S:St)(c:Nat→Bool)(i:Nat)(f:Fr)(k:Nat):(goK S c i f k).V k=S.V k:=jT (Nat.lt_irrefl k)
theorem jfd(S:St)(c:Nat→Bool)(i:Nat)(f:Fr)(k:Nat):goK S c i f (k+1)=yn (goK S c i f k) k (S.goOn c i f k):=by
 unfold goK yn;congr 1;funext j;by_cases e:j=k;·subst e;rw [xT,jR (Nat.lt_succ_self j)]
 ·rw [xX _ _ _ _ e];by_cases hj:j<k;·rw [jR (by omega)];exact(jR hj).symm
  ·rw [jT (by omega)];exact(jT hj).symm
theorem jko {c:Nat→Bool}{i:Nat}{f:Fr}{k:Nat}(h:(S.V k).wi≠some i):goK S c i f (k+1)=goK S c i f k:=by
 rw [jfd,St.goOn_out h]
 conv=>rhs;rw [←jcb (goK S c i f k) k,jkp]
theorem jkn {c:Nat→Bool}{i:Nat}{f:Fr}{k:Nat}(h:(S.V k).wi=some i):goK S c i f (k+1)=yn (goK S c i f k) k (((S.V k).by f).go c):=by
 rw [jfd,St.goOn_in h]
end
end Go.Proofs.YtnohcdpnnhmpfaaGreatDoor.TR
namespace Go.Proofs.YtnohcdpnnhmpfaaGreatDoor
open Go.RowKit ML FM AU CT
def jeh(c:yE)(lots:Bytes)(w:World)(e:Ending)(w':World):Prop:=
 Below w.heap.size w w'∧if zR c=true then e=.returned (.tuple #[.slice none 0 0,.int .i64 2])
 else ∃O oO cO,Ord c.op.length (Xu c lots) O∧yj w' oO O∧e=.returned (.tuple #[.slice oO O.length cO,.int .i64 0])
end Go.Proofs.YtnohcdpnnhmpfaaGreatDoor
