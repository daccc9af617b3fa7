/-
  Chapter 13, the reference's Transfer: one vote more.
  Chapter 13, the reference's Transfer: totals are told. Printed by tools/genr8.py. PIECE
-/
import Derived.Test.YtnohcdpnnhmpfaaGreatDoorQ38
set_option linter.unusedVariables false
set_option linter.unusedSimpArgs false
set_option maxRecDepth 100000
set_option maxHeartbeats 8000000
namespace Go.Proofs.YtnohcdpnnhmpfaaGreatDoor.TR
open Go.RowKit Tryz ML FRP AU CT FM
def RK.more(K:RK)(V:Nat)(o:Option Addr)(c:Nat)(L:List Int):RK:={K with m:=K.m+1,vb:=upd K.vb K.m V,ob:=upd K.ob K.m o,cb:=upd K.cb K.m c,L:=upd K.L K.m L}
theorem QU {w:World}{B n i:Nat}{f:Nat→Bool}{T:TypeId}(b:Bool)(h:w.heap[B]?=some (.cells (zO n f).toArray T (0,0)))(hi:i<n):(w.setCell ⟨B,i,none⟩ (.bool b)).heap[B]?=some (.cells (zO n (upd f i b)).toArray T (0,0)):=by
 rw [jd w B i _ _ _ h];congr 2;apply Array.ext_getElem?;intro j;have hl: ∀f:Nat→Bool,(zO n f).length=n:=fun f=>by simp [zO]
 simp only [Array.getElem?_setIfInBounds,jE,vq,hl];by_cases hj:j<n
 ·rw [Ki n _ j hj,Ki n _ j hj];by_cases e:i=j;·subst e;rw [jR rfl,jR hj,xT]
  ·rw [jT e,xX _ _ _ _ (fun e2=>e e2.symm)]
 ·by_cases e:i=j;·subst e;omega
  ·rw [jT e,kP (by rw [hl];omega),kP (by rw [hl];omega)]
theorem VO {w:World}{B n i:Nat}{f:Nat→Bool}{T:TypeId}(h:w.heap[B]?=some (.cells (zO n f).toArray T (0,0)))(hi:i<n):w.cell? ⟨B,i,none⟩=some (.bool (f i)):=by
 rw [jM w B i _ _ _ h,jE];exact Ki n f i hi
theorem Vg {n:Nat}{f g:Nat→Bool}(h: ∀i,i<n→f i=g i):zO n f=zO n g:=qu fun i hi=>by rw [h i (jf.1 hi)]
theorem jbV {w:World}{B o k:Nat}{cs:Array Value}{T:TypeId}(h:w.heap[B]?=some (.cells cs T (0,0)))(hk:o+k≤cs.size):w.there B o k:=fun j hj=>by
 rw [jM w B (o+j) _ _ _ h];exact⟨by simp;omega,jb w B (o+j) _ _ h⟩
theorem jav {w:World}{B n i:Nat}{xa xb:Nat→Value}{T:TypeId}(h:w.heap[B]?=some (.cells (yg n xa xb).toArray T (0,0)))(hi:i<n):w.there B (i*2) 2:=
 jbV h (by rw [vq,zw];omega)
theorem JO {w:World}{base:Nat}{e:TypeId}{size n:Nat}{v:Value}{xs:List Value}(hr:w.ownsRow base e size v n xs){X:Nat}{cs:Array Value}{t:TypeId}{f:Nat×Nat}(hX:w.heap[X]?=some (.cells cs t f))(he:e≠t):v.ownBlock≠some X:=fun hv=>by
 rcases hr.2 with⟨h0,_⟩|⟨g2,cap2,cur2,h0,_,hg2,_⟩;·rw [h0]at hv;cases hv
 ·rw [h0]at hv;have e2:g2=X:=by simpa [Value.ownBlock] using hv
  subst e2;rw [hX]at hg2;injection hg2 with hg2;injection hg2 with _ h2;exact he h2.symm
theorem jjA {w:World}{B:Nat}{cs:Array Value}{T:TypeId}(h:w.heap[B]?=some (.cells cs T (0,0))){j:Nat}{u:Value}(hj:cs[j]?=some u):w.cell? ((⟨B,0,none⟩:Addr).add j)=some u:=by
 unfold Addr.add;split;·rename_i h0;subst h0;exact(jM w B 0 _ _ _ h).trans hj
 ·show w.cell? ⟨B,0+j,none⟩=some u;rw [js];exact(jM w B j _ _ _ h).trans hj
theorem jiO {w:World}{n:Nat}{xa xb:Nat→Value}{T:Nat→Fr}(h: ∀i,i<n→NrV w (T i) (xa i) (xb i)): ∀u∈yg n xa xb,u.oneCell'=true:=fun u hu=>by
 unfold yg at hu;obtain⟨i,hi,hu⟩:=qs.1 hu;have h1:=(h i (jf.1 hi)).one;simp only [jg,jv,jx]at hu;rcases hu with rfl|rfl;·exact h1.1
 ·exact h1.2
structure Two(X Y:Nat)(w w':World):Prop where
 os:w'.os=w.os
 tape:w'.tape=w.tape
 output:w'.output=w.output
 size:w.heap.size≤w'.heap.size
 block: ∀k,k<w.heap.size→k≠X→k≠Y→w'.heap[k]?=w.heap[k]?
theorem Two.refl(X Y:Nat)(w:World):Two X Y w w:=⟨rfl,rfl,rfl,jO _,fun _ _ _ _=>rfl⟩
theorem Two.grown {X Y:Nat}{w w1 w2:World}{x:Option Nat}(h:Two X Y w w1)(hg:w1.grownBy w2 x)(hx: ∀y,x=some y→y=X∨y=Y∨w.heap.size≤y):Two X Y w w2:=
 ⟨hg.os.trans h.os,hg.tape.trans h.tape,hg.output.trans h.output,jU h.size hg.size,fun k hk h1 h2=>(hg.block k (jV hk h.size) (fun e=>by
  rcases hx k e.symm with h3|h3|h3;·exact h1 h3
  ·exact h2 h3
  ·omega)).trans (h.block k hk h1 h2)⟩
theorem Two.below {X Y B:Nat}{w0 w w':World}(h:Two X Y w w')(hb:Below B w0 w)(hX:B≤X)(hY:B≤Y)(hs:B≤w.heap.size):Below B w0 w':=
 hb.trans ⟨h.os,h.tape,h.output,h.size,fun k hk=>h.block k (jV hk hs) (by omega) (by omega)⟩
section
variable {K:RK} {q:Fr} {S:St} {G:RG} {w w':World}
theorem yI.turns_lt(h:yI K q S G w){y:Nat}(hy:JK K G y):y<w.heap.size:=by
 rcases hy with⟨k,hk,rfl⟩|hy;·exact lt_of_heap (h.vs k hk)
 ·exact(h.els.lt y hy).2
theorem yI.more(h:yI K q S G w){V:Nat}{o:Option Addr}{c:Nat}{L:List Int}{x:Vo}{a b:Value}{r:Nat}(hw:Below w.heap.size w w')(hV:w.heap.size≤V)
 (hp:w'.heap[V]?=some (.cells #[.slice o L.length c,.int .i64 (wiI x.wi),.int .i64 (r:Int),a,b] 77 (0,0)))
 (hN:NrV w' x.wt a b) (hl:Yy (fun z=>w.heap.size≤z) a b) (ho:Off x.wt a b V) (hrk:x.rk=JE L) (hnx:x.nx≤zo L) (hr:x.wi≠none→r=x.nx) (hI:yj K.w0 o L) (hR:Rnk K.c.op.length L):
 yI (K.more V o c L) q (yn S K.m x) ⟨G.ka,G.kb,upd G.wn K.m a,upd G.wd K.m b,upd G.rr K.m r,G.wf,G.ev⟩ w':=by
 have h':=h.below hw;have hlt: ∀{j},j<K.m+1→j≠K.m→j<K.m:=fun hj he=>by omega
 have tT: ∀{y},JK (K.more V o c L) ⟨G.ka,G.kb,upd G.wn K.m a,upd G.wd K.m b,upd G.rr K.m r,G.wf,G.ev⟩ y→y=V∨JK K G y:=by
  rintro y (⟨k,hk,rfl⟩|hy)
  ·by_cases e:k=K.m;·subst e;exact .inl (xT _ _ _)
   ·exact .inr (.inl ⟨k,hlt hk e,xX _ _ _ _ e⟩)
  ·exact .inr (.inr hy)
 have of: ∀{y:Nat} {z:Fr} {d e:Value},(y=V∨JK K G y)→NrV w z d e→(∀y,JK K G y→Off z d e y)→Off z d e y:=fun hy hz hf=>by
  rcases hy with rfl|hy;·exact hz.off_new hV
  ·exact hf _ hy
 exact {
  bel:=h'.bel
  ctb:=h'.ctb
  res:=h'.res
  ordc:=h'.ordc
  nc:=h'.nc
  qc:=h'.qc
  cv:=h'.cv
  wv:=h'.wv
  ca:=h'.ca
  wa:=h'.wa
  cw:=h'.cw
  kar:=h'.kar
  kq:=h'.kq
  vs:=fun j hj=>by
   by_cases e:j=K.m
   ·subst e;show w'.heap[upd K.vb K.m V K.m]?=_;rw [xT,hp];unfold ZF yn RK.more;simp only [xT]
   ·show w'.heap[upd K.vb K.m V j]?=_;rw [xX _ _ _ _ e,h'.vs j (hlt hj e)];unfold ZF yn RK.more;simp only [xX _ _ _ _ e]
  vinj:=fun i j hi hj he=>by
   have he':upd K.vb K.m V i=upd K.vb K.m V j:=he;by_cases e1:i=K.m
   ·by_cases e2:j=K.m;·omega
    ·subst e1;rw [xT,xX _ _ _ _ e2]at he';have:=lt_of_heap (h.vs j (hlt hj e2));omega
   ·by_cases e2:j=K.m
    ·subst e2;rw [xT,xX _ _ _ _ e1]at he';have:=lt_of_heap (h.vs i (hlt hi e1));omega
    ·rw [xX _ _ _ _ e1,xX _ _ _ _ e2]at he';exact h.vinj i j (hlt hi e1) (hlt hj e2) he'
  quo:=h'.quo
  kfr:=h'.kfr
  vfr:=fun j hj=>by
   by_cases e:j=K.m;·subst e;simp only [yn,xT];exact hN
   ·simp only [yn,xX _ _ _ _ e];exact h'.vfr j (hlt hj e)
  vrk:=fun j hj=>by
   by_cases e:j=K.m;·subst e;simp only [yn,RK.more,xT];exact⟨hrk,hnx,hr⟩
   ·simp only [yn,RK.more,xX _ _ _ _ e];exact h'.vrk j (hlt hj e)
  bal:=fun j hj=>by
   by_cases e:j=K.m;·subst e;simp only [RK.more,xT];exact⟨hI,hR⟩
   ·simp only [RK.more,xX _ _ _ _ e];exact h'.bal j (hlt hj e)
  ord:=h'.ord
  els:=h'.els
  bases:=⟨h'.bases.1,h'.bases.2.1,h'.bases.2.2.1,fun j hj=>by
   by_cases e:j=K.m;·subst e;simp only [RK.more,xT];exact jU h.bel.size hV
   ·simp only [RK.more,xX _ _ _ _ e];exact h'.bases.2.2.2 j (hlt hj e)⟩
  oq:=fun y hy=>of (tT hy) h.quo h.oq
  ok:=fun y hy i hi=>of (tT hy) (h.kfr i hi) (fun y hy=>h.ok y hy i hi)
  ov:=fun y hy j hj=>by
   by_cases e:j=K.m
   ·subst e;simp only [yn,xT];rcases tT hy with rfl|hy;·exact ho
    ·exact XJ hl (h.turns_lt hy)
   ·simp only [yn,xX _ _ _ _ e];exact of (tT hy) (h.vfr j (hlt hj e)) (fun y hy=>h.ov y hy j (hlt hj e))
  en:=h'.en}
structure KN(K:RK)(q:Fr)(S:St)(G:RG)(y:Nat):Prop where
 q:Off q K.qa K.qb y
 k: ∀i,i<K.c.op.length→Off (S.kept i) (G.ka i) (G.kb i) y
 v: ∀k,k<K.m→Off (S.V k).wt (G.wn k) (G.wd k) y
theorem yI.off_new(h:yI K q S G w){y:Nat}(hy:w.heap.size≤y):KN K q S G y:=⟨h.quo.off_new hy,fun i hi=>(h.kfr i hi).off_new hy,fun k hk=>(h.vfr k hk).off_new hy⟩
theorem NrV.off_noInt {x:Fr}{a b:Value}(h:NrV w x a b){X:Nat}{cs:Array Value}{T:TypeId}{f:Nat×Nat}(hX:w.heap[X]?=some (.cells cs T f))(hn: ∀u∈cs.toList,ym u=true):Off x a b X:=by
 have key: ∀(oa:Option Addr) (L:List Nat) (k c:Nat),IntsAt w oa L→L≠ []→(Value.slice oa k c).ownBlock≠some X:=by
  intro oa L k c hI hL e;have hpos:0<L.length:=qO.2 hL;obtain⟨a,h1,h2,h3⟩:=hI.cells 0 hpos;rw [h1]at e;have e2:a.block=X:=by simpa [Value.ownBlock] using e
  unfold World.cell? at h3;rw [yM,e2,hX]at h3;simp only at h3;split at h3;·cases h3
  ·have hmem:=xB h3;have:=hn _ (by simpa using hmem);cases this
 obtain⟨oa,ca,ob,cb,rfl,rfl,hf⟩:=h;exact⟨fun h0=>key _ _ _ _ hf.1 (Zy h0),fun h0=>key _ _ _ _ hf.2 (Zy h0)⟩
theorem yI.off_noInt(h:yI K q S G w){X:Nat}{cs:Array Value}{T:TypeId}{f:Nat×Nat}(hX:w.heap[X]?=some (.cells cs T f))(hn: ∀u∈cs.toList,ym u=true):KN K q S G X:=
 ⟨h.quo.off_noInt hX hn,fun i hi=>(h.kfr i hi).off_noInt hX hn,fun k hk=>(h.vfr k hk).off_noInt hX hn⟩
def jgX:List TypeId:= [24,29,3,69,39,4,77]
theorem yI.turnR(h:yI K q S G w){X:Nat}(hg:w.grownBy w' (some X)){cs:Array Value}{T:TypeId}{f:Nat×Nat}(hX:w.heap[X]?=some (.cells cs T f))(hT:T∉jgX)(hXR:X≠K.RB)(hb:K.w0.heap.size≤X)(ho:KN K q S G X):yI K q S G w':=by
 have kp: ∀{b:Nat} {cs:Array Value} {T':TypeId},w.heap[b]?=some (.cells cs T' (0,0))→T'∈jgX→w'.heap[b]?=some (.cells cs T' (0,0)):=fun {b cs T'} hb hT'=>by
  rw [hg.block b (lt_of_heap hb) (fun e=>by injection e with e;exact yl hX hb (fun e2=>hT (e2▸hT')) e.symm)];exact hb
 have tn: ∀{y:Fr} {c d:Value},NrV w y c d→Off y c d X→NrV w' y c d:=fun hy hf=>hy.turn hg fun z hz=>by injection hz with hz;subst hz;exact hf
 exact {h with
  bel:=h.bel.grown hg h.bel.size (fun y hy=>by injection hy with hy;subst hy;exact hb)
  ctb:=kp h.ctb (by decide)
  res:=by rw [hg.block K.RB (lt_of_heap h.res) (fun e=>by injection e with e;exact hXR e.symm)];exact h.res
  ordc:=kp h.ordc (by decide)
  nc:=kp h.nc (by decide)
  qc:=kp h.qc (by decide)
  cv:=kp h.cv (by decide)
  wv:=kp h.wv (by decide)
  ca:=kp h.ca (by decide)
  wa:=kp h.wa (by decide)
  kar:=kp h.kar (by decide)
  vs:=fun j hj=>kp (h.vs j hj) (by decide)
  quo:=tn h.quo ho.q
  kfr:=fun j hj=>tn (h.kfr j hj) (ho.k j hj)
  vfr:=fun j hj=>tn (h.vfr j hj) (ho.v j hj)
  els:=h.els.kept hg (by
   rcases h.els.2 with⟨hv,_⟩|⟨g,cap,cur,hv,_,hg2,_⟩;·exact .inl (by rw [hv];rfl)
   ·refine .inr (fun e=>?_);rw [hv]at e;have e2:g=X:=by simpa [Value.ownBlock] using e
    exact yl hX hg2 (fun e3=>hT (by rw [e3];decide)) e2.symm)}
theorem yI.turn(h:yI K q S G w){X:Nat}(hg:w.grownBy w' (some X)){cs:Array Value}{T:TypeId}{f:Nat×Nat}(hX:w.heap[X]?=some (.cells cs T f))(hT:T∉jgX)(hTR:T≠31)(hb:K.w0.heap.size≤X)(ho:KN K q S G X):yI K q S G w':=
 h.turnR hg hX hT (yl hX h.res hTR) hb ho
theorem yI.turnO(h:yI K q S G w){X:Option Nat}(hg:w.grownBy w' X)(hX: ∀x,X=some x→(∃cs T f,w.heap[x]?=some (.cells cs T f)∧T∉jgX∧T≠31)∧K.w0.heap.size≤x∧KN K q S G x):yI K q S G w':=by
 cases X with
 |none=>exact h.below ((jN _ _).grown hg (jO _) (fun y hy=>by cases hy))
 |
  some x=>
  obtain⟨⟨cs,T,f,h1,h2,h5⟩,h3,h4⟩:=hX x rfl;exact h.turn hg h1 h2 h5 h3 h4
end
end Go.Proofs.YtnohcdpnnhmpfaaGreatDoor.TR
namespace Go.Proofs.YtnohcdpnnhmpfaaGreatDoor.TR
open Go.RowKit Tryz ML FRP AU CT FM
theorem JS.turn {w w':World}{base g cg n:Nat}{T:Nat→Fr}{xa xb:Nat→Value}(h:JS w base g cg n T xa xb){X:Option Nat}(hg:w.grownBy w' X)(hne:X≠some g)(hX: ∀y,X=some y→ ∀i,i<n→Off (T i) (xa i) (xb i) y):JS w' base g cg n T xa xb:=
 ⟨h.row.kept hg (.inr (fun e=>hne e.symm)),fun i hi=>(h.frs i hi).turn hg fun y hy=>hX y hy i hi⟩
theorem NrV.grow {w w':World}{x:Fr}{a b:Value}(h:NrV w x a b){base:Nat}{e:TypeId}{size n:Nat}{v:Value}{xs:List Value}(hr:GRow ym w base e size v n xs)(hg:w.grownBy w' v.ownBlock):NrV w' x a b:=
 h.turn hg fun y hy=>by
  have key: ∀(oa:Option Addr) (L:List Nat) (k c:Nat),IntsAt w oa L→L≠ []→(Value.slice oa k c).ownBlock≠some y:=by
   intro oa L k c hI hL e;have hpos:0<L.length:=qO.2 hL;obtain⟨a,h1,h2,h3⟩:=hI.cells 0 hpos;rw [h1]at e;have e2:a.block=y:=by simpa [Value.ownBlock] using e
   refine hr.other h3 rfl ?_;rw [yM,e2];exact hy
  obtain⟨oa,ca,ob,cb,rfl,rfl,hf⟩:=h;exact⟨fun h0=>key _ _ _ _ hf.1 (Zy h0),fun h0=>key _ _ _ _ hf.2 (Zy h0)⟩
theorem JS.grow {w w':World}{base g cg n:Nat}{T:Nat→Fr}{xa xb:Nat→Value}(h:JS w base g cg n T xa xb){base2:Nat}{e:TypeId}{size m:Nat}{v:Value}{xs:List Value}(hr:GRow ym w base2 e size v m xs)(hg:w.grownBy w' v.ownBlock)(hne:v.ownBlock≠some g):JS w' base g cg n T xa xb:=
 ⟨h.row.kept hg (.inr (fun e=>hne e.symm)),fun i hi=>(h.frs i hi).grow hr hg⟩
theorem JS.not_own {w:World}{base g cg n:Nat}{T:Nat→Fr}{xa xb:Nat→Value}(h:JS w base g cg n T xa xb){base2:Nat}{e:TypeId}{size m:Nat}{v:Value}{xs:List Value}(hr:w.ownsRow base2 e size v m xs)(he:e≠69):v.ownBlock≠some g:=fun hv=>by
 obtain⟨cur,hg,_⟩:=h.blk;rcases hr.2 with⟨h0,_⟩|⟨g2,cap2,cur2,h0,_,hg2,_⟩;·rw [h0]at hv;cases hv
 ·rw [h0]at hv;have e2:g2=g:=by simpa [Value.ownBlock] using hv
  subst e2;rw [hg]at hg2;injection hg2 with hg2;injection hg2 with _ h2;exact he h2.symm
theorem JS.ne_blk {w:World}{base g cg n:Nat}{T:Nat→Fr}{xa xb:Nat→Value}(h:JS w base g cg n T xa xb){X:Nat}{cs:Array Value}{t:TypeId}{f:Nat×Nat}(hX:w.heap[X]?=some (.cells cs t f))(he:69≠t):X≠g:=fun e=>JO h.row.own hX he (by rw [e];rfl)
theorem jfe(F:List (Bytes×Bytes)): ∀v∈zh F,ym v=true:=by
 intro v hv;unfold zh at hv;obtain⟨p,_,hp⟩:=qs.1 hv;simp only [Xq,jg,jv,jx]at hp;rcases hp with rfl|rfl<;>rfl
def jdf(RB:Nat)(w w':World):Prop:= ∀X cs T f,w.heap[X]?=some (.cells cs T f)→X≠RB→T≠27→w'.heap[X]?=some (.cells cs T f)
theorem jdf.below {RB:Nat}{w w1 w2:World}(h:jdf RB w w1)(hb:Below w1.heap.size w1 w2):jdf RB w w2:=fun X cs T f hX h1 h2=>(hb.block X (lt_of_heap (h X cs T f hX h1 h2))).trans (h X cs T f hX h1 h2)
theorem jkD(n:Nat)(T:Nat→Fr)(g cg RB:Nat)(xa xb:Nat→Value)(NP:Bytes×Bytes)(wo w:World)(Q:Exit→Act→World→Prop){u0 u1 u2 u3 u4 u5 u6 u7 u8 u9 u10 u11 u12 u13 u14 u15 u16 u17 u18 u19 u20 u21 u22 u23 u24 u25 u27 u28 u29 u30 u31 u32 u33 u34 u35 u36 u37 u38 u39 u40 u41 u42 u43 u44 u45 u46 u47 u48 u49 u50 u51 u52 u53 u54 u55 u56 u57 u58 u59 u60 u61 u62 u63 u64 u65 u66 u67 u68 u69 u70 u71 u72 u73 u74 u75 u76 u77 u78 u79 u80 u81 u82 u83 u84 u85 u86 u87 u88 u89 u90 u91 u92 u93 u94 u95 u96 u97 u98 u99 u100 u101 u102 u103 u104 u105 u106 u107 u108 u109 u110 u111 u112 u113 u114 u115 u116 u117 u118 u119 u120 u121 u122 u123 u124 u125 u126 u127 u128 u129 u130 u131 u132 u133 u134 u135 u136 u137 u138 u139 u140 u141 u142 u143 u144 u145 u146 u147 u148 u149 u150 u151 u155 u156 u157 u158 u159 u160 u161 u162 u163 u164 u165 u166 u167 u168 u169 u170 u171 u172 u173 u174 u175 u176 u177 u178 u179 u180 u181 u182 u183 u184 u185 u186 u187 u188 u189 u190 u191 u192 u193 u194 u195 u196 u197 u198 u199 u200 u201 u202 u203 u204 u205 u206 u207 u208 u209 u210 u211 u212 u213 u214 u215 u216 u217 u218 u219 u220 u221 u222 u223 u224 u225 u226 u227 u228 u229 u230 u231 u232 u233 u234 u235 u236 u237 u238 u239 u240 u241 u242 u243 u244 u245 u246 u247 u248 u249 u250 u251 u252 u253 u254 u255 u256 u257 u258 u259 u260 u261 u262 u263 u264 u265 u266 u267 u268 u269 u270 u271 u272 u273 u274 u275 u276 u277 u278 u279 u280 u281 u282 u283 u284 u285 u286 u287 u288 u289 u290 u291 u292 u293 u294 u295 u296 u297 u298 u299 u300 u301 u302 u303 u304 u305 u306 u307 u308:Value}
 (hn:n≤12) (hb:Below wo.heap.size wo w) (hT:JS w wo.heap.size g cg n T xa xb) (hS: ∀i,i<n→Sml (T i)) (hM1:wo.heap.size≤RB)
 (hRB:w.heap[RB]?=some (.cells #[.slice none 0 0,.string ⟨NP.1.toArray⟩,.string ⟨NP.2.toArray⟩,.int .i64 (0:Int),.slice none 0 0] 44 (0,0))) (hO: ∀i,i<n→Off (T i) (xa i) (xb i) RB)
 (hP: ∀(c:List PanicEntry) (a:Act) (d:Option Nat) (v:Value) (w:World),Q (.panic c) (a.put d v) w→Q (.panic c) a w)
 (hQ: ∀(v28 v154 v155 v156 v157 v158 v159 v160 v161 v162 v163 v164 v165:Value) (w':World) (tv:Value),w'.heap[RB]?=some (.cells #[tv,.string ⟨NP.1.toArray⟩,.string ⟨NP.2.toArray⟩,.int .i64 (0:Int),.slice none 0 0] 44 (0,0))→GRow ym w' wo.heap.size 27 2 tv n (zh (((List.range n).map T).map txt))→JS w' wo.heap.size g cg n T xa xb→Below wo.heap.size wo w'→jdf RB w w'→Q .normal ⟨#[u0,u1,u2,u3,u4,u5,u6,u7,u8,u9,u10,u11,u12,u13,u14,u15,u16,u17,u18,u19,u20,u21,u22,u23,u24,u25,.pointer (some ⟨RB,0,none⟩),u27,v28,u29,u30,u31,u32,u33,u34,u35,u36,u37,u38,u39,u40,u41,u42,u43,u44,u45,u46,u47,u48,u49,u50,u51,u52,u53,u54,u55,u56,u57,u58,u59,u60,u61,u62,u63,u64,u65,u66,u67,u68,u69,u70,u71,u72,u73,u74,u75,u76,u77,u78,u79,u80,u81,u82,u83,u84,u85,u86,u87,u88,u89,u90,u91,u92,u93,u94,u95,u96,u97,u98,u99,u100,u101,u102,u103,u104,u105,u106,u107,u108,u109,u110,u111,u112,u113,u114,u115,u116,u117,u118,u119,u120,u121,u122,u123,u124,u125,u126,u127,u128,u129,u130,u131,u132,u133,u134,u135,u136,u137,u138,u139,u140,u141,u142,u143,u144,u145,u146,u147,u148,u149,u150,u151,.slice (some ⟨g,0,none⟩) n cg,.int .i64 n,v154,v155,v156,v157,v158,v159,v160,v161,v162,v163,v164,v165,u166,u167,u168,u169,u170,u171,u172,u173,u174,u175,u176,u177,u178,u179,u180,u181,u182,u183,u184,u185,u186,u187,u188,u189,u190,u191,u192,u193,u194,u195,u196,u197,u198,u199,u200,u201,u202,u203,u204,u205,u206,u207,u208,u209,u210,u211,u212,u213,u214,u215,u216,u217,u218,u219,u220,u221,u222,u223,u224,u225,u226,u227,u228,u229,u230,u231,u232,u233,u234,u235,u236,u237,u238,u239,u240,u241,u242,u243,u244,u245,u246,u247,u248,u249,u250,u251,u252,u253,u254,u255,u256,u257,u258,u259,u260,u261,u262,u263,u264,u265,u266,u267,u268,u269,u270,u271,u272,u273,u274,u275,u276,u277,u278,u279,u280,u281,u282,u283,u284,u285,u286,u287,u288,u289,u290,u291,u292,u293,u294,u295,u296,u297,u298,u299,u300,u301,u302,u303,u304,u305,u306,u307,u308],[]⟩ w'):
 Code.wp prog (jes 8) Q ⟨#[u0,u1,u2,u3,u4,u5,u6,u7,u8,u9,u10,u11,u12,u13,u14,u15,u16,u17,u18,u19,u20,u21,u22,u23,u24,u25,.pointer (some ⟨RB,0,none⟩),u27,u28,u29,u30,u31,u32,u33,u34,u35,u36,u37,u38,u39,u40,u41,u42,u43,u44,u45,u46,u47,u48,u49,u50,u51,u52,u53,u54,u55,u56,u57,u58,u59,u60,u61,u62,u63,u64,u65,u66,u67,u68,u69,u70,u71,u72,u73,u74,u75,u76,u77,u78,u79,u80,u81,u82,u83,u84,u85,u86,u87,u88,u89,u90,u91,u92,u93,u94,u95,u96,u97,u98,u99,u100,u101,u102,u103,u104,u105,u106,u107,u108,u109,u110,u111,u112,u113,u114,u115,u116,u117,u118,u119,u120,u121,u122,u123,u124,u125,u126,u127,u128,u129,u130,u131,u132,u133,u134,u135,u136,u137,u138,u139,u140,u141,u142,u143,u144,u145,u146,u147,u148,u149,u150,u151,.slice (some ⟨g,0,none⟩) n cg,.int .i64 n,.int .i64 (0:Int),u155,u156,u157,u158,u159,u160,u161,u162,u163,u164,u165,u166,u167,u168,u169,u170,u171,u172,u173,u174,u175,u176,u177,u178,u179,u180,u181,u182,u183,u184,u185,u186,u187,u188,u189,u190,u191,u192,u193,u194,u195,u196,u197,u198,u199,u200,u201,u202,u203,u204,u205,u206,u207,u208,u209,u210,u211,u212,u213,u214,u215,u216,u217,u218,u219,u220,u221,u222,u223,u224,u225,u226,u227,u228,u229,u230,u231,u232,u233,u234,u235,u236,u237,u238,u239,u240,u241,u242,u243,u244,u245,u246,u247,u248,u249,u250,u251,u252,u253,u254,u255,u256,u257,u258,u259,u260,u261,u262,u263,u264,u265,u266,u267,u268,u269,u270,u271,u272,u273,u274,u275,u276,u277,u278,u279,u280,u281,u282,u283,u284,u285,u286,u287,u288,u289,u290,u291,u292,u293,u294,u295,u296,u297,u298,u299,u300,u301,u302,u303,u304,u305,u306,u307,u308],[]⟩ w:=by
 have HP:=jA hP;clear hP
 conv=>arg 2;whnf
 have HQ:=jA hQ;have HSZ:=jA zM;have HS:=jA hS;have HB:=jA hb;have HT:=jA hT;have HRB:=jA hRB;have HO:=jA hO;clear hQ hb hT hRB hO hS;obtain⟨M,hM⟩: ∃M,M=wo.heap.size:=⟨_,rfl⟩;have HM:=jA hM;rw [←hM]at hM1 HB HT HQ;clear hM;obtain⟨TX,hTX⟩: ∃TX,TX=((List.range n).map T).map txt:=⟨_,rfl⟩;rw [←hTX]at HQ;have htl:TX.length=n:=by rw [hTX];simp
 have htj: ∀j (h:j<TX.length),TX[j]=txt (T j):=fun j h=>by subst hTX;simp
 have HTL:=jA htl;have HTJ:=jA htj;obtain⟨f0,hf0,hy0,hy1,hy2⟩:=info_parts jcK;have F0:=jA hf0;have FZ0:=jA hy0;have FZ1:=jA hy1;have FZ2:=jA hy2;clear hf0 hy0 hy1 hy2 htl htj hTX;go_wp2_with fail;go_loopw [154] (fun v wi=> ∃(j:Nat) (tv:Value),v=.int .i64 j∧j≤n∧wi.heap[RB]?=some (.cells #[tv,.string ⟨NP.1.toArray⟩,.string ⟨NP.2.toArray⟩,.int .i64 (0:Int),.slice none 0 0] 44 (0,0))∧GRow ym wi M 27 2 tv j (zh (TX.take j))∧JS wi M g cg n T xa xb∧Below M wo wi∧jdf RB w wi) (fun v _=>n-(intOf v).toNat);case atStart=>exact⟨0,_,rfl,ji _,HRB.u,GRow.nil,HT.u,HB.u,fun _ _ _ _ h _ _=>h⟩
 case round=>
 clear HRB HT HB;obtain⟨j,tvv,rfl,hj,hc8,hrw,htt,hbb,hkp⟩:=hrel;have K8:=jA hkp;have P8:=jA hc8;have R8:=jA hrw;have T8:=jA htt;have B8:=jA hbb;have hMr:M≤wr.heap.size:=by have:=hbb.size;have h2:=HM.u;have h3:=hbb.size;have:=lt_of_heap hc8;omega
 clear hc8 hrw htt hbb hkp;by_cases hlt:j<n;case neg=>
  obtain rfl:j=n:=by omega
  have dk:decide ((j:Int)<(j:Int))=false:=jS (by omega);have dk2:decide (j<j)=false:=jS (by omega);have etx:TX.take j=TX:=jc (by have:=HTL.u;omega);rw [etx]at R8;go_wp2_with fail;exact HQ.u _ _ _ _ _ _ _ _ _ _ _ _ _ _ _ P8.u R8.u T8.u B8.u K8.u
 have dk:decide ((j:Int)<(n:Int))=true:=jQ (by omega);have dk2:decide (j<n)=true:=jQ hlt;have dki:(j:Int)<(n:Int):=by omega
 have FJ:=jA (T8.u.frs j hlt);go_upto_region 38 with(first
  |(refine JF rfl 69 _ rfl ⟨g,j*2,none⟩ rfl [xa j,xb j] _ (T8.u.tot.mid hlt) underlying69 rfl HSZ.u ?_)
  |(refine xM rfl rfl 69 _ _ rfl wr.heap.size #[.slice none 0 0,.slice none 0 0] #[xa j,xb j] 69 rfl rfl (xN rfl) rfl HSZ.u (zF _ _ FJ.u.one.1 FJ.u.one.2) ?_;intro w9 ho hp))
 have bz:Below wr.heap.size wr w9:=xQ ((jN _ _).alloc (jO _) _) ho (jO _);have P9:=jA (xK bz (lt_of_heap P8.u) P8.u);have R9:=jA (R8.u.below bz);have T9:=jA (T8.u.below bz);have B9:=jA (B8.u.trans (bz.mono hMr));have F9:=jA (FJ.u.below bz);have X9:=jA hp;have K9:=jA (K8.u.below bz);have hD:wr.heap.size<w9.heap.size:=lt_of_heap hp;generalize wr.heap.size=D at*;have h8l:RB<w9.heap.size:=lt_of_heap P9.u;have d8: ∀x:xS w9.heap.size w9,x.w.cell? ⟨RB,0,none⟩=some tvv:=fun x=>jM _ RB 0 _ _ _ (xK x.2 h8l P9.u);clear bz ho hp P8 R8 T8 B8 K8 FJ dk dk2 dki;refine Seg.xL (fun w'=> ∃x:xS w9.heap.size w9,w'=x.w) [([0,1,2],3),([],4)] [] 5 (by kernel_rfl) (by kernel_rfl) (fun c a d v w h=>HP.u c a d v w h) (⟨⟨_,(jN _ _).drew⟩,rfl⟩) ?_;simp only [jK,Seg.opAt,Seg.xW];first|go_big_quiet_step (fail)|quiet_step (fail)
 first|go_big_quiet_step (fail)|quiet_step (fail)
 refine yR rfl 69 _ rfl D #[xa j,xb j] _ _ _ rfl X9 hD underlying69 rfl HSZ.u ?_;refine jP ?_;intro Kc hK;simp only [Region.wanted,jY];have QL:=jA (jdA w9.drew (F9.u.below (jN _ _).drew) (HS.u j hlt).lens);have hjt:j<TX.length:=by rw [HTL.u];exact hlt
 have HJT:=jA (HTJ.u j hjt);obtain⟨XP,hXP⟩: ∃XP,XP=txt (T j):=⟨_,rfl⟩;rw [←hXP]at QL HJT;clear hXP;go_wp2_with (go_at_call 34;refine QL.u.mono ?_;rintro e wb ⟨rfl,b10⟩);have B10:=jA (yV b10);refine hK _ _ ⟨⟨wb,B10.u⟩,rfl⟩ ?_;clear hK Kc b10 d8 QL;repeat (any_goals (first|go_big_quiet_step (fail)|quiet_step (fail)))
 refine jP ?_;intro Kc hK;first|go_simp|skip
 go_wp2_with fail;have bh:Below wb.heap.size wb (wb.alloc (.cells #[.string ⟨XP.1.toArray⟩,.string ⟨XP.2.toArray⟩] 27)):=(jN _ _).alloc (jO _) _;have ed:(wb.alloc (.cells #[.string ⟨XP.1.toArray⟩,.string ⟨XP.2.toArray⟩] 27)).heap[wb.heap.size]?=some (.cells #[.string ⟨XP.1.toArray⟩,.string ⟨XP.2.toArray⟩] 27 (0,0)):=xN rfl;have B11:=jA (B10.u.trans (bh.mono B10.u.size));refine hK _ _ ⟨⟨_,B11.u⟩,rfl⟩ ?_;clear hK Kc bh B10;generalize (wb.alloc (.cells #[.string ⟨XP.1.toArray⟩,.string ⟨XP.2.toArray⟩] 27))=w11 at*;generalize wb.heap.size=C at*;have P11:=jA (xK B11.u h8l P9.u);have R11:=jA (R9.u.below B11.u);have T11:=jA (T9.u.below B11.u);have K11:=jA (K9.u.below B11.u);have hoi9:M≤w9.heap.size:=by have:=B9.u.size;have:=HM.u;omega
 have D11:=jA (B9.u.trans (B11.u.mono hoi9));have hoi11:M≤w11.heap.size:=by have:=D11.u.size;have:=HM.u;omega
 clear P9 R9 T9 B9 F9 X9 K9 hD h8l B11;repeat (any_goals (first|go_big_quiet_step (fail)|quiet_step (fail)))
 refine jP ?_;go_wp2_with (at_builtin;refine yS (good:=ym) _ rfl (.tmp 159) (.tmp 162) 42 rfl M 27 f0 (.agg #[.string ⟨#[]⟩,.string ⟨#[]⟩]) 2 32 underlying42 F0.u FZ0.u FZ1.u FZ2.u rfl (by decide) (fun u hu=>by simp [Value.cells]at hu;subst hu;rfl) tvv j (zh (TX.take j)) rfl R11.u ⟨C,0,none⟩ 1 1 (zh [XP]) rfl rfl (zG ed) (jcO _) (jfe _) (fun _=>by decide) (by unfold maxLen;omega) (by omega) (by omega) _ rfl ?_;intro g9 c9 w12 own hg hf hlt9;have hnr:tvv.ownBlock≠some RB:=JO R11.u.own P11.u (by decide);have P12:=jA (((hg.block RB (lt_of_heap P11.u) (fun e=>hnr e.symm))).trans P11.u);have n12:w12.cell? ⟨RB,0,none⟩=some tvv:=jM w12 RB 0 _ _ _ P12.u;have z12:w12.frozen? ⟨RB,0,none⟩=false:=jb w12 RB 0 _ _ P12.u;have T12:=jA (T11.u.grow R11.u hg (T11.u.not_own R11.u.own (by decide)));have K12:=jA (show jdf RB w w12 from fun X cs T f hX h1 h2=>((hg.block X (lt_of_heap (K11.u X cs T f hX h1 h2)) (fun e=>JO R11.u.own (K11.u X cs T f hX h1 h2) h2.symm e.symm))).trans (K11.u X cs T f hX h1 h2));have D12:=jA (D11.u.grown hg hoi11 (fun y hy=>(R11.u.own.lt y hy).1));have h8w:RB<w12.heap.size:=lt_of_heap P12.u);go_roundw;case rel=>
  have ho:xp RB w12 (w12.setCell ⟨RB,0,none⟩ (.slice (some ⟨g9,0,none⟩) (j+1) c9)):=xh 0 _;have hgr:g9≠RB:=fun e=>JO own.own P12.u (by decide) (by rw [e];rfl);refine⟨j+1,_,by go_num,by omega,jd w12 RB 0 _ _ _ P12.u,?_,T12.u.turn (xR ho) (fun e=>T12.u.ne_blk P12.u (by decide) (by injection e)) (fun y hy i hi=>by injection hy with hy;subst hy;exact HO.u i hi),xQ D12.u ho hM1,fun X cs T f hX h1 h2=>(ho.block X h1).trans (K12.u X cs T f hX h1 h2)⟩;rw [←jbp TX j hjt,HJT.u];exact own.kept (xR ho) (.inr (fun e=>by injection e with e;exact hgr e))
 case measure=>simp [intOf];omega
end Go.Proofs.YtnohcdpnnhmpfaaGreatDoor.TR
