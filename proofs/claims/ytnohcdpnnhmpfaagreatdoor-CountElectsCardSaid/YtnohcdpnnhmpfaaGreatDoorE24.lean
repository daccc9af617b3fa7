/- Chapter 13, Transfer: rounds in memory. -/
import Derived.Test.YtnohcdpnnhmpfaaGreatDoorE23
set_option linter.all false
namespace Go.Proofs.YtnohcdpnnhmpfaaGreatDoor.TR
open Go.RowKit ML FRP AU CT FM
structure RdV(K:HK)(G:HG)(w:m0)(rd:Rd)(c:A0):Prop where
 ex: ∃tv wv,c= [tv,.string ⟨(txt rd.non).1.toArray⟩,.string ⟨(txt rd.non).2.toArray⟩,.int .i64 (rd.d:Int),wv]∧
  w.ownsRow K.w0.heap.size 27 2 tv rd.tots.length (JF (rd.tots.map txt))∧w.ownsRow K.w0.heap.size 3 1 wv rd.who.length (xq (yK rd.who))∧
  (∀x,tv.ownBlock=some x→ ¬zI K G x)∧(∀x,wv.ownBlock=some x→ ¬zI K G x)
theorem jfq {w:m0}{base:Nat}{e:o0}{s n:Nat}{v:n0}{xs:A0}(h:w.ownsRow base e s v n xs){x:Nat}(hx:v.ownBlock=some x):x<w.heap.size:=(h.lt x hx).2
theorem RdV.step {K:HK}{G G':HG}{w w':m0}{rd:Rd}{c:A0}(h:RdV K G w rd c)(t:yj K G w G' w'):RdV K G' w' rd c:=by
 obtain⟨tv,wv,h1,h2,h3,h4,h5⟩:=h.ex;exact⟨tv,wv,h1,t.own h2 h4,t.own h3 h5,fun x hx=>t.not_mine (jfq h2 hx) (h4 x hx),fun x hx=>t.not_mine (jfq h3 hx) (h5 x hx)⟩
theorem RdV.trn {K:HK}{G:HG}{w w':m0}{rd:Rd}{c:A0}(h:RdV K G w rd c){T b0:Nat}{X:L0}(t:Trn T b0 X w w')(h1:27≠T)(h2:3≠T):RdV K G w' rd c:=by
 obtain⟨tv,wv,g1,g2,g3,g4,g5⟩:=h.ex;have Rv: ∀{e:o0} {s n:Nat} {v:n0} {xs:A0},e≠T→w.ownsRow K.w0.heap.size e s v n xs→w'.ownsRow K.w0.heap.size e s v n xs:=by
  intro e s n v xs he hr;obtain⟨q1,q2⟩:=hr;refine⟨q1,?_⟩;rcases q2 with q2|⟨g,cap,Es,hv,hb,hg,rest⟩;·exact .inl q2
  ·exact .inr ⟨g,cap,Es,hv,hb,t.keep hg he,rest⟩
 exact⟨tv,wv,g1,Rv h1 g2,Rv h2 g3,g4,g5⟩
structure Xl(K:HK)(q:Fr)(S:St)(G:HG)(w:m0)(OB RB:Nat)(R:List Rd)(vR:n0)(CS:List (A0)):Prop where
 hall:yB K q S G w
 u:w.heap[OB]?=some (.cells #[.string ⟨(txt q).1.toArray⟩,.string ⟨(txt q).2.toArray⟩,vR,.slice none 0 0] 31 (0,0))
 res:w.heap[RB]?=some (.cells #[.string ⟨#[]⟩,.string ⟨#[]⟩,.slice none 0 0,.slice none 0 0] 31 (0,0))
 ne:OB≠RB
 rows:GRow noLimb w K.w0.heap.size 44 5 vR R.length CS.flatten
 len:CS.length=R.length
 each: ∀i (h:i<R.length) (h':i<CS.length),RdV K G w R[i] CS[i]
section
variable {K:HK} {q:Fr} {S S':St} {G G':HG} {w w':m0} {OB RB:Nat} {R:List Rd} {vR:n0} {CS:List (A0)}
theorem Xl.nm(h:Xl K q S G w OB RB R vR CS): ¬zI K G OB∧ ¬zI K G RB∧ ∀x,vR.ownBlock=some x→ ¬zI K G x:=by
 refine⟨not_mine h.hall h.u (by decide),not_mine h.hall h.res (by decide),fun x hx=>?_⟩;rcases h.rows.own.2 with⟨hv,_⟩|⟨g,cap,Es,hv,_,hg,_⟩;·rw [hv]at hx;cases hx
 ·have e:g=x:=by rw [hv]at hx;simpa [Value.ownBlock] using hx
  subst e;exact not_mine h.hall hg (by decide)
theorem Xl.step(h:Xl K q S G w OB RB R vR CS)(t:yj K G w G' w')(hh:yB K q S' G' w'):Xl K q S' G' w' OB RB R vR CS:=
 ⟨hh,t.keep h.u h.nm.1,t.keep h.res h.nm.2.1,h.ne,t.row h.rows h.nm.2.2,h.len,fun i hi Cx=>(h.each i hi Cx).step t⟩
theorem Xl.below(h:Xl K q S G w OB RB R vR CS)(hb:O0 w.heap.size w w'):Xl K q S G w' OB RB R vR CS:=h.step (JD hb) (h.hall.below hb)
end
theorem yB.trn {K:HK}{q:Fr}{S:St}{G:HG}{w w':m0}(h:yB K q S G w){T:o0}{X:L0}(t:Trn T K.w0.heap.size X w w')
 (hT:116≠T∧113≠T∧90≠T∧4≠T∧168≠T∧165≠T∧3≠T):yB K q S G w':=
 ⟨t.below h.bel,t.keep h.hall hT.1,t.keep h.withs hT.2.1,t.keep h.kepts hT.2.2.1,t.keep h.conts hT.2.2.2.1,t.keep h.moveds hT.2.2.2.1,h.cm,
  fun k hk=>t.keep (h.papers k hk) hT.2.2.2.2.1,h.pinj,fun k hk=>⟨t.keep (h.ranks k hk).1 hT.2.2.2.2.2.2,(h.ranks k hk).2⟩,h.rkc,h.rkl,fun k hk=>t.fr (h.wts k hk),fun i hi=>t.fr (h.keps i hi),t.fr h.quo,
  fun i hi=>t.rowT (h.piles i hi) hT.2.2.2.2.2.1,t.rowT h.nones hT.2.2.2.2.2.1,h.apart,h.apartN,h.pls,t.rowT h.els hT.2.2.2.2.2.2,h.bases,h.contb,jU h.ebs t.grown.size⟩
theorem jfp {T b0:Nat}{X:L0}{w w':m0}(t:Trn T b0 X w w'){base:Nat}{e:o0}{s n:Nat}{v:n0}{xs:A0}(he:e≠T)(hr:w.ownsRow base e s v n xs):w'.ownsRow base e s v n xs:=by
 obtain⟨q1,q2⟩:=hr;refine⟨q1,?_⟩;rcases q2 with q2|⟨g,cap,Es,hv,hb,hg,rest⟩;·exact .inl q2
 ·exact .inr ⟨g,cap,Es,hv,hb,t.keep hg he,rest⟩
theorem Jx {w:m0}{base:Nat}{e:o0}{s n:Nat}{v:n0}{xs:A0}(h:w.ownsRow base e s v n xs): ∃o c,v=.slice o n c:=by
 rcases h.2 with⟨hv,h0⟩|⟨g,cap,Es,hv,_⟩
 ·subst h0;exact⟨none,0,hv⟩
 ·exact⟨_,_,hv⟩
theorem Xl.turn {K:HK}{q:Fr}{S:St}{G:HG}{w w':m0}{OB RB:Nat}{R:List Rd}{vR:n0}{CS:List (A0)}(h:Xl K q S G w OB RB R vR CS){C:Nat}(t:Trn 44 K.w0.heap.size (some C) w w')(hC:vR.ownBlock≠some C):Xl K q S G w' OB RB R vR CS:=
 ⟨h.hall.trn t ⟨by decide,by decide,by decide,by decide,by decide,by decide,by decide⟩,t.keep h.u (by decide),t.keep h.res (by decide),h.ne,t.row h.rows (.inr hC),h.len,fun i hi Cx=>(h.each i hi Cx).trn t (by decide) (by decide)⟩
theorem Xl.push {K:HK}{q:Fr}{S:St}{G:HG}{w wa wx:m0}{OB RB:Nat}{R:List Rd}{vR FN:n0}{CS:List (A0)}(h:Xl K q S G w OB RB R vR CS)(hb:O0 w.heap.size w wa)(t:Trn 44 K.w0.heap.size vR.ownBlock wa wx){rd:Rd}{c:A0}
 (own:GRow noLimb wx K.w0.heap.size 44 5 FN (R.length+1) (CS.flatten++c)) (he:RdV K G w rd c) (GM:K.w0.heap.size≤OB):Xl K q S G (wx.setCell ⟨OB,2,none⟩ FN) OB RB (R++ [rd]) FN (CS++ [c]):=by
 have ha:=h.below hb;have hx:=t.keep ha.u (by decide);obtain⟨oR,cR,hvR⟩:=Jx h.rows.own
 have t16:Trn 31 K.w0.heap.size (some OB) wx (wx.setCell ⟨OB,2,none⟩ FN):=Trn.of_only (yC 2 _) hx GM (fun u hu=>by
  subst hvR;simp only [jl,kD,kH]at hu;rcases hu with rfl|rfl|rfl|rfl<;>rfl)
 have hs:yj K G w G wa:=JD hb
 refine⟨(ha.hall.trn t ⟨by decide,by decide,by decide,by decide,by decide,by decide,by decide⟩).trn t16 ⟨by decide,by decide,by decide,by decide,by decide,by decide,by decide⟩,jd wx OB 2 _ _ _ hx,
  t16.keepX (t.keep ha.res (by decide)) (fun e=>h.ne (by injection e)),h.ne,?_,by simp [h.len],fun i hi Cx=>?_⟩
 ·rw [jZ,kM,List.flatten_append];have: [c].flatten=c:=by simp
  rw [this];exact t16.rowT own (by decide)
 ·have Rv: ∀{rd':Rd} {c':A0},RdV K G w rd' c'→RdV K G (wx.setCell ⟨OB,2,none⟩ FN) rd' c':=fun h1=>((h1.step hs).trn t (by decide) (by decide)).trn t16 (by decide) (by decide);by_cases hl:i<R.length
  ·have hl':i<CS.length:=by rw [h.len];exact hl
   rw [xV hl,xV hl'];exact Rv (h.each i hl hl')
  ·have e1:i=R.length:=by simp at hi;omega
   have e2:i=CS.length:=by rw [h.len];exact e1
   have g1:(R++ [rd])[i]=rd:=by subst e1;simp
   have g2:(CS++ [c])[i]=c:=by subst e2;simp
   rw [g1,g2];exact Rv he
theorem jlU {K:HK}{q:Fr}{S:St}{G:HG}{w wa wx:m0}{OB RB n:Nat}{R:List Rd}{vR FN:n0}{CS:List (A0)}(h:Xl K q S G w OB RB R vR CS)(hb:O0 w.heap.size w wa)(hg:wa.grownBy wx vR.ownBlock){rd:Rd}{c:A0}(hn:n=R.length+1)
 (own:GRow noLimb wx K.w0.heap.size 44 5 FN n (CS.flatten++c)) (he:RdV K G w rd c) (GM:K.w0.heap.size≤OB):
 wx.cell? ⟨OB,2,none⟩=some vR∧wx.frozen? ⟨OB,2,none⟩=false∧OB<wx.heap.size∧Xl K q S G (wx.setCell ⟨OB,2,none⟩ FN) OB RB (R++ [rd]) FN (CS++ [c]):=by
 subst hn;have ha:=h.below hb;have t:Trn 44 K.w0.heap.size vR.ownBlock wa wx:=⟨hg,GRow.typed ha.rows⟩;have ox:=t.keep ha.u (by decide);exact⟨jM wx OB 2 _ _ _ ox,jc wx OB 2 _ _ ox,xZ ox,h.push hb t own he GM⟩
structure jcY(K:HK)(G:HG)(w:m0)(vR:n0)(R:List Rd)(CS:List (A0))(vE:n0)(E:E0):Prop where
 rows:w.ownsRow K.w0.heap.size 44 5 vR R.length CS.flatten
 len:CS.length=R.length
 each: ∀i (h:i<R.length) (h':i<CS.length),RdV K G w R[i] CS[i]
 els:w.ownsRow K.w0.heap.size 3 1 vE E.length (xq (yK E))
theorem jcY.trn {K:HK}{G:HG}{w w':m0}{vR:n0}{R:List Rd}{CS:List (A0)}{vE:n0}{E:E0}(h:jcY K G w vR R CS vE E){b0:Nat}{X:L0}(t:Trn 31 b0 X w w'):jcY K G w' vR R CS vE E:=
 ⟨jfp t (by decide) h.rows,h.len,fun i hi Cx=>(h.each i hi Cx).trn t (by decide) (by decide),jfp t (by decide) h.els⟩
theorem Xl.rds {K:HK}{q:Fr}{S:St}{G:HG}{w:m0}{OB RB:Nat}{R:List Rd}{vR:n0}{CS:List (A0)}(h:Xl K q S G w OB RB R vR CS):jcY K G w vR R CS G.ev S.el:=
 ⟨h.rows.own,h.len,h.each,JM h.hall.els.own h.hall.bases.2.2.2.2.2.1⟩
def jno(n m s:Nat)(q:Fr)(Ol:E0)(T0:St)(w:m0)(e:Ending)(w':m0):Prop:=
 ∃(K:HK) (G:HG) (R:List Rd) (S:St) (vR vE:n0) (CS:List (A0)),XF n m s q Ol T0 R S∧End m s q Ol S∧e=.returned (.agg #[.string ⟨(txt q).1.toArray⟩,.string ⟨(txt q).2.toArray⟩,vR,vE])∧jcY K G w' vR R CS vE S.el∧O0 w.heap.size w w'
end Go.Proofs.YtnohcdpnnhmpfaaGreatDoor.TR
namespace Go.Proofs.YtnohcdpnnhmpfaaGreatDoor.TR
open Go.RowKit ML FRP AU CT FM
variable{O:C0}{n:Nat}{w:m0}
theorem jcG: ∀(CS:List (A0)) (z:Nat),(∀c∈CS,c.length=z)→ ∀(i:Nat) (h:i<CS.length) (j:Nat) (v:n0),CS[i][j]?=some v→CS.flatten[i*z+j]?=some v
 | [],z,_,i,h,j,v,_=>by simp at h
 |
  c::CS,z,hz,i,h,j,v,hv=>by
  have hc:=hz c (by simp);rw [List.flatten_cons];cases i with
  |
   zero=>
   have tD:c[j]?=some v:=hv;have hj:j<c.length:=(xO.1 tD).1;rw [Nat.zero_mul,jv,qZ hj];exact tD
  |
   succ i=>
   have e:(i+1)*z+j=z+(i*z+j):=by rw [Nat.succ_mul];omega
   rw [e,kZ (by omega),hc,Nat.add_sub_cancel_left];exact jcG CS z (fun c h=>hz c (by simp [h])) i (by simpa using h) j v hv
def jnK(rd:Rd)(ot:s0)(ct:Nat)(ow:s0)(cw:Nat):A0:= [.slice ot rd.tots.length ct,.string ⟨(txt rd.non).1.toArray⟩,.string ⟨(txt rd.non).2.toArray⟩,.int .i64 (rd.d:Int),.slice ow rd.who.length cw]
structure jpd(w:m0)(oR:s0)(R:List Rd):Prop where
 cells: ∀i (h:i<R.length),∃a ot ct ow cw,oR=some a∧a.block<w.heap.size∧(∀j v,(jnK R[i] ot ct ow cw)[j]?=some v→w.cell? ((a.add (i*5)).add j)=some v)∧FsAt w ot (R[i].tots.map txt)∧yW w ow (yK R[i].who)
theorem yn(l:E0):(yK l).length=l.length:=by simp [yK]
theorem jlR {K:HK}{G:HG}{vR vE:n0}{R:List Rd}{CS:List (A0)}{E:E0}(h:jcY K G w vR R CS vE E): ∃oR cR oE cE,vR=.slice oR R.length cR∧vE=.slice oE E.length cE∧jpd w oR R∧yW w oE (yK E):=by
 obtain⟨oE,cE,he,_,hE⟩:=zT h.els;rw [yn]at he;rcases h.rows.2 with⟨hv,h0⟩|⟨g,cap,Es,hv,hb,hg,px,nM,hc,ht⟩
 ·have:R= []:=kt.1 h0;subst this;exact⟨none,0,oE,cE,hv,he,⟨fun i hi=>by simp at hi⟩,hE⟩
 ·refine⟨some ⟨g,0,none⟩,cap,oE,cE,hv,he,⟨fun i hi=>?_⟩,hE⟩;have Cx:i<CS.length:=by rw [h.len];exact hi
  have h5: ∀c∈CS,c.length=5:=fun c hc=>by
   obtain⟨k,hk,rfl⟩:=vn hc;obtain⟨tv,wv,e,_⟩:=(h.each k (by rw [←h.len];exact hk) hk).ex;rw [e];rfl
  obtain⟨tv,wv,e,q1,q2,_,_⟩:=(h.each i hi Cx).ex;obtain⟨ot,ct,e1,_,f1⟩:=jgQ q1;obtain⟨ow,cw,e2,_,f2⟩:=zT q2;rw [kS]at e1;rw [yn]at e2;refine⟨_,ot,ct,ow,cw,rfl,xZ hg,fun j v hj=>?_,f1,f2⟩;rw [Go.Deep.add_add];refine h.rows.cells (g:=g) (by rw [hv];rfl) (i*5+j) v ?_;refine jcG CS 5 h5 i Cx j v ?_;rw [e,e1,e2];exact hj
theorem jdV{lot:Int→List UInt8}(h:Ord n lot O):O.Nodup:=h.srt.imp (fun {a b} eu=>fun e=>by subst e;exact YC lot _ _ eu eu)
theorem jgy{lot:Int→List UInt8}(h:Ord n lot O):(O.map Int.toNat).Nodup∧ ∀i,i∈O.map Int.toNat↔i<n:=by
 constructor
 ·refine List.pairwise_map.2 ((jdV h).imp_of_mem fun {a b} ha hb Cs e=>Cs ?_);have h1:=h.mem.1 ha;have h2:=h.mem.1 hb;omega
 ·intro i;rw [jo];constructor
  ·rintro⟨x,hx,rfl⟩;have:=h.mem.1 hx;omega
  ·intro hi;exact⟨(i:Int),h.mem.2 ⟨by omega,by omega⟩,by simp⟩
def jbH(c:yH)(P:List (n0×C0))(lots:Bytes)(w:m0)(e:Ending)(w':m0):Prop:=
 O0 w.heap.size w w'∧if prE c P=0 then ∃(O:C0) (R:List Rd) (S:St) (oR:s0) (cR:Nat) (oE:s0) (cE:Nat),Ord c.op.length (Kr c lots) O∧
  XF c.op.length (P.filter (zB (c.rule 3))).length c.se.toNat (zW (P.filter (zB (c.rule 3))).length c.se.toNat) (O.map Int.toNat) (S0 c.op.length (yT (P.filter (zB (c.rule 3)))) (P.filter (zB (c.rule 3))).length) R S∧
  End (P.filter (zB (c.rule 3))).length c.se.toNat (zW (P.filter (zB (c.rule 3))).length c.se.toNat) (O.map Int.toNat) S∧
  e=.returned (.tuple #[.agg #[.string ⟨(txt (zW (P.filter (zB (c.rule 3))).length c.se.toNat)).1.toArray⟩,.string ⟨(txt (zW (P.filter (zB (c.rule 3))).length c.se.toNat)).2.toArray⟩,.slice oR R.length cR,.slice oE S.el.length cE],.int .i64 0])∧jpd w' oR R∧yW w' oE (yK S.el)
 else e=.returned (.tuple #[.agg #[.string ⟨#[]⟩,.string ⟨#[]⟩,.slice none 0 0,.slice none 0 0],.int .i64 (prE c P)])
theorem jbH.bad {c:yH}{P:List (n0×C0)}{lots:Bytes}{w':m0}{E:Int}(hE:prE c P=E)(h0:E≠0)(hb:O0 w.heap.size w w'):jbH c P lots w (.returned (.tuple #[.agg #[.string ⟨#[]⟩,.string ⟨#[]⟩,.slice none 0 0,.slice none 0 0],.int .i64 E])) w':=by
 unfold jbH;rw [hE,jQ h0];exact⟨hb,rfl⟩
end Go.Proofs.YtnohcdpnnhmpfaaGreatDoor.TR
namespace Go.Proofs.YtnohcdpnnhmpfaaGreatDoor
namespace CT
abbrev Mx:=Nat→Nat→Int
def Ks(p:Mx)(i j:Nat):Int:=if p j i<p i j then p i j else 0
inductive Way (e:Mx) (n:Nat) (s:Int):Nat→Nat→Prop
 |one {i j}:i<n→j<n→s≤e i j→Way e n s i j
 |more {i k j}:Way e n s i k→j<n→s≤e k j→Way e n s i j
theorem Way.lt {e:Mx}{n:Nat}{s:Int}{i j:Nat}(h:Way e n s i j):i<n∧j<n:=by
 induction h with
 |one h1 h2 _=>exact⟨h1,h2⟩
 |more _ h2 _ ih=>exact⟨ih.1,h2⟩
theorem Way.trans {e:Mx}{n:Nat}{s:Int}{i k j:Nat}(h:Way e n s i k)(h2:Way e n s k j):Way e n s i j:=by
 induction h2 with
 |one _ h2 h3=>exact h.more h2 h3
 |more _ h2 h3 ih=>exact ih.more h2 h3
theorem Way.mono {e:Mx}{n:Nat}{s t:Int}{i j:Nat}(h:Way e n s i j)(ht:t≤s):Way e n t i j:=by
 induction h with
 |one h1 h2 h3=>exact .one h1 h2 (by omega)
 |more _ h2 h3 ih=>exact ih.more h2 (by omega)
structure JS(e:Mx)(n:Nat)(w:Mx):Prop where
 zero: ∀i,i<n→w i i=0
 nn: ∀i j,i<n→j<n→0≤w i j
 is: ∀i j,i<n→j<n→i≠j→ ∀s,0<s→(s≤w i j↔Way e n s i j)
theorem JS.unique {e:Mx}{n:Nat}{w w':Mx}(h:JS e n w)(h':JS e n w')(i j:Nat)(hi:i<n)(hj:j<n):w i j=w' i j:=by
 by_cases pt:i=j;·subst pt;rw [h.zero i hi,h'.zero i hi]
 ·have h1:=h.nn i j hi hj;have h2:=h'.nn i j hi hj;by_cases a:0<w i j
  ·have:=(h'.is i j hi hj pt _ a).2 ((h.is i j hi hj pt _ a).1 (vL _));have b:0<w' i j:=by omega
   have:=(h.is i j hi hj pt _ b).2 ((h'.is i j hi hj pt _ b).1 (vL _));omega
  ·by_cases b:0<w' i j
   ·have:=(h.is i j hi hj pt _ b).2 ((h'.is i j hi hj pt _ b).1 (vL _));omega
   ·omega
structure jcX(e:Mx)(n:Nat)(w:Mx):Prop where
 zero: ∀i,i<n→w i i=0
 nn: ∀i j,i<n→j<n→0≤w i j
 way: ∀i j,i<n→j<n→i≠j→0<w i j→Way e n (w i j) i j
def upd(w:Mx)(i j:Nat)(v:Int):Mx:=fun a b=>if a=i∧b=j then v else w a b
theorem jcX.upd {e:Mx}{n:Nat}{w:Mx}(h:jcX e n w){i j:Nat}{v:Int}(pt:i≠j)(h0:0≤v)(hw:0<v→Way e n v i j):jcX e n (upd w i j v):=by
 refine⟨fun a ha=>?_,fun a b ha hb=>?_,fun a b ha hb eu hp=>?_⟩;·unfold CT.upd;rw [jQ (by omega)];exact h.zero a ha
 ·unfold CT.upd;split;·exact h0
  ·exact h.nn a b ha hb
 ·unfold CT.upd at hp ⊢;split;·rename_i hc;rw [jP hc]at hp;obtain⟨rfl,rfl⟩:=hc;exact hw hp
  ·rename_i hc;rw [jQ hc]at hp;exact h.way a b ha hb eu hp
theorem Yq {e:Mx}{n:Nat}{w:Mx}(h:jcX e n w)(h1: ∀i j,i<n→j<n→i≠j→e i j≤w i j)(h2: ∀i j k,i<n→j<n→k<n→i≠j→k≠i→min (w i k) (e k j)≤w i j):JS e n w:=by
 have Rv: ∀i j s,0<s→Way e n s i j→i≠j→s≤w i j:=by
  intro i j s hs hw
  induction hw with
  |one ha hb h3=>intro pt;have:=h1 _ _ ha hb pt;omega
  |
   @more k b hk hb h3 ih=>
   intro pt;have Bx:=hk.lt;by_cases nu:k=i;·subst nu;have:=h1 k b Bx.2 hb pt;omega
   ·have c:=ih (Ne.symm nu);have d:=h2 i b k Bx.1 hb Bx.2 pt nu;omega
 exact⟨h.zero,h.nn,fun i j hi hj pt s hs=>⟨fun hw=>(h.way i j hi hj pt (by omega)).mono hw,fun hw=>Rv i j s hs hw pt⟩⟩
def jdb(n:Nat)(w:Mx)(m:Nat):Prop:= ∀i j k,i<n→j<n→k<n→k<m→i≠j→min (w i k) (w k j)≤w i j
theorem jpm(ij ik kj im mj mk km:Int)(c1:min ik kj≤ij)(c2:min ik km≤im)(c3:min mk kj≤mj):min (max ik (min im mk)) (max kj (min km mj))≤max ij (min im mj):=by
 generalize hs:min (max ik (min im mk)) (max kj (min km mj))=s;have h1:s≤ik∨(s≤im∧s≤mk):=by
  have:s≤max ik (min im mk):=by rw [←hs];exact Int.min_le_left _ _
  omega
 have h2:s≤kj∨(s≤km∧s≤mj):=by
  have:s≤max kj (min km mj):=by rw [←hs];exact Int.min_le_right _ _
  omega
 clear hs;rcases h1 with h1|⟨h1,h1'⟩<;>rcases h2 with h2|⟨h2,dP⟩<;>omega
theorem jhk {n m:Nat}{w w':Mx}(hm:m<n)(hz: ∀i,i<n→w i i=0)(mx: ∀i j,i<n→j<n→0≤w i j)(hs: ∀i j,i<n→j<n→i≠j→w' i j=max (w i j) (min (w i m) (w m j)))(hz': ∀i,i<n→w' i i=0)(hc:jdb n w m):jdb n w' (m+1):=by
 intro i j k hi hj hk Wu pt;have e1:=hs i j hi hj pt;by_cases Cy:i=k
 ·subst Cy;have:=hz' i hi;have a:=mx i j hi hj;omega
 by_cases Wz:k=j
 ·subst Wz;have:=hz' k hk;have a:=mx i k hi hk;omega
 have e2:=hs i k hi hk Cy;have e3:=hs k j hk hj Wz;have zm:=hz m hm;have nij:=mx i j hi hj;have nik:=mx i k hi hk;have nkj:=mx k j hk hj;have nim:=mx i m hi hm;have nmj:=mx m j hm hj;have nmk:=mx m k hm hk;have nkm:=mx k m hk hm;by_cases hkm2:k=m
 ·subst hkm2;omega
 ·have ns:k<m:=by omega
  have c1:=hc i j k hi hj hk ns pt;by_cases wC:i=m;·subst wC;omega
  ·by_cases uC:j=m;·subst uC;omega
   ·have c2:=hc i m k hi hm hk ns wC;have c3:=hc m j k hm hj hk ns (Ne.symm uC);rw [e1,e2,e3];exact jpm _ _ _ _ _ _ _ c1 c2 c3
theorem jaL {e:Mx}{n:Nat}{w:Mx}(h:jcX e n w)(h1: ∀i j,i<n→j<n→i≠j→e i j≤w i j)(h2:jdb n w n):JS e n w:=
 Yq h h1 (fun i j k hi hj hk pt nu=>by
  by_cases Wz:k=j;·subst Wz;omega
  ·have:=h2 i j k hi hj hk hk pt;have:=h1 k j hk hj Wz;omega)
theorem JS.closed {e:Mx}{n:Nat}{w:Mx}(h:JS e n w):jdb n w n:=by
 intro i j k hi hj hk _ pt;by_cases Cy:i=k;·subst Cy;have:=h.zero i hi;have:=h.nn i j hi hj;omega
 by_cases Wz:k=j;·subst Wz;have:=h.zero k hk;have:=h.nn i k hi hk;omega
 have a:=h.nn i k hi hk;have b:=h.nn k j hk hj;have c:=h.nn i j hi hj;by_cases hs:0<min (w i k) (w k j);·exact(h.is i j hi hj pt _ hs).2 (((h.is i k hi hk Cy _ hs).1 (by omega)).trans ((h.is k j hk hj Wz _ hs).1 (by omega)))
 ·omega
end CT
namespace CT
def jnh(p:Nat→Nat→Int)(i j:Nat):Prop:=p j i<p i j
def Dom(p:Nat→Nat→Int)(n:Nat)(D:E0):Prop:=(∀i∈D,i<n)∧ ∀i∈D,∀j,j<n→j∉D→jnh p i j
structure Clo(p:Nat→Nat→Int)(n i:Nat)(D:E0):Prop where
 dom:Dom p n D
 mem:i∈D
 nd:D.Nodup
 least: ∀B,Dom p n B→i∈B→ ∀x∈D,x∈B
structure jnp(p:Nat→Nat→Int)(n:Nat)(D:E0):Prop where
 dom:Dom p n D
 ne:D≠ []
 nd:D.Nodup
 least: ∀B,Dom p n B→B≠ []→B.Nodup→D.length≤B.length
end CT
namespace CT
structure BfsI(p:Nat→Nat→Int)(n i:Nat)(D:E0)(k:Nat):Prop where
 nd:D.Nodup
 mem:i∈D
 bd: ∀x∈D,x<n
 clo: ∀t (h:t<D.length),t<k→ ∀j,j<n→j∉D→jnh p D[t] j
 least: ∀B,Dom p n B→i∈B→ ∀x∈D,x∈B
structure BfsJ(p:Nat→Nat→Int)(n i:Nat)(D:E0)(k j:Nat):Prop where
 inv:BfsI p n i D k
 lt:k<D.length
 row: ∀c,c<j→c<n→c∉D→jnh p D[k] c
structure jpA(p:Nat→Nat→Int)(n i:Nat)(D:E0):Prop where
 is: ∃i0,i0<i∧Clo p n i0 D
 le: ∀j,j<i→ ∀B,Clo p n j B→D.length≤B.length
 ex: ∀j,j<i→ ∃B,Clo p n j B
def bitB(s i:Nat):Bool:=s/2^i%2==1
def jox(n s:Nat):E0:=(List.range n).filter (bitB s)
def domB(p:Nat→Nat→Int)(n:Nat)(l:E0):Bool:=l.all fun i=>(List.range n).all fun j=>decide (j∈l)||decide (p j i<p i j)
def NoneL(p:Nat→Nat→Int)(n m:Nat):Prop:= ∀s,1≤s→s<2^n→(jox n s).length<m→domB p n (jox n s)=false
end CT
end Go.Proofs.YtnohcdpnnhmpfaaGreatDoor
