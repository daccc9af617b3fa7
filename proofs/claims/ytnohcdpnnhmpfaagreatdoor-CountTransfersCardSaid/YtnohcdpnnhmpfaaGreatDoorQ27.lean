/-
  Chapter 13, Transfer: rounds in memory.
  Chapter 13, Transfer: what is answered, as it is read: rounds and elected in memory; count.Transfer's answer.
-/
import Derived.Test.YtnohcdpnnhmpfaaGreatDoorQ25
import Derived.Test.YtnohcdpnnhmpfaaGreatDoorQ26
import Derived.Test.YtnohcdpnnhmpfaaGreatDoorQ22
set_option linter.unusedVariables false
set_option linter.unusedSimpArgs false
namespace Go.Proofs.YtnohcdpnnhmpfaaGreatDoor.TR
open Go.RowKit ML FRP AU CT FM
structure RdV(K:HK)(G:HG)(w:World)(rd:Rd)(c:List Value):Prop where
 ex: ∃tv wv,c= [tv,.string ⟨(txt rd.non).1.toArray⟩,.string ⟨(txt rd.non).2.toArray⟩,.int .i64 (rd.d:Int),wv]∧
  w.ownsRow K.w0.heap.size 27 2 tv rd.tots.length (zh (rd.tots.map txt))∧w.ownsRow K.w0.heap.size 3 1 wv rd.who.length (xU (xq rd.who))∧
  (∀x,tv.ownBlock=some x→ ¬yq K G x)∧(∀x,wv.ownBlock=some x→ ¬yq K G x)
theorem jdH {w:World}{base:Nat}{e:TypeId}{s n:Nat}{v:Value}{xs:List Value}(h:w.ownsRow base e s v n xs){x:Nat}(hx:v.ownBlock=some x):x<w.heap.size:=(h.lt x hx).2
theorem RdV.step {K:HK}{G G':HG}{w w':World}{rd:Rd}{c:List Value}(h:RdV K G w rd c)(t:yQ K G w G' w'):RdV K G' w' rd c:=by
 obtain⟨tv,wv,h1,h2,h3,h4,h5⟩:=h.ex;exact⟨tv,wv,h1,t.own h2 h4,t.own h3 h5,fun x hx=>t.not_mine (jdH h2 hx) (h4 x hx),fun x hx=>t.not_mine (jdH h3 hx) (h5 x hx)⟩
theorem RdV.trn {K:HK}{G:HG}{w w':World}{rd:Rd}{c:List Value}(h:RdV K G w rd c){T b0:Nat}{X:Option Nat}(t:Trn T b0 X w w')(h1:27≠T)(h2:3≠T):RdV K G w' rd c:=by
 obtain⟨tv,wv,g1,g2,g3,g4,g5⟩:=h.ex;have key: ∀{e:TypeId} {s n:Nat} {v:Value} {xs:List Value},e≠T→w.ownsRow K.w0.heap.size e s v n xs→w'.ownsRow K.w0.heap.size e s v n xs:=by
  intro e s n v xs he hr;obtain⟨q1,q2⟩:=hr;refine⟨q1,?_⟩;rcases q2 with q2|⟨g,cap,cur,hv,hb,hg,rest⟩;·exact .inl q2
  ·exact .inr ⟨g,cap,cur,hv,hb,t.keep hg he,rest⟩
 exact⟨tv,wv,g1,key h1 g2,key h2 g3,g4,g5⟩
structure Vs(K:HK)(q:Fr)(S:St)(G:HG)(w:World)(OB RB:Nat)(R:List Rd)(vR:Value)(CS:List (List Value)):Prop where
 hall:xZ K q S G w
 u:w.heap[OB]?=some (.cells #[.string ⟨(txt q).1.toArray⟩,.string ⟨(txt q).2.toArray⟩,vR,.slice none 0 0] 31 (0,0))
 res:w.heap[RB]?=some (.cells #[.string ⟨#[]⟩,.string ⟨#[]⟩,.slice none 0 0,.slice none 0 0] 31 (0,0))
 ne:OB≠RB
 rows:GRow noLimb w K.w0.heap.size 44 5 vR R.length CS.flatten
 len:CS.length=R.length
 each: ∀i (h:i<R.length) (h':i<CS.length),RdV K G w R[i] CS[i]
section
variable {K:HK} {q:Fr} {S S':St} {G G':HG} {w w':World} {OB RB:Nat} {R:List Rd} {vR:Value} {CS:List (List Value)}
theorem Vs.nm(h:Vs K q S G w OB RB R vR CS): ¬yq K G OB∧ ¬yq K G RB∧ ∀x,vR.ownBlock=some x→ ¬yq K G x:=by
 refine⟨not_mine h.hall h.u (by decide),not_mine h.hall h.res (by decide),fun x hx=>?_⟩;rcases h.rows.own.2 with⟨hv,_⟩|⟨g,cap,cur,hv,_,hg,_⟩;·rw [hv]at hx;cases hx
 ·have e:g=x:=by rw [hv]at hx;simpa [Value.ownBlock] using hx
  subst e;exact not_mine h.hall hg (by decide)
theorem Vs.step(h:Vs K q S G w OB RB R vR CS)(t:yQ K G w G' w')(hh:xZ K q S' G' w'):Vs K q S' G' w' OB RB R vR CS:=
 ⟨hh,t.keep h.u h.nm.1,t.keep h.res h.nm.2.1,h.ne,t.row h.rows h.nm.2.2,h.len,fun i hi hi'=>(h.each i hi hi').step t⟩
theorem Vs.below(h:Vs K q S G w OB RB R vR CS)(hb:Below w.heap.size w w'):Vs K q S G w' OB RB R vR CS:=h.step (zf hb) (h.hall.below hb)
end
theorem xZ.trn {K:HK}{q:Fr}{S:St}{G:HG}{w w':World}(h:xZ K q S G w){T:TypeId}{X:Option Nat}(t:Trn T K.w0.heap.size X w w')
 (hT:116≠T∧113≠T∧90≠T∧4≠T∧168≠T∧165≠T∧3≠T):xZ K q S G w':=
 ⟨t.below h.bel,t.keep h.hall hT.1,t.keep h.withs hT.2.1,t.keep h.kepts hT.2.2.1,t.keep h.conts hT.2.2.2.1,t.keep h.moveds hT.2.2.2.1,h.cm,
  fun k hk=>t.keep (h.papers k hk) hT.2.2.2.2.1,h.pinj,fun k hk=>⟨t.keep (h.ranks k hk).1 hT.2.2.2.2.2.2,(h.ranks k hk).2⟩,h.rkc,h.rkl,fun k hk=>t.fr (h.wts k hk),fun i hi=>t.fr (h.keps i hi),t.fr h.quo,
  fun i hi=>t.rowT (h.piles i hi) hT.2.2.2.2.2.1,t.rowT h.nones hT.2.2.2.2.2.1,h.apart,h.apartN,h.pls,t.rowT h.els hT.2.2.2.2.2.2,h.bases,h.contb,jU h.ebs t.grown.size⟩
theorem jdG {T b0:Nat}{X:Option Nat}{w w':World}(t:Trn T b0 X w w'){base:Nat}{e:TypeId}{s n:Nat}{v:Value}{xs:List Value}(he:e≠T)(hr:w.ownsRow base e s v n xs):w'.ownsRow base e s v n xs:=by
 obtain⟨q1,q2⟩:=hr;refine⟨q1,?_⟩;rcases q2 with q2|⟨g,cap,cur,hv,hb,hg,rest⟩;·exact .inl q2
 ·exact .inr ⟨g,cap,cur,hv,hb,t.keep hg he,rest⟩
theorem JZ {w:World}{base:Nat}{e:TypeId}{s n:Nat}{v:Value}{xs:List Value}(h:w.ownsRow base e s v n xs): ∃o c,v=.slice o n c:=by
 rcases h.2 with⟨hv,h0⟩|⟨g,cap,cur,hv,_⟩
 ·subst h0;exact⟨none,0,hv⟩
 ·exact⟨_,_,hv⟩
theorem Vs.turn {K:HK}{q:Fr}{S:St}{G:HG}{w w':World}{OB RB:Nat}{R:List Rd}{vR:Value}{CS:List (List Value)}(h:Vs K q S G w OB RB R vR CS){C:Nat}(t:Trn 44 K.w0.heap.size (some C) w w')(hC:vR.ownBlock≠some C):Vs K q S G w' OB RB R vR CS:=
 ⟨h.hall.trn t ⟨by decide,by decide,by decide,by decide,by decide,by decide,by decide⟩,t.keep h.u (by decide),t.keep h.res (by decide),h.ne,t.row h.rows (.inr hC),h.len,fun i hi hi'=>(h.each i hi hi').trn t (by decide) (by decide)⟩
theorem Vs.push {K:HK}{q:Fr}{S:St}{G:HG}{w wa wx:World}{OB RB:Nat}{R:List Rd}{vR vR':Value}{CS:List (List Value)}(h:Vs K q S G w OB RB R vR CS)(hb:Below w.heap.size w wa)(t:Trn 44 K.w0.heap.size vR.ownBlock wa wx){rd:Rd}{c:List Value}
 (own:GRow noLimb wx K.w0.heap.size 44 5 vR' (R.length+1) (CS.flatten++c)) (he:RdV K G w rd c) (hOB:K.w0.heap.size≤OB):Vs K q S G (wx.setCell ⟨OB,2,none⟩ vR') OB RB (R++ [rd]) vR' (CS++ [c]):=by
 have ha:=h.below hb;have hx:=t.keep ha.u (by decide);obtain⟨oR,cR,hvR⟩:=JZ h.rows.own
 have t16:Trn 31 K.w0.heap.size (some OB) wx (wx.setCell ⟨OB,2,none⟩ vR'):=Trn.of_only (xh 2 _) hx hOB (fun u hu=>by
  subst hvR;simp only [jg,jv,jx]at hu;rcases hu with rfl|rfl|rfl|rfl<;>rfl)
 have hs:yQ K G w G wa:=zf hb
 refine⟨(ha.hall.trn t ⟨by decide,by decide,by decide,by decide,by decide,by decide,by decide⟩).trn t16 ⟨by decide,by decide,by decide,by decide,by decide,by decide,by decide⟩,jd wx OB 2 _ _ _ hx,
  t16.keepX (t.keep ha.res (by decide)) (fun e=>h.ne (by injection e)),h.ne,?_,by simp [h.len],fun i hi hi'=>?_⟩
 ·rw [ja,kL,List.flatten_append];have: [c].flatten=c:=by simp
  rw [this];exact t16.rowT own (by decide)
 ·have key: ∀{rd':Rd} {c':List Value},RdV K G w rd' c'→RdV K G (wx.setCell ⟨OB,2,none⟩ vR') rd' c':=fun h1=>((h1.step hs).trn t (by decide) (by decide)).trn t16 (by decide) (by decide);by_cases hl:i<R.length
  ·have hl':i<CS.length:=by rw [h.len];exact hl
   rw [xG hl,xG hl'];exact key (h.each i hl hl')
  ·have e1:i=R.length:=by simp at hi;omega
   have e2:i=CS.length:=by rw [h.len];exact e1
   have g1:(R++ [rd])[i]=rd:=by subst e1;simp
   have g2:(CS++ [c])[i]=c:=by subst e2;simp
   rw [g1,g2];exact key he
theorem jjF {K:HK}{q:Fr}{S:St}{G:HG}{w wa wx:World}{OB RB n:Nat}{R:List Rd}{vR vR':Value}{CS:List (List Value)}(h:Vs K q S G w OB RB R vR CS)(hb:Below w.heap.size w wa)(hg:wa.grownBy wx vR.ownBlock){rd:Rd}{c:List Value}(hn:n=R.length+1)
 (own:GRow noLimb wx K.w0.heap.size 44 5 vR' n (CS.flatten++c)) (he:RdV K G w rd c) (hOB:K.w0.heap.size≤OB):
 wx.cell? ⟨OB,2,none⟩=some vR∧wx.frozen? ⟨OB,2,none⟩=false∧OB<wx.heap.size∧Vs K q S G (wx.setCell ⟨OB,2,none⟩ vR') OB RB (R++ [rd]) vR' (CS++ [c]):=by
 subst hn;have ha:=h.below hb;have t:Trn 44 K.w0.heap.size vR.ownBlock wa wx:=⟨hg,GRow.typed ha.rows⟩;have ox:=t.keep ha.u (by decide);exact⟨jM wx OB 2 _ _ _ ox,jb wx OB 2 _ _ ox,lt_of_heap ox,h.push hb t own he hOB⟩
structure jbD(K:HK)(G:HG)(w:World)(vR:Value)(R:List Rd)(CS:List (List Value))(vE:Value)(E:List Nat):Prop where
 rows:w.ownsRow K.w0.heap.size 44 5 vR R.length CS.flatten
 len:CS.length=R.length
 each: ∀i (h:i<R.length) (h':i<CS.length),RdV K G w R[i] CS[i]
 els:w.ownsRow K.w0.heap.size 3 1 vE E.length (xU (xq E))
theorem jbD.trn {K:HK}{G:HG}{w w':World}{vR:Value}{R:List Rd}{CS:List (List Value)}{vE:Value}{E:List Nat}(h:jbD K G w vR R CS vE E){b0:Nat}{X:Option Nat}(t:Trn 31 b0 X w w'):jbD K G w' vR R CS vE E:=
 ⟨jdG t (by decide) h.rows,h.len,fun i hi hi'=>(h.each i hi hi').trn t (by decide) (by decide),jdG t (by decide) h.els⟩
theorem Vs.rds {K:HK}{q:Fr}{S:St}{G:HG}{w:World}{OB RB:Nat}{R:List Rd}{vR:Value}{CS:List (List Value)}(h:Vs K q S G w OB RB R vR CS):jbD K G w vR R CS G.ev S.el:=
 ⟨h.rows.own,h.len,h.each,zq h.hall.els.own h.hall.bases.2.2.2.2.2.1⟩
def jfC(n m s:Nat)(q:Fr)(Ol:List Nat)(T0:St)(w:World)(e:Ending)(w':World):Prop:=
 ∃(K:HK) (G:HG) (R:List Rd) (S:St) (vR vE:Value) (CS:List (List Value)),Vu n m s q Ol T0 R S∧End m s q Ol S∧e=.returned (.agg #[.string ⟨(txt q).1.toArray⟩,.string ⟨(txt q).2.toArray⟩,vR,vE])∧jbD K G w' vR R CS vE S.el∧Below w.heap.size w w'
end Go.Proofs.YtnohcdpnnhmpfaaGreatDoor.TR
namespace Go.Proofs.YtnohcdpnnhmpfaaGreatDoor.TR
open Go.RowKit ML FRP AU CT FM
theorem jbs: ∀(CS:List (List Value)) (z:Nat),(∀c∈CS,c.length=z)→ ∀(i:Nat) (h:i<CS.length) (j:Nat) (v:Value),CS[i][j]?=some v→CS.flatten[i*z+j]?=some v
 | [],z,_,i,h,j,v,_=>by simp at h
 |
  c::CS,z,hz,i,h,j,v,hv=>by
  have hc:=hz c (by simp);rw [List.flatten_cons];cases i with
  |
   zero=>
   have hv':c[j]?=some v:=hv;have hj:j<c.length:=(xA.1 hv').1;rw [Nat.zero_mul,js,qJ hj];exact hv'
  |
   succ i=>
   have e:(i+1)*z+j=z+(i*z+j):=by rw [Nat.succ_mul];omega
   rw [e,ke (by omega),hc,Nat.add_sub_cancel_left];exact jbs CS z (fun c h=>hz c (by simp [h])) i (by simpa using h) j v hv
def jhb(rd:Rd)(ot:Option Addr)(ct:Nat)(ow:Option Addr)(cw:Nat):List Value:= [.slice ot rd.tots.length ct,.string ⟨(txt rd.non).1.toArray⟩,.string ⟨(txt rd.non).2.toArray⟩,.int .i64 (rd.d:Int),.slice ow rd.who.length cw]
structure jfE(w:World)(oR:Option Addr)(R:List Rd):Prop where
 cells: ∀i (h:i<R.length),∃a ot ct ow cw,oR=some a∧a.block<w.heap.size∧(∀j v,(jhb R[i] ot ct ow cw)[j]?=some v→w.cell? ((a.add (i*5)).add j)=some v)∧jgS w ot (R[i].tots.map txt)∧yj w ow (xq R[i].who)
theorem jfE.below {w w1:World}{oR:Option Addr}{R:List Rd}(h:jfE w oR R)(hb:Below w.heap.size w w1):jfE w1 oR R:=⟨fun i hi=>by
 obtain⟨a,ot,ct,ow,cw,h1,h2,h3,h4,h5⟩:=h.cells i hi;exact⟨a,ot,ct,ow,cw,h1,jV h2 hb.size,fun j v hj=>by rw [hb.cell (by rw [xy,xy];exact h2)];exact h3 j v hj,h4.below hb,h5.below hb⟩⟩
theorem yO(l:List Nat):(xq l).length=l.length:=by simp [xq]
theorem jeJ {K:HK}{G:HG}{w:World}{vR vE:Value}{R:List Rd}{CS:List (List Value)}{E:List Nat}(h:jbD K G w vR R CS vE E): ∃oR cR oE cE,vR=.slice oR R.length cR∧vE=.slice oE E.length cE∧jfE w oR R∧yj w oE (xq E):=by
 obtain⟨oE,cE,he,_,hE⟩:=zz h.els;rw [yO]at he;rcases h.rows.2 with⟨hv,h0⟩|⟨g,cap,cur,hv,hb,hg,hnc,hfz,hc,ht⟩
 ·have:R= []:=kY.1 h0;subst this;exact⟨none,0,oE,cE,hv,he,⟨fun i hi=>by simp at hi⟩,hE⟩
 ·refine⟨some ⟨g,0,none⟩,cap,oE,cE,hv,he,⟨fun i hi=>?_⟩,hE⟩;have hi':i<CS.length:=by rw [h.len];exact hi
  have h5: ∀c∈CS,c.length=5:=fun c hc=>by
   obtain⟨k,hk,rfl⟩:=vO hc;obtain⟨tv,wv,e,_⟩:=(h.each k (by rw [←h.len];exact hk) hk).ex;rw [e];rfl
  obtain⟨tv,wv,e,q1,q2,_,_⟩:=(h.each i hi hi').ex;obtain⟨ot,ct,e1,_,f1⟩:=jff q1;obtain⟨ow,cw,e2,_,f2⟩:=zz q2;rw [jz]at e1;rw [yO]at e2;refine⟨_,ot,ct,ow,cw,rfl,lt_of_heap hg,fun j v hj=>?_,f1,f2⟩;rw [Go.Deep.add_add];refine h.rows.cells (g:=g) (by rw [hv];rfl) (i*5+j) v ?_;refine jbs CS 5 h5 i hi' j v ?_;rw [e,e1,e2];exact hj
theorem jcy {n:Nat}{lot:Int→List UInt8}{O:List Int}(h:Ord n lot O):O.Nodup:=h.srt.imp (fun {a b} hab=>fun e=>by subst e;exact Zm lot _ _ hab hab)
theorem ZP {n:Nat}{lot:Int→List UInt8}{O:List Int}(h:Ord n lot O):(O.map Int.toNat).Nodup∧ ∀i,i∈O.map Int.toNat↔i<n:=by
 constructor
 ·refine List.pairwise_map.2 ((jcy h).imp_of_mem fun {a b} ha hb hne e=>hne ?_);have h1:=h.mem.1 ha;have h2:=h.mem.1 hb;omega
 ·intro i;rw [jl];constructor
  ·rintro⟨x,hx,rfl⟩;have:=h.mem.1 hx;omega
  ·intro hi;exact⟨(i:Int),h.mem.2 ⟨by omega,by omega⟩,by simp⟩
def Vi(c:yE)(P:List (Value×List Int))(lots:Bytes)(w:World)(e:Ending)(w':World):Prop:=
 Below w.heap.size w w'∧if prE c P=0 then ∃(O:List Int) (R:List Rd) (S:St) (oR:Option Addr) (cR:Nat) (oE:Option Addr) (cE:Nat),Ord c.op.length (Xu c lots) O∧
  Vu c.op.length (P.filter (yX (c.rule 3))).length c.se.toNat (zN (P.filter (yX (c.rule 3))).length c.se.toNat) (O.map Int.toNat) (S0 c.op.length (yB (P.filter (yX (c.rule 3)))) (P.filter (yX (c.rule 3))).length) R S∧
  End (P.filter (yX (c.rule 3))).length c.se.toNat (zN (P.filter (yX (c.rule 3))).length c.se.toNat) (O.map Int.toNat) S∧
  e=.returned (.tuple #[.agg #[.string ⟨(txt (zN (P.filter (yX (c.rule 3))).length c.se.toNat)).1.toArray⟩,.string ⟨(txt (zN (P.filter (yX (c.rule 3))).length c.se.toNat)).2.toArray⟩,.slice oR R.length cR,.slice oE S.el.length cE],.int .i64 0])∧jfE w' oR R∧yj w' oE (xq S.el)
 else e=.returned (.tuple #[.agg #[.string ⟨#[]⟩,.string ⟨#[]⟩,.slice none 0 0,.slice none 0 0],.int .i64 (prE c P)])
theorem Vi.bad {c:yE}{P:List (Value×List Int)}{lots:Bytes}{w w':World}{E:Int}(hE:prE c P=E)(h0:E≠0)(hb:Below w.heap.size w w'):Vi c P lots w (.returned (.tuple #[.agg #[.string ⟨#[]⟩,.string ⟨#[]⟩,.slice none 0 0,.slice none 0 0],.int .i64 E])) w':=by
 unfold Vi;rw [hE,jT h0];exact⟨hb,rfl⟩
theorem Vi.ok {c:yE}{P:List (Value×List Int)}{lots:Bytes}{w:World}(hE:prE c P=0){O:List Int}(hO:Ord c.op.length (Xu c lots) O){Bs:List (Value×List Int)}(hBs:Bs=P.filter (yX (c.rule 3)))
 {w4:World} {e:Ending} {w5:World} (ht:jfC c.op.length Bs.length c.se.toNat (zN Bs.length c.se.toNat) (O.map Int.toNat) (S0 c.op.length (yB Bs) Bs.length) w4 e w5):
 ∃a b vR vE,e=.returned (.agg #[.string ⟨a⟩,.string ⟨b⟩,vR,vE])∧vR.oneCell'=true∧vE.oneCell'=true∧Below w4.heap.size w4 w5∧ ∀w' b0 X,Trn 31 b0 X w5 w'→Below w.heap.size w w'→Vi c P lots w (.returned (.tuple #[.agg #[.string ⟨a⟩,.string ⟨b⟩,vR,vE],.int .i64 0])) w':=by
 obtain⟨K,G,R,S,vR,vE,CS,h1,h2,rfl,h3,h4⟩:=ht;obtain⟨oR,cR,oE,cE,e1,e2,_,_⟩:=jeJ h3;subst hBs;refine⟨_,_,_,_,rfl,by rw [e1];rfl,by rw [e2];rfl,h4,fun w' b0 X t hb=>⟨hb,?_⟩⟩;obtain⟨oR,cR,oE,cE,rfl,rfl,h6,h7⟩:=jeJ (h3.trn t);rw [jR hE];exact⟨O,R,S,oR,cR,oE,cE,hO,h1,h2,rfl,h6,h7⟩
end Go.Proofs.YtnohcdpnnhmpfaaGreatDoor.TR
