/-
  Chapter 13, Transfer: rounds in memory.
  Chapter 13, Transfer: what is answered, as it is read: rounds and elected in memory; count.Transfer's answer.
-/
import Derived.Test.YtnohcdpnnhmpfaaGreatDoorK25
import Derived.Test.YtnohcdpnnhmpfaaGreatDoorK26
import Derived.Test.YtnohcdpnnhmpfaaGreatDoorK21
set_option linter.unusedVariables false
set_option linter.unusedSimpArgs false
namespace Go.Proofs.YtnohcdpnnhmpfaaGreatDoor.TR
open Go.RowKit ML FRP AU CT FM
structure RdV(K:HK)(G:HG)(w:World)(rd:Rd)(c:List Value):Prop where
 ex: ∃tv wv,c= [tv,.string ⟨(txt rd.non).1.toArray⟩,.string ⟨(txt rd.non).2.toArray⟩,.int .i64 (rd.d:Int),wv]∧
  w.ownsRow K.w0.heap.size 27 2 tv rd.tots.length (fvals (rd.tots.map txt))∧w.ownsRow K.w0.heap.size 3 1 wv rd.who.length (ivals (nats rd.who))∧
  (∀x,tv.ownBlock=some x→ ¬Mine K G x)∧(∀x,wv.ownBlock=some x→ ¬Mine K G x)
theorem own_lt {w:World}{base:Nat}{e:TypeId}{s n:Nat}{v:Value}{xs:List Value}(h:w.ownsRow base e s v n xs){x:Nat}(hx:v.ownBlock=some x):x<w.heap.size:=(h.lt x hx).2
theorem RdV.step {K:HK}{G G':HG}{w w':World}{rd:Rd}{c:List Value}(h:RdV K G w rd c)(t:HStep K G w G' w'):RdV K G' w' rd c:=by
 obtain⟨tv,wv,h1,h2,h3,h4,h5⟩:=h.ex;exact⟨tv,wv,h1,t.own h2 h4,t.own h3 h5,fun x hx=>t.not_mine (own_lt h2 hx) (h4 x hx),fun x hx=>t.not_mine (own_lt h3 hx) (h5 x hx)⟩
theorem RdV.trn {K:HK}{G:HG}{w w':World}{rd:Rd}{c:List Value}(h:RdV K G w rd c){T b0:Nat}{X:Option Nat}(t:Trn T b0 X w w')(h1:27≠T)(h2:3≠T):RdV K G w' rd c:=by
 obtain⟨tv,wv,g1,g2,g3,g4,g5⟩:=h.ex;have key: ∀{e:TypeId} {s n:Nat} {v:Value} {xs:List Value},e≠T→w.ownsRow K.w0.heap.size e s v n xs→w'.ownsRow K.w0.heap.size e s v n xs:=by
  intro e s n v xs he hr;obtain⟨q1,q2⟩:=hr;refine⟨q1,?_⟩;rcases q2 with q2|⟨g,cap,cur,hv,hb,hg,rest⟩;·exact .inl q2
  ·exact .inr ⟨g,cap,cur,hv,hb,t.keep hg he,rest⟩
 exact⟨tv,wv,g1,key h1 g2,key h2 g3,g4,g5⟩
structure TrAt(K:HK)(q:Fr)(S:St)(G:HG)(w:World)(OB RB:Nat)(R:List Rd)(vR:Value)(CS:List (List Value)):Prop where
 hall:HallAt K q S G w
 out:w.heap[OB]?=some (.cells #[.string ⟨(txt q).1.toArray⟩,.string ⟨(txt q).2.toArray⟩,vR,.slice none 0 0] 31 (0,0))
 res:w.heap[RB]?=some (.cells #[.string ⟨#[]⟩,.string ⟨#[]⟩,.slice none 0 0,.slice none 0 0] 31 (0,0))
 ne:OB≠RB
 rows:GRow noLimb w K.w0.heap.size 44 5 vR R.length CS.flatten
 len:CS.length=R.length
 each: ∀i (h:i<R.length) (h':i<CS.length),RdV K G w R[i] CS[i]
section
variable {K:HK} {q:Fr} {S S':St} {G G':HG} {w w':World} {OB RB:Nat} {R:List Rd} {vR:Value} {CS:List (List Value)}
theorem TrAt.nm(h:TrAt K q S G w OB RB R vR CS): ¬Mine K G OB∧ ¬Mine K G RB∧ ∀x,vR.ownBlock=some x→ ¬Mine K G x:=by
 refine⟨not_mine h.hall h.out (by decide),not_mine h.hall h.res (by decide),fun x hx=>?_⟩;rcases h.rows.own.2 with⟨hv,_⟩|⟨g,cap,cur,hv,_,hg,_⟩;·rw [hv]at hx;cases hx
 ·have e:g=x:=by rw [hv]at hx;simpa [Value.ownBlock] using hx
  subst e;exact not_mine h.hall hg (by decide)
theorem TrAt.step(h:TrAt K q S G w OB RB R vR CS)(t:HStep K G w G' w')(hh:HallAt K q S' G' w'):TrAt K q S' G' w' OB RB R vR CS:=
 ⟨hh,t.keep h.out h.nm.1,t.keep h.res h.nm.2.1,h.ne,t.row h.rows h.nm.2.2,h.len,fun i hi hi'=>(h.each i hi hi').step t⟩
theorem TrAt.below(h:TrAt K q S G w OB RB R vR CS)(hb:Below w.heap.size w w'):TrAt K q S G w' OB RB R vR CS:=h.step (hstep_below hb) (h.hall.below hb)
end
theorem HallAt.trn {K:HK}{q:Fr}{S:St}{G:HG}{w w':World}(h:HallAt K q S G w){T:TypeId}{X:Option Nat}(t:Trn T K.w0.heap.size X w w')
 (hT:116≠T∧113≠T∧90≠T∧4≠T∧168≠T∧165≠T∧3≠T):HallAt K q S G w':=
 ⟨t.below h.bel,t.keep h.hall hT.1,t.keep h.withs hT.2.1,t.keep h.kepts hT.2.2.1,t.keep h.conts hT.2.2.2.1,t.keep h.moveds hT.2.2.2.1,h.cm,
  fun k hk=>t.keep (h.papers k hk) hT.2.2.2.2.1,h.pinj,fun k hk=>⟨t.keep (h.ranks k hk).1 hT.2.2.2.2.2.2,(h.ranks k hk).2⟩,h.rkc,h.rkl,fun k hk=>t.fr (h.wts k hk),fun i hi=>t.fr (h.keps i hi),t.fr h.quo,
  fun i hi=>t.rowT (h.piles i hi) hT.2.2.2.2.2.1,t.rowT h.nones hT.2.2.2.2.2.1,h.apart,h.apartN,h.pls,t.rowT h.els hT.2.2.2.2.2.2,h.bases,h.contb,Nat.le_trans h.ebs t.grown.size⟩
theorem own_trn {T b0:Nat}{X:Option Nat}{w w':World}(t:Trn T b0 X w w'){base:Nat}{e:TypeId}{s n:Nat}{v:Value}{xs:List Value}(he:e≠T)(hr:w.ownsRow base e s v n xs):w'.ownsRow base e s v n xs:=by
 obtain⟨q1,q2⟩:=hr;refine⟨q1,?_⟩;rcases q2 with q2|⟨g,cap,cur,hv,hb,hg,rest⟩;·exact .inl q2
 ·exact .inr ⟨g,cap,cur,hv,hb,t.keep hg he,rest⟩
theorem own_form {w:World}{base:Nat}{e:TypeId}{s n:Nat}{v:Value}{xs:List Value}(h:w.ownsRow base e s v n xs): ∃o c,v=.slice o n c:=by
 rcases h.2 with⟨hv,h0⟩|⟨g,cap,cur,hv,_⟩
 ·subst h0;exact⟨none,0,hv⟩
 ·exact⟨_,_,hv⟩
theorem TrAt.turn {K:HK}{q:Fr}{S:St}{G:HG}{w w':World}{OB RB:Nat}{R:List Rd}{vR:Value}{CS:List (List Value)}(h:TrAt K q S G w OB RB R vR CS){C:Nat}(t:Trn 44 K.w0.heap.size (some C) w w')(hC:vR.ownBlock≠some C):TrAt K q S G w' OB RB R vR CS:=
 ⟨h.hall.trn t ⟨by decide,by decide,by decide,by decide,by decide,by decide,by decide⟩,t.keep h.out (by decide),t.keep h.res (by decide),h.ne,t.row h.rows (.inr hC),h.len,fun i hi hi'=>(h.each i hi hi').trn t (by decide) (by decide)⟩
theorem TrAt.push {K:HK}{q:Fr}{S:St}{G:HG}{w wa wx:World}{OB RB:Nat}{R:List Rd}{vR vR':Value}{CS:List (List Value)}(h:TrAt K q S G w OB RB R vR CS)(hb:Below w.heap.size w wa)(t:Trn 44 K.w0.heap.size vR.ownBlock wa wx){rd:Rd}{c:List Value}
 (own:GRow noLimb wx K.w0.heap.size 44 5 vR' (R.length+1) (CS.flatten++c)) (he:RdV K G w rd c) (hOB:K.w0.heap.size≤OB):TrAt K q S G (wx.setCell ⟨OB,2,none⟩ vR') OB RB (R++ [rd]) vR' (CS++ [c]):=by
 have ha:=h.below hb;have hx:=t.keep ha.out (by decide);obtain⟨oR,cR,hvR⟩:=own_form h.rows.own
 have t16:Trn 31 K.w0.heap.size (some OB) wx (wx.setCell ⟨OB,2,none⟩ vR'):=Trn.of_only (only_cell 2 _) hx hOB (fun u hu=>by
  subst hvR;simp only [List.mem_cons,List.not_mem_nil,or_false]at hu;rcases hu with rfl|rfl|rfl|rfl<;>rfl)
 have hs:HStep K G w G wa:=hstep_below hb
 refine⟨(ha.hall.trn t ⟨by decide,by decide,by decide,by decide,by decide,by decide,by decide⟩).trn t16 ⟨by decide,by decide,by decide,by decide,by decide,by decide,by decide⟩,heap_setCell_same wx OB 2 _ _ _ hx,
  t16.keepX (t.keep ha.res (by decide)) (fun e=>h.ne (by injection e)),h.ne,?_,by simp [h.len],fun i hi hi'=>?_⟩
 ·rw [List.length_append,List.length_singleton,List.flatten_append];have: [c].flatten=c:=by simp
  rw [this];exact t16.rowT own (by decide)
 ·have key: ∀{rd':Rd} {c':List Value},RdV K G w rd' c'→RdV K G (wx.setCell ⟨OB,2,none⟩ vR') rd' c':=fun h1=>((h1.step hs).trn t (by decide) (by decide)).trn t16 (by decide) (by decide);by_cases hl:i<R.length
  ·have hl':i<CS.length:=by rw [h.len];exact hl
   rw [List.getElem_append_left hl,List.getElem_append_left hl'];exact key (h.each i hl hl')
  ·have e1:i=R.length:=by simp at hi;omega
   have e2:i=CS.length:=by rw [h.len];exact e1
   have g1:(R++ [rd])[i]=rd:=by subst e1;simp
   have g2:(CS++ [c])[i]=c:=by subst e2;simp
   rw [g1,g2];exact key he
theorem push_all {K:HK}{q:Fr}{S:St}{G:HG}{w wa wx:World}{OB RB n:Nat}{R:List Rd}{vR vR':Value}{CS:List (List Value)}(h:TrAt K q S G w OB RB R vR CS)(hb:Below w.heap.size w wa)(hg:wa.grownBy wx vR.ownBlock){rd:Rd}{c:List Value}(hn:n=R.length+1)
 (own:GRow noLimb wx K.w0.heap.size 44 5 vR' n (CS.flatten++c)) (he:RdV K G w rd c) (hOB:K.w0.heap.size≤OB):
 wx.cell? ⟨OB,2,none⟩=some vR∧wx.frozen? ⟨OB,2,none⟩=false∧OB<wx.heap.size∧TrAt K q S G (wx.setCell ⟨OB,2,none⟩ vR') OB RB (R++ [rd]) vR' (CS++ [c]):=by
 subst hn;have ha:=h.below hb;have t:Trn 44 K.w0.heap.size vR.ownBlock wa wx:=⟨hg,GRow.typed ha.rows⟩;have ox:=t.keep ha.out (by decide);exact⟨cell_of_row wx OB 2 _ _ _ ox,frozen_of_row wx OB 2 _ _ ox,lt_of_heap ox,h.push hb t own he hOB⟩
structure RdsAt(K:HK)(G:HG)(w:World)(vR:Value)(R:List Rd)(CS:List (List Value))(vE:Value)(E:List Nat):Prop where
 rows:w.ownsRow K.w0.heap.size 44 5 vR R.length CS.flatten
 len:CS.length=R.length
 each: ∀i (h:i<R.length) (h':i<CS.length),RdV K G w R[i] CS[i]
 els:w.ownsRow K.w0.heap.size 3 1 vE E.length (ivals (nats E))
theorem RdsAt.trn {K:HK}{G:HG}{w w':World}{vR:Value}{R:List Rd}{CS:List (List Value)}{vE:Value}{E:List Nat}(h:RdsAt K G w vR R CS vE E){b0:Nat}{X:Option Nat}(t:Trn 31 b0 X w w'):RdsAt K G w' vR R CS vE E:=
 ⟨own_trn t (by decide) h.rows,h.len,fun i hi hi'=>(h.each i hi hi').trn t (by decide) (by decide),own_trn t (by decide) h.els⟩
theorem TrAt.rds {K:HK}{q:Fr}{S:St}{G:HG}{w:World}{OB RB:Nat}{R:List Rd}{vR:Value}{CS:List (List Value)}(h:TrAt K q S G w OB RB R vR CS):RdsAt K G w vR R CS G.ev S.el:=
 ⟨h.rows.own,h.len,h.each,own_base h.hall.els.own h.hall.bases.2.2.2.2.2.1⟩
def TransGot(n m s:Nat)(q:Fr)(Ol:List Nat)(T0:St)(w:World)(e:Ending)(w':World):Prop:=
 ∃(K:HK) (G:HG) (R:List Rd) (S:St) (vR vE:Value) (CS:List (List Value)),Runs n m s q Ol T0 R S∧End m s q Ol S∧e=.returned (.agg #[.string ⟨(txt q).1.toArray⟩,.string ⟨(txt q).2.toArray⟩,vR,vE])∧RdsAt K G w' vR R CS vE S.el∧Below w.heap.size w w'
end Go.Proofs.YtnohcdpnnhmpfaaGreatDoor.TR
namespace Go.Proofs.YtnohcdpnnhmpfaaGreatDoor.TR
open Go.RowKit ML FRP AU CT FM
theorem flat_get: ∀(CS:List (List Value)) (z:Nat),(∀c∈CS,c.length=z)→ ∀(i:Nat) (h:i<CS.length) (j:Nat) (v:Value),CS[i][j]?=some v→CS.flatten[i*z+j]?=some v
 | [],z,_,i,h,j,v,_=>by simp at h
 |
  c::CS,z,hz,i,h,j,v,hv=>by
  have hc:=hz c (by simp);rw [List.flatten_cons];cases i with
  |
   zero=>
   have hv':c[j]?=some v:=hv;have hj:j<c.length:=(List.getElem?_eq_some_iff.1 hv').1;rw [Nat.zero_mul,Nat.zero_add,List.getElem?_append_left hj];exact hv'
  |
   succ i=>
   have e:(i+1)*z+j=z+(i*z+j):=by rw [Nat.succ_mul];omega
   rw [e,List.getElem?_append_right (by omega),hc,Nat.add_sub_cancel_left];exact flat_get CS z (fun c h=>hz c (by simp [h])) i (by simpa using h) j v hv
def rdCells(rd:Rd)(ot:Option Addr)(ct:Nat)(ow:Option Addr)(cw:Nat):List Value:= [.slice ot rd.tots.length ct,.string ⟨(txt rd.non).1.toArray⟩,.string ⟨(txt rd.non).2.toArray⟩,.int .i64 (rd.d:Int),.slice ow rd.who.length cw]
structure RdAt(w:World)(oR:Option Addr)(R:List Rd):Prop where
 cells: ∀i (h:i<R.length),∃a ot ct ow cw,oR=some a∧a.block<w.heap.size∧(∀j v,(rdCells R[i] ot ct ow cw)[j]?=some v→w.cell? ((a.add (i*5)).add j)=some v)∧FsAt w ot (R[i].tots.map txt)∧IsAt w ow (nats R[i].who)
theorem length_nats(l:List Nat):(nats l).length=l.length:=by simp [nats]
theorem rds_read {K:HK}{G:HG}{w:World}{vR vE:Value}{R:List Rd}{CS:List (List Value)}{E:List Nat}(h:RdsAt K G w vR R CS vE E): ∃oR cR oE cE,vR=.slice oR R.length cR∧vE=.slice oE E.length cE∧RdAt w oR R∧IsAt w oE (nats E):=by
 obtain⟨oE,cE,he,_,hE⟩:=isAt_own h.els;rw [length_nats]at he;rcases h.rows.2 with⟨hv,h0⟩|⟨g,cap,cur,hv,hb,hg,hnc,hfz,hc,ht⟩
 ·have:R= []:=List.length_eq_zero_iff.1 h0;subst this;exact⟨none,0,oE,cE,hv,he,⟨fun i hi=>by simp at hi⟩,hE⟩
 ·refine⟨some ⟨g,0,none⟩,cap,oE,cE,hv,he,⟨fun i hi=>?_⟩,hE⟩;have hi':i<CS.length:=by rw [h.len];exact hi
  have h5: ∀c∈CS,c.length=5:=fun c hc=>by
   obtain⟨k,hk,rfl⟩:=List.getElem_of_mem hc;obtain⟨tv,wv,e,_⟩:=(h.each k (by rw [←h.len];exact hk) hk).ex;rw [e];rfl
  obtain⟨tv,wv,e,q1,q2,_,_⟩:=(h.each i hi hi').ex;obtain⟨ot,ct,e1,_,f1⟩:=fsAt_own q1;obtain⟨ow,cw,e2,_,f2⟩:=isAt_own q2;rw [List.length_map]at e1;rw [length_nats]at e2;refine⟨_,ot,ct,ow,cw,rfl,lt_of_heap hg,fun j v hj=>?_,f1,f2⟩;rw [Go.Deep.add_add];refine h.rows.cells (g:=g) (by rw [hv];rfl) (i*5+j) v ?_;refine flat_get CS 5 h5 i hi' j v ?_;rw [e,e1,e2];exact hj
theorem ord_nodup {n:Nat}{lot:Int→List UInt8}{O:List Int}(h:Ord n lot O):O.Nodup:=h.srt.imp (fun {a b} hab=>fun e=>by subst e;exact ltL_asymm lot _ _ hab hab)
theorem ord_nats {n:Nat}{lot:Int→List UInt8}{O:List Int}(h:Ord n lot O):(O.map Int.toNat).Nodup∧ ∀i,i∈O.map Int.toNat↔i<n:=by
 constructor
 ·refine List.pairwise_map.2 ((ord_nodup h).imp_of_mem fun {a b} ha hb hne e=>hne ?_);have h1:=h.mem.1 ha;have h2:=h.mem.1 hb;omega
 ·intro i;rw [List.mem_map];constructor
  ·rintro⟨x,hx,rfl⟩;have:=h.mem.1 hx;omega
  ·intro hi;exact⟨(i:Int),h.mem.2 ⟨by omega,by omega⟩,by simp⟩
def TrGot(c:CTest)(P:List (Value×List Int))(lots:Bytes)(w:World)(e:Ending)(w':World):Prop:=
 Below w.heap.size w w'∧if prE c P=0 then ∃(O:List Int) (R:List Rd) (S:St) (oR:Option Addr) (cR:Nat) (oE:Option Addr) (cE:Nat),Ord c.op.length (lotF c lots) O∧
  Runs c.op.length (P.filter (keepP (c.rule 3))).length c.se.toNat (quotaF (P.filter (keepP (c.rule 3))).length c.se.toNat) (O.map Int.toNat) (S0 c.op.length (ranksOf (P.filter (keepP (c.rule 3)))) (P.filter (keepP (c.rule 3))).length) R S∧
  End (P.filter (keepP (c.rule 3))).length c.se.toNat (quotaF (P.filter (keepP (c.rule 3))).length c.se.toNat) (O.map Int.toNat) S∧
  e=.returned (.tuple #[.agg #[.string ⟨(txt (quotaF (P.filter (keepP (c.rule 3))).length c.se.toNat)).1.toArray⟩,.string ⟨(txt (quotaF (P.filter (keepP (c.rule 3))).length c.se.toNat)).2.toArray⟩,.slice oR R.length cR,.slice oE S.el.length cE],.int .i64 0])∧RdAt w' oR R∧IsAt w' oE (nats S.el)
 else e=.returned (.tuple #[.agg #[.string ⟨#[]⟩,.string ⟨#[]⟩,.slice none 0 0,.slice none 0 0],.int .i64 (prE c P)])
end Go.Proofs.YtnohcdpnnhmpfaaGreatDoor.TR
