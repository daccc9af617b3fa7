/-
  A slice of strings among the arguments, as a list of texts; what the bulk gives.
  A contest among the arguments: what it reads as, how great it is. Printed by tools/genopen.py.
  Rows of ints among the arguments.
  CountAlike: the frame and the card.
-/
import Derived.Test.YtnohcdpnnhmpfaaGreatDoorRows
import Derived.Test.YtnohcdpnnhmpfaaGreatDoorK01
import Derived.WalkKit
import Derived.ProofKit
import Derived.OpenShut
import Derived.ShutString
import Derived.ChangeOld
import Derived.Below
import Derived.Test.YtnohcdpnnhmpfaaGreatDoorK11
import Derived.SliceStrings
import Derived.Test.YtnohcdpnnhmpfaaGreatDoorK13
import Derived.Deep.Slices
import Derived.Deep.Fields
import Derived.ChangeSame
import Derived.SizedLaws
import Derived.Test.YtnohcdpnnhmpfaaGreatDoorK21
import Derived.Test.YtnohcdpnnhmpfaaGreatDoorCards
import Derived.Test.YtnohcdpnnhmpfaaGreatDoorTie
import Derived.Test.YtnohcdpnnhmpfaaGreatDoorK49
import Derived.Deep.DeepHandedRow
import Derived.Lib.LaidTab
import Derived.Lib.SmallJoins
set_option linter.unusedVariables false
set_option linter.unusedSimpArgs false
set_option maxRecDepth 100000
namespace Go.Proofs.YtnohcdpnnhmpfaaGreatDoor.FR
open Go.RowKit ML FM
open Go.ChangeShapes Go.WideShapes Go.ChangeAt
section
variable {H:Type} {enc:TypeId×Value→H} {P:Program} {w:World} {base:Nat} {spare:Nat→Bool} {held:Bool}
theorem lt_of_cell {w:World}{p:Addr}{v:Value}(h:w.cell? p=some v):p.block<w.heap.size:=by
 by_cases hlt:p.block<w.heap.size;·exact hlt
 ·have h0:w.heap[p.block]?=none:=Array.getElem?_eq_none (by omega);unfold World.cell? at h;simp [h0]at h
def strD(Ps:List Bytes):List (DataW H):=Ps.map fun p=>.lit (.string p)
end
end Go.Proofs.YtnohcdpnnhmpfaaGreatDoor.FR
namespace Go.Proofs.YtnohcdpnnhmpfaaGreatDoor.FR
open Go.RowKit ML FM AU CT
open Go.ChangeShapes Go.WideShapes Go.ChangeAt Go.Deep
section
variable {H:Type} {enc:TypeId×Value→H} {w:World} {base:Nat} {spare:Nat→Bool} {held:Bool}
theorem listOf {α:Type}{P:Nat→α→Prop}: ∀n,(∀i,i<n→ ∃x,P i x)→ ∃l:List α,l.length=n∧ ∀i (h:i<l.length),P i l[i]:=by
 intro n
 induction n with
 |zero=>intro _;exact⟨[],rfl,fun i h=>by simp at h⟩
 |
  succ n ih=>
  intro h;obtain⟨l,hl,hp⟩:=ih (fun i hi=>h i (by omega));obtain⟨x,hx⟩:=h n (by omega);refine⟨l++ [x],by simp [hl],fun i hi=>?_⟩;by_cases hlt:i<l.length;·rw [List.getElem_append_left hlt];exact hp i hlt
  ·have:i=l.length:=by simp at hi;omega
   subst this;rw [List.getElem_append_right (Nat.le_refl _)];simp only [Nat.sub_self,List.getElem_singleton];rw [hl];exact hx
def intD {H:Type}(v:Int):DataW H:=.lit (.int .i64 v)
theorem ints_t {n:Nat}{cs:List Value}{x:DataW H×List MemPlace}(h:DataW.trod enc Tryz.prog w base spare held n 29 cs=some x):
 ∃(oa:Option Addr) (cap:Nat) (L:List Int),cs= [.slice oa L.length cap]∧L.length<9223372036854775808∧IsAt w oa L∧((x.1=.nil∧L= [])∨ ∃sp,x.1=.slice (L.map intD) sp):=by
 have hC:Tryz.prog.cellsOf 3=1:=by kernel_rfl
 rcases open_slice1 Tryz.underlying29 hC h with⟨hcs,hx⟩|⟨a,len,cap,m,n',V,D,Pl,hcs,_,hl,hcm,hm,hx,hel⟩
 ·subst hcs;exact⟨none,0,[],rfl,(show(0:Nat)<9223372036854775808 by omega),⟨fun i hi=>by simp at hi⟩,.inl ⟨by rw [hx],rfl⟩⟩
 ·subst hcs;have hlm:len≤m:=by rw [hm];split<;>omega
  obtain⟨L,hLl,hLs⟩:=listOf (P:=fun i (x:Int)=>w.cell? (a.add i)=some (.int .i64 x)∧D i=intD x) len (fun i hi=>by
   obtain⟨h1,h2⟩:=hel i (by omega);obtain⟨x,e,f,_⟩:=DataW.trod_int Tryz.underlying3 h2;simp only [List.cons.injEq,and_true]at e;exact⟨x,by rw [h1,e],(Prod.mk.inj f).1⟩)
  have hDl:(List.range len).map D=L.map intD:=by
   apply List.ext_getElem (by simp [hLl]);intro i h1 h2;simp only [List.getElem_map,List.getElem_range];exact(hLs i (by simpa using h2)).2
  refine⟨some a,cap,L,by rw [hLl],by rw [hLl];unfold maxLen at hcm;omega,⟨fun i hi=>⟨a,rfl,?_,(hLs i hi).1⟩⟩,.inr ⟨_,by rw [hx,hDl]⟩⟩;have hb:=lt_of_cell (hLs i hi).1;rw [addr_block]at hb;exact hb
theorem strs_t {n:Nat}{cs:List Value}{x:DataW H×List MemPlace}(h:DataW.trod enc Tryz.prog w base spare held n 22 cs=some x):
 ∃(oa:Option Addr) (cap:Nat) (Ps:List Bytes),cs= [.slice oa Ps.length cap]∧StrsAt w oa Ps∧((x.1=.nil∧Ps= [])∨ ∃sp,x.1=.slice (strD Ps) sp):=by
 have hC:Tryz.prog.cellsOf 9=1:=by kernel_rfl
 rcases open_strings Tryz.underlying22 Tryz.underlying9 hC h with⟨hcs,hx⟩|⟨a,len,cap,ss,hcs,_,hl,hm,hz,hx,hcell,hsz⟩
 ·subst hcs;exact⟨none,0,[],rfl,⟨fun i hi=>by simp at hi⟩,.inl ⟨by rw [hx],rfl⟩⟩
 ·subst hcs;have hlen:len≤ss.length:=by rw [hz];split<;>omega
  refine⟨some a,cap,(ss.take len).map (fun s=>s.data.toList),by simp [hlen],⟨fun i hi=>?_⟩,.inr ⟨_,by rw [hx];congr 1;simp only [strD,strs,List.map_map];rfl⟩⟩;have hi2:i<len:=by simp at hi;omega
  have hc2:=hcell i (by omega);have hb:(a.add i).block<w.heap.size:=lt_of_cell hc2;rw [add_block]at hb;refine⟨a,rfl,hb,?_⟩;rw [hc2];have hi3:i<ss.length:=by omega
  simp [List.getD_eq_getElem?_getD,hi3]
theorem weights_strD(P:Program)(t:TypeId)(op:List Bytes): ∀o∈op,o.length∈DataW.weightsAll P t (strD (H:=H) op):=by
 induction op with
 |nil=>intro o h;cases h
 |
  cons p r ih=>
  intro o ho;simp only [strD,List.map_cons,DataW.weightsAll,DataW.weights,List.mem_append,List.mem_singleton];rcases List.mem_cons.1 ho with rfl|ho;·exact .inl rfl
  ·exact .inr (ih o ho)
theorem open_contest {r:Reach}{b0:Nat}{v:Value}{d:DataW H}{ps:List MemPlace}(hval:Value.okWide Tryz.prog w r b0 24 v)(hd:DataW.Trod enc Tryz.prog w base spare held 24 v d ps):
 ∃(c:CTest) (oa:Option Addr) (cap:Nat),v=.agg (c.cells oa cap).toArray∧StrsAt w oa c.op∧ ∀N,(∀n∈d.weights Tryz.prog 24,n≤N)→c.nm.length≤N∧(∀o∈c.op,o.length≤N)∧c.op.length*16≤N:=by
 have hC:Tryz.prog.cellsOf 24=5:=by kernel_rfl
 obtain⟨cs,rfl,hsz⟩:=okWide_struct Tryz.underlying24 hval;rw [hC]at hsz;obtain⟨l⟩:=cs;obtain⟨fuel,hf⟩:=hd;obtain⟨ys,n',_,hx,hlen,hyl,hf⟩:=DataW.trod_struct Tryz.underlying24 hf;have hI:Tryz.prog.cellsOf 3=1:=by kernel_rfl
 have hS:Tryz.prog.cellsOf 9=1:=by kernel_rfl
 have hL:Tryz.prog.cellsOf 22=1:=by kernel_rfl
 have hBy:Tryz.prog.bytesOf 9=16:=by kernel_rfl
 match l,hsz,ys,hyl with
 |
  [a0,a1,a2,a3,a4],_,[y0,y1,y2,y3,y4],_=>
  have h0:DataW.trod enc Tryz.prog w base spare held n' 9 ((List.drop 0 [a0,a1,a2,a3,a4]).take (Tryz.prog.cellsOf 9))=some y0:=hf 0 _ rfl;rw [hS]at h0;have h0:DataW.trod enc Tryz.prog w base spare held n' 9 [a0]=some y0:=h0;have h1:DataW.trod enc Tryz.prog w base spare held n' 22 ((List.drop 1 [a0,a1,a2,a3,a4]).take (Tryz.prog.cellsOf 22))=some y1:=hf 1 _ rfl;rw [hL]at h1;have h1:DataW.trod enc Tryz.prog w base spare held n' 22 [a1]=some y1:=h1;have h2:DataW.trod enc Tryz.prog w base spare held n' 3 ((List.drop 2 [a0,a1,a2,a3,a4]).take (Tryz.prog.cellsOf 3))=some y2:=hf 2 _ rfl;rw [hI]at h2;have h2:DataW.trod enc Tryz.prog w base spare held n' 3 [a2]=some y2:=h2;have h3:DataW.trod enc Tryz.prog w base spare held n' 3 ((List.drop 3 [a0,a1,a2,a3,a4]).take (Tryz.prog.cellsOf 3))=some y3:=hf 3 _ rfl;rw [hI]at h3;have h3:DataW.trod enc Tryz.prog w base spare held n' 3 [a3]=some y3:=h3;have h4:DataW.trod enc Tryz.prog w base spare held n' 3 ((List.drop 4 [a0,a1,a2,a3,a4]).take (Tryz.prog.cellsOf 3))=some y4:=hf 4 _ rfl;rw [hI]at h4;have h4:DataW.trod enc Tryz.prog w base spare held n' 3 [a4]=some y4:=h4;obtain⟨X,e0,g0,_⟩:=DataW.trod_string Tryz.underlying9 h0;obtain⟨oa,cap,Ps,e1,hs,g1⟩:=strs_t h1;obtain⟨rl,e2,g2,_⟩:=DataW.trod_int Tryz.underlying3 h2;obtain⟨se,e3,g3,_⟩:=DataW.trod_int Tryz.underlying3 h3;obtain⟨mo,e4,g4,_⟩:=DataW.trod_int Tryz.underlying3 h4;simp only [List.cons.injEq,and_true]at e0 e1 e2 e3 e4;have hd:d=.agg [y0.1,y1.1,y2.1,y3.1,y4.1]:=by
   simp only [Prod.mk.injEq]at hx;exact hx.1
  have hw: ∀n,(n∈y0.1.weights Tryz.prog 9∨n∈y1.1.weights Tryz.prog 22)→n∈d.weights Tryz.prog 24:=by
   intro n hn;rw [hd];rcases hn with hn|hn<;>simp [DataW.weights,DataW.weightsEach,Tryz.underlying24,hn]
  refine⟨⟨X.data.toList,Ps,rl,se,mo⟩,oa,cap,by rw [e0,e1,e2,e3,e4];rfl,hs,fun N hN=>⟨?_,?_,?_⟩⟩
  ·refine hN _ (hw _ (.inl ?_));rw [g0];simp [DataW.weights]
  ·intro o ho;refine hN _ (hw _ (.inr ?_));rcases g1 with⟨_,rfl⟩|⟨sp,g1⟩;·cases ho
   ·rw [g1];simp only [DataW.weights,Tryz.underlying22,List.mem_cons,List.mem_append];exact .inr (.inl (weights_strD _ _ _ o ho))
  ·rcases g1 with⟨_,rfl⟩|⟨sp,g1⟩;·show(0:Nat)*16≤N;omega
   ·
     have h1:=hN ((Ps.length+sp.length)*16) (hw _ (.inr (by
      rw [g1];simp only [DataW.weights,Tryz.underlying22,List.mem_cons,hBy];left;simp [strD])))
     show Ps.length*16≤N;omega
theorem open_intsA {r:Reach}{b0:Nat}{v:Value}{d:DataW H}{ps:List MemPlace}(hval:Value.okWide Tryz.prog w r b0 29 v)(hd:DataW.Trod enc Tryz.prog w base spare held 29 v d ps):
 ∃(oa:Option Addr) (cap:Nat) (L:List Int),v=.slice oa L.length cap∧IsAt w oa L∧ ∀N,(∀n∈d.weights Tryz.prog 29,n≤N)→L.length*8≤N:=by
 have hBy:Tryz.prog.bytesOf 3=8:=by kernel_rfl
 obtain⟨oa,len,cap,rfl⟩:=okWide_slice Tryz.underlying29 hval;obtain⟨fuel,hf⟩:=hd;obtain⟨oa',cap',L,hcs,_,hI,g⟩:=ints_t hf;simp [Value.cells]at hcs;obtain⟨rfl,rfl,rfl⟩:=hcs;refine⟨oa,cap,L,rfl,hI,fun N hN=>?_⟩;rcases g with⟨_,rfl⟩|⟨sp,g⟩;·show(0:Nat)*8≤N;omega
 ·dsimp only at g
  have h1:=hN ((L.length+sp.length)*8) (by
   rw [g];simp only [DataW.weights,Tryz.underlying29,List.mem_cons,hBy];left;simp)
  omega
end
end Go.Proofs.YtnohcdpnnhmpfaaGreatDoor.FR
namespace Go.Proofs.YtnohcdpnnhmpfaaGreatDoor.FR
open Go.RowKit ML FM AU CT
open Go.ChangeShapes Go.WideShapes Go.ChangeAt Go.Deep
section
variable {H:Type} {enc:TypeId×Value→H} {w:World} {base:Nat} {spare:Nat→Bool} {held:Bool}
theorem open_rowsP {r:Reach}{b0:Nat}{v:Value}{d:DataW H}{ps:List MemPlace}(hval:Value.okWide Tryz.prog w r b0 25 v)(hd:DataW.Trod enc Tryz.prog w base spare held 25 v d ps):
 ∃(oa:Option Addr) (cap:Nat) (P:List (Value×List Int)),v=.slice oa P.length cap∧P.length<9223372036854775808∧PsAt w oa P:=by
 have hC:Tryz.prog.cellsOf 29=1:=by kernel_rfl
 obtain⟨oa,len,cap,rfl⟩:=okWide_slice Tryz.underlying25 hval;obtain⟨fuel,hf⟩:=hd;rcases open_slice1 Tryz.underlying25 hC hf with⟨hcs,hx⟩|⟨a,len',cap',m,n,V,D,Pl,hcs,_,hl,hcm,hm,hx,hel⟩
 ·simp [Value.cells]at hcs;obtain⟨rfl,rfl,rfl⟩:=hcs;exact⟨none,0,[],rfl,(show(0:Nat)<9223372036854775808 by omega),⟨fun i hi=>by simp at hi,fun p hp=>by simp at hp⟩⟩
 ·simp [Value.cells]at hcs;obtain⟨rfl,rfl,rfl⟩:=hcs;have hlm:len≤m:=by rw [hm];split<;>omega
  obtain⟨R,hRl,hRs⟩:=listOf (P:=fun i (p:Value×List Int)=>w.cell? (a.add i)=some p.1∧RowV w p) len (fun i hi=>by
   obtain⟨h1,h2⟩:=hel i (by omega);obtain⟨ob,cb,L,e,hb,hi,_⟩:=ints_t h2;simp only [List.cons.injEq,and_true]at e;exact⟨(V i,L),h1,ob,cb,e,hi,hb⟩)
  refine⟨some a,cap,R,by rw [hRl],by rw [hRl];unfold maxLen at hcm;omega,⟨fun i hi=>⟨a,rfl,?_,(hRs i hi).1⟩,fun p hp=>?_⟩⟩
  ·have hb:=lt_of_cell (hRs i hi).1;rw [addr_block]at hb;exact hb
  ·obtain⟨i,hi,rfl⟩:=List.mem_iff_getElem.1 hp;exact(hRs i hi).2
end
end Go.Proofs.YtnohcdpnnhmpfaaGreatDoor.FR
namespace Go.Proofs.YtnohcdpnnhmpfaaGreatDoor.countAlike
open Go.ChangeShapes Go.WideShapes Go.ChangeAt Go.RowKit Go.Joins Go.Deep ML FR AU CT TR
open Go.ChangeMaps (open_string shut_string)
theorem own:ownKnob Tryz.prog.godebug=none:=by kernel_rfl
theorem laidOut:laidOutB Tryz.prog=true:=by kernel_rfl
def lay2:Obj→Obj
 | .cells _ t frozen=>.cells (([128,191,160,191,128,159,144,191,128,143]++List.replicate 22 0).map fun n:Nat=>Value.int .u8 (n:Int)).toArray t frozen
 |o=>o
def lay1:Obj→Obj
 | .cells _ t frozen=>.cells (Go.Pinned.utf8FirstZ.map fun n:Nat=>Value.int .u8 (n:Int)).toArray t frozen
 |o=>o
noncomputable def laidWorld(os:Os):World:=
 {World.holding Tryz.prog os ⟨#[], #[],[]⟩with heap:=((World.holding Tryz.prog os ⟨#[], #[],[]⟩).heap.modify 1 lay2).modify 0 lay1}
theorem laid_met(os:Os):laidMet Tryz.prog Rows.countAlikeRow.laid ((laidWorld os).forCall (fun _ _=>0) ⟨#[], #[.agg #[.string .empty,.slice none 0 0,.int .i64 0,.int .i64 0,.int .i64 0],.slice none 0 0,.string .empty,.slice none 0 0,.slice none 0 0],[]⟩).memory:=
 laidMet_of_run' 8 (by kernel_rfl) (by kernel_rfl)
theorem reads(os:Os){H:Type}(enc:TypeId×Value→H): ∃places,DataW.whole enc Tryz.prog ((laidWorld os).forCall (fun _ _=>0) ⟨#[], #[.agg #[.string .empty,.slice none 0 0,.int .i64 0,.int .i64 0,.int .i64 0],.slice none 0 0,.string .empty,.slice none 0 0,.slice none 0 0],[]⟩).memory Tryz.f7.params.toList Rows.countAlikeSpec.vars false #[Value.agg #[.string .empty,.slice none 0 0,.int .i64 0,.int .i64 0,.int .i64 0],Value.slice none 0 0,Value.string .empty,Value.slice none 0 0,Value.slice none 0 0].toList 8=some ([.agg [.lit (.string []),.nil,.lit (.int .i64 0),.lit (.int .i64 0),.lit (.int .i64 0)],.nil,.lit (.string []),.nil,.nil],[],places):=
 ⟨[],by kernel_rfl⟩
theorem contract(H:Type)(enc:TypeId×Value→H)(W:World)(base:Nat)(args:Array Value)(ds gs:List (DataW H))(before:List MemPlace)
 (hval0: ∀(j:Nat) t v,Tryz.f7.params[j]?=some t→args[j]?=some v→Value.okWide Tryz.prog W .any base t v)
 (hW:DataW.Whole enc Tryz.prog Tryz.f7.params.toList Rows.countAlikeSpec.vars false W args.toList ds gs before)
 (hsz0:(DataW.weightsEach Tryz.prog (Tryz.f7.params.toList++Rows.countAlikeSpec.plain.varTypes Tryz.prog) (ds++gs)).all (· ≤reachBytes)=true):
 Calls Tryz.prog 7 args W fun e W'=> ∃v,e=.returned v∧Rows.countAlikeSpec.post enc Tryz.prog Tryz.f7 false true false false W args v W':=by
 have hval: ∀(j:Nat) t v,Tryz.f7.params[j]?=some t→args[j]?=some v→Value.okWide Tryz.prog W .any base t v:=hval0;have hW':=hW;obtain⟨p,q,hA0,hV,rfl,hfz,hnd⟩:=hW;have hA:DataW.TrodAll enc Tryz.prog W 0 (fun _=>true) true Tryz.f7.params.toList args.toList ds p:=hA0;rw [Tryz.params7]at hA hval;obtain⟨v0,vs0,d0,ds0,p0,q0,hargs,rfl,rfl,h0,r0⟩:=trodAll_cons hA;obtain⟨v1,vs1,d1,ds1,p1,q1,rfl,rfl,rfl,h1,r1⟩:=trodAll_cons r0;obtain⟨v2,vs2,d2,ds2,p2,q2,rfl,rfl,rfl,h2,r2⟩:=trodAll_cons r1;obtain⟨v3,vs3,d3,ds3,p3,q3,rfl,rfl,rfl,h3,r3⟩:=trodAll_cons r2;obtain⟨v4,vs4,d4,ds4,p4,q4,rfl,rfl,rfl,h4,r4⟩:=trodAll_cons r3;obtain⟨rfl,rfl,rfl⟩:=trodAll_nil r4;obtain rfl:args= #[v0,v1,v2,v3,v4]:=by cases args;simp_all
 obtain⟨rfl,rfl⟩:=trodVars_none hV;have k0:=h0;have lt0: ∀x∈p0,x.block<W.heap.size:=by obtain⟨m,hm⟩:=k0;exact DataW.trod_lt m _ _ _ hm
 have k1:=h1;have lt1: ∀x∈p1,x.block<W.heap.size:=by obtain⟨m,hm⟩:=k1;exact DataW.trod_lt m _ _ _ hm
 have k2:=h2;have lt2: ∀x∈p2,x.block<W.heap.size:=by obtain⟨m,hm⟩:=k2;exact DataW.trod_lt m _ _ _ hm
 have k3:=h3;have lt3: ∀x∈p3,x.block<W.heap.size:=by obtain⟨m,hm⟩:=k3;exact DataW.trod_lt m _ _ _ hm
 have k4:=h4;have lt4: ∀x∈p4,x.block<W.heap.size:=by obtain⟨m,hm⟩:=k4;exact DataW.trod_lt m _ _ _ hm
 obtain⟨c0,oa0,cap0,rfl,hs0,hw0⟩:=open_contest (hval 0 24 v0 rfl rfl) h0;have hN0:=hw0 reachBytes (fun n hn=>by have:=List.all_eq_true.1 hsz0 _ (DataW.weights_mem_each (j:=0) (t:=24) (by kernel_rfl) rfl n hn);simpa using this);rw [show reachBytes=140737488351232 from rfl]at hN0;obtain⟨oa1,cap1,P1,rfl,hl1,hs1⟩:=open_rowsP (hval 1 25 v1 rfl rfl) h1;obtain⟨x2,rfl,hd2, -,wx2⟩:=open_string Tryz.underlying9 (hval 2 9 v2 rfl rfl) h2;have ws2:x2.data.toList.length≤reachBytes:=sized_string (j:=2) (t:=9) hsz0 (by kernel_rfl) (by rw [hd2];rfl);rw [show reachBytes=140737488351232 from rfl]at ws2;obtain⟨oa3,cap3,L3,rfl,hs3,hw3⟩:=open_intsA (hval 3 29 v3 rfl rfl) h3;have hN3:=hw3 reachBytes (fun n hn=>by have:=List.all_eq_true.1 hsz0 _ (DataW.weights_mem_each (j:=3) (t:=29) (by kernel_rfl) rfl n hn);simpa using this);rw [show reachBytes=140737488351232 from rfl]at hN3;obtain⟨oa4,cap4,L4,rfl,hs4,hw4⟩:=open_intsA (hval 4 29 v4 rfl rfl) h4;have hN4:=hw4 reachBytes (fun n hn=>by have:=List.all_eq_true.1 hsz0 _ (DataW.weights_mem_each (j:=4) (t:=29) (by kernel_rfl) rfl n hn);simpa using this);rw [show reachBytes=140737488351232 from rfl]at hN4;clear hA0 hval0 hval;have walk:=countAlike_any c0 P1 x2.data.toList L3 L4 oa0 cap0 oa1 cap1 oa3 cap3 oa4 cap4 W hs0 hs1 ⟨by have:=hN0.1;omega,fun o ho=>by have:=hN0.2.1 o ho;omega,by omega⟩ (by have:=hN0.2.2;omega) hs3 hs4 (by omega) (by omega);refine walk.mono fun e W' ⟨he,bel⟩=>?_;subst he
 exact⟨_,rfl,_,_,_,[],_,[],hW',trodAll_mk1 (shut_bool Tryz.underlying4 _),
  (trodAll_cons_mk (Below.trod laidOut (by kernel_rfl) (of_decide_eq_true (by kernel_rfl)) k0 bel lt0) (trodAll_cons_mk (Below.trod laidOut (by kernel_rfl) (of_decide_eq_true (by kernel_rfl)) k1 bel lt1) (trodAll_cons_mk (Below.trod laidOut (by kernel_rfl) (of_decide_eq_true (by kernel_rfl)) k2 bel lt2) (trodAll_cons_mk (Below.trod laidOut (by kernel_rfl) (of_decide_eq_true (by kernel_rfl)) k3 bel lt3) (trodAll_cons_mk (Below.trod laidOut (by kernel_rfl) (of_decide_eq_true (by kernel_rfl)) k4 bel lt4) trodAll_mk0))))),
  rfl,bel.frame _,fun h=>by cases h⟩
theorem lifted(os:Os)(started:os.Started)(H:Type)(enc:TypeId×Value→H)(F:Stop.Interp):
 ReturnsInHanded {} Tryz.checked os 7 .any ((OpenSpec.ofChange Rows.countAlikeSpec).preRow enc Tryz.prog Tryz.f7 Rows.countAlikeRow.domain false Rows.countAlikeRow.laid) (((OpenSpec.ofChange Rows.countAlikeSpec).at F).post enc Tryz.prog Tryz.f7 false true false false):=by
 obtain⟨places,hx⟩:=reads os enc;refine returnsInHanded_of_row (C:=Tryz.checked) (s:=OpenSpec.ofChange Rows.countAlikeSpec) own started (by kernel_rfl) Tryz.func7
  (witness_row_at (enc:=enc) (C:=Tryz.checked) false (laidWorld os) #[.agg #[.string .empty,.slice none 0 0,.int .i64 0,.int .i64 0,.int .i64 0],.slice none 0 0,.string .empty,.slice none 0 0,.slice none 0 0] rfl (by kernel_rfl) (by kernel_rfl) (by kernel_rfl)
   (OpenSpec.preRow_of_cond 8 hx (by kernel_rfl) (fun k hk=>by cases hk) (by kernel_rfl) (laid_met os))) ?_
 intro W base args ds gs before hval hW _ _ hsz _ _ _;exact contract H enc W base args ds gs before hval hW hsz
theorem said:Rows.CountAlikeSaid:=
 OpenClaim.holds_of_cond 7 Tryz.f7 rfl rfl rfl rfl rfl rfl rfl ⟨rfl,rfl,rfl,rfl,rfl⟩ rfl rfl rfl rfl rfl (by kernel_rfl) Tryz.func7 (by kernel_rfl)
  (of_decide_eq_true (by kernel_rfl)) (by unfold Func.isWrapper;first|(rw [if_pos (by decide+kernel)];kernel_rfl)|(rw [if_neg (by decide+kernel)];exact⟨rfl,rfl⟩))
  (fun os started H enc _ F=>by rw [OpenClaim.pre_eq_preRow];exact lifted os started H enc F)
theorem plain(f:FuncId)(fn:Func)(hf:Tryz.pinned.checked.prog.funcNamed "hustings/hustingslaw13.CountAlike" =some f)(hfn:Tryz.pinned.checked.prog.funcs[f]?=some fn):
 false=Tryz.pinned.checked.prog.looks []∧ ∀(j:Nat) t,fn.params[j]?=some t→Tryz.pinned.checked.prog.wantsStandIn t=false:=by
 obtain rfl:f=7:=Option.some.inj ((show Tryz.prog.funcNamed "hustings/hustingslaw13.CountAlike" =some 7 by kernel_rfl).symm.trans hf)|>.symm;obtain rfl:fn=Tryz.f7:=(Option.some.inj (Tryz.func7.symm.trans hfn)).symm;refine⟨by kernel_rfl,fun j t ht=>?_⟩;rw [Tryz.params7]at ht;have hm:=Array.mem_of_getElem? ht;simp only [List.mem_toArray,List.mem_cons,List.not_mem_nil,or_false]at hm;rcases hm with rfl|rfl|rfl|rfl|rfl;·exact(show Tryz.prog.wantsStandIn 24=false by kernel_rfl)
 ·exact(show Tryz.prog.wantsStandIn 25=false by kernel_rfl)
 ·exact(show Tryz.prog.wantsStandIn 9=false by kernel_rfl)
 ·exact(show Tryz.prog.wantsStandIn 29=false by kernel_rfl)
 ·exact(show Tryz.prog.wantsStandIn 29=false by kernel_rfl)
theorem proved:Rows.CountAlikeCardSaid:=
 Claim7.holds_tied_plain_at .later [] _ _ _ _ said (fun _ h=>by cases h) (by kernel_rfl) (fun _ h=>by cases h) countAlike_row_tie rfl ⟨rfl,rfl⟩ (by kernel_rfl) rfl plain (by kernel_rfl)
#print axioms proved
end Go.Proofs.YtnohcdpnnhmpfaaGreatDoor.countAlike
