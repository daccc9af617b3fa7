/- Chapter 13: CountElects walked. -/
import Derived.Test.YtnohcdpnnhmpfaaGreatDoorE51
import Derived.Test.YtnohcdpnnhmpfaaGreatDoorRows
import Derived.ProofKit
import Derived.OpenShut
import Derived.ShutString
import Derived.ChangeOld
import Derived.Below
import Derived.SliceStrings
import Derived.Deep.Slices
import Derived.ChangeSame
import Derived.SizedLaws
import Derived.Test.YtnohcdpnnhmpfaaGreatDoorCards
import Derived.Test.YtnohcdpnnhmpfaaGreatDoorTie
import Derived.Deep.DeepHandedRow
import Derived.Lib.LaidTab
import Derived.Lib.SmallJoins
set_option linter.all false
set_option maxRecDepth 100000
set_option maxHeartbeats 4000000
namespace Go.Proofs.YtnohcdpnnhmpfaaGreatDoor.TR
open Go.RowKit ML FRP AU CT FM
variable{w w':m0}
theorem Je.best {c:yH}{P:List (n0×C0)}{lots:Bytes}{e:Ending}(h:Je c P lots w e w'): ∃SB:C0,c.rl≠3→c.rl≠4→prE c P=0→Vt c (Qr c.op.length (kept c P))=0→jbh c.op.length (Qr c.op.length (kept c P)) (Kr c lots) SB:=by
 obtain⟨_,v,E,rfl,h⟩:=h;by_cases h3:c.rl=3;·exact⟨[],fun h=>absurd h3 h⟩
 by_cases h4:c.rl=4;·exact⟨[],fun _ h=>absurd h4 h⟩
 by_cases h0:prE c P=0
 ·by_cases hm:Vt c (Qr c.op.length (kept c P))=0
  ·rw [jP h0]at h;unfold jeJ at h;rw [jQ h3,jQ h4]at h;unfold Yg at h;rw [jP hm]at h;obtain⟨S,_,_,hB,_⟩:=h;exact⟨S,fun _ _ _ _=>hB⟩
  ·exact⟨[],fun _ _ _ h=>absurd h hm⟩
 ·exact⟨[],fun _ _ h=>absurd h h0⟩
theorem Je.bel {c:yH}{P:List (n0×C0)}{lots:Bytes}{e:Ending}(h:Je c P lots w e w'): ∃v E,e=.returned (.tuple #[v,.int .i64 E])∧O0 w.heap.size w w':=by
 obtain⟨hb,v,E,rfl,_⟩:=h;exact⟨v,E,rfl,hb⟩
theorem jbQ(c:yH)(P:List (n0×C0))(lots:Bytes)(oa:s0)(cap:Nat)(ob:s0)(cb:Nat)(w:m0)(hs:zg w oa c.op)(hP:Va w ob P)(hf:c.Fits lots)(Gw:c.op.length<9223372036854775807):
 Calls Tryz.prog 6 #[.agg (c.cells oa cap).toArray,.slice ob P.length cb,.string ⟨lots.toArray⟩] w fun e w'=>e=.returned (.bool true)∧O0 w.heap.size w w':=by
 have hC:(c.cells oa cap).toArray= #[.string ⟨c.nm.toArray⟩,.slice oa c.op.length cap,.int .i64 c.rl,.int .i64 c.se,.int .i64 c.mo]:=rfl;rw [hC];have QT:=jA (fun w1 h1 h2=>jlc c P lots oa cap ob cb w1 h1 h2 hf Gw);have QR:=jA (fun SB tU w1 h1 h2=>jfh c P lots SB tU oa cap ob cb w1 h1 h2 hf Gw);have HS:=jA hs;have HP:=jA hP;clear hs hP hf hC;go_enter Tryz.func6,Tryz.ntmps6;go_upto_region 1 with(fail);generalize hB:w.heap.size=B at*;refine Go.bxE hB ?_;intro w1 ts;have HB:=jA hB;have B1:=jA ts.1;have X1:=jA ts.2;have mt:B<w1.heap.size:=xZ ts.2;have Q1:=jA (QT.u w1 (HS.u.below (HB.u.symm▸B1.u)) (HP.u.below (HB.u.symm▸B1.u)));clear hB ts QT;go_upto_region 2 with(first
  |go_big_skip
  |((with_reducible refine yE 24 ?_);refine xi ?_ 24 (.tmp 3) ?_ B _ _ _ _ ?_ X1.u Tryz.underlying24 ?_ xt ?_;rfl;rfl;rfl;rfl)
  |(go_at_call 20;refine(Q1.u).mono ?_;rintro e w3 hg;obtain⟨v,E,rfl,b3⟩:=hg.bel;dsimp only;have HG:=jA hg;have B3:=jA (B1.u.trans (b3.mono (jX mt)));have X3:=jA (xe b3 mt X1.u);clear hg b3))
 have hB3:B<w3.heap.size:=xZ X3.u;obtain⟨SB,tU⟩:=HG.u.best;have Q3:=jA (QR.u SB tU w3 (HS.u.below (HB.u.symm▸B3.u)) (HP.u.below (HB.u.symm▸B3.u)));clear X1 B1 mt Q1 QR tU;go_upto_region 3 with(first
  |go_big_skip
  |((with_reducible refine yE 24 ?_);refine xi ?_ 24 (.tmp 3) ?_ B _ _ _ _ ?_ X3.u Tryz.underlying24 ?_ xt ?_;rfl;rfl;rfl;rfl)
  |(go_at_call 21;refine(Q3.u).mono ?_;rintro e w4 hg;obtain⟨v',E',rfl,b4⟩:=hg.bel;obtain⟨L,E2,oo,GS,co,CZ,h1,h2,i1,i2,hl⟩:=HG.u.same hg;obtain⟨rfl,rfl⟩:v=.slice oo L.length co∧E=E2:=(by simpa using h1);obtain⟨rfl,rfl⟩:v'=.slice GS L.length CZ∧E'=E:=(by simpa using h2);clear h1 h2;dsimp only;have B4:=jA (B3.u.trans (b4.mono (jX hB3)));have I1:=jA (i1.below b4);have I2:=jA i2;have HL:=jA hl;clear b4 i1 i2 hl HG hg))
 have QI:=jA (jeV oo GS L co CZ w4 I1.u I2.u (by have:=HL.u;omega));clear Q3 X3 HL I1 I2;go_wp2_with (first
  |go_big_skip
  |(go_at_call 19;refine(QI.u).mono ?_;rintro e w5 ⟨rfl,b5⟩;dsimp only;have B5:=jA b5;clear b5))
 go_ret;exact⟨rfl,by rw [HB.u];exact B4.u.trans (B5.u.mono (by have:=B4.u.size;rw [HB.u]at this;exact this))⟩
end Go.Proofs.YtnohcdpnnhmpfaaGreatDoor.TR
namespace Go.Proofs.YtnohcdpnnhmpfaaGreatDoor.FR
open Go.RowKit ML FM
open Go.ChangeShapes Go.WideShapes Go.ChangeAt
section
variable {H:Type} {enc:o0×n0→H} {P:Program} {w:m0} {base:Nat} {spare:Nat→Bool} {held:Bool}
theorem Zr {w:m0}{p:Addr}{v:n0}(h:w.cell? p=some v):p.block<w.heap.size:=by
 by_cases ns:p.block<w.heap.size;·exact ns
 ·have h0:w.heap[p.block]?=none:=xM (by omega);unfold World.cell? at h;simp [h0]at h
def VU(Ps:List Bytes):List (DataW H):=Ps.map fun p=>.lit (.string p)
end
end Go.Proofs.YtnohcdpnnhmpfaaGreatDoor.FR
namespace Go.Proofs.YtnohcdpnnhmpfaaGreatDoor.FR
open Go.RowKit ML FM AU CT
open Go.ChangeShapes Go.WideShapes Go.ChangeAt Go.Deep
section
variable {H:Type} {enc:o0×n0→H} {w:m0} {base:Nat} {spare:Nat→Bool} {held:Bool}
theorem jmx {α:Type}{P:Nat→α→Prop}: ∀n,(∀i,i<n→ ∃x,P i x)→ ∃l:List α,l.length=n∧ ∀i (h:i<l.length),P i l[i]:=by
 intro n
 induction n with
 |zero=>intro _;exact⟨[],rfl,fun i h=>by simp at h⟩
 |
  succ n ih=>
  intro h;obtain⟨l,hl,hp⟩:=ih (fun i hi=>h i (by omega));obtain⟨x,hx⟩:=h n (by omega);refine⟨l++ [x],by simp [hl],fun i hi=>?_⟩;by_cases ns:i<l.length;·rw [xV ns];exact hp i ns
  ·have:i=l.length:=by simp at hi;omega
   subst this;rw [List.getElem_append_right (jO _)];simp only [Nat.sub_self,List.getElem_singleton];rw [hl];exact hx
def joZ {H:Type}(v:Int):DataW H:=.lit (.int .i64 v)
theorem joY {n:Nat}{cs:A0}{x:DataW H×List MemPlace}(h:DataW.trod enc Tryz.prog w base spare held n 29 cs=some x):
 ∃(oa:s0) (cap:Nat) (L:C0),cs= [.slice oa L.length cap]∧L.length<9223372036854775808∧yW w oa L∧((x.1=.nil∧L= [])∨ ∃sp,x.1=.slice (L.map joZ) sp):=by
 have hC:Tryz.prog.cellsOf 3=1:=by kernel_rfl
 rcases open_slice1 Tryz.underlying29 hC h with⟨Dz,hx⟩|⟨a,len,cap,m,n',V,D,Pl,Dz,_,hl,mF,hm,hx,AA⟩
 ·subst Dz;exact⟨none,0,[],rfl,(show(0:Nat)<9223372036854775808 by omega),⟨fun i hi=>by simp at hi⟩,.inl ⟨by rw [hx],rfl⟩⟩
 ·subst Dz;have hlm:len≤m:=by rw [hm];split<;>omega
  obtain⟨L,hLl,uZ⟩:=jmx (P:=fun i (x:Int)=>w.cell? (a.add i)=some (.int .i64 x)∧D i=joZ x) len (fun i hi=>by
   obtain⟨h1,h2⟩:=AA i (by omega);obtain⟨x,e,f,_⟩:=DataW.trod_int Tryz.underlying3 h2;simp only [List.cons.injEq,and_true]at e;exact⟨x,by rw [h1,e],(Prod.mk.inj f).1⟩)
  have hDl:(List.range len).map D=L.map joZ:=by
   apply vM (by simp [hLl]);intro i h1 h2;simp only [List.getElem_map,List.getElem_range];exact(uZ i (by simpa using h2)).2
  refine⟨some a,cap,L,by rw [hLl],by rw [hLl];unfold maxLen at mF;omega,⟨fun i hi=>⟨a,rfl,?_,(uZ i hi).1⟩⟩,.inr ⟨_,by rw [hx,hDl]⟩⟩;have hb:=Zr (uZ i hi).1;rw [yI]at hb;exact hb
theorem joH {n:Nat}{cs:A0}{x:DataW H×List MemPlace}(h:DataW.trod enc Tryz.prog w base spare held n 22 cs=some x):
 ∃(oa:s0) (cap:Nat) (Ps:List Bytes),cs= [.slice oa Ps.length cap]∧zg w oa Ps∧((x.1=.nil∧Ps= [])∨ ∃sp,x.1=.slice (VU Ps) sp):=by
 have hC:Tryz.prog.cellsOf 9=1:=by kernel_rfl
 rcases open_strings Tryz.underlying22 Tryz.underlying9 hC h with⟨Dz,hx⟩|⟨a,len,cap,ss,Dz,_,hl,hm,hz,hx,su,Iu⟩
 ·subst Dz;exact⟨none,0,[],rfl,⟨fun i hi=>by simp at hi⟩,.inl ⟨by rw [hx],rfl⟩⟩
 ·subst Dz;have Ds:len≤ss.length:=by rw [hz];split<;>omega
  refine⟨some a,cap,(ss.take len).map (fun s=>s.data.toList),by simp [Ds],⟨fun i hi=>?_⟩,.inr ⟨_,by rw [hx];congr 1;simp only [VU,strs,List.map_map];rfl⟩⟩;have iG:i<len:=by simp at hi;omega
  have Tv:=su i (by omega);have hb:(a.add i).block<w.heap.size:=Zr Tv;rw [jeE]at hb;refine⟨a,rfl,hb,?_⟩;rw [Tv];have hi3:i<ss.length:=by omega
  simp [jV,hi3]
theorem jeN(P:Program)(t:o0)(op:List Bytes): ∀o∈op,o.length∈DataW.weightsAll P t (VU (H:=H) op):=by
 induction op with
 |nil=>intro o h;cases h
 |
  cons p r ih=>
  intro o ho;simp only [VU,jI,DataW.weightsAll,DataW.weights,jj,jm];rcases jl.1 ho with rfl|ho;·exact .inl rfl
  ·exact .inr (ih o ho)
theorem jfr {r:Reach}{b0:Nat}{v:n0}{d:DataW H}{ps:List MemPlace}(ux:Value.okWide Tryz.prog w r b0 24 v)(hd:DataW.Trod enc Tryz.prog w base spare held 24 v d ps):
 ∃(c:yH) (oa:s0) (cap:Nat),v=.agg (c.cells oa cap).toArray∧zg w oa c.op∧ ∀N,(∀n∈d.weights Tryz.prog 24,n≤N)→c.nm.length≤N∧(∀o∈c.op,o.length≤N)∧c.op.length*16≤N:=by
 have hC:Tryz.prog.cellsOf 24=5:=by kernel_rfl
 obtain⟨cs,rfl,Iu⟩:=okWide_struct Tryz.underlying24 ux;rw [hC]at Iu;obtain⟨l⟩:=cs;obtain⟨fuel,hf⟩:=hd;obtain⟨ys,n',_,hx,Ds,hyl,hf⟩:=DataW.trod_struct Tryz.underlying24 hf;have hI:Tryz.prog.cellsOf 3=1:=by kernel_rfl
 have hS:Tryz.prog.cellsOf 9=1:=by kernel_rfl
 have hL:Tryz.prog.cellsOf 22=1:=by kernel_rfl
 have hBy:Tryz.prog.bytesOf 9=16:=by kernel_rfl
 match l,Iu,ys,hyl with
 |
  [a0,a1,a2,a3,a4],_,[y0,y1,y2,y3,y4],_=>
  have h0:DataW.trod enc Tryz.prog w base spare held n' 9 ((List.drop 0 [a0,a1,a2,a3,a4]).take (Tryz.prog.cellsOf 9))=some y0:=hf 0 _ rfl;rw [hS]at h0;have h0:DataW.trod enc Tryz.prog w base spare held n' 9 [a0]=some y0:=h0;have h1:DataW.trod enc Tryz.prog w base spare held n' 22 ((List.drop 1 [a0,a1,a2,a3,a4]).take (Tryz.prog.cellsOf 22))=some y1:=hf 1 _ rfl;rw [hL]at h1;have h1:DataW.trod enc Tryz.prog w base spare held n' 22 [a1]=some y1:=h1;have h2:DataW.trod enc Tryz.prog w base spare held n' 3 ((List.drop 2 [a0,a1,a2,a3,a4]).take (Tryz.prog.cellsOf 3))=some y2:=hf 2 _ rfl;rw [hI]at h2;have h2:DataW.trod enc Tryz.prog w base spare held n' 3 [a2]=some y2:=h2;have h3:DataW.trod enc Tryz.prog w base spare held n' 3 ((List.drop 3 [a0,a1,a2,a3,a4]).take (Tryz.prog.cellsOf 3))=some y3:=hf 3 _ rfl;rw [hI]at h3;have h3:DataW.trod enc Tryz.prog w base spare held n' 3 [a3]=some y3:=h3;have h4:DataW.trod enc Tryz.prog w base spare held n' 3 ((List.drop 4 [a0,a1,a2,a3,a4]).take (Tryz.prog.cellsOf 3))=some y4:=hf 4 _ rfl;rw [hI]at h4;have h4:DataW.trod enc Tryz.prog w base spare held n' 3 [a4]=some y4:=h4;obtain⟨X,e0,g0,_⟩:=DataW.trod_string Tryz.underlying9 h0;obtain⟨oa,cap,Ps,e1,hs,g1⟩:=joH h1;obtain⟨rl,e2,g2,_⟩:=DataW.trod_int Tryz.underlying3 h2;obtain⟨se,e3,g3,_⟩:=DataW.trod_int Tryz.underlying3 h3;obtain⟨mo,e4,g4,_⟩:=DataW.trod_int Tryz.underlying3 h4;simp only [List.cons.injEq,and_true]at e0 e1 e2 e3 e4;have hd:d=.agg [y0.1,y1.1,y2.1,y3.1,y4.1]:=by
   simp only [Prod.mk.injEq]at hx;exact hx.1
  have hw: ∀n,(n∈y0.1.weights Tryz.prog 9∨n∈y1.1.weights Tryz.prog 22)→n∈d.weights Tryz.prog 24:=by
   intro n hn;rw [hd];rcases hn with hn|hn<;>simp [DataW.weights,DataW.weightsEach,Tryz.underlying24,hn]
  refine⟨⟨X.data.toList,Ps,rl,se,mo⟩,oa,cap,by rw [e0,e1,e2,e3,e4];rfl,hs,fun N hN=>⟨?_,?_,?_⟩⟩
  ·refine hN _ (hw _ (.inl ?_));rw [g0];simp [DataW.weights]
  ·intro o ho;refine hN _ (hw _ (.inr ?_));rcases g1 with⟨_,rfl⟩|⟨sp,g1⟩;·cases ho
   ·rw [g1];simp only [DataW.weights,Tryz.underlying22,jl,jj];exact .inr (.inl (jeN _ _ _ o ho))
  ·rcases g1 with⟨_,rfl⟩|⟨sp,g1⟩;·show(0:Nat)*16≤N;omega
   ·
     have h1:=hN ((Ps.length+sp.length)*16) (hw _ (.inr (by
      rw [g1];simp only [DataW.weights,Tryz.underlying22,jl,hBy];left;simp [VU])))
     show Ps.length*16≤N;omega
end
end Go.Proofs.YtnohcdpnnhmpfaaGreatDoor.FR
namespace Go.Proofs.YtnohcdpnnhmpfaaGreatDoor.FR
open Go.RowKit ML FM AU CT
open Go.ChangeShapes Go.WideShapes Go.ChangeAt Go.Deep
section
variable {H:Type} {enc:o0×n0→H} {w:m0} {base:Nat} {spare:Nat→Bool} {held:Bool}
theorem jie {r:Reach}{b0:Nat}{v:n0}{d:DataW H}{ps:List MemPlace}(ux:Value.okWide Tryz.prog w r b0 25 v)(hd:DataW.Trod enc Tryz.prog w base spare held 25 v d ps):
 ∃(oa:s0) (cap:Nat) (P:List (n0×C0)),v=.slice oa P.length cap∧P.length<9223372036854775808∧Va w oa P:=by
 have hC:Tryz.prog.cellsOf 29=1:=by kernel_rfl
 obtain⟨oa,len,cap,rfl⟩:=okWide_slice Tryz.underlying25 ux;obtain⟨fuel,hf⟩:=hd;rcases open_slice1 Tryz.underlying25 hC hf with⟨Dz,hx⟩|⟨a,len',DF,m,n,V,D,Pl,Dz,_,hl,mF,hm,hx,AA⟩
 ·simp [Value.cells]at Dz;obtain⟨rfl,rfl,rfl⟩:=Dz;exact⟨none,0,[],rfl,(show(0:Nat)<9223372036854775808 by omega),⟨fun i hi=>by simp at hi,fun p hp=>by simp at hp⟩⟩
 ·simp [Value.cells]at Dz;obtain⟨rfl,rfl,rfl⟩:=Dz;have hlm:len≤m:=by rw [hm];split<;>omega
  obtain⟨R,Ny,hRs⟩:=jmx (P:=fun i (p:n0×C0)=>w.cell? (a.add i)=some p.1∧jiO w p) len (fun i hi=>by
   obtain⟨h1,h2⟩:=AA i (by omega);obtain⟨ob,cb,L,e,hb,hi,_⟩:=joY h2;simp only [List.cons.injEq,and_true]at e;exact⟨(V i,L),h1,ob,cb,e,hi,hb⟩)
  refine⟨some a,cap,R,by rw [Ny],by rw [Ny];unfold maxLen at mF;omega,⟨fun i hi=>⟨a,rfl,?_,(hRs i hi).1⟩,fun p hp=>?_⟩⟩
  ·have hb:=Zr (hRs i hi).1;rw [yI]at hb;exact hb
  ·obtain⟨i,hi,rfl⟩:=qs.1 hp;exact(hRs i hi).2
end
end Go.Proofs.YtnohcdpnnhmpfaaGreatDoor.FR
namespace Go.Proofs.YtnohcdpnnhmpfaaGreatDoor.countElects
open Go.ChangeShapes Go.WideShapes Go.ChangeAt Go.RowKit Go.Joins Go.Deep ML FR AU CT TR
open Go.ChangeMaps (open_string shut_string)
theorem own:ownKnob Tryz.prog.godebug=none:=by kernel_rfl
theorem jfz:laidOutB Tryz.prog=true:=by kernel_rfl
def lay2:Obj→Obj
 | .cells _ t frozen=>.cells (([128,191,160,191,128,159,144,191,128,143]++List.replicate 22 0).map fun n:Nat=>Value.int .u8 (n:Int)).toArray t frozen
 |o=>o
def lay1:Obj→Obj
 | .cells _ t frozen=>.cells (Go.Pinned.utf8FirstZ.map fun n:Nat=>Value.int .u8 (n:Int)).toArray t frozen
 |o=>o
noncomputable def jaS(os:Os):m0:=
 {World.holding Tryz.prog os ⟨#[], #[],[]⟩with heap:=((World.holding Tryz.prog os ⟨#[], #[],[]⟩).heap.modify 1 lay2).modify 0 lay1}
theorem jmz(os:Os):laidMet Tryz.prog Rows.countElectsRow.laid ((jaS os).forCall (fun _ _=>0) ⟨#[], #[.agg #[.string .empty,.slice none 0 0,.int .i64 0,.int .i64 0,.int .i64 0],.slice none 0 0,.string .empty],[]⟩).memory:=
 laidMet_of_run' 8 (by kernel_rfl) (by kernel_rfl)
theorem jpl(os:Os){H:Type}(enc:o0×n0→H): ∃RI,DataW.whole enc Tryz.prog ((jaS os).forCall (fun _ _=>0) ⟨#[], #[.agg #[.string .empty,.slice none 0 0,.int .i64 0,.int .i64 0,.int .i64 0],.slice none 0 0,.string .empty],[]⟩).memory Tryz.f6.params.toList Rows.countElectsSpec.vars false #[Value.agg #[.string .empty,.slice none 0 0,.int .i64 0,.int .i64 0,.int .i64 0],Value.slice none 0 0,Value.string .empty].toList 8=some ([.agg [.lit (.string []),.nil,.lit (.int .i64 0),.lit (.int .i64 0),.lit (.int .i64 0)],.nil,.lit (.string [])],[],RI):=
 ⟨[],by kernel_rfl⟩
theorem jmR(H:Type)(enc:o0×n0→H)(W:m0)(base:Nat)(args:t0)(ds gs:List (DataW H))(GF:List MemPlace)
 (nQ: ∀(j:Nat) t v,Tryz.f6.params[j]?=some t→args[j]?=some v→Value.okWide Tryz.prog W .any base t v)
 (hW:DataW.Whole enc Tryz.prog Tryz.f6.params.toList Rows.countElectsSpec.vars false W args.toList ds gs GF)
 (hsz0:(DataW.weightsEach Tryz.prog (Tryz.f6.params.toList++Rows.countElectsSpec.plain.varTypes Tryz.prog) (ds++gs)).all (· ≤reachBytes)=true):
 Calls Tryz.prog 6 args W fun e W'=> ∃v,e=.returned v∧Rows.countElectsSpec.post enc Tryz.prog Tryz.f6 false true false false W args v W':=by
 have ux: ∀(j:Nat) t v,Tryz.f6.params[j]?=some t→args[j]?=some v→Value.okWide Tryz.prog W .any base t v:=nQ;have hW':=hW;obtain⟨p,q,fV,hV,rfl,nM,MG⟩:=hW;have hA:DataW.TrodAll enc Tryz.prog W 0 (fun _=>true) true Tryz.f6.params.toList args.toList ds p:=fV;rw [Tryz.params6]at hA ux;obtain⟨v0,vs0,d0,ds0,p0,q0,hargs,rfl,rfl,h0,r0⟩:=trodAll_cons hA;obtain⟨v1,vs1,d1,ds1,p1,q1,rfl,rfl,rfl,h1,r1⟩:=trodAll_cons r0;obtain⟨v2,vs2,d2,ds2,p2,q2,rfl,rfl,rfl,h2,r2⟩:=trodAll_cons r1;obtain⟨rfl,rfl,rfl⟩:=trodAll_nil r2;obtain rfl:args= #[v0,v1,v2]:=by cases args;simp_all
 obtain⟨rfl,rfl⟩:=trodVars_none hV;have k0:=h0;have lt0: ∀x∈p0,x.block<W.heap.size:=by obtain⟨m,hm⟩:=k0;exact DataW.trod_lt m _ _ _ hm
 have k1:=h1;have lt1: ∀x∈p1,x.block<W.heap.size:=by obtain⟨m,hm⟩:=k1;exact DataW.trod_lt m _ _ _ hm
 have k2:=h2;have lt2: ∀x∈p2,x.block<W.heap.size:=by obtain⟨m,hm⟩:=k2;exact DataW.trod_lt m _ _ _ hm
 obtain⟨c0,oa0,cap0,rfl,DG,ou⟩:=jfr (ux 0 24 v0 rfl rfl) h0;have hN0:=ou reachBytes (fun n hn=>by have:=kw.1 hsz0 _ (DataW.weights_mem_each (j:=0) (t:=24) (by kernel_rfl) rfl n hn);simpa using this);rw [show reachBytes=140737488351232 from rfl]at hN0;obtain⟨dQ,cap1,P1,rfl,hl1,lJ⟩:=jie (ux 1 25 v1 rfl rfl) h1;obtain⟨x2,rfl,mI, -,wx2⟩:=open_string Tryz.underlying9 (ux 2 9 v2 rfl rfl) h2;have ws2:x2.data.toList.length≤reachBytes:=sized_string (j:=2) (t:=9) hsz0 (by kernel_rfl) (by rw [mI];rfl);rw [show reachBytes=140737488351232 from rfl]at ws2;clear fV nQ ux;have walk:=jbQ c0 P1 x2.data.toList oa0 cap0 dQ cap1 W DG lJ ⟨by have:=hN0.1;omega,fun o ho=>by have:=hN0.2.1 o ho;omega,by omega⟩ (by have:=hN0.2.2;omega);refine walk.mono fun e W' ⟨he,bel⟩=>?_;subst he
 exact⟨_,rfl,_,_,_,[],_,[],hW',trodAll_mk1 (shut_bool Tryz.underlying4 _),
  (trodAll_cons_mk (Below.trod jfz (by kernel_rfl) (qP (by kernel_rfl)) k0 bel lt0) (trodAll_cons_mk (Below.trod jfz (by kernel_rfl) (qP (by kernel_rfl)) k1 bel lt1) (trodAll_cons_mk (Below.trod jfz (by kernel_rfl) (qP (by kernel_rfl)) k2 bel lt2) trodAll_mk0))),
  rfl,bel.frame _,fun h=>by cases h⟩
theorem joX(os:Os)(iC:os.Started)(H:Type)(enc:o0×n0→H)(F:Stop.Interp):
 ReturnsInHanded {} Tryz.checked os 6 .any ((OpenSpec.ofChange Rows.countElectsSpec).preRow enc Tryz.prog Tryz.f6 Rows.countElectsRow.domain false Rows.countElectsRow.laid) (((OpenSpec.ofChange Rows.countElectsSpec).at F).post enc Tryz.prog Tryz.f6 false true false false):=by
 obtain⟨RI,hx⟩:=jpl os enc;refine returnsInHanded_of_row (C:=Tryz.checked) (s:=OpenSpec.ofChange Rows.countElectsSpec) own iC (by kernel_rfl) Tryz.func6
  (witness_row_at (enc:=enc) (C:=Tryz.checked) false (jaS os) #[.agg #[.string .empty,.slice none 0 0,.int .i64 0,.int .i64 0,.int .i64 0],.slice none 0 0,.string .empty] rfl (by kernel_rfl) (by kernel_rfl) (by kernel_rfl)
   (OpenSpec.preRow_of_cond 8 hx (by kernel_rfl) (fun k hk=>by cases hk) (by kernel_rfl) (jmz os))) ?_
 intro W base args ds gs GF ux hW _ _ Iu _ _ _;exact jmR H enc W base args ds gs GF ux hW Iu
theorem said:Rows.CountElectsSaid:=
 OpenClaim.holds_of_cond 6 Tryz.f6 rfl rfl rfl rfl rfl rfl rfl ⟨rfl,rfl,rfl,rfl,rfl⟩ rfl rfl rfl rfl rfl (by kernel_rfl) Tryz.func6 (by kernel_rfl)
  (qP (by kernel_rfl)) (by unfold Func.isWrapper;first|(rw [jP (by decide+kernel)];kernel_rfl)|(rw [jQ (by decide+kernel)];exact⟨rfl,rfl⟩))
  (fun os iC H enc _ F=>by rw [OpenClaim.pre_eq_preRow];exact joX os iC H enc F)
theorem plain(f:FuncId)(fn:Func)(hf:Tryz.pinned.checked.prog.funcNamed "hustings/hustingslaw13.CountElects" =some f)(TG:Tryz.pinned.checked.prog.funcs[f]?=some fn):
 false=Tryz.pinned.checked.prog.looks []∧ ∀(j:Nat) t,fn.params[j]?=some t→Tryz.pinned.checked.prog.wantsStandIn t=false:=by
 obtain rfl:f=6:=Option.some.inj ((show Tryz.prog.funcNamed "hustings/hustingslaw13.CountElects" =some 6 by kernel_rfl).symm.trans hf)|>.symm;obtain rfl:fn=Tryz.f6:=(Option.some.inj (Tryz.func6.symm.trans TG)).symm;refine⟨by kernel_rfl,fun j t ht=>?_⟩;rw [Tryz.params6]at ht;have hm:=xL ht;simp only [List.mem_toArray,jl,kD,kH]at hm;rcases hm with rfl|rfl|rfl;·exact(show Tryz.prog.wantsStandIn 24=false by kernel_rfl)
 ·exact(show Tryz.prog.wantsStandIn 25=false by kernel_rfl)
 ·exact(show Tryz.prog.wantsStandIn 9=false by kernel_rfl)
theorem proved:Rows.CountElectsCardSaid:=
 Claim7.holds_tied_plain_at .later [] _ _ _ _ said (fun _ h=>by cases h) (by kernel_rfl) (fun _ h=>by cases h) countElects_row_tie rfl ⟨rfl,rfl⟩ (by kernel_rfl) rfl plain (by kernel_rfl)
#print axioms proved
end Go.Proofs.YtnohcdpnnhmpfaaGreatDoor.countElects
