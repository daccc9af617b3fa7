/-
  Chapter 13: a contest in memory; count.draw. Printed by tools/gendrw.py.
-/
import Derived.Test.YtnohcdpnnhmpfaaGreatDoorQ17
set_option linter.unusedVariables false
set_option linter.unusedSimpArgs false
set_option maxRecDepth 100000
set_option maxHeartbeats 8000000
namespace Go.Proofs.YtnohcdpnnhmpfaaGreatDoor
open Go.RowKit Tryz ML FM AU CT
structure yE where
 nm:Bytes
 op:List Bytes
 rl:Int
 se:Int
 mo:Int
def yE.cells(c:yE)(oa:Option Addr)(cap:Nat):List Value:= [.string ⟨c.nm.toArray⟩,.slice oa c.op.length cap,.int .i64 c.rl,.int .i64 c.se,.int .i64 c.mo]
def zR(c:yE):Bool:=decide (c.op.length<1∨12<c.op.length∨c.rl<1∨4<c.rl∨c.se<1∨(c.op.length:Int)<c.se)
def jgr:Bytes:= [108,111,116]
def Yr(c:yE)(lots:Bytes)(k:Nat):Bytes:=Jm [] (KI jgr [lots,c.nm,c.op.getD k []])
def Xu(c:yE)(lots:Bytes)(i:Int):Bytes:=Yr c lots i.toNat
structure yE.Fits(c:yE)(lots:Bytes):Prop where
 nm:c.nm.length<1152921504606846976
 op: ∀o∈c.op,o.length<1152921504606846976
 lots:lots.length<1152921504606846976
theorem yE.Fits.join {c:yE}{lots:Bytes}(h:c.Fits lots)(k:Nat)(hk:k<c.op.length):(KI jgr [lots,c.nm,c.op.getD k []]).length<4611686018427387904:=by
 have h1:=h.nm;have h2:=h.lots;have h3:(c.op.getD k []).length<1152921504606846976:=h.op _ (by rw [jW,kl hk];exact jj hk);generalize c.op.getD k []=o at*;simp only [KI,List.flatMap_cons,List.flatMap_nil,ja,Jb,kR,List.length_nil,jgr];omega
def VV(L:List Bytes):List Value:=L.map fun s=>Value.string ⟨s.toArray⟩
theorem jdn(A B:List Bytes):VV A++VV B=VV (A++B):=by simp [VV]
theorem jhE(L:List Bytes): ∀v∈VV L,v.oneCell'=true:=by
 intro v hv;simp only [VV,jl]at hv;obtain⟨x,_,rfl⟩:=hv;rfl
theorem jaV {w:World}{base:Nat}{e:TypeId}{v:Value}{n:Nat}{L:List Bytes}(h:w.ownsRow base e 1 v n (VV L)): ∃oa cap,v=.slice oa L.length cap∧JD w oa L:=by
 have hl:L.length=n:=by have:=h.1;simp [VV]at this;omega
 rcases h.2 with⟨hv,h0⟩|⟨g,cap,cur,hv,hb,hg,hnc,_,hc,ht⟩
 ·have:L= []:=kY.1 (by omega);subst this;exact⟨none,0,hv,⟨fun i hi=>by simp at hi⟩⟩
 ·refine⟨some ⟨g,0,none⟩,cap,by rw [hl];exact hv,⟨fun i hi=>⟨_,rfl,lt_of_heap hg,?_⟩⟩⟩;exact h.cells (g:=g) (by rw [hv];rfl) i (.string ⟨L[i].toArray⟩) (by simp [VV,hi])
theorem zp {w w1:World}{base b:Nat}{e:TypeId}{s:Nat}{v:Value}{n:Nat}{xs:List Value}(h:w.ownsRow base e s v n xs)(ho:xp b w w1)(hne:v.ownBlock≠some b):w1.ownsRow base e s v n xs:=h.kept (xR ho) (.inr hne)
theorem Yb {P:Program}{ops:Array Oper}{rest:List Oper}{o:Oper}{a:Act}{S:World→Prop}{K:Act→Prop}(hw:Region.wanted o (yielded ops a.tmps)=true)(t:TypeId)(parts:Array (Nat×Operand))(ho:o.op=.build t parts)(l:List (Nat×Value))(hp:(parts.map fun(i,x)=>(i,a.eval x)).toList=l)(cells:Array Value)(hf:P.built t l=some cells)
 (h:wpQuiet P ops S K rest (a.put o.dst (.agg cells))):wpQuiet P ops S K (o::rest) a:=by
 unfold wpQuiet;rw [jR hw];refine⟨.agg cells,fun w' _=>?_,h⟩;have hr:=run_build (P:=P) w' t (parts.map fun(i,x)=>(i,a.eval x)) cells (by rw [hp];exact hf);unfold Oper.quietAt execOp;simp only [ho,kJ,hr,qF];exact⟨rfl,rfl⟩
theorem jaA(nm:ByteArray)(oa:Option Addr)(n cap:Nat)(r s m:Int)(V N:Nat):prog.built 62 [(0,.agg #[.string nm,.slice oa n cap,.int .i64 r,.int .i64 s,.int .i64 m]),(2,.slice (some ⟨V,0,none⟩) N N)]=some #[.string nm,.slice oa n cap,.int .i64 r,.int .i64 s,.int .i64 m,.slice none 0 0,.slice (some ⟨V,0,none⟩) N N]:=by kernel_rfl
theorem jeQ {w:World}{base:Nat}{e:TypeId}{v:Value}(n:Nat)(h:w.ownsRow base e 1 v n (madeCells (Value.int .i64 0).cells (n*1)).toList):w.ownsRow base e 1 v n (List.replicate n (.int .i64 0)):=by
 have e2:(madeCells (Value.int .i64 0).cells (n*1)).toList=List.replicate n (.int .i64 0):=by rw [qG];exact toList_madeCells_one _ _
 rwa [e2]at h
theorem zV {w w1:World}{base b:Nat}{e e':TypeId}{s:Nat}{v:Value}{n:Nat}{xs:List Value}{cs:Array Value}{fr:Nat×Nat}(h:w.ownsRow base e s v n xs)(hb:w.heap[b]?=some (.cells cs e' fr))(hne:e≠e')(ho:xp b w w1):w1.ownsRow base e s v n xs:=zp h ho (zE h hb hne)
theorem jki:(prog.info? 9).map (fun i=>(i.zero,i.size,i.bytes))=some (some (.string ⟨#[]⟩),1,16):=by kernel_rfl
theorem zS:(prog.info? 62).map (·.size)=some 7:=by kernel_rfl
theorem xe:(prog.info? 24).map (·.size)=some 5:=by kernel_rfl
structure Drw(B D L:Nat)(w0 w:World)(r5 z7:List Value)(vo vp vl:Value)(O P:List Int)(Ls:List Bytes):Prop where
 box:ZB B w0 w r5.toArray z7.toArray 24 62
 lt:B+1<D
 row:w.heap[D]?=some (.cells (r5++ [vo,vp]).toArray 62 (0,0))
 lot:w.heap[L]?=some (.cells #[vl] 22 (0,0))
 ltL:B+1<L
 own0:w.ownsRow (B+2) 3 1 vo O.length (xU O)
 own1:w.ownsRow (B+2) 3 1 vp P.length (xU P)
 own2:w.ownsRow (B+2) 9 1 vl Ls.length (VV Ls)
 ap:Qb vo vp
namespace Drw
variable {B D L:Nat} {w0 w w1 w2:World} {r5 z7:List Value} {vo vp vl:Value} {O P:List Int} {Ls:List Bytes}
theorem size(h:Drw B D L w0 w r5 z7 vo vp vl O P Ls):B+2≤w.heap.size:=by have:=lt_of_heap h.box.z;omega
theorem below(h:Drw B D L w0 w r5 z7 vo vp vl O P Ls)(hb:Below w.heap.size w w1):Drw B D L w0 w1 r5 z7 vo vp vl O P Ls:=
 ⟨h.box.keep (by have:=h.size;omega) hb,h.lt,xK hb (lt_of_heap h.row) h.row,xK hb (lt_of_heap h.lot) h.lot,h.ltL,xk h.own0 hb,xk h.own1 hb,xk h.own2 hb,h.ap⟩
theorem appO(h:Drw B D L w0 w r5 z7 vo vp vl O P Ls){x:Int}{g n c:Nat}(hn:n=O.length+1)(own:w1.ownsRow (B+2) 3 1 (.slice (some ⟨g,0,none⟩) n c) n (xU O++xU [x]))(hg:w.grownBy w1 vo.ownBlock)(hf:vo.ownBlock=some g∨g=w.heap.size)
 (ho:xp D w1 w2) (hr:w2.heap[D]?=some (.cells (r5++ [.slice (some ⟨g,0,none⟩) n c,vp]).toArray 62 (0,0))):Drw B D L w0 w2 r5 z7 (.slice (some ⟨g,0,none⟩) n c) vp vl (O++ [x]) P Ls:=by
 have hne: ∀k,vo.ownBlock=some k→B+2≤k:=fun k hk=>(h.own0.lt k hk).1;have hs:=h.size;have hD:vo.ownBlock≠some D:=zE h.own0 h.row (by decide);have hL:vo.ownBlock≠some L:=zE h.own0 h.lot (by decide);have bx1:ZB B w0 w1 r5.toArray z7.toArray 24 62:=⟨h.box.bel.grown hg (by omega) (fun k hk=>by have:=hne k hk;omega),yA hg (fun e=>by have:=hne _ e;omega) h.box.x,yA hg (fun e=>by have:=hne _ e;omega) h.box.z⟩;have jhU:=yA hg hD h.row;have lot1:=yA hg hL h.lot;have own1:=h.own1.kept hg h.ap.symm;have own2:=h.own2.kept hg (Jy h.own2 h.own0 (by decide));have hLD:L≠D:=fun e=>by
  have h1:=h.row;have h2:=h.lot;rw [e,h1]at h2;injection h2 with h2;injection h2 with _ h2;exact absurd h2 (by decide)
 have hlt:=h.lt;refine⟨⟨xQ bx1.bel ho (by omega),(ho.block B (by omega)).trans bx1.x,(ho.block (B+1) (by omega)).trans bx1.z⟩,h.lt,hr,(ho.block L hLD).trans lot1,h.ltL,?_,zp own1 ho (zE own1 jhU (by decide)),zp own2 ho (zE own2 jhU (by decide)),jab (v0:=vo) rfl h.own1 h.ap hf⟩;rw [←yF,ja,kL,←hn];exact zp own ho (zE own jhU (by decide))
theorem appL(h:Drw B D L w0 w r5 z7 vo vp vl O P Ls){x:Bytes}{g n c:Nat}(hn:n=Ls.length+1)(own:w1.ownsRow (B+2) 9 1 (.slice (some ⟨g,0,none⟩) n c) n (VV Ls++VV [x]))(hg:w.grownBy w1 vl.ownBlock)
 (ho:xp L w1 w2) (hr:w2.heap[L]?=some (.cells #[.slice (some ⟨g,0,none⟩) n c] 22 (0,0))):Drw B D L w0 w2 r5 z7 vo vp (.slice (some ⟨g,0,none⟩) n c) O P (Ls++ [x]):=by
 have hne: ∀k,vl.ownBlock=some k→B+2≤k:=fun k hk=>(h.own2.lt k hk).1;have hs:=h.size;have hD:vl.ownBlock≠some D:=zE h.own2 h.row (by decide);have hL:vl.ownBlock≠some L:=zE h.own2 h.lot (by decide);have bx1:ZB B w0 w1 r5.toArray z7.toArray 24 62:=⟨h.box.bel.grown hg (by omega) (fun k hk=>by have:=hne k hk;omega),yA hg (fun e=>by have:=hne _ e;omega) h.box.x,yA hg (fun e=>by have:=hne _ e;omega) h.box.z⟩;have jhU:=yA hg hD h.row;have lot1:=yA hg hL h.lot;have own0:=h.own0.kept hg (Jy h.own0 h.own2 (by decide));have own1:=h.own1.kept hg (Jy h.own1 h.own2 (by decide));have hLD:D≠L:=fun e=>by
  have h1:=h.row;have h2:=h.lot;rw [←e,h1]at h2;injection h2 with h2;injection h2 with _ h2;exact absurd h2 (by decide)
 have hlt:=h.ltL;refine⟨⟨xQ bx1.bel ho (by omega),(ho.block B (by omega)).trans bx1.x,(ho.block (B+1) (by omega)).trans bx1.z⟩,h.lt,(ho.block D hLD).trans jhU,hr,h.ltL,zp own0 ho (zE own0 lot1 (by decide)),zp own1 ho (zE own1 lot1 (by decide)),?_,h.ap⟩;rw [←jdn,ja,kL,←hn];exact zp own ho (zE own lot1 (by decide))
theorem sorted(h:Drw B D L w0 w r5 z7 vo vp vl O P Ls){O':List Int}{X n cap:Nat}(hv:vo=.slice (some ⟨X,0,none⟩) n cap)(hl:O'.length=O.length)(own:w1.ownsRow (B+2) 3 1 vo O.length (xU O'))(hk:Kept X w w1):Drw B D L w0 w1 r5 z7 vo vp vl O' P Ls:=by
 have hX:vo.ownBlock=some X:=by rw [hv];rfl
 have hg:w.grownBy w1 vo.ownBlock:=by rw [hX];exact hk
 have hne: ∀k,vo.ownBlock=some k→B+2≤k:=fun k hk=>(h.own0.lt k hk).1;have hs:=h.size;have hD:vo.ownBlock≠some D:=zE h.own0 h.row (by decide);have hL:vo.ownBlock≠some L:=zE h.own0 h.lot (by decide)
 exact⟨⟨h.box.bel.grown hg (by omega) (fun k hk=>by have:=hne k hk;omega),yA hg (fun e=>by have:=hne _ e;omega) h.box.x,yA hg (fun e=>by have:=hne _ e;omega) h.box.z⟩,
  h.lt,yA hg hD h.row,yA hg hL h.lot,h.ltL,by rw [hl];exact own,h.own1.kept hg h.ap.symm,h.own2.kept hg (Jy h.own2 h.own0 (by decide)),h.ap⟩
theorem placed(h:Drw B D L w0 w r5 z7 vo vp vl O P Ls){X n cap:Nat}(hv:vp=.slice (some ⟨X,0,none⟩) n cap)(hn:n=P.length)(i:Nat)(x:Int):Drw B D L w0 (w.setCell ⟨X,i,none⟩ (.int .i64 x)) r5 z7 vo vp vl O (P.set i x) Ls:=by
 have hX:vp.ownBlock=some X:=by rw [hv];rfl
 have own:=h.own1;rw [hv,hn]at own;obtain⟨own',hg0⟩:=own.stored i (.int .i64 x);have hg:w.grownBy (w.setCell ⟨X,i,none⟩ (.int .i64 x)) vp.ownBlock:=by rw [hX];exact hg0
 have hne: ∀k,vp.ownBlock=some k→B+2≤k:=fun k hk=>(h.own1.lt k hk).1;have hs:=h.size;have hD:vp.ownBlock≠some D:=zE h.own1 h.row (by decide);have hL:vp.ownBlock≠some L:=zE h.own1 h.lot (by decide)
 exact⟨⟨h.box.bel.grown hg (by omega) (fun k hk=>by have:=hne k hk;omega),yA hg (fun e=>by have:=hne _ e;omega) h.box.x,yA hg (fun e=>by have:=hne _ e;omega) h.box.z⟩,
  h.lt,yA hg hD h.row,yA hg hL h.lot,h.ltL,h.own0.kept hg h.ap,by rw [kD,hv,hn,show xU (P.set i x)=(xU P).set i (.int .i64 x)by simp [xU,List.map_set]];exact own',h.own2.kept hg (Jy h.own2 h.own1 (by decide)),h.ap⟩
end Drw
def Kx(c:yE)(lots:Bytes)(k:Nat):List Bytes:=(List.range k).map (Yr c lots)
theorem KH(c:yE)(lots:Bytes)(k:Nat):(Kx c lots k).length=k:=by simp [Kx]
theorem jgq(c:yE)(lots:Bytes)(k:Nat):Kx c lots (k+1)=Kx c lots k++ [Yr c lots k]:=by simp [Kx,qi]
theorem jcE(c:yE)(lots:Bytes)(n k:Nat)(h:k<(Kx c lots n).length):(Kx c lots n)[k]=Yr c lots k:=by simp [Kx]
theorem ZH {w:World}{g:Nat}{t:TypeId}{A B C:Bytes}(h:w.heap[g]?=some (.cells #[.string ⟨A.toArray⟩,.string ⟨B.toArray⟩,.string ⟨C.toArray⟩] t (0,0))):JD w (some ⟨g,0,none⟩) [A,B,C]:=⟨fun i hi=>⟨_,rfl,lt_of_heap h,by
 have hi':i<3:=hi;rw [qZ];rcases i with _|_|_|i;·exact jM w g 0 _ _ _ h
 ·exact jM w g 1 _ _ _ h
 ·exact jM w g 2 _ _ _ h
 ·omega⟩⟩
def Place(O P:List Int):Prop:=P.length=O.length∧ ∀k (h:k<O.length),P[O[k].toNat]?=some (k:Int)
def jej(c:yE)(lots:Bytes)(oa:Option Addr)(cap:Nat)(w:World)(e:Ending)(w':World):Prop:=
 Below w.heap.size w w'∧if zR c=true then e=.returned (.tuple #[.agg #[.string ⟨#[]⟩,.slice none 0 0,.int .i64 0,.int .i64 0,.int .i64 0,.slice none 0 0,.slice none 0 0],.int .i64 2])
 else ∃O P oO cO oP cP,Ord c.op.length (Xu c lots) O∧Place O P∧yj w' oO O∧yj w' oP P∧e=.returned (.tuple #[.agg (c.cells oa cap++ [Value.slice oO O.length cO,Value.slice oP P.length cP]).toArray,.int .i64 0])
theorem YQ(a b c d e f g:Value)(h0:a.oneCell'=true)(h1:b.oneCell'=true)(h2:c.oneCell'=true)(h3:d.oneCell'=true)(h4:e.oneCell'=true)(h5:f.oneCell'=true)(h6:g.oneCell'=true):(#[a,b,c,d,e,f,g]:Array Value).all (·.oneCell')=true:=by simp [h0,h1,h2,h3,h4,h5,h6]
theorem jkv(c:yE)(lots:Bytes)(oa:Option Addr)(cap:Nat)(w:World)(hs:JD w oa c.op)(hf:c.Fits lots)(hnl:c.op.length<9223372036854775807):
 Calls Tryz.prog 28 #[.agg (c.cells oa cap).toArray,.string ⟨lots.toArray⟩] w (jej c lots oa cap w):=by
 have hC:(c.cells oa cap).toArray= #[.string ⟨c.nm.toArray⟩,.slice oa c.op.length cap,.int .i64 c.rl,.int .i64 c.se,.int .i64 c.mo]:=rfl;rw [hC];clear hC;have HS:=jA hs;have HF:=jA hf;clear hs hf;go_enter Tryz.func28,Tryz.ntmps28;go_upto_region 1 with(fail);have BX:=ZB.mk' w #[.string ⟨c.nm.toArray⟩,.slice oa c.op.length cap,.int .i64 c.rl,.int .i64 c.se,.int .i64 c.mo] #[.string ⟨#[]⟩,.slice none 0 0,.int .i64 0,.int .i64 0,.int .i64 0,.slice none 0 0,.slice none 0 0] 24 62;generalize hB:w.heap.size=B at*;refine xP (fun w1=>ZB B w w1 #[.string ⟨c.nm.toArray⟩,.slice oa c.op.length cap,.int .i64 c.rl,.int .i64 c.se,.int .i64 c.mo] #[.string ⟨#[]⟩,.slice none 0 0,.int .i64 0,.int .i64 0,.int .i64 0,.slice none 0 0,.slice none 0 0] 24 62) BX (fun w1 B1=>?_);have HB:=jA hB;have HB1:=jA B1;have hBs1:B+1<w1.heap.size:=lt_of_heap B1.z;have k1:w1.cell? ⟨B,1,none⟩=some (.slice oa c.op.length cap):=jM w1 B 1 _ _ _ B1.x;have k2:w1.cell? ⟨B,2,none⟩=some (.int .i64 c.rl):=jM w1 B 2 _ _ _ B1.x;have k3:w1.cell? ⟨B,3,none⟩=some (.int .i64 c.se):=jM w1 B 3 _ _ _ B1.x;clear BX hB B1;go_upto_region 2 with(fail);go_cut [42] (fun v w'=>v=.bool (zR c)∧w1=w');case first=>
  by_cases hc1:c.op.length<1
  ·have dhc1:decide ((c.op.length:Int)<1)=true:=jQ (by omega);have ehc1:decide (c.op.length<1)=true:=jQ hc1;have hW:=jA (show zR c=true from jQ (by omega));clear hc1;go_wp2_with fail;go_meet;exact⟨by rw [hW.u],rfl⟩
  have dhc1:decide ((c.op.length:Int)<1)=false:=jS (by omega);have ehc1:decide (c.op.length<1)=false:=jS hc1;by_cases hc2:12<c.op.length
  ·have dhc2:decide (12<(c.op.length:Int))=true:=jQ (by omega);have ehc2:decide (12<c.op.length)=true:=jQ hc2;have hW:=jA (show zR c=true from jQ (by omega));clear hc1 hc2;go_wp2_with fail;go_meet;exact⟨by rw [hW.u],rfl⟩
  have dhc2:decide (12<(c.op.length:Int))=false:=jS (by omega);have ehc2:decide (12<c.op.length)=false:=jS hc2;by_cases hc3:c.rl<1
  ·have dhc3:decide (c.rl<1)=true:=jQ (by omega);have hW:=jA (show zR c=true from jQ (by omega));clear hc1 hc2 hc3;go_wp2_with fail;go_meet;exact⟨by rw [hW.u],rfl⟩
  have dhc3:decide (c.rl<1)=false:=jS (by omega);by_cases hc4:4<c.rl
  ·have dhc4:decide (4<c.rl)=true:=jQ (by omega);have hW:=jA (show zR c=true from jQ (by omega));clear hc1 hc2 hc3 hc4;go_wp2_with fail;go_meet;exact⟨by rw [hW.u],rfl⟩
  have dhc4:decide (4<c.rl)=false:=jS (by omega);by_cases hc5:c.se<1
  ·have dhc5:decide (c.se<1)=true:=jQ (by omega);have hW:=jA (show zR c=true from jQ (by omega));clear hc1 hc2 hc3 hc4 hc5;go_wp2_with fail;go_meet;exact⟨by rw [hW.u],rfl⟩
  have dhc5:decide (c.se<1)=false:=jS (by omega);by_cases hc6:(c.op.length:Int)<c.se
  ·have dhc6:decide ((c.op.length:Int)<c.se)=true:=jQ (by omega);have hW:=jA (show zR c=true from jQ (by omega));clear hc1 hc2 hc3 hc4 hc5 hc6;go_wp2_with fail;go_meet;exact⟨by rw [hW.u],rfl⟩
  have dhc6:decide ((c.op.length:Int)<c.se)=false:=jS (by omega);have hW:=jA (show zR c=false from jS (by omega));clear hc1 hc2 hc3 hc4 hc5 hc6;go_wp2_with fail;go_meet;exact⟨by rw [hW.u],rfl⟩
 case rest=>
 generalize wc=wo at*;obtain⟨rfl,rfl⟩:=hcut;cases hW:zR c with
 |
  true=>
  have HW:=jA hW;clear hW;go_wp2_with (refine xM rfl rfl 62 _ _ rfl (B+1) #[.string ⟨#[]⟩,.slice none 0 0,.int .i64 0,.int .i64 0,.int .i64 0,.slice none 0 0,.slice none 0 0] #[.string ⟨#[]⟩,.slice none 0 0,.int .i64 0,.int .i64 0,.int .i64 0,.slice none 0 0,.slice none 0 0] 62 rfl rfl HB1.u.z rfl zS (YQ _ _ _ _ _ _ _ rfl rfl rfl rfl rfl rfl rfl) ?_;intro w9 ho hp);refine jm (results_cell_tmp rfl _ w9 (B+1) _ _ _ _ _ rfl rfl hp Tryz.underlying62 rfl zS) rfl ⟨xQ (by rw [HB.u];exact HB1.u.bel) ho (by rw [HB.u];omega),?_⟩;exact(jR HW.u).mpr rfl
 |false=>
 have HW:=jA hW;have hn:=jA (show 1≤c.op.length∧c.op.length≤12 by unfold zR at hW;have:=vn hW;omega);clear hW
 as_aux_lemma=>
 obtain⟨i0,hi,hz0,hz1,hz2⟩:=info_parts KL;have HI:=jA hi;have HZ0:=jA hz0;have HZ1:=jA hz1;have HZ2:=jA hz2;clear hi hz0 hz1 hz2;go_upto_region 4 with(fail);generalize hM0:w1.heap.size=M0 at*;have HM0:=jA hM0;have hx0:Below M0 w1 w1.drew:=(jN _ _).drew;have sx0:M0≤w1.drew.heap.size:=kg hM0.symm;have hBM:B<M0:=by omega
 clear hM0;go_cut [7] (fun v w'=> ∃D vp,v=.pointer (some ⟨D,0,none⟩)∧M0≤D∧w'.heap[D]?=some (.cells #[.string ⟨c.nm.toArray⟩,.slice oa c.op.length cap,.int .i64 c.rl,.int .i64 c.se,.int .i64 c.mo,.slice none 0 0,vp] 62 (0,0))∧w'.ownsRow M0 3 1 vp c.op.length (List.replicate c.op.length (.int .i64 0))∧Below M0 w1 w');case first=>
  refine Seg.JW (fun w'=> ∃x:xS M0 w1,w'=x.w) (.quiet [0,1] (.alt 2 (.quiet [3] (.one 4 (.last []))) (.one 4 (.one 2 (.last [3]))))) 5 (by kernel_rfl) (by kernel_rfl) (fun _ _ d _ _ h=>by cases d<;>exact h) (⟨⟨_,hx0⟩,rfl⟩) ?_;try simp only [Seg.xf,Seg.opAt,jK]
  refine yR rfl 24 _ rfl B #[.string ⟨c.nm.toArray⟩,.slice oa c.op.length cap,.int .i64 c.rl,.int .i64 c.se,.int .i64 c.mo] _ _ _ rfl HB1.u.x hBM Tryz.underlying24 rfl xe ?_;first|go_big_quiet_step (fail)|quiet_step (fail)
  refine jP ?_;try simp only [Seg.xf,Seg.opAt,jK]
  generalize w1.drew=x0 at*;refine⟨?_,?_⟩
  ·try unfold Seg.yk
   intro K hK;first|go_simp|skip
   obtain⟨x1,hr,own,hg⟩:=qw (P:=Tryz.prog) (w:=x0) M0 29 3 i0 (.int .i64 0) 1 Tryz.underlying29 HI.u HZ0.u HZ1.u .i64 .i64 c.op.length (by rw [HZ2.u];have:=hn.u;omega) (by unfold maxLen;have:=hn.u;omega) sx0;try rw [hr]
   go_wp2_with fail;clear hr;have twx1:Below x0.heap.size x0 x1:=(jN _ _).grown hg (jO _) (fun _ h=>by cases h);have hx1:=hx0.trans (twx1.mono sx0);have sx1:=jU sx0 twx1.size;have mV:M0≤x0.heap.size:=sx0;refine hK _ _ ⟨⟨_,hx1⟩,rfl⟩ ?_;clear hK K hx0 sx0 twx1 hg;generalize x0.heap.size=V at*;try simp only [Seg.xf,Seg.opAt,jK]
   refine Yb rfl 62 _ rfl [(0,.agg #[.string ⟨c.nm.toArray⟩,.slice oa c.op.length cap,.int .i64 c.rl,.int .i64 c.se,.int .i64 c.mo]),(2,.slice (some ⟨V,0,none⟩) c.op.length c.op.length)] (by first|(simp;done)|(simp [Act.eval];done)) _ (jaA ⟨c.nm.toArray⟩ oa c.op.length cap c.rl c.se c.mo V c.op.length) ?_;refine jP ?_;try simp only [Seg.xf,Seg.opAt,jK]
   try unfold Seg.yk
   intro K hK;first|go_simp|skip
   go_wp2_with fail;have hx2:Below M0 w1 (x1.alloc (.cells #[.string ⟨#[]⟩,.slice none 0 0,.int .i64 0,.int .i64 0,.int .i64 0,.slice none 0 0,.slice none 0 0] 62)):=hx1.alloc sx1 _;have sx2:M0≤(x1.alloc (.cells #[.string ⟨#[]⟩,.slice none 0 0,.int .i64 0,.int .i64 0,.int .i64 0,.slice none 0 0,.slice none 0 0] 62)).heap.size:=by simp;omega
   have twx2:Below x1.heap.size x1 (x1.alloc (.cells #[.string ⟨#[]⟩,.slice none 0 0,.int .i64 0,.int .i64 0,.int .i64 0,.slice none 0 0,.slice none 0 0] 62)):=(jN _ _).alloc (jO _) _;have eD:(x1.alloc (.cells #[.string ⟨#[]⟩,.slice none 0 0,.int .i64 0,.int .i64 0,.int .i64 0,.slice none 0 0,.slice none 0 0] 62)).heap[x1.heap.size]?=some (.cells #[.string ⟨#[]⟩,.slice none 0 0,.int .i64 0,.int .i64 0,.int .i64 0,.slice none 0 0,.slice none 0 0] 62 (0,0)):=xN rfl;have mD:M0≤x1.heap.size:=sx1;have kk:=xk own twx2;clear own;have own:=kk;clear kk;refine hK _ _ ⟨⟨_,hx2⟩,rfl⟩ ?_;clear hK K hx1 sx1 twx2;generalize (x1.alloc (.cells #[.string ⟨#[]⟩,.slice none 0 0,.int .i64 0,.int .i64 0,.int .i64 0,.slice none 0 0,.slice none 0 0] 62))=x2 at*;generalize x1.heap.size=D at*;try simp only [Seg.xf,Seg.opAt,jK]
   refine jP ?_;go_wp2_with (refine xM rfl rfl 62 _ _ rfl D #[.string ⟨#[]⟩,.slice none 0 0,.int .i64 0,.int .i64 0,.int .i64 0,.slice none 0 0,.slice none 0 0] #[.string ⟨c.nm.toArray⟩,.slice oa c.op.length cap,.int .i64 c.rl,.int .i64 c.se,.int .i64 c.mo,.slice none 0 0,.slice (some ⟨V,0,none⟩) c.op.length c.op.length] 62 rfl rfl eD rfl zS (YQ _ _ _ _ _ _ _ rfl rfl rfl rfl rfl rfl rfl) ?_;intro w8 ho hp);go_meet;exact⟨D,_,rfl,mD,hp,jeQ c.op.length (zV own eD (by decide) ho),xQ hx2 ho mD⟩
  ·try unfold Seg.yk
   intro K hK;first|go_simp|skip
   go_wp2_with fail;have hx1:Below M0 w1 (x0.alloc (.cells #[.string ⟨#[]⟩,.slice none 0 0,.int .i64 0,.int .i64 0,.int .i64 0,.slice none 0 0,.slice none 0 0] 62)):=hx0.alloc sx0 _;have sx1:M0≤(x0.alloc (.cells #[.string ⟨#[]⟩,.slice none 0 0,.int .i64 0,.int .i64 0,.int .i64 0,.slice none 0 0,.slice none 0 0] 62)).heap.size:=by simp;omega
   have twx1:Below x0.heap.size x0 (x0.alloc (.cells #[.string ⟨#[]⟩,.slice none 0 0,.int .i64 0,.int .i64 0,.int .i64 0,.slice none 0 0,.slice none 0 0] 62)):=(jN _ _).alloc (jO _) _;have eD:(x0.alloc (.cells #[.string ⟨#[]⟩,.slice none 0 0,.int .i64 0,.int .i64 0,.int .i64 0,.slice none 0 0,.slice none 0 0] 62)).heap[x0.heap.size]?=some (.cells #[.string ⟨#[]⟩,.slice none 0 0,.int .i64 0,.int .i64 0,.int .i64 0,.slice none 0 0,.slice none 0 0] 62 (0,0)):=xN rfl;have mD:M0≤x0.heap.size:=sx0;refine hK _ _ ⟨⟨_,hx1⟩,rfl⟩ ?_;clear hK K hx0 sx0 twx1;generalize (x0.alloc (.cells #[.string ⟨#[]⟩,.slice none 0 0,.int .i64 0,.int .i64 0,.int .i64 0,.slice none 0 0,.slice none 0 0] 62))=x1 at*;generalize x0.heap.size=D at*;try simp only [Seg.xf,Seg.opAt,jK]
   try unfold Seg.yk
   intro K hK;first|go_simp|skip
   obtain⟨x2,hr,own,hg⟩:=qw (P:=Tryz.prog) (w:=x1) M0 29 3 i0 (.int .i64 0) 1 Tryz.underlying29 HI.u HZ0.u HZ1.u .i64 .i64 c.op.length (by rw [HZ2.u];have:=hn.u;omega) (by unfold maxLen;have:=hn.u;omega) sx1;try rw [hr]
   go_wp2_with fail;clear hr;have twx2:Below x1.heap.size x1 x2:=(jN _ _).grown hg (jO _) (fun _ h=>by cases h);have hx2:=hx1.trans (twx2.mono sx1);have sx2:=jU sx1 twx2.size;have mV:M0≤x1.heap.size:=sx1;have kk:=xK twx2 (lt_of_heap eD) eD;clear eD;have eD:=kk;clear kk;refine hK _ _ ⟨⟨_,hx2⟩,rfl⟩ ?_;clear hK K hx1 sx1 twx2 hg;generalize x1.heap.size=V at*;try simp only [Seg.xf,Seg.opAt,jK]
   refine Yb rfl 62 _ rfl [(0,.agg #[.string ⟨c.nm.toArray⟩,.slice oa c.op.length cap,.int .i64 c.rl,.int .i64 c.se,.int .i64 c.mo]),(2,.slice (some ⟨V,0,none⟩) c.op.length c.op.length)] (by first|(simp;done)|(simp [Act.eval];done)) _ (jaA ⟨c.nm.toArray⟩ oa c.op.length cap c.rl c.se c.mo V c.op.length) ?_;refine jP ?_;go_wp2_with (refine xM rfl rfl 62 _ _ rfl D #[.string ⟨#[]⟩,.slice none 0 0,.int .i64 0,.int .i64 0,.int .i64 0,.slice none 0 0,.slice none 0 0] #[.string ⟨c.nm.toArray⟩,.slice oa c.op.length cap,.int .i64 c.rl,.int .i64 c.se,.int .i64 c.mo,.slice none 0 0,.slice (some ⟨V,0,none⟩) c.op.length c.op.length] 62 rfl rfl eD rfl zS (YQ _ _ _ _ _ _ _ rfl rfl rfl rfl rfl rfl rfl) ?_;intro w8 ho hp);go_meet;exact⟨D,_,rfl,mD,hp,jeQ c.op.length (zV own eD (by decide) ho),xQ hx2 ho mD⟩
 case rest=>
 clear hx0 sx0;generalize wc=w2 at*;obtain⟨D,vp,rfl,hMD,hD,hvp,hb2⟩:=hcut;have hDlt:D<w2.heap.size:=lt_of_heap hD;have hM2:=hb2.size;rw [HM0.u]at hM2;obtain⟨L,hL⟩: ∃L,L=w2.heap.size:=⟨_,rfl⟩;have DR0:Drw B D L w (w2.alloc (.cells #[.slice none 0 0] 22)) [.string ⟨c.nm.toArray⟩,.slice oa c.op.length cap,.int .i64 c.rl,.int .i64 c.se,.int .i64 c.mo] [.string ⟨#[]⟩,.slice none 0 0,.int .i64 0,.int .i64 0,.int .i64 0,.slice none 0 0,.slice none 0 0] (.slice none 0 0) vp (.slice none 0 0) [] (List.replicate c.op.length 0) []:=by
  have ba:Below w2.heap.size w2 (w2.alloc (.cells #[.slice none 0 0] 22)):=(jN _ _).alloc (jO _) _;refine⟨(HB1.u.keep (by rw [HM0.u];omega) (HM0.u.symm▸hb2)).keep (by omega) ba,by omega,xK ba hDlt hD,by rw [hL];exact xN rfl,by omega,qA _ _ _ _,?_,qA _ _ _ _,.inl rfl⟩;have:=zq (xk hvp ba) (show B+2≤M0 by omega);rw [show xU (List.replicate c.op.length 0)=List.replicate c.op.length (.int .i64 0)by simp [xU],vr];exact this
 clear hb2 hD hvp hM2 hDlt hMD k1 k2 k3;go_upto_region 6 with(fail);rw [←hL];refine xP (fun w3=>Drw B D L w w3 [.string ⟨c.nm.toArray⟩,.slice oa c.op.length cap,.int .i64 c.rl,.int .i64 c.se,.int .i64 c.mo] [.string ⟨#[]⟩,.slice none 0 0,.int .i64 0,.int .i64 0,.int .i64 0,.slice none 0 0,.slice none 0 0] (.slice none 0 0) vp (.slice none 0 0) [] (List.replicate c.op.length 0) []) DR0 (fun w3 hw3=>?_);have DR:=jA hw3;clear hw3 DR0 hL HB1 hBs1 hBM HM0;have k1:w3.cell? ⟨B,1,none⟩=some (.slice oa c.op.length cap):=jM w3 B 1 _ _ _ DR.u.box.x;clear w1 w2;obtain⟨j0,hi,hz0,hz1,hz2⟩:=info_parts jki;have JI:=jA hi;have JZ0:=jA hz0;have JZ1:=jA hz1;have JZ2:=jA hz2;clear hi hz0 hz1 hz2
 as_aux_lemma=>
 go_wp2_with fail;clear k1;go_loopw [51] (fun i wr=> ∃(k:Nat) (vo vl:Value),k≤c.op.length∧i=.int .i64 k∧Drw B D L w wr [.string ⟨c.nm.toArray⟩,.slice oa c.op.length cap,.int .i64 c.rl,.int .i64 c.se,.int .i64 c.mo] [.string ⟨#[]⟩,.slice none 0 0,.int .i64 0,.int .i64 0,.int .i64 0,.slice none 0 0,.slice none 0 0] vo vp vl (VS k) (List.replicate c.op.length 0) (Kx c lots k)) (fun i _=>c.op.length-(intOf i).toNat);case atStart=>exact⟨0,_,_,by omega,rfl,DR.u⟩
 case round=>
 clear DR;obtain⟨k,vo,vl,hk,rfl,hdr⟩:=hrel;have DR:=jA hdr;clear hdr;by_cases hlt:k<c.op.length
 ·as_aux_lemma=>
  have dk:decide ((k:Int)<(c.op.length:Int))=true:=jQ (by omega);have dk2:decide (k<c.op.length)=true:=jQ hlt;have hki:(k:Int)<(c.op.length:Int):=by omega
  obtain⟨q,hoa,hqb,hqc⟩:=(HS.u.below (HB.u.symm▸DR.u.box.bel)).cells k hlt;subst hoa;have ho:=jA (show c.op.getD k []=c.op[k]by rw [jW,kl hlt];rfl);have HJ:=jA (HF.u.join k hlt);have HLK:=jA (jgq c lots k);have HLN:=jA (show Yr c lots k=Jm [] (KI jgr [lots,c.nm,c.op.getD k []])from rfl);rw [ho.u]at HJ HLN;generalize c.op[k]=opt at*;have k5:wr.cell? ⟨D,5,none⟩=some vo:=jM wr D 5 _ _ _ DR.u.row;have kB0:wr.cell? ⟨B,0,none⟩=some (.string ⟨c.nm.toArray⟩):=jM wr B 0 _ _ _ DR.u.box.x;have hDs:D<wr.heap.size:=lt_of_heap DR.u.row;have hBs:B+1<wr.heap.size:=by have:=DR.u.size;omega
  have hs2:=DR.u.size;have hk12:k≤12:=by have:=hn.u;omega
  have DRA:=jA (DR.u.below ((jN wr.heap.size wr).alloc (jO _) (.cells #[.int .i64 (k:Int)] 3)));have hil:=Jv k;go_upto_region 10 with(at_builtin;refine wpList_append_lies _ rfl (.tmp 57) (.tmp 59) 29 rfl (B+2) 3 i0 (.int .i64 0) 1 8 Tryz.underlying29 HI.u HZ0.u HZ1.u HZ2.u rfl (by decide) vo (VS k).length (xU (VS k)) rfl DRA.u.own0 ⟨wr.heap.size,0,none⟩ 1 1 (xU [(k:Int)]) rfl rfl (zG (xN rfl)) (Qu _) (by decide) (by unfold maxLen;omega) (by omega) DRA.u.size _ rfl (fun g cp w4 own hg hf hglt=>?_);have hrow4:=yA hg (zE DRA.u.own0 DRA.u.row (by decide)) DRA.u.row;have c5:w4.cell? ⟨D,5,none⟩=some vo:=jM w4 D 5 _ _ _ hrow4;have f5:w4.frozen? ⟨D,5,none⟩=false:=jb w4 D 5 _ _ hrow4);have DR5:Drw B D L w (w4.setCell ⟨D,5,none⟩ (.slice (some ⟨g,0,none⟩) ((VS k).length+1) cp)) [.string ⟨c.nm.toArray⟩,.slice (some q) c.op.length cap,.int .i64 c.rl,.int .i64 c.se,.int .i64 c.mo] [.string ⟨#[]⟩,.slice none 0 0,.int .i64 0,.int .i64 0,.int .i64 0,.slice none 0 0,.slice none 0 0] (.slice (some ⟨g,0,none⟩) ((VS k).length+1) cp) vp vl (VS (k+1)) (List.replicate c.op.length 0) (Kx c lots k):=by
   rw [Zo];exact DRA.u.appO rfl own hg hf ((xp.refl D w4).setCell _ _) (jd w4 D 5 _ _ _ hrow4)
  rw [hil]at DR5;clear own hg hf hglt hrow4 c5 f5 DRA DR k5 kB0 hs2 hDs hBs hqc hqb;refine xP (fun w5=>Drw B D L w w5 [.string ⟨c.nm.toArray⟩,.slice (some q) c.op.length cap,.int .i64 c.rl,.int .i64 c.se,.int .i64 c.mo] [.string ⟨#[]⟩,.slice none 0 0,.int .i64 0,.int .i64 0,.int .i64 0,.slice none 0 0,.slice none 0 0] (.slice (some ⟨g,0,none⟩) (k+1) cp) vp vl (VS (k+1)) (List.replicate c.op.length 0) (Kx c lots k)) DR5 (fun w5 hw5=>?_);have DR:=jA hw5;clear hw5 DR5 hil
  as_aux_lemma=>
  have kB0:w5.cell? ⟨B,0,none⟩=some (.string ⟨c.nm.toArray⟩):=jM w5 B 0 _ _ _ DR.u.box.x;have kL0:w5.cell? ⟨L,0,none⟩=some vl:=jM w5 L 0 _ _ _ DR.u.lot;have hBs:B<w5.heap.size:=by have:=DR.u.size;omega
  have hLs:L<w5.heap.size:=lt_of_heap DR.u.lot;obtain⟨M5,hM5⟩: ∃M5,M5=w5.heap.size:=⟨_,rfl⟩;rw [←hM5]at hBs hLs;have hx0:Below M5 w5 w5.drew:=(jN _ _).drew;have sx0:M5≤w5.drew.heap.size:=kg hM5;have HM5:=jA hM5;clear hM5;have QDR:=jA (fun w' (h:Below M5 w5 w')=>DR.u.below (HM5.u▸h));have QT:=jA (fun(g:Nat) (w6:World) (h:w6.heap[g]?=some (.cells #[.string ⟨lots.toArray⟩,.string ⟨c.nm.toArray⟩,.string ⟨opt.toArray⟩] 9 (0,0)))=>jlu jgr (some ⟨g,0,none⟩) [lots,c.nm,opt] 3 w6 (ZH h) (by have:=HJ.u;omega) (by show 3<9223372036854775807;decide));rw [←HLN.u]at QT;have hll:=KH c lots k;refine Seg.xL (fun w'=> ∃x:xS M5 w5,w'=x.w) [([0,1,2,3,4],5),([],6),([],7)] [] 8 (by kernel_rfl) (by kernel_rfl) (fun _ _ d _ _ h=>by cases d<;>exact h) (⟨⟨_,hx0⟩,rfl⟩) ?_;simp only [jK,Seg.opAt,Seg.xW];repeat (any_goals (first|go_big_quiet_step (fail)|quiet_step (fail)))
  refine jP ?_;intro K hK;simp only [Region.wanted,jY];go_wp2_with fail;have hx1:Below M5 w5 (w5.alloc (.cells #[.string ⟨lots.toArray⟩,.string ⟨c.nm.toArray⟩,.string ⟨opt.toArray⟩] 9)).drew:=((jN M5 w5).alloc (kg HM5.u) _).drew;have sx1:M5≤(w5.alloc (.cells #[.string ⟨lots.toArray⟩,.string ⟨c.nm.toArray⟩,.string ⟨opt.toArray⟩] 9)).drew.heap.size:=by rw [HM5.u];exact hx1.size
  have hb1:(w5.alloc (.cells #[.string ⟨lots.toArray⟩,.string ⟨c.nm.toArray⟩,.string ⟨opt.toArray⟩] 9)).drew.heap[w5.heap.size]?=some (.cells #[.string ⟨lots.toArray⟩,.string ⟨c.nm.toArray⟩,.string ⟨opt.toArray⟩] 9 (0,0)):=xN rfl;refine hK _ _ ⟨⟨_,hx1⟩,rfl⟩ ?_;clear hK K hx0 sx0;generalize (w5.alloc (.cells #[.string ⟨lots.toArray⟩,.string ⟨c.nm.toArray⟩,.string ⟨opt.toArray⟩] 9)).drew=x1 at*;generalize w5.heap.size=G1 at*;repeat (any_goals (first|go_big_quiet_step (fail)|quiet_step (fail)))
  refine jP ?_;intro K hK;simp only [Region.wanted,jY];go_wp2_with (go_at_call 65;refine(QT.u G1 x1 hb1).mono ?_;rintro e x2 ⟨rfl,b2⟩);have hx2:=hx1.trans (b2.mono sx1);have sx2:=jU sx1 b2.size;refine hK _ _ ⟨⟨_,hx2⟩,rfl⟩ ?_;clear hK K hx1 sx1 hb1 b2 QT;repeat (any_goals (first|go_big_quiet_step (fail)|quiet_step (fail)))
  refine jP ?_;intro K hK;simp only [Region.wanted,jY];go_wp2_with fail;have hx3:=hx2.alloc sx2 (.cells #[.string ⟨(Yr c lots k).toArray⟩] 9);have DRX:=jA (QDR.u _ hx3);refine hK _ _ ⟨⟨_,hx3⟩,rfl⟩ ?_;clear hK K hx2 sx2;repeat (any_goals (first|go_big_quiet_step (fail)|quiet_step (fail)))
  refine jP ?_;go_wp2_with (at_builtin;refine wpList_append_lies _ rfl (.tmp 62) (.tmp 69) 22 rfl (B+2) 9 j0 (.string ⟨#[]⟩) 1 16 Tryz.underlying22 JI.u JZ0.u JZ1.u JZ2.u rfl (by decide) vl (Kx c lots k).length (VV (Kx c lots k)) rfl DRX.u.own2 ⟨x2.heap.size,0,none⟩ 1 1 (VV [Yr c lots k]) rfl rfl (zG (xN rfl)) (jhE _) (by decide) (by unfold maxLen;omega) (by omega) DRX.u.size _ rfl (fun g2 cp2 w7 own hg hf hglt=>?_);have hrow7:=yA hg (zE DRX.u.own2 DRX.u.lot (by decide)) DRX.u.lot;have c8:w7.cell? ⟨L,0,none⟩=some vl:=jM w7 L 0 _ _ _ hrow7;have f8:w7.frozen? ⟨L,0,none⟩=false:=jb w7 L 0 _ _ hrow7);have DR8:=jA (DRX.u.appL rfl own hg ((xp.refl L w7).setCell 0 (.slice (some ⟨g2,0,none⟩) ((Kx c lots k).length+1) cp2)) (jd w7 L 0 _ _ _ hrow7));rw [←HLK.u]at DR8;clear own hg hf hglt hrow7 c8 f8 DRX DR QDR kB0 kL0 hx3 HM5 hBs hLs;go_roundw;case rel=>exact⟨k+1,_,_,by omega,by go_num,by have h8:=DR8.u;rw [KH]at h8;exact h8⟩
  case measure=>simp [intOf];omega
 ·as_aux_lemma=>
  have dk:decide ((k:Int)<(c.op.length:Int))=false:=jS (by omega);have dk2:decide (k<c.op.length)=false:=jS hlt;obtain rfl:k=c.op.length:=by omega
  obtain⟨X,xc,rfl,hBX,hXlt⟩:=DR.u.own0.form (by rw [Jv];have:=hn.u;omega);obtain⟨oL,cL,rfl,hSL⟩:=jaV DR.u.own2;have hn12:=hn.u
  have QC:=jA (show ∀(x y:Int) (w':World),x∈VS c.op.length→y∈VS c.op.length→Kept X wr w'→Calls Tryz.prog 67 #[.int .i64 x,.int .i64 y,.pointer (some ⟨L,0,none⟩)] w' fun e w''=>e=.returned (.int .i64 (jec (Xu c lots x) (Xu c lots y)))∧Below w'.heap.size w' w'' from by
   intro x y w' hx hy hk;have hx:=(ZS _ _).1 hx;have hy:=(ZS _ _).1 hy;obtain⟨i,rfl⟩: ∃i:Nat,x=i:=⟨x.toNat,by omega⟩;obtain⟨j,rfl⟩: ∃j:Nat,y=j:=⟨y.toNat,by omega⟩;have hL':=yA hk (fun e=>zE DR.u.own0 DR.u.lot (by decide) (by rw [←e];rfl)) DR.u.lot
   have own2:=DR.u.own2.kept (row:=some X) hk (by
    have:=Jy DR.u.own2 DR.u.own0 (by decide);exact this)
   obtain⟨oL2,cL2,he,hS2⟩:=jaV own2;obtain⟨rfl,rfl⟩:oL=oL2∧cL=cL2:=by injection he with h1 _ h3;exact⟨h1,h3⟩
   have:=jfp i j (Kx c lots c.op.length) L oL cL w' hL' hS2 (by rw [KH];omega) (by rw [KH];omega) (by rw [KH];omega);rw [jcE,jcE]at this;exact this)
  have QS:=jA (jaX (fun x y=>jec (Xu c lots x) (Xu c lots y)) (ltL (Xu c lots)) (Zl _) (VS c.op.length) X xc (B+2) L wr QC.u (jkh _ _) (by rw [Jv];omega) (by have:=DR.u.own0;exact this));have k5:wr.cell? ⟨D,5,none⟩=some (.slice (some ⟨X,0,none⟩) (VS c.op.length).length xc):=jM wr D 5 _ _ _ DR.u.row;clear QC hSL;have hil:=Jv c.op.length;rw [hil]at QS k5;go_upto_region 13 with(go_at_call 66;refine QS.u.mono ?_;rintro e w6 ⟨rfl,hs⟩;have HS6:=jA hs;clear hs);obtain⟨S,hperm,hsrt,hown,hkept⟩:=HS6.u;have HO:=jA (show Ord c.op.length (Xu c lots) S from⟨hperm,hsrt⟩);have DR6:=jA (DR.u.sorted rfl hperm.length_eq hown hkept);clear hperm hsrt hown hkept HS6 DR k5 QS hlt dk dk2 hk hil;have hSl:=HO.u.len;obtain⟨Y,yc,rfl,hBY,hYlt⟩:=DR6.u.own1.form (by rw [vr];omega);rw [Jv,vr]at DR6;generalize hvo:Value.slice (some ⟨X,0,none⟩) c.op.length xc=vo at*
  as_aux_lemma=>
  have k5:w6.cell? ⟨D,5,none⟩=some (.slice (some ⟨X,0,none⟩) c.op.length xc):=by rw [hvo];exact jM w6 D 5 _ _ _ DR6.u.row
  have HVO:=jA hvo;clear hvo;go_wp2_with fail;clear k5;go_loopw [79] (fun i wr=> ∃(k:Nat) (P:List Int),k≤c.op.length∧i=.int .i64 k∧Drw B D L w wr [.string ⟨c.nm.toArray⟩,.slice oa c.op.length cap,.int .i64 c.rl,.int .i64 c.se,.int .i64 c.mo] [.string ⟨#[]⟩,.slice none 0 0,.int .i64 0,.int .i64 0,.int .i64 0,.slice none 0 0,.slice none 0 0] vo (.slice (some ⟨Y,0,none⟩) c.op.length yc) (.slice oL (Kx c lots c.op.length).length cL) S P (Kx c lots c.op.length)∧YM c.op.length S P k) (fun i _=>c.op.length-(intOf i).toNat);case atStart=>exact⟨0,_,by omega,rfl,DR6.u,YM.zero (by simp)⟩
  case round=>
  clear DR6;obtain⟨k,P,hk,rfl,hdr,hpl⟩:=hrel;have DR:=jA hdr;have HP:=jA hpl;clear hdr hpl;by_cases hlt:k<c.op.length
  ·have dk:decide ((k:Int)<(c.op.length:Int))=true:=jQ (by omega);have dk2:decide (k<c.op.length)=true:=jQ hlt;have hki:(k:Int)<(c.op.length:Int):=by omega
   have hkS:k<S.length:=by omega
   obtain⟨o,ho⟩: ∃o:Nat,S[k]=(o:Int):=⟨S[k].toNat,by have:=HO.u.mem.1 (jj hkS);omega⟩;have hon:o<c.op.length:=by have:=HO.u.mem.1 (jj hkS);rw [ho]at this;omega
   have hoz:(o:Int)<(c.op.length:Int):=by omega
   have own0:=DR.u.own0;rw [←HVO.u,hSl]at own0;have kx:wr.cell? ⟨X,k,none⟩=some (.int .i64 o):=by rw [own0.cellAt k (by omega)];simp [xU,hkS,ho]
   have HPL:=HP.u.len;have own1:=DR.u.own1;rw [HPL]at own1;obtain⟨pv,ky⟩: ∃pv,wr.cell? ⟨Y,o,none⟩=some (.int .i64 pv):=⟨P[o]'(by omega),by rw [own1.cellAt o (by omega)];simp [xU,HPL,hon]⟩;have fy:=own1.frozenAt o;have k6:wr.cell? ⟨D,6,none⟩=some (.slice (some ⟨Y,0,none⟩) c.op.length yc):=jM wr D 6 _ _ _ DR.u.row;have DRN:=jA (DR.u.placed rfl HPL.symm o (k:Int));have HPN:=jA (show YM c.op.length S (P.set o (k:Int)) (k+1)by have:=HP.u.succ HO.u hkS;rw [ho]at this;exact this);clear ho own0 own1 HPL DR HP;go_wp2_with fail;go_roundw;case rel=>exact⟨k+1,_,by omega,by go_num,DRN.u,HPN.u⟩
   case measure=>simp [intOf];omega
  ·have dk:decide ((k:Int)<(c.op.length:Int))=false:=jS (by omega);have dk2:decide (k<c.op.length)=false:=jS hlt;obtain rfl:k=c.op.length:=by omega
   have hPl:=HP.u.len;have HPL:=jA (show Place S P from⟨by rw [HP.u.len,hSl],fun j hj=>HP.u.at_ j hj (by omega)⟩);have hz:=DR.u.box.z;have hrow:wr.heap[D]?=some (.cells #[.string ⟨c.nm.toArray⟩,.slice oa c.op.length cap,.int .i64 c.rl,.int .i64 c.se,.int .i64 c.mo,vo,.slice (some ⟨Y,0,none⟩) c.op.length yc] 62 (0,0)):=DR.u.row;obtain⟨oO,cO,hvo2,hIO⟩: ∃oO cO,vo=.slice oO S.length cO∧True:=⟨_,_,by rw [←HVO.u,hSl],trivial⟩;have h1:vo.oneCell'=true:=by rw [hvo2];rfl
   clear hvo2 hIO;go_wp2_with (first
    |(refine xi rfl 62 _ rfl D _ _ _ _ rfl hrow Tryz.underlying62 rfl zS ?_)
    |(refine xM rfl rfl 62 _ _ rfl (B+1) #[.string ⟨#[]⟩,.slice none 0 0,.int .i64 0,.int .i64 0,.int .i64 0,.slice none 0 0,.slice none 0 0] #[.string ⟨c.nm.toArray⟩,.slice oa c.op.length cap,.int .i64 c.rl,.int .i64 c.se,.int .i64 c.mo,vo,.slice (some ⟨Y,0,none⟩) c.op.length yc] 62 rfl rfl hz rfl zS (YQ _ _ _ _ _ _ _ rfl rfl rfl rfl rfl h1 rfl) ?_;intro w9 ho hp))
   have own0:=zp DR.u.own0 ho (zE DR.u.own0 DR.u.box.z (by decide));have own1:=zp DR.u.own1 ho (zE DR.u.own1 DR.u.box.z (by decide));obtain⟨oO,cO,hvo2, -,hIO⟩:=zz own0;obtain⟨oP,cP,hvp2, -,hIP⟩:=zz own1;refine jm (results_cell_tmp rfl _ w9 (B+1) _ _ _ _ _ rfl rfl hp Tryz.underlying62 rfl zS) rfl ⟨xQ (by rw [HB.u];exact DR.u.box.bel) ho (by rw [HB.u];omega),?_⟩;rw [jT (by rw [HW.u];decide)];exact⟨S,P,oO,cO,oP,cP,HO.u,HPL.u,hIO,hIP,by rw [←hvo2,←hvp2];rfl⟩
end Go.Proofs.YtnohcdpnnhmpfaaGreatDoor
