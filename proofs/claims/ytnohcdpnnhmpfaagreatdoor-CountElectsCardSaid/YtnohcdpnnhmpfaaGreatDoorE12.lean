/- Chapter 13: a contest in memory; count.draw. -/
import Derived.Test.YtnohcdpnnhmpfaaGreatDoorE11
set_option linter.all false
set_option maxRecDepth 100000
set_option maxHeartbeats 8000000
namespace Go.Proofs.YtnohcdpnnhmpfaaGreatDoor
open Go.RowKit Tryz ML FM AU CT
structure yH where
 nm:Bytes
 op:List Bytes
 rl:Int
 se:Int
 mo:Int
def yH.cells(c:yH)(oa:s0)(cap:Nat):A0:= [.string ⟨c.nm.toArray⟩,.slice oa c.op.length cap,.int .i64 c.rl,.int .i64 c.se,.int .i64 c.mo]
def yz(c:yH):Bool:=decide (c.op.length<1∨12<c.op.length∨c.rl<1∨4<c.rl∨c.se<1∨(c.op.length:Int)<c.se)
def jij:Bytes:= [108,111,116]
def Zs(c:yH)(lots:Bytes)(k:Nat):Bytes:=KS [] (Kl jij [lots,c.nm,c.op.getD k []])
def Kr(c:yH)(lots:Bytes)(i:Int):Bytes:=Zs c lots i.toNat
structure yH.Fits(c:yH)(lots:Bytes):Prop where
 nm:c.nm.length<1152921504606846976
 op: ∀o∈c.op,o.length<1152921504606846976
 lots:lots.length<1152921504606846976
theorem yH.Fits.join {c:yH}{lots:Bytes}(h:c.Fits lots)(k:Nat)(hk:k<c.op.length):(Kl jij [lots,c.nm,c.op.getD k []]).length<4611686018427387904:=by
 have h1:=h.nm;have h2:=h.lots;have h3:(c.op.getD k []).length<1152921504606846976:=h.op _ (by rw [jV,kL hk];exact jb hk);generalize c.op.getD k []=o at*;simp only [Kl,List.flatMap_cons,List.flatMap_nil,jZ,KD,kW,List.length_nil,jij];omega
def XI(L:List Bytes):A0:=L.map fun s=>Value.string ⟨s.toArray⟩
theorem jeS(A B:List Bytes):XI A++XI B=XI (A++B):=by simp [XI]
theorem jjC(L:List Bytes): ∀v∈XI L,v.oneCell'=true:=by
 intro v hv;simp only [XI,jo]at hv;obtain⟨x,_,rfl⟩:=hv;rfl
theorem jcd {w:m0}{base:Nat}{e:o0}{v:n0}{n:Nat}{L:List Bytes}(h:w.ownsRow base e 1 v n (XI L)): ∃oa cap,v=.slice oa L.length cap∧zg w oa L:=by
 have hl:L.length=n:=by have:=h.1;simp [XI]at this;omega
 rcases h.2 with⟨hv,h0⟩|⟨g,cap,Es,hv,hb,hg,px,_,hc,ht⟩
 ·have:L= []:=kt.1 (by omega);subst this;exact⟨none,0,hv,⟨fun i hi=>by simp at hi⟩⟩
 ·refine⟨some ⟨g,0,none⟩,cap,by rw [hl];exact hv,⟨fun i hi=>⟨_,rfl,xZ hg,?_⟩⟩⟩;exact h.cells (g:=g) (by rw [hv];rfl) i (.string ⟨L[i].toArray⟩) (by simp [XI,hi])
theorem JL {w w1:m0}{base b:Nat}{e:o0}{s:Nat}{v:n0}{n:Nat}{xs:A0}(h:w.ownsRow base e s v n xs)(ho:yG b w w1)(Cs:v.ownBlock≠some b):w1.ownsRow base e s v n xs:=h.kept (xk ho) (.inr Cs)
theorem Zc {P:Program}{ops:Array Oper}{rest:List Oper}{o:Oper}{a:Act}{S:m0→Prop}{K:Act→Prop}(hw:Region.wanted o (yielded ops a.tmps)=true)(t:o0)(parts:Array (Nat×Operand))(ho:o.op=.build t parts)(l:List (Nat×n0))(hp:(parts.map fun(i,x)=>(i,a.eval x)).toList=l)(cells:t0)(hf:P.built t l=some cells)
 (h:wpQuiet P ops S K rest (a.put o.dst (.agg cells))):wpQuiet P ops S K (o::rest) a:=by
 unfold wpQuiet;rw [jP hw];refine⟨.agg cells,fun w' _=>?_,h⟩;have hr:=run_build (P:=P) w' t (parts.map fun(i,x)=>(i,a.eval x)) cells (by rw [hp];exact hf);unfold Oper.quietAt execOp;simp only [ho,kU,hr,qQ];exact⟨rfl,rfl⟩
theorem jbF(nm:ByteArray)(oa:s0)(n cap:Nat)(r s m:Int)(V N:Nat):prog.built 62 [(0,.agg #[.string nm,.slice oa n cap,.int .i64 r,.int .i64 s,.int .i64 m]),(2,.slice (some ⟨V,0,none⟩) N N)]=some #[.string nm,.slice oa n cap,.int .i64 r,.int .i64 s,.int .i64 m,.slice none 0 0,.slice (some ⟨V,0,none⟩) N N]:=by kernel_rfl
theorem jgx {w:m0}{base:Nat}{e:o0}{v:n0}(n:Nat)(h:w.ownsRow base e 1 v n (madeCells (Value.int .i64 0).cells (n*1)).toList):w.ownsRow base e 1 v n (List.replicate n (.int .i64 0)):=by
 have e2:(madeCells (Value.int .i64 0).cells (n*1)).toList=List.replicate n (.int .i64 0):=by rw [qS];exact vW _ _
 rwa [e2]at h
theorem zw {w w1:m0}{base b:Nat}{e e':o0}{s:Nat}{v:n0}{n:Nat}{xs:A0}{cs:t0}{fr:Nat×Nat}(h:w.ownsRow base e s v n xs)(hb:w.heap[b]?=some (.cells cs e' fr))(Cs:e≠e')(ho:yG b w w1):w1.ownsRow base e s v n xs:=JL h ho (zZ h hb Cs)
theorem jmD:(prog.info? 9).map (fun i=>(i.zero,i.size,i.bytes))=some (some (.string ⟨#[]⟩),1,16):=by kernel_rfl
theorem zQ:(prog.info? 62).map (·.size)=some 7:=by kernel_rfl
theorem xt:(prog.info? 24).map (·.size)=some 5:=by kernel_rfl
structure Drw(B D L:Nat)(w0 w:m0)(r5 z7:A0)(vo vp vl:n0)(O P:C0)(Ls:List Bytes):Prop where
 box:jad B w0 w r5.toArray z7.toArray 24 62
 lt:B+1<D
 row:w.heap[D]?=some (.cells (r5++ [vo,vp]).toArray 62 (0,0))
 lot:w.heap[L]?=some (.cells #[vl] 22 (0,0))
 ltL:B+1<L
 own0:w.ownsRow (B+2) 3 1 vo O.length (xq O)
 own1:w.ownsRow (B+2) 3 1 vp P.length (xq P)
 own2:w.ownsRow (B+2) 9 1 vl Ls.length (XI Ls)
 ap:VG vo vp
namespace Drw
variable {B D L:Nat} {w0 w w1 w2:m0} {r5 z7:A0} {vo vp vl:n0} {O P:C0} {Ls:List Bytes}
theorem size(h:Drw B D L w0 w r5 z7 vo vp vl O P Ls):B+2≤w.heap.size:=by have:=xZ h.box.z;omega
theorem below(h:Drw B D L w0 w r5 z7 vo vp vl O P Ls)(hb:O0 w.heap.size w w1):Drw B D L w0 w1 r5 z7 vo vp vl O P Ls:=
 ⟨h.box.keep (by have:=h.size;omega) hb,h.lt,xe hb (xZ h.row) h.row,xe hb (xZ h.lot) h.lot,h.ltL,yA h.own0 hb,yA h.own1 hb,yA h.own2 hb,h.ap⟩
theorem appO(h:Drw B D L w0 w r5 z7 vo vp vl O P Ls){x:Int}{g n c:Nat}(hn:n=O.length+1)(own:w1.ownsRow (B+2) 3 1 (.slice (some ⟨g,0,none⟩) n c) n (xq O++xq [x]))(hg:w.grownBy w1 vo.ownBlock)(hf:vo.ownBlock=some g∨g=w.heap.size)
 (ho:yG D w1 w2) (hr:w2.heap[D]?=some (.cells (r5++ [.slice (some ⟨g,0,none⟩) n c,vp]).toArray 62 (0,0))):Drw B D L w0 w2 r5 z7 (.slice (some ⟨g,0,none⟩) n c) vp vl (O++ [x]) P Ls:=by
 have Cs: ∀k,vo.ownBlock=some k→B+2≤k:=fun k hk=>(h.own0.lt k hk).1;have hs:=h.size;have hD:vo.ownBlock≠some D:=zZ h.own0 h.row (by decide);have hL:vo.ownBlock≠some L:=zZ h.own0 h.lot (by decide);have FV:jad B w0 w1 r5.toArray z7.toArray 24 62:=⟨h.box.bel.grown hg (by omega) (fun k hk=>by have:=Cs k hk;omega),yU hg (fun e=>by have:=Cs _ e;omega) h.box.x,yU hg (fun e=>by have:=Cs _ e;omega) h.box.z⟩;have jjT:=yU hg hD h.row;have UI:=yU hg hL h.lot;have own1:=h.own1.kept hg h.ap.symm;have own2:=h.own2.kept hg (JY h.own2 h.own0 (by decide));have hLD:L≠D:=fun e=>by
  have h1:=h.row;have h2:=h.lot;rw [e,h1]at h2;injection h2 with h2;injection h2 with _ h2;exact absurd h2 (by decide)
 have ns:=h.lt;refine⟨⟨xl FV.bel ho (by omega),(ho.block B (by omega)).trans FV.x,(ho.block (B+1) (by omega)).trans FV.z⟩,h.lt,hr,(ho.block L hLD).trans UI,h.ltL,?_,JL own1 ho (zZ own1 jjT (by decide)),JL own2 ho (zZ own2 jjT (by decide)),jbf (v0:=vo) rfl h.own1 h.ap hf⟩;rw [←JW,jZ,kM,←hn];exact JL own ho (zZ own jjT (by decide))
theorem appL(h:Drw B D L w0 w r5 z7 vo vp vl O P Ls){x:Bytes}{g n c:Nat}(hn:n=Ls.length+1)(own:w1.ownsRow (B+2) 9 1 (.slice (some ⟨g,0,none⟩) n c) n (XI Ls++XI [x]))(hg:w.grownBy w1 vl.ownBlock)
 (ho:yG L w1 w2) (hr:w2.heap[L]?=some (.cells #[.slice (some ⟨g,0,none⟩) n c] 22 (0,0))):Drw B D L w0 w2 r5 z7 vo vp (.slice (some ⟨g,0,none⟩) n c) O P (Ls++ [x]):=by
 have Cs: ∀k,vl.ownBlock=some k→B+2≤k:=fun k hk=>(h.own2.lt k hk).1;have hs:=h.size;have hD:vl.ownBlock≠some D:=zZ h.own2 h.row (by decide);have hL:vl.ownBlock≠some L:=zZ h.own2 h.lot (by decide);have FV:jad B w0 w1 r5.toArray z7.toArray 24 62:=⟨h.box.bel.grown hg (by omega) (fun k hk=>by have:=Cs k hk;omega),yU hg (fun e=>by have:=Cs _ e;omega) h.box.x,yU hg (fun e=>by have:=Cs _ e;omega) h.box.z⟩;have jjT:=yU hg hD h.row;have UI:=yU hg hL h.lot;have own0:=h.own0.kept hg (JY h.own0 h.own2 (by decide));have own1:=h.own1.kept hg (JY h.own1 h.own2 (by decide));have hLD:D≠L:=fun e=>by
  have h1:=h.row;have h2:=h.lot;rw [←e,h1]at h2;injection h2 with h2;injection h2 with _ h2;exact absurd h2 (by decide)
 have ns:=h.ltL;refine⟨⟨xl FV.bel ho (by omega),(ho.block B (by omega)).trans FV.x,(ho.block (B+1) (by omega)).trans FV.z⟩,h.lt,(ho.block D hLD).trans jjT,hr,h.ltL,JL own0 ho (zZ own0 UI (by decide)),JL own1 ho (zZ own1 UI (by decide)),?_,h.ap⟩;rw [←jeS,jZ,kM,←hn];exact JL own ho (zZ own UI (by decide))
theorem sorted(h:Drw B D L w0 w r5 z7 vo vp vl O P Ls){O':C0}{X n cap:Nat}(hv:vo=.slice (some ⟨X,0,none⟩) n cap)(hl:O'.length=O.length)(own:w1.ownsRow (B+2) 3 1 vo O.length (xq O'))(hk:Kept X w w1):Drw B D L w0 w1 r5 z7 vo vp vl O' P Ls:=by
 have hX:vo.ownBlock=some X:=by rw [hv];rfl
 have hg:w.grownBy w1 vo.ownBlock:=by rw [hX];exact hk
 have Cs: ∀k,vo.ownBlock=some k→B+2≤k:=fun k hk=>(h.own0.lt k hk).1;have hs:=h.size;have hD:vo.ownBlock≠some D:=zZ h.own0 h.row (by decide);have hL:vo.ownBlock≠some L:=zZ h.own0 h.lot (by decide)
 exact⟨⟨h.box.bel.grown hg (by omega) (fun k hk=>by have:=Cs k hk;omega),yU hg (fun e=>by have:=Cs _ e;omega) h.box.x,yU hg (fun e=>by have:=Cs _ e;omega) h.box.z⟩,
  h.lt,yU hg hD h.row,yU hg hL h.lot,h.ltL,by rw [hl];exact own,h.own1.kept hg h.ap.symm,h.own2.kept hg (JY h.own2 h.own0 (by decide)),h.ap⟩
theorem placed(h:Drw B D L w0 w r5 z7 vo vp vl O P Ls){X n cap:Nat}(hv:vp=.slice (some ⟨X,0,none⟩) n cap)(hn:n=P.length)(i:Nat)(x:Int):Drw B D L w0 (w.setCell ⟨X,i,none⟩ (.int .i64 x)) r5 z7 vo vp vl O (P.set i x) Ls:=by
 have hX:vp.ownBlock=some X:=by rw [hv];rfl
 have own:=h.own1;rw [hv,hn]at own;obtain⟨zF9,AO⟩:=own.stored i (.int .i64 x);have hg:w.grownBy (w.setCell ⟨X,i,none⟩ (.int .i64 x)) vp.ownBlock:=by rw [hX];exact AO
 have Cs: ∀k,vp.ownBlock=some k→B+2≤k:=fun k hk=>(h.own1.lt k hk).1;have hs:=h.size;have hD:vp.ownBlock≠some D:=zZ h.own1 h.row (by decide);have hL:vp.ownBlock≠some L:=zZ h.own1 h.lot (by decide)
 exact⟨⟨h.box.bel.grown hg (by omega) (fun k hk=>by have:=Cs k hk;omega),yU hg (fun e=>by have:=Cs _ e;omega) h.box.x,yU hg (fun e=>by have:=Cs _ e;omega) h.box.z⟩,
  h.lt,yU hg hD h.row,yU hg hL h.lot,h.ltL,h.own0.kept hg h.ap,by rw [kE,hv,hn,show xq (P.set i x)=(xq P).set i (.int .i64 x)by simp [xq,vC]];exact zF9,h.own2.kept hg (JY h.own2 h.own1 (by decide)),h.ap⟩
end Drw
def Qu(c:yH)(lots:Bytes)(k:Nat):List Bytes:=(List.range k).map (Zs c lots)
theorem Kk(c:yH)(lots:Bytes)(k:Nat):(Qu c lots k).length=k:=by simp [Qu]
theorem jii(c:yH)(lots:Bytes)(k:Nat):Qu c lots (k+1)=Qu c lots k++ [Zs c lots k]:=by simp [Qu,qI]
theorem jeb(c:yH)(lots:Bytes)(n k:Nat)(h:k<(Qu c lots n).length):(Qu c lots n)[k]=Zs c lots k:=by simp [Qu]
theorem jak {w:m0}{g:Nat}{t:o0}{A B C:Bytes}(h:w.heap[g]?=some (.cells #[.string ⟨A.toArray⟩,.string ⟨B.toArray⟩,.string ⟨C.toArray⟩] t (0,0))):zg w (some ⟨g,0,none⟩) [A,B,C]:=⟨fun i hi=>⟨_,rfl,xZ h,by
 have Cx:i<3:=hi;rw [qD];rcases i with _|_|_|i;·exact jM w g 0 _ _ _ h
 ·exact jM w g 1 _ _ _ h
 ·exact jM w g 2 _ _ _ h
 ·omega⟩⟩
def Place(O P:C0):Prop:=P.length=O.length∧ ∀k (h:k<O.length),P[O[k].toNat]?=some (k:Int)
def jbX(c:yH)(lots:Bytes)(oa:s0)(cap:Nat)(w:m0)(e:Ending)(w':m0):Prop:=
 O0 w.heap.size w w'∧if yz c=true then e=.returned (.tuple #[.agg #[.string ⟨#[]⟩,.slice none 0 0,.int .i64 0,.int .i64 0,.int .i64 0,.slice none 0 0,.slice none 0 0],.int .i64 2])
 else ∃O P oO cO oP cP,Ord c.op.length (Kr c lots) O∧Place O P∧yW w' oO O∧yW w' oP P∧e=.returned (.tuple #[.agg (c.cells oa cap++ [Value.slice oO O.length cO,Value.slice oP P.length cP]).toArray,.int .i64 0])
theorem XN(a b c d e f g:n0)(h0:a.oneCell'=true)(h1:b.oneCell'=true)(h2:c.oneCell'=true)(h3:d.oneCell'=true)(h4:e.oneCell'=true)(h5:f.oneCell'=true)(h6:g.oneCell'=true):(#[a,b,c,d,e,f,g]:t0).all (·.oneCell')=true:=by simp [h0,h1,h2,h3,h4,h5,h6]
theorem jhc(c:yH)(lots:Bytes)(oa:s0)(cap:Nat)(w:m0)(hs:zg w oa c.op)(hf:c.Fits lots)(Gw:c.op.length<9223372036854775807):
 Calls Tryz.prog 28 #[.agg (c.cells oa cap).toArray,.string ⟨lots.toArray⟩] w (jbX c lots oa cap w):=by
 have hC:(c.cells oa cap).toArray= #[.string ⟨c.nm.toArray⟩,.slice oa c.op.length cap,.int .i64 c.rl,.int .i64 c.se,.int .i64 c.mo]:=rfl;rw [hC];clear hC;have HS:=jA hs;have HF:=jA hf;clear hs hf;go_enter Tryz.func28,Tryz.ntmps28;go_upto_region 1 with(fail);have BX:=jad.mk' w #[.string ⟨c.nm.toArray⟩,.slice oa c.op.length cap,.int .i64 c.rl,.int .i64 c.se,.int .i64 c.mo] #[.string ⟨#[]⟩,.slice none 0 0,.int .i64 0,.int .i64 0,.int .i64 0,.slice none 0 0,.slice none 0 0] 24 62;generalize hB:w.heap.size=B at*;refine xr (fun w1=>jad B w w1 #[.string ⟨c.nm.toArray⟩,.slice oa c.op.length cap,.int .i64 c.rl,.int .i64 c.se,.int .i64 c.mo] #[.string ⟨#[]⟩,.slice none 0 0,.int .i64 0,.int .i64 0,.int .i64 0,.slice none 0 0,.slice none 0 0] 24 62) BX (fun w1 B1=>?_);have HB:=jA hB;have bu:=jA B1;have ny:B+1<w1.heap.size:=xZ B1.z;have k1:w1.cell? ⟨B,1,none⟩=some (.slice oa c.op.length cap):=jM w1 B 1 _ _ _ B1.x;have k2:w1.cell? ⟨B,2,none⟩=some (.int .i64 c.rl):=jM w1 B 2 _ _ _ B1.x;have k3:w1.cell? ⟨B,3,none⟩=some (.int .i64 c.se):=jM w1 B 3 _ _ _ B1.x;clear BX hB B1;go_upto_region 2 with(fail);go_cut [42] (fun v w'=>v=.bool (yz c)∧w1=w');case first=>
  by_cases uu:c.op.length<1
  ·have DV:decide ((c.op.length:Int)<1)=true:=jT (by omega);have pV:decide (c.op.length<1)=true:=jT uu;have hW:=jA (show yz c=true from jT (by omega));clear uu;go_wp2_with fail;go_meet;exact⟨by rw [hW.u],rfl⟩
  have DV:decide ((c.op.length:Int)<1)=false:=jS (by omega);have pV:decide (c.op.length<1)=false:=jS uu;by_cases Tv:12<c.op.length
  ·have BV:decide (12<(c.op.length:Int))=true:=jT (by omega);have nV:decide (12<c.op.length)=true:=jT Tv;have hW:=jA (show yz c=true from jT (by omega));clear uu Tv;go_wp2_with fail;go_meet;exact⟨by rw [hW.u],rfl⟩
  have BV:decide (12<(c.op.length:Int))=false:=jS (by omega);have nV:decide (12<c.op.length)=false:=jS Tv;by_cases Ey:c.rl<1
  ·have AV:decide (c.rl<1)=true:=jT (by omega);have hW:=jA (show yz c=true from jT (by omega));clear uu Tv Ey;go_wp2_with fail;go_meet;exact⟨by rw [hW.u],rfl⟩
  have AV:decide (c.rl<1)=false:=jS (by omega);by_cases FO:4<c.rl
  ·have wV:decide (4<c.rl)=true:=jT (by omega);have hW:=jA (show yz c=true from jT (by omega));clear uu Tv Ey FO;go_wp2_with fail;go_meet;exact⟨by rw [hW.u],rfl⟩
  have wV:decide (4<c.rl)=false:=jS (by omega);by_cases gU:c.se<1
  ·have uV:decide (c.se<1)=true:=jT (by omega);have hW:=jA (show yz c=true from jT (by omega));clear uu Tv Ey FO gU;go_wp2_with fail;go_meet;exact⟨by rw [hW.u],rfl⟩
  have uV:decide (c.se<1)=false:=jS (by omega);by_cases gK:(c.op.length:Int)<c.se
  ·have sV:decide ((c.op.length:Int)<c.se)=true:=jT (by omega);have hW:=jA (show yz c=true from jT (by omega));clear uu Tv Ey FO gU gK;go_wp2_with fail;go_meet;exact⟨by rw [hW.u],rfl⟩
  have sV:decide ((c.op.length:Int)<c.se)=false:=jS (by omega);have hW:=jA (show yz c=false from jS (by omega));clear uu Tv Ey FO gU gK;go_wp2_with fail;go_meet;exact⟨by rw [hW.u],rfl⟩
 case rest=>
 generalize wc=wo at*;obtain⟨rfl,rfl⟩:=hcut;cases hW:yz c with
 |
  true=>
  have HW:=jA hW;clear hW;go_wp2_with (refine xg rfl rfl 62 _ _ rfl (B+1) #[.string ⟨#[]⟩,.slice none 0 0,.int .i64 0,.int .i64 0,.int .i64 0,.slice none 0 0,.slice none 0 0] #[.string ⟨#[]⟩,.slice none 0 0,.int .i64 0,.int .i64 0,.int .i64 0,.slice none 0 0,.slice none 0 0] 62 rfl rfl bu.u.z rfl zQ (XN _ _ _ _ _ _ _ rfl rfl rfl rfl rfl rfl rfl) ?_;intro w9 ho hp);refine jq (results_cell_tmp rfl _ w9 (B+1) _ _ _ _ _ rfl rfl hp Tryz.underlying62 rfl zQ) rfl ⟨xl (by rw [HB.u];exact bu.u.bel) ho (by rw [HB.u];omega),?_⟩;exact(jP HW.u).mpr rfl
 |false=>
 have HW:=jA hW;have hn:=jA (show 1≤c.op.length∧c.op.length≤12 by unfold yz at hW;have:=qr hW;omega);clear hW
 as_aux_lemma=>
 obtain⟨i0,hi,Is,Ts,Ns⟩:=info_parts KC;have HI:=jA hi;have Dt:=jA Is;have Ct:=jA Ts;have Bt:=jA Ns;clear hi Is Ts Ns;go_upto_region 4 with(fail);generalize DC:w1.heap.size=M0 at*;have wH:=jA DC;have nt:O0 M0 w1 w1.drew:=(jN _ _).drew;have Rz:M0≤w1.drew.heap.size:=kh DC.symm;have Gy:B<M0:=by omega
 clear DC;go_cut [7] (fun v w'=> ∃D vp,v=.pointer (some ⟨D,0,none⟩)∧M0≤D∧w'.heap[D]?=some (.cells #[.string ⟨c.nm.toArray⟩,.slice oa c.op.length cap,.int .i64 c.rl,.int .i64 c.se,.int .i64 c.mo,.slice none 0 0,vp] 62 (0,0))∧w'.ownsRow M0 3 1 vp c.op.length (List.replicate c.op.length (.int .i64 0))∧O0 M0 w1 w');case first=>
  refine Seg.Ym (fun w'=> ∃x:xj M0 w1,w'=x.w) (.quiet [0,1] (.alt 2 (.quiet [3] (.one 4 (.last []))) (.one 4 (.one 2 (.last [3]))))) 5 (by kernel_rfl) (by kernel_rfl) (fun _ _ d _ _ h=>by cases d<;>exact h) (⟨⟨_,nt⟩,rfl⟩) ?_;try simp only [Seg.yS,Seg.opAt,jK]
  refine yY rfl 24 _ rfl B #[.string ⟨c.nm.toArray⟩,.slice oa c.op.length cap,.int .i64 c.rl,.int .i64 c.se,.int .i64 c.mo] _ _ _ rfl bu.u.x Gy Tryz.underlying24 rfl xt ?_;first|go_big_quiet_step (fail)|quiet_step (fail)
  refine jR ?_;try simp only [Seg.yS,Seg.opAt,jK]
  generalize w1.drew=x0 at*;refine⟨?_,?_⟩
  ·try unfold Seg.JB
   intro K hK;first|go_simp|skip
   obtain⟨x1,hr,own,hg⟩:=vK (P:=Tryz.prog) (w:=x0) M0 29 3 i0 (.int .i64 0) 1 Tryz.underlying29 HI.u Dt.u Ct.u .i64 .i64 c.op.length (by rw [Bt.u];have:=hn.u;omega) (by unfold maxLen;have:=hn.u;omega) Rz;try rw [hr]
   go_wp2_with fail;clear hr;have lz:O0 x0.heap.size x0 x1:=(jN _ _).grown hg (jO _) (fun _ h=>by cases h);have Fw:=nt.trans (lz.mono Rz);have Ty:=jU Rz lz.size;have mV:M0≤x0.heap.size:=Rz;refine hK _ _ ⟨⟨_,Fw⟩,rfl⟩ ?_;clear hK K nt Rz lz hg;generalize x0.heap.size=V at*;try simp only [Seg.yS,Seg.opAt,jK]
   refine Zc rfl 62 _ rfl [(0,.agg #[.string ⟨c.nm.toArray⟩,.slice oa c.op.length cap,.int .i64 c.rl,.int .i64 c.se,.int .i64 c.mo]),(2,.slice (some ⟨V,0,none⟩) c.op.length c.op.length)] (by first|(simp;done)|(simp [Act.eval];done)) _ (jbF ⟨c.nm.toArray⟩ oa c.op.length cap c.rl c.se c.mo V c.op.length) ?_;refine jR ?_;try simp only [Seg.yS,Seg.opAt,jK]
   try unfold Seg.JB
   intro K hK;first|go_simp|skip
   go_wp2_with fail;have Lv:O0 M0 w1 (x1.alloc (.cells #[.string ⟨#[]⟩,.slice none 0 0,.int .i64 0,.int .i64 0,.int .i64 0,.slice none 0 0,.slice none 0 0] 62)):=Fw.alloc Ty _;have gC:M0≤(x1.alloc (.cells #[.string ⟨#[]⟩,.slice none 0 0,.int .i64 0,.int .i64 0,.int .i64 0,.slice none 0 0,.slice none 0 0] 62)).heap.size:=by simp;omega
   have rv:O0 x1.heap.size x1 (x1.alloc (.cells #[.string ⟨#[]⟩,.slice none 0 0,.int .i64 0,.int .i64 0,.int .i64 0,.slice none 0 0,.slice none 0 0] 62)):=(jN _ _).alloc (jO _) _;have eD:(x1.alloc (.cells #[.string ⟨#[]⟩,.slice none 0 0,.int .i64 0,.int .i64 0,.int .i64 0,.slice none 0 0,.slice none 0 0] 62)).heap[x1.heap.size]?=some (.cells #[.string ⟨#[]⟩,.slice none 0 0,.int .i64 0,.int .i64 0,.int .i64 0,.slice none 0 0,.slice none 0 0] 62 (0,0)):=xh rfl;have mD:M0≤x1.heap.size:=Ty;have kk:=yA own rv;clear own;have own:=kk;clear kk;refine hK _ _ ⟨⟨_,Lv⟩,rfl⟩ ?_;clear hK K Fw Ty rv;generalize (x1.alloc (.cells #[.string ⟨#[]⟩,.slice none 0 0,.int .i64 0,.int .i64 0,.int .i64 0,.slice none 0 0,.slice none 0 0] 62))=x2 at*;generalize x1.heap.size=D at*;try simp only [Seg.yS,Seg.opAt,jK]
   refine jR ?_;go_wp2_with (refine xg rfl rfl 62 _ _ rfl D #[.string ⟨#[]⟩,.slice none 0 0,.int .i64 0,.int .i64 0,.int .i64 0,.slice none 0 0,.slice none 0 0] #[.string ⟨c.nm.toArray⟩,.slice oa c.op.length cap,.int .i64 c.rl,.int .i64 c.se,.int .i64 c.mo,.slice none 0 0,.slice (some ⟨V,0,none⟩) c.op.length c.op.length] 62 rfl rfl eD rfl zQ (XN _ _ _ _ _ _ _ rfl rfl rfl rfl rfl rfl rfl) ?_;intro w8 ho hp);go_meet;exact⟨D,_,rfl,mD,hp,jgx c.op.length (zw own eD (by decide) ho),xl Lv ho mD⟩
  ·try unfold Seg.JB
   intro K hK;first|go_simp|skip
   go_wp2_with fail;have Fw:O0 M0 w1 (x0.alloc (.cells #[.string ⟨#[]⟩,.slice none 0 0,.int .i64 0,.int .i64 0,.int .i64 0,.slice none 0 0,.slice none 0 0] 62)):=nt.alloc Rz _;have Ty:M0≤(x0.alloc (.cells #[.string ⟨#[]⟩,.slice none 0 0,.int .i64 0,.int .i64 0,.int .i64 0,.slice none 0 0,.slice none 0 0] 62)).heap.size:=by simp;omega
   have lz:O0 x0.heap.size x0 (x0.alloc (.cells #[.string ⟨#[]⟩,.slice none 0 0,.int .i64 0,.int .i64 0,.int .i64 0,.slice none 0 0,.slice none 0 0] 62)):=(jN _ _).alloc (jO _) _;have eD:(x0.alloc (.cells #[.string ⟨#[]⟩,.slice none 0 0,.int .i64 0,.int .i64 0,.int .i64 0,.slice none 0 0,.slice none 0 0] 62)).heap[x0.heap.size]?=some (.cells #[.string ⟨#[]⟩,.slice none 0 0,.int .i64 0,.int .i64 0,.int .i64 0,.slice none 0 0,.slice none 0 0] 62 (0,0)):=xh rfl;have mD:M0≤x0.heap.size:=Rz;refine hK _ _ ⟨⟨_,Fw⟩,rfl⟩ ?_;clear hK K nt Rz lz;generalize (x0.alloc (.cells #[.string ⟨#[]⟩,.slice none 0 0,.int .i64 0,.int .i64 0,.int .i64 0,.slice none 0 0,.slice none 0 0] 62))=x1 at*;generalize x0.heap.size=D at*;try simp only [Seg.yS,Seg.opAt,jK]
   try unfold Seg.JB
   intro K hK;first|go_simp|skip
   obtain⟨x2,hr,own,hg⟩:=vK (P:=Tryz.prog) (w:=x1) M0 29 3 i0 (.int .i64 0) 1 Tryz.underlying29 HI.u Dt.u Ct.u .i64 .i64 c.op.length (by rw [Bt.u];have:=hn.u;omega) (by unfold maxLen;have:=hn.u;omega) Ty;try rw [hr]
   go_wp2_with fail;clear hr;have rv:O0 x1.heap.size x1 x2:=(jN _ _).grown hg (jO _) (fun _ h=>by cases h);have Lv:=Fw.trans (rv.mono Ty);have gC:=jU Ty rv.size;have mV:M0≤x1.heap.size:=Ty;have kk:=xe rv (xZ eD) eD;clear eD;have eD:=kk;clear kk;refine hK _ _ ⟨⟨_,Lv⟩,rfl⟩ ?_;clear hK K Fw Ty rv hg;generalize x1.heap.size=V at*;try simp only [Seg.yS,Seg.opAt,jK]
   refine Zc rfl 62 _ rfl [(0,.agg #[.string ⟨c.nm.toArray⟩,.slice oa c.op.length cap,.int .i64 c.rl,.int .i64 c.se,.int .i64 c.mo]),(2,.slice (some ⟨V,0,none⟩) c.op.length c.op.length)] (by first|(simp;done)|(simp [Act.eval];done)) _ (jbF ⟨c.nm.toArray⟩ oa c.op.length cap c.rl c.se c.mo V c.op.length) ?_;refine jR ?_;go_wp2_with (refine xg rfl rfl 62 _ _ rfl D #[.string ⟨#[]⟩,.slice none 0 0,.int .i64 0,.int .i64 0,.int .i64 0,.slice none 0 0,.slice none 0 0] #[.string ⟨c.nm.toArray⟩,.slice oa c.op.length cap,.int .i64 c.rl,.int .i64 c.se,.int .i64 c.mo,.slice none 0 0,.slice (some ⟨V,0,none⟩) c.op.length c.op.length] 62 rfl rfl eD rfl zQ (XN _ _ _ _ _ _ _ rfl rfl rfl rfl rfl rfl rfl) ?_;intro w8 ho hp);go_meet;exact⟨D,_,rfl,mD,hp,jgx c.op.length (zw own eD (by decide) ho),xl Lv ho mD⟩
 case rest=>
 clear nt Rz;generalize wc=w2 at*;obtain⟨D,vp,rfl,hMD,hD,GY,Ut⟩:=hcut;have sF:D<w2.heap.size:=xZ hD;have mR:=Ut.size;rw [wH.u]at mR;obtain⟨L,hL⟩: ∃L,L=w2.heap.size:=⟨_,rfl⟩;have DR0:Drw B D L w (w2.alloc (.cells #[.slice none 0 0] 22)) [.string ⟨c.nm.toArray⟩,.slice oa c.op.length cap,.int .i64 c.rl,.int .i64 c.se,.int .i64 c.mo] [.string ⟨#[]⟩,.slice none 0 0,.int .i64 0,.int .i64 0,.int .i64 0,.slice none 0 0,.slice none 0 0] (.slice none 0 0) vp (.slice none 0 0) [] (List.replicate c.op.length 0) []:=by
  have ba:O0 w2.heap.size w2 (w2.alloc (.cells #[.slice none 0 0] 22)):=(jN _ _).alloc (jO _) _;refine⟨(bu.u.keep (by rw [wH.u];omega) (wH.u.symm▸Ut)).keep (by omega) ba,by omega,xe ba sF hD,by rw [hL];exact xh rfl,by omega,kg _ _ _ _,?_,kg _ _ _ _,.inl rfl⟩;have:=JM (yA GY ba) (show B+2≤M0 by omega);rw [show xq (List.replicate c.op.length 0)=List.replicate c.op.length (.int .i64 0)by simp [xq],vm];exact this
 clear Ut hD GY mR sF hMD k1 k2 k3;go_upto_region 6 with(fail);rw [←hL];refine xr (fun w3=>Drw B D L w w3 [.string ⟨c.nm.toArray⟩,.slice oa c.op.length cap,.int .i64 c.rl,.int .i64 c.se,.int .i64 c.mo] [.string ⟨#[]⟩,.slice none 0 0,.int .i64 0,.int .i64 0,.int .i64 0,.slice none 0 0,.slice none 0 0] (.slice none 0 0) vp (.slice none 0 0) [] (List.replicate c.op.length 0) []) DR0 (fun w3 mw=>?_);have DR:=jA mw;clear mw DR0 hL bu ny Gy wH;have k1:w3.cell? ⟨B,1,none⟩=some (.slice oa c.op.length cap):=jM w3 B 1 _ _ _ DR.u.box.x;clear w1 w2;obtain⟨j0,hi,Is,Ts,Ns⟩:=info_parts jmD;have JI:=jA hi;have SA:=jA Is;have OA:=jA Ts;have MA:=jA Ns;clear hi Is Ts Ns
 as_aux_lemma=>
 go_wp2_with fail;clear k1;go_loopw [51] (fun i wr=> ∃(k:Nat) (vo vl:n0),k≤c.op.length∧i=.int .i64 k∧Drw B D L w wr [.string ⟨c.nm.toArray⟩,.slice oa c.op.length cap,.int .i64 c.rl,.int .i64 c.se,.int .i64 c.mo] [.string ⟨#[]⟩,.slice none 0 0,.int .i64 0,.int .i64 0,.int .i64 0,.slice none 0 0,.slice none 0 0] vo vp vl (Vv k) (List.replicate c.op.length 0) (Qu c lots k)) (fun i _=>c.op.length-(intOf i).toNat);case atStart=>exact⟨0,_,_,by omega,rfl,DR.u⟩
 case round=>
 clear DR;obtain⟨k,vo,vl,hk,rfl,cy⟩:=hrel;have DR:=jA cy;clear cy;by_cases ns:k<c.op.length
 ·as_aux_lemma=>
  obtain⟨dk,Ms,nu⟩:=Go.yD ns
  obtain⟨q,Us,Wy,Mv⟩:=(HS.u.below (HB.u.symm▸DR.u.box.bel)).cells k ns;subst Us;have ho:=jA (show c.op.getD k []=c.op[k]by rw [jV,kL ns];rfl);have HJ:=jA (HF.u.join k ns);have HLK:=jA (jii c lots k);have mS:=jA (show Zs c lots k=KS [] (Kl jij [lots,c.nm,c.op.getD k []])from rfl);rw [ho.u]at HJ mS;generalize c.op[k]=opt at*;have k5:wr.cell? ⟨D,5,none⟩=some vo:=jM wr D 5 _ _ _ DR.u.row;have kB0:wr.cell? ⟨B,0,none⟩=some (.string ⟨c.nm.toArray⟩):=jM wr B 0 _ _ _ DR.u.box.x;have hDs:D<wr.heap.size:=xZ DR.u.row;have mt:B+1<wr.heap.size:=by have:=DR.u.size;omega
  have rC:=DR.u.size;have hk12:k≤12:=by have:=hn.u;omega
  have nY:=jA (DR.u.below ((jN wr.heap.size wr).alloc (jO _) (.cells #[.int .i64 (k:Int)] 3)));have GJ:=Jy k;go_upto_region 10 with(at_builtin;refine wpList_append_lies _ rfl (.tmp 57) (.tmp 59) 29 rfl (B+2) 3 i0 (.int .i64 0) 1 8 Tryz.underlying29 HI.u Dt.u Ct.u Bt.u rfl (by decide) vo (Vv k).length (xq (Vv k)) rfl nY.u.own0 ⟨wr.heap.size,0,none⟩ 1 1 (xq [(k:Int)]) rfl rfl (zK (xh rfl)) (Kb _) (by decide) (by unfold maxLen;omega) (by omega) nY.u.size _ rfl (fun g cp w4 own hg hf NJ=>?_);have eG:=yU hg (zZ nY.u.own0 nY.u.row (by decide)) nY.u.row;have c5:w4.cell? ⟨D,5,none⟩=some vo:=jM w4 D 5 _ _ _ eG;have f5:w4.frozen? ⟨D,5,none⟩=false:=jc w4 D 5 _ _ eG);have DR5:Drw B D L w (w4.setCell ⟨D,5,none⟩ (.slice (some ⟨g,0,none⟩) ((Vv k).length+1) cp)) [.string ⟨c.nm.toArray⟩,.slice (some q) c.op.length cap,.int .i64 c.rl,.int .i64 c.se,.int .i64 c.mo] [.string ⟨#[]⟩,.slice none 0 0,.int .i64 0,.int .i64 0,.int .i64 0,.slice none 0 0,.slice none 0 0] (.slice (some ⟨g,0,none⟩) ((Vv k).length+1) cp) vp vl (Vv (k+1)) (List.replicate c.op.length 0) (Qu c lots k):=by
   rw [jaT];exact nY.u.appO rfl own hg hf ((yG.refl D w4).setCell _ _) (jd w4 D 5 _ _ _ eG)
  rw [GJ]at DR5;clear own hg hf NJ eG c5 f5 nY DR k5 kB0 rC hDs mt Mv Wy;refine xr (fun w5=>Drw B D L w w5 [.string ⟨c.nm.toArray⟩,.slice (some q) c.op.length cap,.int .i64 c.rl,.int .i64 c.se,.int .i64 c.mo] [.string ⟨#[]⟩,.slice none 0 0,.int .i64 0,.int .i64 0,.int .i64 0,.slice none 0 0,.slice none 0 0] (.slice (some ⟨g,0,none⟩) (k+1) cp) vp vl (Vv (k+1)) (List.replicate c.op.length 0) (Qu c lots k)) DR5 (fun w5 UL=>?_);have DR:=jA UL;clear UL DR5 GJ
  as_aux_lemma=>
  have kB0:w5.cell? ⟨B,0,none⟩=some (.string ⟨c.nm.toArray⟩):=jM w5 B 0 _ _ _ DR.u.box.x;have kL0:w5.cell? ⟨L,0,none⟩=some vl:=jM w5 L 0 _ _ _ DR.u.lot;have mt:B<w5.heap.size:=by have:=DR.u.size;omega
  have uZ:L<w5.heap.size:=xZ DR.u.lot;obtain⟨M5,DU⟩: ∃M5,M5=w5.heap.size:=⟨_,rfl⟩;rw [←DU]at mt uZ;have nt:O0 M5 w5 w5.drew:=(jN _ _).drew;have Rz:M5≤w5.drew.heap.size:=kh DU;have HM5:=jA DU;clear DU;have QDR:=jA (fun w' (h:O0 M5 w5 w')=>DR.u.below (HM5.u▸h));have QT:=jA (fun(g:Nat) (w6:m0) (h:w6.heap[g]?=some (.cells #[.string ⟨lots.toArray⟩,.string ⟨c.nm.toArray⟩,.string ⟨opt.toArray⟩] 9 (0,0)))=>jon jij (some ⟨g,0,none⟩) [lots,c.nm,opt] 3 w6 (jak h) (by have:=HJ.u;omega) (by show 3<9223372036854775807;decide));rw [←mS.u]at QT;have WC:=Kk c lots k;refine Seg.xf (fun w'=> ∃x:xj M5 w5,w'=x.w) [([0,1,2,3,4],5),([],6),([],7)] [] 8 (by kernel_rfl) (by kernel_rfl) (fun _ _ d _ _ h=>by cases d<;>exact h) (⟨⟨_,nt⟩,rfl⟩) ?_;simp only [jK,Seg.opAt,Seg.xu];repeat (any_goals (first|go_big_quiet_step (fail)|quiet_step (fail)))
  refine jR ?_;intro K hK;simp only [Region.wanted,jY];go_wp2_with fail;have Fw:O0 M5 w5 (w5.alloc (.cells #[.string ⟨lots.toArray⟩,.string ⟨c.nm.toArray⟩,.string ⟨opt.toArray⟩] 9)).drew:=((jN M5 w5).alloc (kh HM5.u) _).drew;have Ty:M5≤(w5.alloc (.cells #[.string ⟨lots.toArray⟩,.string ⟨c.nm.toArray⟩,.string ⟨opt.toArray⟩] 9)).drew.heap.size:=by rw [HM5.u];exact Fw.size
  have bv:(w5.alloc (.cells #[.string ⟨lots.toArray⟩,.string ⟨c.nm.toArray⟩,.string ⟨opt.toArray⟩] 9)).drew.heap[w5.heap.size]?=some (.cells #[.string ⟨lots.toArray⟩,.string ⟨c.nm.toArray⟩,.string ⟨opt.toArray⟩] 9 (0,0)):=xh rfl;refine hK _ _ ⟨⟨_,Fw⟩,rfl⟩ ?_;clear hK K nt Rz;generalize (w5.alloc (.cells #[.string ⟨lots.toArray⟩,.string ⟨c.nm.toArray⟩,.string ⟨opt.toArray⟩] 9)).drew=x1 at*;generalize w5.heap.size=G1 at*;repeat (any_goals (first|go_big_quiet_step (fail)|quiet_step (fail)))
  refine jR ?_;intro K hK;simp only [Region.wanted,jY];go_wp2_with (go_at_call 65;refine(QT.u G1 x1 bv).mono ?_;rintro e x2 ⟨rfl,b2⟩);have Lv:=Fw.trans (b2.mono Ty);have gC:=jU Ty b2.size;refine hK _ _ ⟨⟨_,Lv⟩,rfl⟩ ?_;clear hK K Fw Ty bv b2 QT;repeat (any_goals (first|go_big_quiet_step (fail)|quiet_step (fail)))
  refine jR ?_;intro K hK;simp only [Region.wanted,jY];go_wp2_with fail;have Gx:=Lv.alloc gC (.cells #[.string ⟨(Zs c lots k).toArray⟩] 9);have mY:=jA (QDR.u _ Gx);refine hK _ _ ⟨⟨_,Gx⟩,rfl⟩ ?_;clear hK K Lv gC;repeat (any_goals (first|go_big_quiet_step (fail)|quiet_step (fail)))
  refine jR ?_;go_wp2_with (at_builtin;refine wpList_append_lies _ rfl (.tmp 62) (.tmp 69) 22 rfl (B+2) 9 j0 (.string ⟨#[]⟩) 1 16 Tryz.underlying22 JI.u SA.u OA.u MA.u rfl (by decide) vl (Qu c lots k).length (XI (Qu c lots k)) rfl mY.u.own2 ⟨x2.heap.size,0,none⟩ 1 1 (XI [Zs c lots k]) rfl rfl (zK (xh rfl)) (jjC _) (by decide) (by unfold maxLen;omega) (by omega) mY.u.size _ rfl (fun g2 cp2 w7 own hg hf NJ=>?_);have dG:=yU hg (zZ mY.u.own2 mY.u.lot (by decide)) mY.u.lot;have c8:w7.cell? ⟨L,0,none⟩=some vl:=jM w7 L 0 _ _ _ dG;have f8:w7.frozen? ⟨L,0,none⟩=false:=jc w7 L 0 _ _ dG);have DR8:=jA (mY.u.appL rfl own hg ((yG.refl L w7).setCell 0 (.slice (some ⟨g2,0,none⟩) ((Qu c lots k).length+1) cp2)) (jd w7 L 0 _ _ _ dG));rw [←HLK.u]at DR8;clear own hg hf NJ dG c8 f8 mY DR QDR kB0 kL0 Gx HM5 mt uZ;go_roundw;case rel=>exact⟨k+1,_,_,by omega,by go_num,by have h8:=DR8.u;rw [Kk]at h8;exact h8⟩
  case measure=>simp [intOf];omega
 ·as_aux_lemma=>
  obtain⟨dk,Ms⟩:=Go.yg ns;obtain rfl:k=c.op.length:=by omega
  obtain⟨X,xc,rfl,hBX,cH⟩:=DR.u.own0.form (by rw [Jy];have:=hn.u;omega);obtain⟨oL,cL,rfl,hSL⟩:=jcd DR.u.own2;have Ws:=hn.u
  have QC:=jA (show ∀(x y:Int) (w':m0),x∈Vv c.op.length→y∈Vv c.op.length→Kept X wr w'→Calls Tryz.prog 67 #[.int .i64 x,.int .i64 y,.pointer (some ⟨L,0,none⟩)] w' fun e Fu=>e=.returned (.int .i64 (jfK (Kr c lots x) (Kr c lots y)))∧O0 w'.heap.size w' Fu from by
   intro x y w' hx hy hk;have hx:=(jav _ _).1 hx;have hy:=(jav _ _).1 hy;obtain⟨i,rfl⟩: ∃i:Nat,x=i:=⟨x.toNat,by omega⟩;obtain⟨j,rfl⟩: ∃j:Nat,y=j:=⟨y.toNat,by omega⟩;have wZ:=yU hk (fun e=>zZ DR.u.own0 DR.u.lot (by decide) (by rw [←e];rfl)) DR.u.lot
   have own2:=DR.u.own2.kept (row:=some X) hk (by
    have:=JY DR.u.own2 DR.u.own0 (by decide);exact this)
   obtain⟨oL2,cL2,he,hS2⟩:=jcd own2;obtain⟨rfl,rfl⟩:oL=oL2∧cL=cL2:=by injection he with h1 _ h3;exact⟨h1,h3⟩
   have:=jhd i j (Qu c lots c.op.length) L oL cL w' wZ hS2 (by rw [Kk];omega) (by rw [Kk];omega) (by rw [Kk];omega);rw [jeb,jeb]at this;exact this)
  have QS:=jA (jcg (fun x y=>jfK (Kr c lots x) (Kr c lots y)) (ltL (Kr c lots)) (ZS _) (Vv c.op.length) X xc (B+2) L wr QC.u (jmC _ _) (by rw [Jy];omega) (by have:=DR.u.own0;exact this));have k5:wr.cell? ⟨D,5,none⟩=some (.slice (some ⟨X,0,none⟩) (Vv c.op.length).length xc):=jM wr D 5 _ _ _ DR.u.row;clear QC hSL;have GJ:=Jy c.op.length;rw [GJ]at QS k5;go_upto_region 13 with(go_at_call 66;refine QS.u.mono ?_;rintro e w6 ⟨rfl,hs⟩;have HS6:=jA hs;clear hs);obtain⟨S,Cu,nz,Nt,AB⟩:=HS6.u;have HO:=jA (show Ord c.op.length (Kr c lots) S from⟨Cu,nz⟩);have DR6:=jA (DR.u.sorted rfl Cu.length_eq Nt AB);clear Cu nz Nt AB HS6 DR k5 QS ns dk Ms hk GJ;have mK:=HO.u.len;obtain⟨Y,yc,rfl,bP,hYlt⟩:=DR6.u.own1.form (by rw [vm];omega);rw [Jy,vm]at DR6;generalize SC:Value.slice (some ⟨X,0,none⟩) c.op.length xc=vo at*
  as_aux_lemma=>
  have k5:w6.cell? ⟨D,5,none⟩=some (.slice (some ⟨X,0,none⟩) c.op.length xc):=by rw [SC];exact jM w6 D 5 _ _ _ DR6.u.row
  have IF:=jA SC;clear SC;go_wp2_with fail;clear k5;go_loopw [79] (fun i wr=> ∃(k:Nat) (P:C0),k≤c.op.length∧i=.int .i64 k∧Drw B D L w wr [.string ⟨c.nm.toArray⟩,.slice oa c.op.length cap,.int .i64 c.rl,.int .i64 c.se,.int .i64 c.mo] [.string ⟨#[]⟩,.slice none 0 0,.int .i64 0,.int .i64 0,.int .i64 0,.slice none 0 0,.slice none 0 0] vo (.slice (some ⟨Y,0,none⟩) c.op.length yc) (.slice oL (Qu c lots c.op.length).length cL) S P (Qu c lots c.op.length)∧ZI c.op.length S P k) (fun i _=>c.op.length-(intOf i).toNat);case atStart=>exact⟨0,_,by omega,rfl,DR6.u,ZI.zero (by simp)⟩
  case round=>
  clear DR6;obtain⟨k,P,hk,rfl,cy,Cw⟩:=hrel;have DR:=jA cy;have HP:=jA Cw;clear cy Cw;by_cases ns:k<c.op.length
  ·obtain⟨dk,Ms,nu⟩:=Go.yD ns
   have hkS:k<S.length:=by omega
   obtain⟨o,ho⟩: ∃o:Nat,S[k]=(o:Int):=⟨S[k].toNat,by have:=HO.u.mem.1 (jb hkS);omega⟩;have WY:o<c.op.length:=by have:=HO.u.mem.1 (jb hkS);rw [ho]at this;omega
   have UY:(o:Int)<(c.op.length:Int):=by omega
   have own0:=DR.u.own0;rw [←IF.u,mK]at own0;have kx:wr.cell? ⟨X,k,none⟩=some (.int .i64 o):=by rw [own0.cellAt k (by omega)];simp [xq,hkS,ho]
   have tH:=HP.u.len;have own1:=DR.u.own1;rw [tH]at own1;obtain⟨pv,ky⟩: ∃pv,wr.cell? ⟨Y,o,none⟩=some (.int .i64 pv):=⟨P[o]'(by omega),by rw [own1.cellAt o (by omega)];simp [xq,tH,WY]⟩;have fy:=own1.frozenAt o;have k6:wr.cell? ⟨D,6,none⟩=some (.slice (some ⟨Y,0,none⟩) c.op.length yc):=jM wr D 6 _ _ _ DR.u.row;have DRN:=jA (DR.u.placed rfl tH.symm o (k:Int));have HPN:=jA (show ZI c.op.length S (P.set o (k:Int)) (k+1)by have:=HP.u.succ HO.u hkS;rw [ho]at this;exact this);clear ho own0 own1 tH DR HP;go_wp2_with fail;go_roundw;case rel=>exact⟨k+1,_,by omega,by go_num,DRN.u,HPN.u⟩
   case measure=>simp [intOf];omega
  ·obtain⟨dk,Ms⟩:=Go.yg ns;obtain rfl:k=c.op.length:=by omega
   have wU:=HP.u.len;have tH:=jA (show Place S P from⟨by rw [HP.u.len,mK],fun j hj=>HP.u.at_ j hj (by omega)⟩);have hz:=DR.u.box.z;have Tx:wr.heap[D]?=some (.cells #[.string ⟨c.nm.toArray⟩,.slice oa c.op.length cap,.int .i64 c.rl,.int .i64 c.se,.int .i64 c.mo,vo,.slice (some ⟨Y,0,none⟩) c.op.length yc] 62 (0,0)):=DR.u.row;obtain⟨oO,cO,MN,dz⟩: ∃oO cO,vo=.slice oO S.length cO∧True:=⟨_,_,by rw [←IF.u,mK],trivial⟩;have h1:vo.oneCell'=true:=by rw [MN];rfl
   clear MN dz;go_wp2_with (first
    |(refine xy rfl 62 _ rfl D _ _ _ _ rfl Tx Tryz.underlying62 rfl zQ ?_)
    |(refine xg rfl rfl 62 _ _ rfl (B+1) #[.string ⟨#[]⟩,.slice none 0 0,.int .i64 0,.int .i64 0,.int .i64 0,.slice none 0 0,.slice none 0 0] #[.string ⟨c.nm.toArray⟩,.slice oa c.op.length cap,.int .i64 c.rl,.int .i64 c.se,.int .i64 c.mo,vo,.slice (some ⟨Y,0,none⟩) c.op.length yc] 62 rfl rfl hz rfl zQ (XN _ _ _ _ _ _ _ rfl rfl rfl rfl rfl h1 rfl) ?_;intro w9 ho hp))
   have own0:=JL DR.u.own0 ho (zZ DR.u.own0 DR.u.box.z (by decide));have own1:=JL DR.u.own1 ho (zZ DR.u.own1 DR.u.box.z (by decide));obtain⟨oO,cO,MN, -,dz⟩:=zT own0;obtain⟨oP,cP,hvp2, -,GU⟩:=zT own1;refine jq (results_cell_tmp rfl _ w9 (B+1) _ _ _ _ _ rfl rfl hp Tryz.underlying62 rfl zQ) rfl ⟨xl (by rw [HB.u];exact DR.u.box.bel) ho (by rw [HB.u];omega),?_⟩;rw [jQ (by rw [HW.u];decide)];exact⟨S,P,oO,cO,oP,cP,HO.u,tH.u,dz,GU,by rw [←MN,←hvp2];rfl⟩
end Go.Proofs.YtnohcdpnnhmpfaaGreatDoor
