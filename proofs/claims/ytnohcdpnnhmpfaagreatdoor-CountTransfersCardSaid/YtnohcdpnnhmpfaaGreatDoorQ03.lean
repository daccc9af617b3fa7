/-
  Rows of ints in memory: what an argument reads as, what an own row gives; the plain law of digits with it.
  Rows of ints in memory: what an argument reads as, what an own row gives; the plain law of digits with it.
  The boxes of struct arguments and of a struct result; results that lie in memory; rows beside a block without ints.
  Bytes and texts in memory: small laws.
  A number's digits as a text. No program in sight.
  Decimal texts: their value, which texts are numbers, a number's text. Plain law.
  '[]byte(s)': a new row that reads as the text.
-/
import Derived.Test.YtnohcdpnnhmpfaaGreatDoorQ01
import Derived.Test.YtnohcdpnnhmpfaaGreatDoorQ02
import Derived.Laws.AppendOwn
import Derived.Laws.Rows
import Derived.Test.YtnohcdpnnhmpfaaGreatDoorChecked
import Derived.Lib.UnsafeStr
import Derived.Lib.BufferWrite
import Derived.Lib.SliceRun
import Derived.Deep.MidRow
import Derived.Laws.IdiomStrings
import Derived.WalkKit
import Derived.Lib.Hide
set_option linter.unusedVariables false
set_option linter.unusedSimpArgs false
namespace Go.Proofs.YtnohcdpnnhmpfaaGreatDoor
open Go.RowKit Tryz ML
def yT(L:List Nat):List Value:=L.map fun d:Nat=>Value.int .i64 (d:Int)
def dAt(L:List Nat)(i:Nat):Nat:=L.getD i 0
theorem jdM(L:List Nat):(yT L).length=L.length:=by simp [yT]
theorem Jg(A B:List Nat):yT A++yT B=yT (A++B):=by simp [yT]
theorem Qt(L:List Nat): ∀v∈yT L,v.oneCell'=true:=by
 intro v hv;simp only [yT,jl]at hv;obtain⟨x,_,rfl⟩:=hv;rfl
theorem xy(a:Addr)(i:Nat):(a.add i).block=a.block:=by unfold Addr.add;split<;>rfl
structure IntsAt(w:World)(oa:Option Addr)(L:List Nat):Prop where
 cells: ∀i (h:i<L.length),∃a,oa=some a∧a.block<w.heap.size∧w.cell? (a.add i)=some (.int .i64 (L[i]:Int))
namespace IntsAt
variable {w w1:World} {oa:Option Addr} {L:List Nat}
theorem below(h:IntsAt w oa L)(hb:Below w.heap.size w w1):IntsAt w1 oa L:=⟨fun i hi=>by
 obtain⟨a,h1,h2,h3⟩:=h.cells i hi;exact⟨a,h1,jV h2 hb.size,by rw [hb.cell (by rw [xy];exact h2)];exact h3⟩⟩
theorem take(h:IntsAt w oa L)(k:Nat):IntsAt w oa (L.take k):=⟨fun i hi=>by
 have hi2:i<L.length:=by rw [jX]at hi;omega
 obtain⟨a,h1,h2,h3⟩:=h.cells i hi2;exact⟨a,h1,h2,by rw [h3];simp⟩⟩
theorem nil:IntsAt w none []:=⟨fun i hi=>by simp at hi⟩
theorem drew(h:IntsAt w oa L):IntsAt w.drew oa L:=⟨h.cells⟩
theorem get(h:IntsAt w oa L)(i:Nat)(hi:i<L.length): ∃a,oa=some a∧w.cell? (a.add i)=some (.int .i64 ((L.getD i 0:Nat):Int)):=by
 obtain⟨a,h1,_,h3⟩:=h.cells i hi;exact⟨a,h1,by rw [h3];simp [jW,hi]⟩
end IntsAt
theorem jkN(g i:Nat):(⟨g,0,none⟩:Addr).add i=⟨g,i,none⟩:=by unfold Addr.add;split<;>simp_all
theorem VL {w:World}{base:Nat}{e:TypeId}{v:Value}{n:Nat}{L:List Nat}(h:w.ownsRow base e 1 v n (yT L)): ∃oa cap,v=.slice oa L.length cap∧L.length≤cap∧(∀a,oa=some a→base≤a.block)∧IntsAt w oa L:=by
 have hl:L.length=n:=by have:=h.1;rw [jdM]at this;omega
 rcases h.2 with⟨hv,h0⟩|⟨g,cap,cur,hv,hb,hg,hnc,_,hc,ht⟩
 ·have:L= []:=kY.1 (by omega);subst this;exact⟨none,0,hv,jO _,(fun a h=>by cases h),IntsAt.nil⟩
 ·refine⟨some ⟨g,0,none⟩,cap,by rw [hl];exact hv,by rw [hl];exact hnc,(fun a h=>by cases h;exact hb),⟨fun i hi=>⟨_,rfl,lt_of_heap hg,?_⟩⟩⟩;have hx:=h.cells (g:=g) (by rw [hv];rfl) i (.int .i64 (L[i]:Int)) (by simp [yT,hi]);exact hx
theorem Xg {w:World}{g:Nat}{t:TypeId}{cs:Array Value}{L:List Nat}(h:w.heap[g]?=some (.cells cs t (0,0)))(hc:cs=(yT L).toArray):IntsAt w (some ⟨g,0,none⟩) L:=⟨fun i hi=>by
 refine⟨_,rfl,lt_of_heap h,?_⟩;rw [jkN,jM w g i _ _ _ h,hc];simp [yT,hi]⟩
end Go.Proofs.YtnohcdpnnhmpfaaGreatDoor
namespace Go.Proofs.YtnohcdpnnhmpfaaGreatDoor
open Go.RowKit Tryz ML
def yC(L:List Nat):List Value:=L.map fun d:Nat=>Value.int .u32 (d:Int)
def lAt(L:List Nat)(i:Nat):Nat:=L.getD i 0
theorem KG(L:List Nat):(yC L).length=L.length:=by simp [yC]
theorem JM(A B:List Nat):yC A++yC B=yC (A++B):=by simp [yC]
theorem Jr(L:List Nat): ∀v∈yC L,v.oneCell'=true:=by
 intro v hv;simp only [yC,jl]at hv;obtain⟨x,_,rfl⟩:=hv;rfl
theorem yM(a:Addr)(i:Nat):(a.add i).block=a.block:=by unfold Addr.add;split<;>rfl
structure LimbsAt(w:World)(oa:Option Addr)(L:List Nat):Prop where
 cells: ∀i (h:i<L.length),∃a,oa=some a∧a.block<w.heap.size∧w.cell? (a.add i)=some (.int .u32 (L[i]:Int))
namespace LimbsAt
variable {w w1:World} {oa:Option Addr} {L:List Nat}
theorem below(h:LimbsAt w oa L)(hb:Below w.heap.size w w1):LimbsAt w1 oa L:=⟨fun i hi=>by
 obtain⟨a,h1,h2,h3⟩:=h.cells i hi;exact⟨a,h1,jV h2 hb.size,by rw [hb.cell (by rw [yM];exact h2)];exact h3⟩⟩
theorem take(h:LimbsAt w oa L)(k:Nat):LimbsAt w oa (L.take k):=⟨fun i hi=>by
 have hi2:i<L.length:=by rw [jX]at hi;omega
 obtain⟨a,h1,h2,h3⟩:=h.cells i hi2;exact⟨a,h1,h2,by rw [h3];simp⟩⟩
theorem nil:LimbsAt w none []:=⟨fun i hi=>by simp at hi⟩
theorem get(h:LimbsAt w oa L)(i:Nat)(hi:i<L.length): ∃a,oa=some a∧w.cell? (a.add i)=some (.int .u32 ((L.getD i 0:Nat):Int)):=by
 obtain⟨a,h1,_,h3⟩:=h.cells i hi;exact⟨a,h1,by rw [h3];simp [jW,hi]⟩
end LimbsAt
theorem Kl(g i:Nat):(⟨g,0,none⟩:Addr).add i=⟨g,i,none⟩:=by unfold Addr.add;split<;>simp_all
theorem Vb {w:World}{base:Nat}{e:TypeId}{v:Value}{n:Nat}{L:List Nat}(h:w.ownsRow base e 1 v n (yC L)): ∃oa cap,v=.slice oa L.length cap∧L.length≤cap∧(∀a,oa=some a→base≤a.block)∧LimbsAt w oa L:=by
 have hl:L.length=n:=by have:=h.1;rw [KG]at this;omega
 rcases h.2 with⟨hv,h0⟩|⟨g,cap,cur,hv,hb,hg,hnc,_,hc,ht⟩
 ·have:L= []:=kY.1 (by omega);subst this;exact⟨none,0,hv,jO _,(fun a h=>by cases h),LimbsAt.nil⟩
 ·refine⟨some ⟨g,0,none⟩,cap,by rw [hl];exact hv,by rw [hl];exact hnc,(fun a h=>by cases h;exact hb),⟨fun i hi=>⟨_,rfl,lt_of_heap hg,?_⟩⟩⟩;have hx:=h.cells (g:=g) (by rw [hv];rfl) i (.int .u32 (L[i]:Int)) (by simp [yC,hi]);exact hx
theorem Vq {w:World}{g:Nat}{t:TypeId}{cs:Array Value}{L:List Nat}(h:w.heap[g]?=some (.cells cs t (0,0)))(hc:cs=(yC L).toArray):LimbsAt w (some ⟨g,0,none⟩) L:=⟨fun i hi=>by
 refine⟨_,rfl,lt_of_heap h,?_⟩;rw [Kl,jM w g i _ _ _ h,hc];simp [yC,hi]⟩
end Go.Proofs.YtnohcdpnnhmpfaaGreatDoor
namespace Go.Proofs.YtnohcdpnnhmpfaaGreatDoor
open Go.RowKit Tryz ML
theorem yV {w w2:World}(h:Below w.drew.heap.size w.drew w2):Below w.heap.size w w2:=⟨h.os,h.tape,h.output,h.size,h.block⟩
structure Vx(B:Nat)(w w1:World)(X Y Z:Array Value)(T U:TypeId):Prop where
 bel:Below B w w1
 x:w1.heap[B]?=some (.cells X T (0,0))
 y:w1.heap[B+1]?=some (.cells Y T (0,0))
 z:w1.heap[B+1+1]?=some (.cells Z U (0,0))
theorem Vx.mk'(w:World)(X Y Z:Array Value)(T U:TypeId):Vx w.heap.size w (((w.alloc (.cells X T)).alloc (.cells Y T)).alloc (.cells Z U)) X Y Z T U:=by
 have b1:=(jN w.heap.size w).alloc (jO _) (.cells X T);have b2:=b1.alloc (by simp) (.cells Y T);refine⟨b2.alloc (by simp;omega) _,xx (xx (xN rfl)),xx (xN (by simp)),xN (by simp)⟩
theorem Vx.keep {B:Nat}{w w1 w2:World}{X Y Z:Array Value}{T U:TypeId}(h:Vx B w w1 X Y Z T U)(hB:B≤w1.heap.size)(hb:Below w1.heap.size w1 w2):Vx B w w2 X Y Z T U:=
 ⟨h.bel.trans (hb.mono hB),xK hb (lt_of_heap h.x) h.x,xK hb (lt_of_heap h.y) h.y,xK hb (lt_of_heap h.z) h.z⟩
structure jek(B:Nat)(w w1:World)(X Y:Array Value)(T:TypeId):Prop where
 bel:Below B w w1
 x:w1.heap[B]?=some (.cells X T (0,0))
 y:w1.heap[B+1]?=some (.cells Y T (0,0))
theorem jek.mk'(w:World)(X Y:Array Value)(T:TypeId):jek w.heap.size w ((w.alloc (.cells X T)).alloc (.cells Y T)) X Y T:=by
 have b1:=(jN w.heap.size w).alloc (jO _) (.cells X T);exact⟨b1.alloc (by simp) _,xx (xN rfl),xN (by simp)⟩
theorem jek.keep {B:Nat}{w w1 w2:World}{X Y:Array Value}{T:TypeId}(h:jek B w w1 X Y T)(hB:B≤w1.heap.size)(hb:Below w1.heap.size w1 w2):jek B w w2 X Y T:=
 ⟨h.bel.trans (hb.mono hB),xK hb (lt_of_heap h.x) h.x,xK hb (lt_of_heap h.y) h.y⟩
theorem results_cell_tmp {P:Program}{fn:Func}{p q:Tmp}{ty:TypeId}(h:fn.results= #[.cell p ty,.tmp q])(tmps:Array Value)(w:World)(g:Nat)(t:TypeId)(cs:Array Value)(fr:Nat×Nat)(d:TypeDesc)(v:Value)
 (hp:tmps.getD p undef=.pointer (some ⟨g,0,none⟩)) (hq:tmps.getD q undef=v) (hg:w.heap[g]?=some (.cells cs t fr))
 (hu:P.underlying ty=some d) (hd:(match d with| .struct _| .array _ _=>true|_=>false)=true) (hi:(P.info? ty).map (·.size)=some cs.size):
 (results fn tmps).run P w=.ok (.tuple #[.agg cs,v]) w:=by
 have hp':tmps[p]?.getD undef=.pointer (some ⟨g,0,none⟩):=by simpa using hp
 have hq':tmps[q]?.getD undef=v:=by simpa using hq
 simp [results,h,hp',hq',asAddr,run_loadVar_row w g t ty cs fr d hg hu hd hi]
theorem zH(o1 o2:Option Addr)(n1 c1 n2 c2:Nat):(#[Value.slice o1 n1 c1,Value.slice o2 n2 c2]:Array Value).all (·.oneCell')=true:=by simp [Value.oneCell']
def ym:Value→Bool
 | .int _ _=>false
 |_=>true
theorem yL:(#[Value.slice none 0 0,Value.slice none 0 0]:Array Value).all ym=true:=by simp [ym]
theorem LimbsAt.spared {w w1:World}{oc:Option Addr}{L:List Nat}{B:Nat}{cs:Array Value}{t:TypeId}{fr:Nat×Nat}(h:LimbsAt w oc L)(hb:w.heap[B]?=some (.cells cs t fr))(hn:cs.all ym=true)(ho:xp B w w1):LimbsAt w1 oc L:=⟨fun i hi=>by
 obtain⟨a,h1,h2,h3⟩:=h.cells i hi;have hne:(a.add i).block≠B:=by
  intro he;unfold World.cell? at h3;rw [he,hb]at h3;simp only at h3;split at h3;·cases h3
  ·obtain⟨hlt,hv⟩:=vP.1 h3;rw [Array.all_eq_true]at hn;have:=hn _ hlt;rw [hv]at this;cases this
 refine⟨a,h1,by rw [ho.size];exact h2,?_⟩;rw [qh (w:=w) (ho.block _ hne)];exact h3⟩
end Go.Proofs.YtnohcdpnnhmpfaaGreatDoor
namespace Go.Proofs.YtnohcdpnnhmpfaaGreatDoor
open Go.RowKit Tryz ML FM
theorem YP:(prog.info? 5).map (·.size)=some 1:=by kernel_rfl
theorem yH(D:Bytes):(Lib.byteCells D).length=D.length:=by simp [Lib.byteCells]
theorem zJ(R:Bytes):(ByteArray.mk R.toArray).size=R.length:=by simp [ByteArray.size]
theorem Xj(R:Bytes)(k:Nat):(ByteArray.mk R.toArray).extract k R.length=⟨(R.drop k).toArray⟩:=by
 rw [Lib.extract_eq];congr 1;simp;rw [jc (by simp)]
theorem Xh {a w w':World}{row:Option Nat}(h:a.grownBy w row)(k:w.grownBy w' row):a.grownBy w' row:=
 ⟨k.os.trans h.os,k.tape.trans h.tape,k.output.trans h.output,jU h.size k.size,fun i hi hr=>(k.block i (jV hi h.size) hr).trans (h.block i hi hr)⟩
theorem zP {P:Program}{w:World}{ops:Array Oper}{rest:List Oper}{o:Oper}{a:Act}{Q:Exit→Act→World→Prop}(hgd:o.guard=none)(x:Operand)(src dst e:TypeId)
 (ho:o.op=.convert src dst x) (hs:P.underlying src=some (.slice e)) (he:P.underlying e=some (.int .u8)) (hd:P.underlying dst=some .string)
 (g cap n:Nat) (l:Bytes) (hn:n=l.length) (hx:a.eval x=.slice (some ⟨g,0,none⟩) n cap) (hc:w.rangeAt g 0 (Lib.byteCells l))
 (h:wpList P ops Q rest (a.put o.dst (.string ⟨l.toArray⟩)) w):wpList P ops Q (o::rest) a w:=by
 subst hn;refine wpList_plain hgd fun K hK=>?_
 have hrun:=run_convert_bytes_back (P:=P) w src dst e ⟨g,0,none⟩ cap l hs he hd (fun j hj=>by
  have:=hc j (.int .u8 (l[j].toNat:Int)) (by simp [Lib.byteCells,hj]);rw [show(⟨g,0,none⟩:Addr).add j=⟨g,0+j,none⟩by unfold Addr.add;split<;>simp_all];exact this)
 unfold Oper.wp;simp [execOp,ho,hx,hrun,Result.andThen];exact hK _ _ h
theorem YU:(prog.info? 5).map (fun i=>(i.zero,i.size,i.bytes))=some (some (.int .u8 0),1,1):=by kernel_rfl
theorem Vl {w:World}{b:Nat}{l:List Value}{t:TypeId}(h:w.heap[b]?=some (.cells l.toArray t (0,0))):w.rangeAt b 0 l:=fun j v hj=>by
 rw [js,jM w b j _ _ _ h];simpa using hj
theorem Qx(A B:Bytes):ByteArray.mk A.toArray++ByteArray.mk B.toArray=ByteArray.mk (A++B).toArray:=by
 apply ByteArray.ext;simp
end Go.Proofs.YtnohcdpnnhmpfaaGreatDoor
namespace Go.Proofs.YtnohcdpnnhmpfaaGreatDoor
open Go.RowKit Tryz ML ND FM
def jea(n:Nat):Bytes:=(dig n).reverse.map fun d=>UInt8.ofNat (d+48)
def Qj(n:Nat):Bytes:=if n=0 then [48]else jea n
theorem jaq(n:Nat):(jea n).length=(dig n).length:=by simp [jea]
def zQ(F:Bytes)(m:Nat):Bytes:=List.replicate m 0++F.drop m
theorem YC(F:Bytes)(m:Nat)(h:m≤F.length):(zQ F m).length=F.length:=by simp [zQ];omega
theorem jag(F:Bytes)(m:Nat)(h:m<F.length):(zQ F (m+1)).set m F[m]=zQ F m:=by
 unfold zQ;rw [kh h,List.replicate_succ',kS,List.set_append_right _ _ (by simp)];simp
theorem jbi(n:Nat):madeCells #[Value.int .u8 0] n=(Lib.byteCells (List.replicate n 0)).toArray:=by
 unfold madeCells Lib.byteCells;apply Array.ext;·simp
 ·intro i h1 h2;simp [Nat.mod_one]
theorem jca {w:World}{b:Nat}{L:Bytes}{T:TypeId}(h:w.heap[b]?=some (.cells (Lib.byteCells L).toArray T (0,0)))(i:Nat)(c:UInt8):(w.setCell ⟨b,i,none⟩ (.int .u8 (c.toNat:Int))).heap[b]?=some (.cells (Lib.byteCells (L.set i c)).toArray T (0,0)):=by
 rw [jd w b i _ _ _ h];congr 2;simp [Lib.byteCells,List.map_set]
theorem jbx {w:World}{b:Nat}{L:Bytes}{T:TypeId}(h:w.heap[b]?=some (.cells (Lib.byteCells L).toArray T (0,0)))(i:Nat)(hi:i<L.length): ∃v,w.cell? ⟨b,i,none⟩=some v:=by
 rw [jM w b i _ _ _ h];exact⟨_,by simp [Lib.byteCells,hi];rfl⟩
def dv(F:Bytes):Nat:=F.foldl (fun k c=>10*k+(c.toNat-48)) 0
def DigsB(F:Bytes):Prop:= ∀c∈F,48≤c.toNat∧c.toNat≤57
def jlR(F:Bytes):Bool:=decide (F≠ [])&&F.all (fun c=>decide (48≤c.toNat∧c.toNat≤57))&&(decide (F.getD 0 0≠48)||decide (F.length=1))
def digsOf(F:Bytes):List Nat:=F.reverse.map fun c=>c.toNat-48
end Go.Proofs.YtnohcdpnnhmpfaaGreatDoor
namespace Go.Proofs.YtnohcdpnnhmpfaaGreatDoor
open Go.RowKit Tryz ML FM
end Go.Proofs.YtnohcdpnnhmpfaaGreatDoor
