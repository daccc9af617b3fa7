/-
  Rows of ints in memory: what an argument reads as, what an own row gives; the plain law of digits with it.
  Rows of ints in memory: what an argument reads as, what an own row gives; the plain law of digits with it.
  The boxes of struct arguments and of a struct result; results that lie in memory; rows beside a block without ints.
  Own rows whose block holds cells of one kind only (also behind the row's end): append; what lies in cells of another kind is as it was.
-/
import Derived.Test.YtnohcdpnnhmpfaaGreatDoorK01
import Derived.Test.YtnohcdpnnhmpfaaGreatDoorK02
import Derived.Laws.AppendOwn
import Derived.Laws.Rows
import Derived.Deep.AppendLies
set_option linter.unusedVariables false
set_option linter.unusedSimpArgs false
namespace Go.Proofs.YtnohcdpnnhmpfaaGreatDoor
open Go.RowKit ML
def nvals(L:List Nat):List Value:=L.map fun d:Nat=>Value.int .i64 (d:Int)
def dAt(L:List Nat)(i:Nat):Nat:=L.getD i 0
theorem addr_block(a:Addr)(i:Nat):(a.add i).block=a.block:=by unfold Addr.add;split<;>rfl
structure IntsAt(w:World)(oa:Option Addr)(L:List Nat):Prop where
 cells: ∀i (h:i<L.length),∃a,oa=some a∧a.block<w.heap.size∧w.cell? (a.add i)=some (.int .i64 (L[i]:Int))
namespace IntsAt
variable {w w1:World} {oa:Option Addr} {L:List Nat}
end IntsAt
end Go.Proofs.YtnohcdpnnhmpfaaGreatDoor
namespace Go.Proofs.YtnohcdpnnhmpfaaGreatDoor
open Go.RowKit ML
def uvals(L:List Nat):List Value:=L.map fun d:Nat=>Value.int .u32 (d:Int)
def lAt(L:List Nat)(i:Nat):Nat:=L.getD i 0
theorem length_uvals(L:List Nat):(uvals L).length=L.length:=by simp [uvals]
theorem uvals_append(A B:List Nat):uvals A++uvals B=uvals (A++B):=by simp [uvals]
theorem uvals_one(L:List Nat): ∀v∈uvals L,v.oneCell'=true:=by
 intro v hv;simp only [uvals,List.mem_map]at hv;obtain⟨x,_,rfl⟩:=hv;rfl
theorem addr_block'(a:Addr)(i:Nat):(a.add i).block=a.block:=by unfold Addr.add;split<;>rfl
structure LimbsAt(w:World)(oa:Option Addr)(L:List Nat):Prop where
 cells: ∀i (h:i<L.length),∃a,oa=some a∧a.block<w.heap.size∧w.cell? (a.add i)=some (.int .u32 (L[i]:Int))
namespace LimbsAt
variable {w w1:World} {oa:Option Addr} {L:List Nat}
theorem below(h:LimbsAt w oa L)(hb:Below w.heap.size w w1):LimbsAt w1 oa L:=⟨fun i hi=>by
 obtain⟨a,h1,h2,h3⟩:=h.cells i hi;exact⟨a,h1,Nat.lt_of_lt_of_le h2 hb.size,by rw [hb.cell (by rw [addr_block'];exact h2)];exact h3⟩⟩
theorem take(h:LimbsAt w oa L)(k:Nat):LimbsAt w oa (L.take k):=⟨fun i hi=>by
 have hi2:i<L.length:=by rw [List.length_take]at hi;omega
 obtain⟨a,h1,h2,h3⟩:=h.cells i hi2;exact⟨a,h1,h2,by rw [h3];simp⟩⟩
theorem nil:LimbsAt w none []:=⟨fun i hi=>by simp at hi⟩
theorem get(h:LimbsAt w oa L)(i:Nat)(hi:i<L.length): ∃a,oa=some a∧w.cell? (a.add i)=some (.int .u32 ((L.getD i 0:Nat):Int)):=by
 obtain⟨a,h1,_,h3⟩:=h.cells i hi;exact⟨a,h1,by rw [h3];simp [List.getD_eq_getElem?_getD,hi]⟩
end LimbsAt
theorem add_cell'(g i:Nat):(⟨g,0,none⟩:Addr).add i=⟨g,i,none⟩:=by unfold Addr.add;split<;>simp_all
theorem limbsAt_own {w:World}{base:Nat}{e:TypeId}{v:Value}{n:Nat}{L:List Nat}(h:w.ownsRow base e 1 v n (uvals L)): ∃oa cap,v=.slice oa L.length cap∧L.length≤cap∧(∀a,oa=some a→base≤a.block)∧LimbsAt w oa L:=by
 have hl:L.length=n:=by have:=h.1;rw [length_uvals]at this;omega
 rcases h.2 with⟨hv,h0⟩|⟨g,cap,cur,hv,hb,hg,hnc,_,hc,ht⟩
 ·have:L= []:=List.length_eq_zero_iff.1 (by omega);subst this;exact⟨none,0,hv,Nat.le_refl _,(fun a h=>by cases h),LimbsAt.nil⟩
 ·refine⟨some ⟨g,0,none⟩,cap,by rw [hl];exact hv,by rw [hl];exact hnc,(fun a h=>by cases h;exact hb),⟨fun i hi=>⟨_,rfl,lt_of_heap hg,?_⟩⟩⟩;have hx:=h.cells (g:=g) (by rw [hv];rfl) i (.int .u32 (L[i]:Int)) (by simp [uvals,hi]);exact hx
theorem limbsAt_block {w:World}{g:Nat}{t:TypeId}{cs:Array Value}{L:List Nat}(h:w.heap[g]?=some (.cells cs t (0,0)))(hc:cs=(uvals L).toArray):LimbsAt w (some ⟨g,0,none⟩) L:=⟨fun i hi=>by
 refine⟨_,rfl,lt_of_heap h,?_⟩;rw [add_cell',cell_of_row w g i _ _ _ h,hc];simp [uvals,hi]⟩
end Go.Proofs.YtnohcdpnnhmpfaaGreatDoor
namespace Go.Proofs.YtnohcdpnnhmpfaaGreatDoor
open Go.RowKit ML
theorem undrew {w w2:World}(h:Below w.drew.heap.size w.drew w2):Below w.heap.size w w2:=⟨h.os,h.tape,h.output,h.size,h.block⟩
structure Box3(B:Nat)(w w1:World)(X Y Z:Array Value)(T U:TypeId):Prop where
 bel:Below B w w1
 x:w1.heap[B]?=some (.cells X T (0,0))
 y:w1.heap[B+1]?=some (.cells Y T (0,0))
 z:w1.heap[B+1+1]?=some (.cells Z U (0,0))
theorem Box3.mk'(w:World)(X Y Z:Array Value)(T U:TypeId):Box3 w.heap.size w (((w.alloc (.cells X T)).alloc (.cells Y T)).alloc (.cells Z U)) X Y Z T U:=by
 have b1:=(Below.refl w.heap.size w).alloc (Nat.le_refl _) (.cells X T);have b2:=b1.alloc (by simp) (.cells Y T);refine⟨b2.alloc (by simp;omega) _,heap_lt (heap_lt (heap_at rfl)),heap_lt (heap_at (by simp)),heap_at (by simp)⟩
theorem Box3.keep {B:Nat}{w w1 w2:World}{X Y Z:Array Value}{T U:TypeId}(h:Box3 B w w1 X Y Z T U)(hB:B≤w1.heap.size)(hb:Below w1.heap.size w1 w2):Box3 B w w2 X Y Z T U:=
 ⟨h.bel.trans (hb.mono hB),bel_keep hb (lt_of_heap h.x) h.x,bel_keep hb (lt_of_heap h.y) h.y,bel_keep hb (lt_of_heap h.z) h.z⟩
structure Box2(B:Nat)(w w1:World)(X Y:Array Value)(T:TypeId):Prop where
 bel:Below B w w1
 x:w1.heap[B]?=some (.cells X T (0,0))
 y:w1.heap[B+1]?=some (.cells Y T (0,0))
theorem Box2.mk'(w:World)(X Y:Array Value)(T:TypeId):Box2 w.heap.size w ((w.alloc (.cells X T)).alloc (.cells Y T)) X Y T:=by
 have b1:=(Below.refl w.heap.size w).alloc (Nat.le_refl _) (.cells X T);exact⟨b1.alloc (by simp) _,heap_lt (heap_at rfl),heap_at (by simp)⟩
theorem Box2.keep {B:Nat}{w w1 w2:World}{X Y:Array Value}{T:TypeId}(h:Box2 B w w1 X Y T)(hB:B≤w1.heap.size)(hb:Below w1.heap.size w1 w2):Box2 B w w2 X Y T:=
 ⟨h.bel.trans (hb.mono hB),bel_keep hb (lt_of_heap h.x) h.x,bel_keep hb (lt_of_heap h.y) h.y⟩
theorem results_cell_tmp {P:Program}{fn:Func}{p q:Tmp}{ty:TypeId}(h:fn.results= #[.cell p ty,.tmp q])(tmps:Array Value)(w:World)(g:Nat)(t:TypeId)(cs:Array Value)(fr:Nat×Nat)(d:TypeDesc)(v:Value)
 (hp:tmps.getD p undef=.pointer (some ⟨g,0,none⟩)) (hq:tmps.getD q undef=v) (hg:w.heap[g]?=some (.cells cs t fr))
 (hu:P.underlying ty=some d) (hd:(match d with| .struct _| .array _ _=>true|_=>false)=true) (hi:(P.info? ty).map (·.size)=some cs.size):
 (results fn tmps).run P w=.ok (.tuple #[.agg cs,v]) w:=by
 have hp':tmps[p]?.getD undef=.pointer (some ⟨g,0,none⟩):=by simpa using hp
 have hq':tmps[q]?.getD undef=v:=by simpa using hq
 simp [results,h,hp',hq',asAddr,run_loadVar_row w g t ty cs fr d hg hu hd hi]
theorem two_slices(o1 o2:Option Addr)(n1 c1 n2 c2:Nat):(#[Value.slice o1 n1 c1,Value.slice o2 n2 c2]:Array Value).all (·.oneCell')=true:=by simp [Value.oneCell']
def noInt:Value→Bool
 | .int _ _=>false
 |_=>true
theorem two_noInt:(#[Value.slice none 0 0,Value.slice none 0 0]:Array Value).all noInt=true:=by simp [noInt]
theorem LimbsAt.spared {w w1:World}{oc:Option Addr}{L:List Nat}{B:Nat}{cs:Array Value}{t:TypeId}{fr:Nat×Nat}(h:LimbsAt w oc L)(hb:w.heap[B]?=some (.cells cs t fr))(hn:cs.all noInt=true)(ho:Only B w w1):LimbsAt w1 oc L:=⟨fun i hi=>by
 obtain⟨a,h1,h2,h3⟩:=h.cells i hi;have hne:(a.add i).block≠B:=by
  intro he;unfold World.cell? at h3;rw [he,hb]at h3;simp only at h3;split at h3;·cases h3
  ·obtain⟨hlt,hv⟩:=Array.getElem?_eq_some_iff.1 h3;rw [Array.all_eq_true]at hn;have:=hn _ hlt;rw [hv]at this;cases this
 refine⟨a,h1,by rw [ho.size];exact h2,?_⟩;rw [World.cell?_of_block (w:=w) (ho.block _ hne)];exact h3⟩
structure GRow(good:Value→Bool)(w:World)(base:Nat)(e:TypeId)(size:Nat)(v:Value)(n:Nat)(xs:List Value):Prop where
 own:w.ownsRow base e size v n xs
 all: ∀g cur t fr,v.ownBlock=some g→w.heap[g]?=some (.cells cur t fr)→ ∀u∈cur.toList,good u=true
namespace GRow
variable {good:Value→Bool} {w w1:World} {base:Nat} {e:TypeId} {size n:Nat} {v:Value} {xs:List Value}
theorem nil:GRow good w base e size (.slice none 0 0) 0 []:=⟨World.ownsRow_nil w base e size,fun g cur t fr h=>by cases h⟩
theorem kept {row:Option Nat}(h:GRow good w base e size v n xs)(hg:w.grownBy w1 row)(hne:v.ownBlock=none∨v.ownBlock≠row):GRow good w1 base e size v n xs:=⟨h.own.kept hg hne,fun g cur t fr hv hc=>by
 have hlt:=(h.own.lt g hv).2;refine h.all g cur t fr hv ?_;rw [←hg.block g hlt (by rcases hne with h0|h0<;>rw [hv]at h0<;>simp_all)];exact hc⟩
theorem below(h:GRow good w base e size v n xs)(hb:Below w.heap.size w w1):GRow good w1 base e size v n xs:=h.kept (row:=none) ⟨hb.os,hb.tape,hb.output,hb.size,fun k hk _=>hb.block k hk⟩ (by cases v.ownBlock<;>simp)
end GRow
theorem good_zero {good:Value→Bool}{z:Array Value}(hz: ∀u∈z.toList,good u=true)(n:Nat): ∀u∈(Builtin.zeroCells z n).toList,good u=true:=by
 intro u hu;rw [Array.mem_toList_iff]at hu;unfold Builtin.zeroCells at hu;simp at hu;obtain⟨x,hx,rfl⟩:=hu;have h0:0<z.size:=Nat.pos_of_ne_zero (fun e=>by rw [e]at hx;simp at hx);have h1:=Nat.mod_lt x h0;rw [getElem!_pos z (x%z.size) h1];exact hz _ (by rw [Array.mem_toList_iff];exact Array.getElem_mem h1)
theorem run_append_good {P:Program}{good:Value→Bool}(w:World)(t ty:TypeId)(base:Nat)(e:TypeId)(i:TypeInfo)(z:Value)(size bytes:Nat)(ht:P.underlying t=some (.slice e))(hi:P.info? e=some i)(hz:i.zero=some z)
 (hsize:i.size=size) (hby:i.bytes=bytes) (hzs:z.cells.size=size) (hsz:0<size) (hzg: ∀u∈z.cells.toList,good u=true)
 (v:Value) (n:Nat) (xs:List Value) (hown:GRow good w base e size v n xs)
 (ad:Addr) (m c:Nat) (news:List Value) (hl:news.length=m*size) (hnews: ∀j u,news[j]?=some u→w.cell? (ad.add j)=some u) (h1: ∀u∈news,u.oneCell'=true) (hng: ∀u∈news,good u=true)
 (hm:v=.slice none 0 0→0<m) (h63:n+m≤maxLen) (hbytes:(n+m)*bytes≤140737488355328) (hbase:base≤w.heap.size) (H:Nat) (hH:w.heap.size=H):
 ∃g cap w',(Builtin.append_ #[t,t] ty #[v,.slice (some ad) m c]).run P w=.ok (.slice (some ⟨g,0,none⟩) (n+m) cap) w'∧
  GRow good w' base e size (.slice (some ⟨g,0,none⟩) (n+m) cap) (n+m) (xs++news)∧w.grownBy w' v.ownBlock∧(v.ownBlock=some g∨g=H)∧g<w'.heap.size:=by
 subst hsize;subst hby;subst hH;have hsmall:n+m≤9223372036854775807:=by simp only [maxLen]at h63;omega
 have hxl:=hown.own.1;have hlen:(xs++news).length=(n+m)*i.size:=by rw [List.length_append,hxl,hl,Nat.add_mul]
 have grown:(∀u∈xs,good u=true)→ ∀(old:Nat),old<n+m→ ∀(row:Option Nat),
  GRow good (w.drew.alloc (.cells (xs.toArray++news.toArray++Builtin.zeroCells z.cells (grownCap w (n+m) old e-(n+m))) e)) base e i.size
   (.slice (some ⟨w.heap.size,0,none⟩) (n+m) (grownCap w (n+m) old e)) (n+m) (xs++news)∧
  w.grownBy (w.drew.alloc (.cells (xs.toArray++news.toArray++Builtin.zeroCells z.cells (grownCap w (n+m) old e-(n+m))) e)) row∧w.heap.size<(w.drew.alloc (.cells (xs.toArray++news.toArray++Builtin.zeroCells z.cells (grownCap w (n+m) old e-(n+m))) e)).heap.size:=by
  intro hxg old ho row;have hge:=grownCap_ge w (n+m) old e;have hcm:grownCap w (n+m) old e≤maxLen:=grownCap_le_maxLen w (n+m) old e h63;refine⟨⟨⟨hlen,.inr ⟨w.heap.size,_,_,rfl,hbase,heap_alloc_new w.drew _,hge,hcm,?_,?_⟩⟩,?_⟩,⟨rfl,rfl,rfl,by simp,fun k hk h=>(World.grownBy_alloc w.drew _ row).block k hk h⟩,by simp⟩
  ·simp only [Array.size_append,List.size_toArray,size_zeroCells,hzs,hxl,hl,←Nat.add_mul];congr 1;omega
  ·simp only [Array.toList_append,List.append_assoc];rw [←List.append_assoc,←hlen];exact List.take_left
  ·intro g cur t' fr hv hc;have hg:w.heap.size=g:=by simpa [Value.ownBlock] using hv
   subst hg;have hn:=heap_alloc_new w.drew (.cells (xs.toArray++news.toArray++Builtin.zeroCells z.cells (grownCap w (n+m) old e-(n+m))) e);have he:(w.drew).heap.size=w.heap.size:=rfl;rw [he]at hn;rw [hn]at hc;injection hc with hc;injection hc with hc;subst hc;intro u hu;simp only [Array.toList_append,List.mem_append]at hu;rcases hu with(hu|hu)|hu;·exact hxg u (by simpa using hu)
   ·exact hng u (by simpa using hu)
   ·exact good_zero hzg _ u hu
 rcases hown.own.2 with⟨rfl,rfl⟩|⟨g,cap,cur,rfl,hbg,hg,hnc,hcm,hcs,htake⟩
 ·have hx:xs= []:=List.eq_nil_of_length_eq_zero (by simpa using hxl);subst hx;have hm0:=hm rfl;have hr:=run_append_nil (P:=P) w t ty e i z ht hi hz ad m c news hl hnews (by omega) (by omega) (by have hb:=hbytes;simp only [Nat.zero_add]at hb;omega);have hgr:=grown (fun u hu=>by cases hu) 0 (by omega) (Value.ownBlock (.slice none 0 0));simp only [Nat.zero_add,List.nil_append,Array.empty_append]at hgr ⊢;exact⟨_,_,_,hr,hgr.1,hgr.2.1,.inr rfl,hgr.2.2⟩
 ·have hcg:=hown.all g cur e (0,0) rfl hg;by_cases hroom:n+m≤cap
  ·have hfit:n*i.size+news.length≤cur.size:=by rw [hl,hcs,←Nat.add_mul];exact Nat.mul_le_mul_right _ hroom
   have hr:=run_append_room (P:=P) w t ty e i ht hi g n cap cur hg ad m c news hl hnews h1 hroom hfit;have hgl:g<w.heap.size:=lt_of_heap hg;have hset:=setRow_heap w g cur (cur.toList.take (n*i.size)++news++cur.toList.drop (n*i.size+news.length)).toArray e (0,0) hg;refine⟨g,cap,_,hr,⟨⟨hlen,.inr ⟨g,cap,_,rfl,hbg,hset,hroom,hcm,?_,?_⟩⟩,?_⟩,⟨rfl,rfl,rfl,by simp,fun k _ hk=>setRow_other w g k _ (fun e=>hk (by simp [Value.ownBlock,e]))⟩,.inl rfl,lt_of_heap hset⟩
   ·simp only [List.size_toArray,List.length_append,List.length_take,List.length_drop,Array.length_toList];omega
   ·rw [htake,←hlen];exact List.take_left
   ·intro g' cur' t' fr hv hc;have hg':g=g':=by simpa [Value.ownBlock] using hv
    subst hg';rw [hset]at hc;injection hc with hc;injection hc with hc;subst hc;intro u hu;simp only [List.mem_append]at hu;rcases hu with(hu|hu)|hu;·exact hcg u (List.mem_of_mem_take hu)
    ·exact hng u hu
    ·exact hcg u (List.mem_of_mem_drop hu)
  ·have holds: ∀j u,xs[j]?=some u→w.cell? ((⟨g,0,none⟩:Addr).add j)=some u:=hown.own.cells (g:=g) rfl;have hr:=run_append_grow (P:=P) w t ty e i z ht hi hz ⟨g,0,none⟩ n cap xs hxl holds ad m c news hl hnews (by omega) (by omega) (growslice_fits (by omega) hbytes);have hxg: ∀u∈xs,good u=true:=fun u hu=>hcg u (by rw [←htake]at hu;exact List.mem_of_mem_take hu);have hgr:=grown hxg cap (by omega) (Value.ownBlock (.slice (some ⟨g,0,none⟩) n cap));exact⟨_,_,_,hr,hgr.1,hgr.2.1,.inr rfl,hgr.2.2⟩
theorem wp_append_good {P:Program}{good:Value→Bool}(w:World){o:Oper}{a:Act}{K:Act→World→Prop}{Q:Exit→Act→World→Prop}(s x:Operand)(t:TypeId)
 (ho:o.op=.call {callee:=.builtin .append,args:= #[s,x],argTypes:= #[t,t]})
 (base:Nat) (e:TypeId) (i:TypeInfo) (z:Value) (size bytes:Nat) (ht:P.underlying t=some (.slice e)) (hi:P.info? e=some i) (hz:i.zero=some z)
 (hsize:i.size=size) (hby:i.bytes=bytes) (hzs:z.cells.size=size) (hsz:0<size) (hzg: ∀u∈z.cells.toList,good u=true)
 (v:Value) (n:Nat) (xs:List Value) (hs:a.eval s=v) (hown:GRow good w base e size v n xs)
 (ad:Addr) (m c:Nat) (news:List Value) (hx:a.eval x=.slice (some ad) m c) (hl:news.length=m*size) (hnews: ∀j u,news[j]?=some u→w.cell? (ad.add j)=some u) (h1: ∀u∈news,u.oneCell'=true) (hng: ∀u∈news,good u=true)
 (hm:v=.slice none 0 0→0<m) (h63:n+m≤maxLen) (hbytes:(n+m)*bytes≤140737488355328) (hbase:base≤w.heap.size) (H:Nat) (hH:w.heap.size=H)
 (h: ∀g cap w',GRow good w' base e size (.slice (some ⟨g,0,none⟩) (n+m) cap) (n+m) (xs++news)→w.grownBy w' v.ownBlock→(v.ownBlock=some g∨g=H)→g<w'.heap.size→K (a.put o.dst (.slice (some ⟨g,0,none⟩) (n+m) cap)) w'):o.wp P a w K Q:=by
 obtain⟨g,cap,w',hr,h2,h3,h4,h5⟩:=run_append_good (P:=P) w t o.type base e i z size bytes ht hi hz hsize hby hzs hsz hzg v n xs hown ad m c news hl hnews h1 hng hm h63 hbytes hbase H hH;unfold Oper.wp execOp;simp only [ho,resolve,invoke,builtin,Sem.run_bind,Sem.run_pure,Result.andThen_ok,List.map_toArray,List.map_cons,List.map_nil,hs,hx,hr];exact h g cap w' h2 h3 h4 h5
theorem wpList_append_good {P:Program}{good:Value→Bool}(w:World){ops:Array Oper}{rest:List Oper}{o:Oper}{a:Act}{Q:Exit→Act→World→Prop}(hgd:o.guard=none)(s x:Operand)(t:TypeId)
 (ho:o.op=.call {callee:=.builtin .append,args:= #[s,x],argTypes:= #[t,t]})
 (base:Nat) (e:TypeId) (i:TypeInfo) (z:Value) (size bytes:Nat) (ht:P.underlying t=some (.slice e)) (hi:P.info? e=some i) (hz:i.zero=some z)
 (hsize:i.size=size) (hby:i.bytes=bytes) (hzs:z.cells.size=size) (hsz:0<size) (hzg: ∀u∈z.cells.toList,good u=true)
 (v:Value) (n:Nat) (xs:List Value) (hs:a.eval s=v) (hown:GRow good w base e size v n xs)
 (ad:Addr) (m c:Nat) (news:List Value) (hx:a.eval x=.slice (some ad) m c) (hl:news.length=m*size) (hnews: ∀j u,news[j]?=some u→w.cell? (ad.add j)=some u) (h1: ∀u∈news,u.oneCell'=true) (hng: ∀u∈news,good u=true)
 (hm:v=.slice none 0 0→0<m) (h63:n+m≤maxLen) (hbytes:(n+m)*bytes≤140737488355328) (hbase:base≤w.heap.size) (H:Nat) (hH:w.heap.size=H)
 (h: ∀g cap w',GRow good w' base e size (.slice (some ⟨g,0,none⟩) (n+m) cap) (n+m) (xs++news)→w.grownBy w' v.ownBlock→(v.ownBlock=some g∨g=H)→g<w'.heap.size→wpList P ops Q rest (a.put o.dst (.slice (some ⟨g,0,none⟩) (n+m) cap)) w'):wpList P ops Q (o::rest) a w:=
 wpList_plain hgd fun _ hK=>wp_append_good w s x t ho base e i z size bytes ht hi hz hsize hby hzs hsz hzg v n xs hs hown ad m c news hx hl hnews h1 hng hm h63 hbytes hbase H hH fun g cap w' h2 h3 h4 h5=>hK _ _ (h g cap w' h2 h3 h4 h5)
def noLimb:Value→Bool
 | .int .u32 _=>false
 |_=>true
end Go.Proofs.YtnohcdpnnhmpfaaGreatDoor
