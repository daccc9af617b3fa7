/- Rows of ints in memory: what an argument jpl as, what an own row gives; the plain law of digits with it. -/
import Derived.Test.YtnohcdpnnhmpfaaGreatDoorE01
import Derived.Test.YtnohcdpnnhmpfaaGreatDoorE02
import Derived.Laws.AppendOwn
import Derived.Deep.AppendLies
import Derived.Test.YtnohcdpnnhmpfaaGreatDoorChecked
import Derived.Lib.UnsafeStr
import Derived.Lib.BufferWrite
import Derived.Lib.SliceRun
import Derived.Laws.IdiomStrings
set_option linter.all false
namespace Go.Proofs.YtnohcdpnnhmpfaaGreatDoor
open Go.RowKit Tryz ML
def ym(L:E0):A0:=L.map fun d:Nat=>Value.int .i64 (d:Int)
def dAt(L:E0)(i:Nat):Nat:=L.getD i 0
theorem jfw(L:E0):(ym L).length=L.length:=by simp [ym]
theorem KI(A B:E0):ym A++ym B=ym (A++B):=by simp [ym]
theorem Ve(L:E0): ∀v∈ym L,v.oneCell'=true:=by
 intro v hv;simp only [ym,jo]at hv;obtain⟨x,_,rfl⟩:=hv;rfl
theorem yI(a:Addr)(i:Nat):(a.add i).block=a.block:=by unfold Addr.add;split<;>rfl
structure IntsAt(w:m0)(oa:s0)(L:E0):Prop where
 cells: ∀i (h:i<L.length),∃a,oa=some a∧a.block<w.heap.size∧w.cell? (a.add i)=some (.int .i64 (L[i]:Int))
namespace IntsAt
variable {w w1:m0} {oa:s0} {L:E0}
theorem below(h:IntsAt w oa L)(hb:O0 w.heap.size w w1):IntsAt w1 oa L:=⟨fun i hi=>by
 obtain⟨a,h1,h2,h3⟩:=h.cells i hi;exact⟨a,h1,jW h2 hb.size,by rw [hb.cell (by rw [yI];exact h2)];exact h3⟩⟩
theorem take(h:IntsAt w oa L)(k:Nat):IntsAt w oa (L.take k):=⟨fun i hi=>by
 have iG:i<L.length:=by rw [jf]at hi;omega
 obtain⟨a,h1,h2,h3⟩:=h.cells i iG;exact⟨a,h1,h2,by rw [h3];simp⟩⟩
theorem nil:IntsAt w none []:=⟨fun i hi=>by simp at hi⟩
theorem drew(h:IntsAt w oa L):IntsAt w.drew oa L:=⟨h.cells⟩
theorem get(h:IntsAt w oa L)(i:Nat)(hi:i<L.length): ∃a,oa=some a∧w.cell? (a.add i)=some (.int .i64 ((L.getD i 0:Nat):Int)):=by
 obtain⟨a,h1,_,h3⟩:=h.cells i hi;exact⟨a,h1,by rw [h3];simp [jV,hi]⟩
end IntsAt
theorem jnn(g i:Nat):(⟨g,0,none⟩:Addr).add i=⟨g,i,none⟩:=by unfold Addr.add;split<;>simp_all
theorem Vw {w:m0}{base:Nat}{e:o0}{v:n0}{n:Nat}{L:E0}(h:w.ownsRow base e 1 v n (ym L)): ∃oa cap,v=.slice oa L.length cap∧L.length≤cap∧(∀a,oa=some a→base≤a.block)∧IntsAt w oa L:=by
 have hl:L.length=n:=by have:=h.1;rw [jfw]at this;omega
 rcases h.2 with⟨hv,h0⟩|⟨g,cap,Es,hv,hb,hg,px,_,hc,ht⟩
 ·have:L= []:=kt.1 (by omega);subst this;exact⟨none,0,hv,jO _,(fun a h=>by cases h),IntsAt.nil⟩
 ·refine⟨some ⟨g,0,none⟩,cap,by rw [hl];exact hv,by rw [hl];exact px,(fun a h=>by cases h;exact hb),⟨fun i hi=>⟨_,rfl,xZ hg,?_⟩⟩⟩;have hx:=h.cells (g:=g) (by rw [hv];rfl) i (.int .i64 (L[i]:Int)) (by simp [ym,hi]);exact hx
theorem Ya {w:m0}{g:Nat}{t:o0}{cs:t0}{L:E0}(h:w.heap[g]?=some (.cells cs t (0,0)))(hc:cs=(ym L).toArray):IntsAt w (some ⟨g,0,none⟩) L:=⟨fun i hi=>by
 refine⟨_,rfl,xZ h,?_⟩;rw [jnn,jM w g i _ _ _ h,hc];simp [ym,hi]⟩
end Go.Proofs.YtnohcdpnnhmpfaaGreatDoor
namespace Go.Proofs.YtnohcdpnnhmpfaaGreatDoor
open Go.RowKit Tryz ML
def yQ(L:E0):A0:=L.map fun d:Nat=>Value.int .u32 (d:Int)
def lAt(L:E0)(i:Nat):Nat:=L.getD i 0
theorem Kj(L:E0):(yQ L).length=L.length:=by simp [yQ]
theorem Jj(A B:E0):yQ A++yQ B=yQ (A++B):=by simp [yQ]
theorem KX(L:E0): ∀v∈yQ L,v.oneCell'=true:=by
 intro v hv;simp only [yQ,jo]at hv;obtain⟨x,_,rfl⟩:=hv;rfl
theorem yo(a:Addr)(i:Nat):(a.add i).block=a.block:=by unfold Addr.add;split<;>rfl
structure LimbsAt(w:m0)(oa:s0)(L:E0):Prop where
 cells: ∀i (h:i<L.length),∃a,oa=some a∧a.block<w.heap.size∧w.cell? (a.add i)=some (.int .u32 (L[i]:Int))
namespace LimbsAt
variable {w w1:m0} {oa:s0} {L:E0}
theorem below(h:LimbsAt w oa L)(hb:O0 w.heap.size w w1):LimbsAt w1 oa L:=⟨fun i hi=>by
 obtain⟨a,h1,h2,h3⟩:=h.cells i hi;exact⟨a,h1,jW h2 hb.size,by rw [hb.cell (by rw [yo];exact h2)];exact h3⟩⟩
theorem take(h:LimbsAt w oa L)(k:Nat):LimbsAt w oa (L.take k):=⟨fun i hi=>by
 have iG:i<L.length:=by rw [jf]at hi;omega
 obtain⟨a,h1,h2,h3⟩:=h.cells i iG;exact⟨a,h1,h2,by rw [h3];simp⟩⟩
theorem nil:LimbsAt w none []:=⟨fun i hi=>by simp at hi⟩
theorem get(h:LimbsAt w oa L)(i:Nat)(hi:i<L.length): ∃a,oa=some a∧w.cell? (a.add i)=some (.int .u32 ((L.getD i 0:Nat):Int)):=by
 obtain⟨a,h1,_,h3⟩:=h.cells i hi;exact⟨a,h1,by rw [h3];simp [jV,hi]⟩
end LimbsAt
theorem Qf(g i:Nat):(⟨g,0,none⟩:Addr).add i=⟨g,i,none⟩:=by unfold Addr.add;split<;>simp_all
theorem XQ {w:m0}{base:Nat}{e:o0}{v:n0}{n:Nat}{L:E0}(h:w.ownsRow base e 1 v n (yQ L)): ∃oa cap,v=.slice oa L.length cap∧L.length≤cap∧(∀a,oa=some a→base≤a.block)∧LimbsAt w oa L:=by
 have hl:L.length=n:=by have:=h.1;rw [Kj]at this;omega
 rcases h.2 with⟨hv,h0⟩|⟨g,cap,Es,hv,hb,hg,px,_,hc,ht⟩
 ·have:L= []:=kt.1 (by omega);subst this;exact⟨none,0,hv,jO _,(fun a h=>by cases h),LimbsAt.nil⟩
 ·refine⟨some ⟨g,0,none⟩,cap,by rw [hl];exact hv,by rw [hl];exact px,(fun a h=>by cases h;exact hb),⟨fun i hi=>⟨_,rfl,xZ hg,?_⟩⟩⟩;have hx:=h.cells (g:=g) (by rw [hv];rfl) i (.int .u32 (L[i]:Int)) (by simp [yQ,hi]);exact hx
theorem Xj {w:m0}{g:Nat}{t:o0}{cs:t0}{L:E0}(h:w.heap[g]?=some (.cells cs t (0,0)))(hc:cs=(yQ L).toArray):LimbsAt w (some ⟨g,0,none⟩) L:=⟨fun i hi=>by
 refine⟨_,rfl,xZ h,?_⟩;rw [Qf,jM w g i _ _ _ h,hc];simp [yQ,hi]⟩
end Go.Proofs.YtnohcdpnnhmpfaaGreatDoor
namespace Go.Proofs.YtnohcdpnnhmpfaaGreatDoor
open Go.RowKit Tryz ML
theorem yq {w w2:m0}(h:O0 w.drew.heap.size w.drew w2):O0 w.heap.size w w2:=⟨h.os,h.tape,h.output,h.size,h.block⟩
structure Xp(B:Nat)(w w1:m0)(X Y Z:t0)(T U:o0):Prop where
 bel:O0 B w w1
 x:w1.heap[B]?=some (.cells X T (0,0))
 y:w1.heap[B+1]?=some (.cells Y T (0,0))
 z:w1.heap[B+1+1]?=some (.cells Z U (0,0))
theorem Xp.mk'(w:m0)(X Y Z:t0)(T U:o0):Xp w.heap.size w (((w.alloc (.cells X T)).alloc (.cells Y T)).alloc (.cells Z U)) X Y Z T U:=by
 have b1:=(jN w.heap.size w).alloc (jO _) (.cells X T);have b2:=b1.alloc (by simp) (.cells Y T);refine⟨b2.alloc (by simp;omega) _,yM (yM (xh rfl)),yM (xh (by simp)),xh (by simp)⟩
theorem Xp.keep {B:Nat}{w w1 w2:m0}{X Y Z:t0}{T U:o0}(h:Xp B w w1 X Y Z T U)(hB:B≤w1.heap.size)(hb:O0 w1.heap.size w1 w2):Xp B w w2 X Y Z T U:=
 ⟨h.bel.trans (hb.mono hB),xe hb (xZ h.x) h.x,xe hb (xZ h.y) h.y,xe hb (xZ h.z) h.z⟩
structure jfR(B:Nat)(w w1:m0)(X Y:t0)(T:o0):Prop where
 bel:O0 B w w1
 x:w1.heap[B]?=some (.cells X T (0,0))
 y:w1.heap[B+1]?=some (.cells Y T (0,0))
theorem jfR.mk'(w:m0)(X Y:t0)(T:o0):jfR w.heap.size w ((w.alloc (.cells X T)).alloc (.cells Y T)) X Y T:=by
 have b1:=(jN w.heap.size w).alloc (jO _) (.cells X T);exact⟨b1.alloc (by simp) _,yM (xh rfl),xh (by simp)⟩
theorem jfR.keep {B:Nat}{w w1 w2:m0}{X Y:t0}{T:o0}(h:jfR B w w1 X Y T)(hB:B≤w1.heap.size)(hb:O0 w1.heap.size w1 w2):jfR B w w2 X Y T:=
 ⟨h.bel.trans (hb.mono hB),xe hb (xZ h.x) h.x,xe hb (xZ h.y) h.y⟩
theorem results_cell_tmp {P:Program}{fn:Func}{p q:Tmp}{ty:o0}(h:fn.results= #[.cell p ty,.tmp q])(MI:t0)(w:m0)(g:Nat)(t:o0)(cs:t0)(fr:Nat×Nat)(d:TypeDesc)(v:n0)
 (hp:MI.getD p undef=.pointer (some ⟨g,0,none⟩)) (hq:MI.getD q undef=v) (hg:w.heap[g]?=some (.cells cs t fr))
 (hu:P.underlying ty=some d) (hd:(match d with| .struct _| .array _ _=>true|_=>false)=true) (hi:(P.info? ty).map (·.size)=some cs.size):
 (results fn MI).run P w=.ok (.tuple #[.agg cs,v]) w:=by
 have hp':MI[p]?.getD undef=.pointer (some ⟨g,0,none⟩):=by simpa using hp
 have hq':MI[q]?.getD undef=v:=by simpa using hq
 simp [results,h,hp',hq',asAddr,run_loadVar_row w g t ty cs fr d hg hu hd hi]
theorem ze(o1 o2:s0)(n1 c1 n2 c2:Nat):(#[Value.slice o1 n1 c1,Value.slice o2 n2 c2]:t0).all (·.oneCell')=true:=by simp [Value.oneCell']
def zE:n0→Bool
 | .int _ _=>false
 |_=>true
theorem yf:(#[Value.slice none 0 0,Value.slice none 0 0]:t0).all zE=true:=by simp [zE]
theorem LimbsAt.spared {w w1:m0}{oc:s0}{L:E0}{B:Nat}{cs:t0}{t:o0}{fr:Nat×Nat}(h:LimbsAt w oc L)(hb:w.heap[B]?=some (.cells cs t fr))(hn:cs.all zE=true)(ho:yG B w w1):LimbsAt w1 oc L:=⟨fun i hi=>by
 obtain⟨a,h1,h2,h3⟩:=h.cells i hi;have Cs:(a.add i).block≠B:=by
  intro he;unfold World.cell? at h3;rw [he,hb]at h3;simp only at h3;split at h3;·cases h3
  ·obtain⟨ns,hv⟩:=vt.1 h3;rw [Array.all_eq_true]at hn;have:=hn _ ns;rw [hv]at this;cases this
 refine⟨a,h1,by rw [ho.size];exact h2,?_⟩;rw [vA (w:=w) (ho.block _ Cs)];exact h3⟩
structure GRow(good:n0→Bool)(w:m0)(base:Nat)(e:o0)(size:Nat)(v:n0)(n:Nat)(xs:A0):Prop where
 own:w.ownsRow base e size v n xs
 all: ∀g Es t fr,v.ownBlock=some g→w.heap[g]?=some (.cells Es t fr)→ ∀u∈Es.toList,good u=true
namespace GRow
variable {good:n0→Bool} {w w1:m0} {base:Nat} {e:o0} {size n:Nat} {v:n0} {xs:A0}
theorem nil:GRow good w base e size (.slice none 0 0) 0 []:=⟨kg w base e size,fun g Es t fr h=>by cases h⟩
theorem kept {row:L0}(h:GRow good w base e size v n xs)(hg:w.grownBy w1 row)(Cs:v.ownBlock=none∨v.ownBlock≠row):GRow good w1 base e size v n xs:=⟨h.own.kept hg Cs,fun g Es t fr hv hc=>by
 have ns:=(h.own.lt g hv).2;refine h.all g Es t fr hv ?_;rw [←hg.block g ns (by rcases Cs with h0|h0<;>rw [hv]at h0<;>simp_all)];exact hc⟩
theorem below(h:GRow good w base e size v n xs)(hb:O0 w.heap.size w w1):GRow good w1 base e size v n xs:=h.kept (row:=none) ⟨hb.os,hb.tape,hb.output,hb.size,fun k hk _=>hb.block k hk⟩ (by cases v.ownBlock<;>simp)
end GRow
theorem jkL {good:n0→Bool}{z:t0}(hz: ∀u∈z.toList,good u=true)(n:Nat): ∀u∈(Builtin.zeroCells z n).toList,good u=true:=by
 intro u hu;rw [Array.mem_toList_iff]at hu;unfold Builtin.zeroCells at hu;simp at hu;obtain⟨x,hx,rfl⟩:=hu;have h0:0<z.size:=Nat.pos_of_ne_zero (fun e=>by rw [e]at hx;simp at hx);have h1:=qL x h0;rw [getElem!_pos z (x%z.size) h1];exact hz _ (by rw [Array.mem_toList_iff];exact Array.getElem_mem h1)
theorem jbJ {P:Program}{good:n0→Bool}(w:m0)(t ty:o0)(base:Nat)(e:o0)(i:TypeInfo)(z:n0)(size bytes:Nat)(ht:P.underlying t=some (.slice e))(hi:P.info? e=some i)(hz:i.zero=some z)
 (sz:i.size=size) (uM:i.bytes=bytes) (WI:z.cells.size=size) (Iu:0<size) (hzg: ∀u∈z.cells.toList,good u=true)
 (v:n0) (n:Nat) (xs:A0) (Nt:GRow good w base e size v n xs)
 (ad:Addr) (m c:Nat) (dt:A0) (hl:dt.length=m*size) (Nw: ∀j u,dt[j]?=some u→w.cell? (ad.add j)=some u) (h1: ∀u∈dt,u.oneCell'=true) (aZ: ∀u∈dt,good u=true)
 (hm:v=.slice none 0 0→0<m) (BZ:n+m≤maxLen) (iy:(n+m)*bytes≤140737488355328) (Av:base≤w.heap.size) (H:Nat) (hH:w.heap.size=H):
 ∃g cap w',(Builtin.append_ #[t,t] ty #[v,.slice (some ad) m c]).run P w=.ok (.slice (some ⟨g,0,none⟩) (n+m) cap) w'∧
  GRow good w' base e size (.slice (some ⟨g,0,none⟩) (n+m) cap) (n+m) (xs++dt)∧w.grownBy w' v.ownBlock∧(v.ownBlock=some g∨g=H)∧g<w'.heap.size:=by
 subst sz;subst uM;subst hH;have hsmall:n+m≤9223372036854775807:=by simp only [maxLen]at BZ;omega
 have lQ:=Nt.own.1;have Ds:(xs++dt).length=(n+m)*i.size:=by rw [jZ,lQ,hl,qg]
 have grown:(∀u∈xs,good u=true)→ ∀(SL:Nat),SL<n+m→ ∀(row:L0),
  GRow good (w.drew.alloc (.cells (xs.toArray++dt.toArray++Builtin.zeroCells z.cells (grownCap w (n+m) SL e-(n+m))) e)) base e i.size
   (.slice (some ⟨w.heap.size,0,none⟩) (n+m) (grownCap w (n+m) SL e)) (n+m) (xs++dt)∧
  w.grownBy (w.drew.alloc (.cells (xs.toArray++dt.toArray++Builtin.zeroCells z.cells (grownCap w (n+m) SL e-(n+m))) e)) row∧w.heap.size<(w.drew.alloc (.cells (xs.toArray++dt.toArray++Builtin.zeroCells z.cells (grownCap w (n+m) SL e-(n+m))) e)).heap.size:=by
  intro hxg SL ho row;have bD:=grownCap_ge w (n+m) SL e;have mF:grownCap w (n+m) SL e≤maxLen:=grownCap_le_maxLen w (n+m) SL e BZ;refine⟨⟨⟨Ds,.inr ⟨w.heap.size,_,_,rfl,Av,heap_alloc_new w.drew _,bD,mF,?_,?_⟩⟩,?_⟩,⟨rfl,rfl,rfl,by simp,fun k hk h=>(World.grownBy_alloc w.drew _ row).block k hk h⟩,by simp⟩
  ·simp only [Array.size_append,xI,size_zeroCells,WI,lQ,hl,←qg];congr 1;omega
  ·simp only [Array.toList_append,kY];rw [←kY,←Ds];exact List.take_left
  ·intro g Es t' fr hv hc;have hg:w.heap.size=g:=by simpa [Value.ownBlock] using hv
   subst hg;have hn:=heap_alloc_new w.drew (.cells (xs.toArray++dt.toArray++Builtin.zeroCells z.cells (grownCap w (n+m) SL e-(n+m))) e);have he:(w.drew).heap.size=w.heap.size:=rfl;rw [he]at hn;rw [hn]at hc;injection hc with hc;injection hc with hc;subst hc;intro u hu;simp only [Array.toList_append,jj]at hu;rcases hu with(hu|hu)|hu;·exact hxg u (by simpa using hu)
   ·exact aZ u (by simpa using hu)
   ·exact jkL hzg _ u hu
 rcases Nt.own.2 with⟨rfl,rfl⟩|⟨g,cap,Es,rfl,BA,hg,px,mF,Dz,pQ⟩
 ·have hx:xs= []:=List.eq_nil_of_length_eq_zero (by simpa using lQ);subst hx;have NQ:=hm rfl;have hr:=run_append_nil (P:=P) w t ty e i z ht hi hz ad m c dt hl Nw (by omega) (by omega) (by have hb:=iy;simp only [jv]at hb;omega);have gI:=grown (fun u hu=>by cases hu) 0 (by omega) (Value.ownBlock (.slice none 0 0));simp only [jv,vQ,Array.empty_append]at gI ⊢;exact⟨_,_,_,hr,gI.1,gI.2.1,.inr rfl,gI.2.2⟩
 ·have hcg:=Nt.all g Es e (0,0) rfl hg;by_cases mJ:n+m≤cap
  ·have aU:n*i.size+dt.length≤Es.size:=by rw [hl,Dz,←qg];exact Nat.mul_le_mul_right _ mJ
   have hr:=run_append_room (P:=P) w t ty e i ht hi g n cap Es hg ad m c dt hl Nw h1 mJ aU;have ay:g<w.heap.size:=xZ hg;have nC:=setRow_heap w g Es (Es.toList.take (n*i.size)++dt++Es.toList.drop (n*i.size+dt.length)).toArray e (0,0) hg;refine⟨g,cap,_,hr,⟨⟨Ds,.inr ⟨g,cap,_,rfl,BA,nC,mJ,mF,?_,?_⟩⟩,?_⟩,⟨rfl,rfl,rfl,by simp,fun k _ hk=>setRow_other w g k _ (fun e=>hk (by simp [Value.ownBlock,e]))⟩,.inl rfl,xZ nC⟩
   ·simp only [xI,jZ,jf,kQ,Array.length_toList];omega
   ·rw [pQ,←Ds];exact List.take_left
   ·intro g' cur' t' fr hv hc;have Cz:g=g':=by simpa [Value.ownBlock] using hv
    subst Cz;rw [nC]at hc;injection hc with hc;injection hc with hc;subst hc;intro u hu;simp only [jj]at hu;rcases hu with(hu|hu)|hu;·exact hcg u (qR hu)
    ·exact aZ u hu
    ·exact hcg u (xC hu)
  ·have holds: ∀j u,xs[j]?=some u→w.cell? ((⟨g,0,none⟩:Addr).add j)=some u:=Nt.own.cells (g:=g) rfl;have hr:=run_append_grow (P:=P) w t ty e i z ht hi hz ⟨g,0,none⟩ n cap xs lQ holds ad m c dt hl Nw (by omega) (by omega) (growslice_fits (by omega) iy);have hxg: ∀u∈xs,good u=true:=fun u hu=>hcg u (by rw [←pQ]at hu;exact qR hu);have gI:=grown hxg cap (by omega) (Value.ownBlock (.slice (some ⟨g,0,none⟩) n cap));exact⟨_,_,_,hr,gI.1,gI.2.1,.inr rfl,gI.2.2⟩
theorem Yn {P:Program}{good:n0→Bool}(w:m0){o:Oper}{a:Act}{K:Act→m0→Prop}{Q:Exit→Act→m0→Prop}(s x:Operand)(t:o0)
 (ho:o.op=.call {callee:=.builtin .append,args:= #[s,x],argTypes:= #[t,t]})
 (base:Nat) (e:o0) (i:TypeInfo) (z:n0) (size bytes:Nat) (ht:P.underlying t=some (.slice e)) (hi:P.info? e=some i) (hz:i.zero=some z)
 (sz:i.size=size) (uM:i.bytes=bytes) (WI:z.cells.size=size) (Iu:0<size) (hzg: ∀u∈z.cells.toList,good u=true)
 (v:n0) (n:Nat) (xs:A0) (hs:a.eval s=v) (Nt:GRow good w base e size v n xs)
 (ad:Addr) (m c:Nat) (dt:A0) (hx:a.eval x=.slice (some ad) m c) (hl:dt.length=m*size) (Nw: ∀j u,dt[j]?=some u→w.cell? (ad.add j)=some u) (h1: ∀u∈dt,u.oneCell'=true) (aZ: ∀u∈dt,good u=true)
 (hm:v=.slice none 0 0→0<m) (BZ:n+m≤maxLen) (iy:(n+m)*bytes≤140737488355328) (Av:base≤w.heap.size) (H:Nat) (hH:w.heap.size=H)
 (h: ∀g cap w',GRow good w' base e size (.slice (some ⟨g,0,none⟩) (n+m) cap) (n+m) (xs++dt)→w.grownBy w' v.ownBlock→(v.ownBlock=some g∨g=H)→g<w'.heap.size→K (a.put o.dst (.slice (some ⟨g,0,none⟩) (n+m) cap)) w'):o.wp P a w K Q:=by
 obtain⟨g,cap,w',hr,h2,h3,h4,h5⟩:=jbJ (P:=P) w t o.type base e i z size bytes ht hi hz sz uM WI Iu hzg v n xs Nt ad m c dt hl Nw h1 aZ hm BZ iy Av H hH;unfold Oper.wp execOp;simp only [ho,resolve,invoke,builtin,kU,Sem.run_pure,qQ,List.map_toArray,jI,jJ,hs,hx,hr];exact h g cap w' h2 h3 h4 h5
theorem yk {P:Program}{good:n0→Bool}(w:m0){ops:Array Oper}{rest:List Oper}{o:Oper}{a:Act}{Q:Exit→Act→m0→Prop}(tA:o.guard=none)(s x:Operand)(t:o0)
 (ho:o.op=.call {callee:=.builtin .append,args:= #[s,x],argTypes:= #[t,t]})
 (base:Nat) (e:o0) (i:TypeInfo) (z:n0) (size bytes:Nat) (ht:P.underlying t=some (.slice e)) (hi:P.info? e=some i) (hz:i.zero=some z)
 (sz:i.size=size) (uM:i.bytes=bytes) (WI:z.cells.size=size) (Iu:0<size) (hzg: ∀u∈z.cells.toList,good u=true)
 (v:n0) (n:Nat) (xs:A0) (hs:a.eval s=v) (Nt:GRow good w base e size v n xs)
 (ad:Addr) (m c:Nat) (dt:A0) (hx:a.eval x=.slice (some ad) m c) (hl:dt.length=m*size) (Nw: ∀j u,dt[j]?=some u→w.cell? (ad.add j)=some u) (h1: ∀u∈dt,u.oneCell'=true) (aZ: ∀u∈dt,good u=true)
 (hm:v=.slice none 0 0→0<m) (BZ:n+m≤maxLen) (iy:(n+m)*bytes≤140737488355328) (Av:base≤w.heap.size) (H:Nat) (hH:w.heap.size=H)
 (h: ∀g cap w',GRow good w' base e size (.slice (some ⟨g,0,none⟩) (n+m) cap) (n+m) (xs++dt)→w.grownBy w' v.ownBlock→(v.ownBlock=some g∨g=H)→g<w'.heap.size→wpList P ops Q rest (a.put o.dst (.slice (some ⟨g,0,none⟩) (n+m) cap)) w'):wpList P ops Q (o::rest) a w:=
 wpList_plain tA fun _ hK=>Yn w s x t ho base e i z size bytes ht hi hz sz uM WI Iu hzg v n xs hs Nt ad m c dt hx hl Nw h1 aZ hm BZ iy Av H hH fun g cap w' h2 h3 h4 h5=>hK _ _ (h g cap w' h2 h3 h4 h5)
theorem GRow.stored {good:n0→Bool}{w:m0}{base:Nat}{e:o0}{size n g cap:Nat}{xs:A0}(h:GRow good w base e size (.slice (some ⟨g,0,none⟩) n cap) n xs)(j:Nat)(u:n0)(hu:good u=true):GRow good (w.setCell ⟨g,j,none⟩ u) base e size (.slice (some ⟨g,0,none⟩) n cap) n (xs.set j u):=
 ⟨(h.own.stored j u).1,fun g' Es t fr hv hc=>by
  have Cz:g=g':=by simpa [Value.ownBlock] using hv
  subst Cz;rcases h.own.2 with⟨h0,_⟩|⟨g2,CF,BF,h0,_,Hu,_⟩;·cases h0
  ·have e2:g=g2:=by injection h0 with h0;injection h0 with h0;injection h0
   subst e2;rw [jd w g j _ _ _ Hu]at hc;injection hc with hc;injection hc with hc;subst hc;intro x hx;rw [Array.toList_setIfInBounds]at hx;rcases xK hx with hx|hx;·exact h.all g BF e (0,0) rfl Hu x hx
   ·rw [hx];exact hu⟩
theorem GRow.other {good:n0→Bool}{w:m0}{base:Nat}{e:o0}{size n:Nat}{v:n0}{xs:A0}(h:GRow good w base e size v n xs){a:Addr}{u:n0}(hc:w.cell? a=some u)(hu:good u=false):v.ownBlock≠some a.block:=by
 intro he;rcases h.own.2 with⟨rfl,_⟩|⟨g,cap,Es,rfl,_,Cz,_⟩;·cases he
 ·have e2:g=a.block:=by simpa [Value.ownBlock] using he
  subst e2;have hall:=h.all _ Es e (0,0) rfl Cz;unfold World.cell? at hc;rw [Cz]at hc;simp only at hc;split at hc;·cases hc
  ·have Mu:=xL hc;have:=hall _ (by simpa using Mu);rw [hu]at this;cases this
def noLimb:n0→Bool
 | .int .u32 _=>false
 |_=>true
end Go.Proofs.YtnohcdpnnhmpfaaGreatDoor
namespace Go.Proofs.YtnohcdpnnhmpfaaGreatDoor
open Go.RowKit Tryz ML FM
variable{w:m0}
theorem ZN:(prog.info? 5).map (·.size)=some 1:=by kernel_rfl
theorem yV(D:Bytes):(Lib.byteCells D).length=D.length:=by simp [Lib.byteCells]
theorem zk(R:Bytes):(ByteArray.mk R.toArray).size=R.length:=by simp [ByteArray.size]
theorem Yc(R:Bytes)(k:Nat):(ByteArray.mk R.toArray).extract k R.length=⟨(R.drop k).toArray⟩:=by
 rw [Lib.extract_eq];congr 1;simp;rw [je (by simp)]
theorem Yb {a w':m0}{row:L0}(h:a.grownBy w row)(k:w.grownBy w' row):a.grownBy w' row:=
 ⟨k.os.trans h.os,k.tape.trans h.tape,k.output.trans h.output,jU h.size k.size,fun i hi hr=>(k.block i (jW hi h.size) hr).trans (h.block i hi hr)⟩
theorem zq {P:Program}{ops:Array Oper}{rest:List Oper}{o:Oper}{a:Act}{Q:Exit→Act→m0→Prop}(tA:o.guard=none)(x:Operand)(src rV e:o0)
 (ho:o.op=.convert src rV x) (hs:P.underlying src=some (.slice e)) (he:P.underlying e=some (.int .u8)) (hd:P.underlying rV=some .string)
 (g cap n:Nat) (l:Bytes) (hn:n=l.length) (hx:a.eval x=.slice (some ⟨g,0,none⟩) n cap) (hc:w.rangeAt g 0 (Lib.byteCells l))
 (h:wpList P ops Q rest (a.put o.dst (.string ⟨l.toArray⟩)) w):wpList P ops Q (o::rest) a w:=by
 subst hn;refine wpList_plain tA fun K hK=>?_
 have cF:=run_convert_bytes_back (P:=P) w src rV e ⟨g,0,none⟩ cap l hs he hd (fun j hj=>by
  have:=hc j (.int .u8 (l[j].toNat:Int)) (by simp [Lib.byteCells,hj]);rw [show(⟨g,0,none⟩:Addr).add j=⟨g,0+j,none⟩by unfold Addr.add;split<;>simp_all];exact this)
 unfold Oper.wp;simp [execOp,ho,hx,cF,Result.andThen];exact hK _ _ h
theorem ZT:(prog.info? 5).map (fun i=>(i.zero,i.size,i.bytes))=some (some (.int .u8 0),1,1):=by kernel_rfl
theorem Xf{b:Nat}{l:A0}{t:o0}(h:w.heap[b]?=some (.cells l.toArray t (0,0))):w.rangeAt b 0 l:=fun j v hj=>by
 rw [jv,jM w b j _ _ _ h];simpa using hj
theorem Vg(A B:Bytes):ByteArray.mk A.toArray++ByteArray.mk B.toArray=ByteArray.mk (A++B).toArray:=by
 apply ByteArray.ext;simp
end Go.Proofs.YtnohcdpnnhmpfaaGreatDoor
