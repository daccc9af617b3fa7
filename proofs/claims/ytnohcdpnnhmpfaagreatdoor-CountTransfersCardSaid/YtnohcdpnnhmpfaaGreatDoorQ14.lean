/-
  Own rows whose block holds cells of one kind only (also behind the row's end): append; what lies in cells of another kind is as it was.
-/
import Derived.Test.YtnohcdpnnhmpfaaGreatDoorQ03
import Derived.Deep.AppendLies
set_option linter.unusedVariables false
set_option linter.unusedSimpArgs false
namespace Go.Proofs.YtnohcdpnnhmpfaaGreatDoor
open Go.RowKit ML
structure GRow(good:Value→Bool)(w:World)(base:Nat)(e:TypeId)(size:Nat)(v:Value)(n:Nat)(xs:List Value):Prop where
 own:w.ownsRow base e size v n xs
 all: ∀g cur t fr,v.ownBlock=some g→w.heap[g]?=some (.cells cur t fr)→ ∀u∈cur.toList,good u=true
namespace GRow
variable {good:Value→Bool} {w w1:World} {base:Nat} {e:TypeId} {size n:Nat} {v:Value} {xs:List Value}
theorem nil:GRow good w base e size (.slice none 0 0) 0 []:=⟨qA w base e size,fun g cur t fr h=>by cases h⟩
theorem kept {row:Option Nat}(h:GRow good w base e size v n xs)(hg:w.grownBy w1 row)(hne:v.ownBlock=none∨v.ownBlock≠row):GRow good w1 base e size v n xs:=⟨h.own.kept hg hne,fun g cur t fr hv hc=>by
 have hlt:=(h.own.lt g hv).2;refine h.all g cur t fr hv ?_;rw [←hg.block g hlt (by rcases hne with h0|h0<;>rw [hv]at h0<;>simp_all)];exact hc⟩
theorem below(h:GRow good w base e size v n xs)(hb:Below w.heap.size w w1):GRow good w1 base e size v n xs:=h.kept (row:=none) ⟨hb.os,hb.tape,hb.output,hb.size,fun k hk _=>hb.block k hk⟩ (by cases v.ownBlock<;>simp)
end GRow
theorem jiD {good:Value→Bool}{z:Array Value}(hz: ∀u∈z.toList,good u=true)(n:Nat): ∀u∈(Builtin.zeroCells z n).toList,good u=true:=by
 intro u hu;rw [Array.mem_toList_iff]at hu;unfold Builtin.zeroCells at hu;simp at hu;obtain⟨x,hx,rfl⟩:=hu;have h0:0<z.size:=Nat.pos_of_ne_zero (fun e=>by rw [e]at hx;simp at hx);have h1:=qC x h0;rw [getElem!_pos z (x%z.size) h1];exact hz _ (by rw [Array.mem_toList_iff];exact Array.getElem_mem h1)
theorem jaD {P:Program}{good:Value→Bool}(w:World)(t ty:TypeId)(base:Nat)(e:TypeId)(i:TypeInfo)(z:Value)(size bytes:Nat)(ht:P.underlying t=some (.slice e))(hi:P.info? e=some i)(hz:i.zero=some z)
 (hsize:i.size=size) (hby:i.bytes=bytes) (hzs:z.cells.size=size) (hsz:0<size) (hzg: ∀u∈z.cells.toList,good u=true)
 (v:Value) (n:Nat) (xs:List Value) (hown:GRow good w base e size v n xs)
 (ad:Addr) (m c:Nat) (news:List Value) (hl:news.length=m*size) (hnews: ∀j u,news[j]?=some u→w.cell? (ad.add j)=some u) (h1: ∀u∈news,u.oneCell'=true) (hng: ∀u∈news,good u=true)
 (hm:v=.slice none 0 0→0<m) (h63:n+m≤maxLen) (hbytes:(n+m)*bytes≤140737488355328) (hbase:base≤w.heap.size) (H:Nat) (hH:w.heap.size=H):
 ∃g cap w',(Builtin.append_ #[t,t] ty #[v,.slice (some ad) m c]).run P w=.ok (.slice (some ⟨g,0,none⟩) (n+m) cap) w'∧
  GRow good w' base e size (.slice (some ⟨g,0,none⟩) (n+m) cap) (n+m) (xs++news)∧w.grownBy w' v.ownBlock∧(v.ownBlock=some g∨g=H)∧g<w'.heap.size:=by
 subst hsize;subst hby;subst hH;have hsmall:n+m≤9223372036854775807:=by simp only [maxLen]at h63;omega
 have hxl:=hown.own.1;have hlen:(xs++news).length=(n+m)*i.size:=by rw [ja,hxl,hl,qL]
 have grown:(∀u∈xs,good u=true)→ ∀(old:Nat),old<n+m→ ∀(row:Option Nat),
  GRow good (w.drew.alloc (.cells (xs.toArray++news.toArray++Builtin.zeroCells z.cells (grownCap w (n+m) old e-(n+m))) e)) base e i.size
   (.slice (some ⟨w.heap.size,0,none⟩) (n+m) (grownCap w (n+m) old e)) (n+m) (xs++news)∧
  w.grownBy (w.drew.alloc (.cells (xs.toArray++news.toArray++Builtin.zeroCells z.cells (grownCap w (n+m) old e-(n+m))) e)) row∧w.heap.size<(w.drew.alloc (.cells (xs.toArray++news.toArray++Builtin.zeroCells z.cells (grownCap w (n+m) old e-(n+m))) e)).heap.size:=by
  intro hxg old ho row;have hge:=grownCap_ge w (n+m) old e;have hcm:grownCap w (n+m) old e≤maxLen:=grownCap_le_maxLen w (n+m) old e h63;refine⟨⟨⟨hlen,.inr ⟨w.heap.size,_,_,rfl,hbase,heap_alloc_new w.drew _,hge,hcm,?_,?_⟩⟩,?_⟩,⟨rfl,rfl,rfl,by simp,fun k hk h=>(World.grownBy_alloc w.drew _ row).block k hk h⟩,by simp⟩
  ·simp only [Array.size_append,vq,size_zeroCells,hzs,hxl,hl,←qL];congr 1;omega
  ·simp only [Array.toList_append,kS];rw [←kS,←hlen];exact List.take_left
  ·intro g cur t' fr hv hc;have hg:w.heap.size=g:=by simpa [Value.ownBlock] using hv
   subst hg;have hn:=heap_alloc_new w.drew (.cells (xs.toArray++news.toArray++Builtin.zeroCells z.cells (grownCap w (n+m) old e-(n+m))) e);have he:(w.drew).heap.size=w.heap.size:=rfl;rw [he]at hn;rw [hn]at hc;injection hc with hc;injection hc with hc;subst hc;intro u hu;simp only [Array.toList_append,jh]at hu;rcases hu with(hu|hu)|hu;·exact hxg u (by simpa using hu)
   ·exact hng u (by simpa using hu)
   ·exact jiD hzg _ u hu
 rcases hown.own.2 with⟨rfl,rfl⟩|⟨g,cap,cur,rfl,hbg,hg,hnc,hcm,hcs,htake⟩
 ·have hx:xs= []:=List.eq_nil_of_length_eq_zero (by simpa using hxl);subst hx;have hm0:=hm rfl;have hr:=run_append_nil (P:=P) w t ty e i z ht hi hz ad m c news hl hnews (by omega) (by omega) (by have hb:=hbytes;simp only [js]at hb;omega);have hgr:=grown (fun u hu=>by cases hu) 0 (by omega) (Value.ownBlock (.slice none 0 0));simp only [js,kj,Array.empty_append]at hgr ⊢;exact⟨_,_,_,hr,hgr.1,hgr.2.1,.inr rfl,hgr.2.2⟩
 ·have hcg:=hown.all g cur e (0,0) rfl hg;by_cases hroom:n+m≤cap
  ·have hfit:n*i.size+news.length≤cur.size:=by rw [hl,hcs,←qL];exact Nat.mul_le_mul_right _ hroom
   have hr:=run_append_room (P:=P) w t ty e i ht hi g n cap cur hg ad m c news hl hnews h1 hroom hfit;have hgl:g<w.heap.size:=lt_of_heap hg;have hset:=setRow_heap w g cur (cur.toList.take (n*i.size)++news++cur.toList.drop (n*i.size+news.length)).toArray e (0,0) hg;refine⟨g,cap,_,hr,⟨⟨hlen,.inr ⟨g,cap,_,rfl,hbg,hset,hroom,hcm,?_,?_⟩⟩,?_⟩,⟨rfl,rfl,rfl,by simp,fun k _ hk=>setRow_other w g k _ (fun e=>hk (by simp [Value.ownBlock,e]))⟩,.inl rfl,lt_of_heap hset⟩
   ·simp only [vq,ja,jX,jq,Array.length_toList];omega
   ·rw [htake,←hlen];exact List.take_left
   ·intro g' cur' t' fr hv hc;have hg':g=g':=by simpa [Value.ownBlock] using hv
    subst hg';rw [hset]at hc;injection hc with hc;injection hc with hc;subst hc;intro u hu;simp only [jh]at hu;rcases hu with(hu|hu)|hu;·exact hcg u (qU hu)
    ·exact hng u hu
    ·exact hcg u (vY hu)
  ·have holds: ∀j u,xs[j]?=some u→w.cell? ((⟨g,0,none⟩:Addr).add j)=some u:=hown.own.cells (g:=g) rfl;have hr:=run_append_grow (P:=P) w t ty e i z ht hi hz ⟨g,0,none⟩ n cap xs hxl holds ad m c news hl hnews (by omega) (by omega) (growslice_fits (by omega) hbytes);have hxg: ∀u∈xs,good u=true:=fun u hu=>hcg u (by rw [←htake]at hu;exact qU hu);have hgr:=grown hxg cap (by omega) (Value.ownBlock (.slice (some ⟨g,0,none⟩) n cap));exact⟨_,_,_,hr,hgr.1,hgr.2.1,.inr rfl,hgr.2.2⟩
theorem Xw {P:Program}{good:Value→Bool}(w:World){o:Oper}{a:Act}{K:Act→World→Prop}{Q:Exit→Act→World→Prop}(s x:Operand)(t:TypeId)
 (ho:o.op=.call {callee:=.builtin .append,args:= #[s,x],argTypes:= #[t,t]})
 (base:Nat) (e:TypeId) (i:TypeInfo) (z:Value) (size bytes:Nat) (ht:P.underlying t=some (.slice e)) (hi:P.info? e=some i) (hz:i.zero=some z)
 (hsize:i.size=size) (hby:i.bytes=bytes) (hzs:z.cells.size=size) (hsz:0<size) (hzg: ∀u∈z.cells.toList,good u=true)
 (v:Value) (n:Nat) (xs:List Value) (hs:a.eval s=v) (hown:GRow good w base e size v n xs)
 (ad:Addr) (m c:Nat) (news:List Value) (hx:a.eval x=.slice (some ad) m c) (hl:news.length=m*size) (hnews: ∀j u,news[j]?=some u→w.cell? (ad.add j)=some u) (h1: ∀u∈news,u.oneCell'=true) (hng: ∀u∈news,good u=true)
 (hm:v=.slice none 0 0→0<m) (h63:n+m≤maxLen) (hbytes:(n+m)*bytes≤140737488355328) (hbase:base≤w.heap.size) (H:Nat) (hH:w.heap.size=H)
 (h: ∀g cap w',GRow good w' base e size (.slice (some ⟨g,0,none⟩) (n+m) cap) (n+m) (xs++news)→w.grownBy w' v.ownBlock→(v.ownBlock=some g∨g=H)→g<w'.heap.size→K (a.put o.dst (.slice (some ⟨g,0,none⟩) (n+m) cap)) w'):o.wp P a w K Q:=by
 obtain⟨g,cap,w',hr,h2,h3,h4,h5⟩:=jaD (P:=P) w t o.type base e i z size bytes ht hi hz hsize hby hzs hsz hzg v n xs hown ad m c news hl hnews h1 hng hm h63 hbytes hbase H hH;unfold Oper.wp execOp;simp only [ho,resolve,invoke,builtin,kJ,qo,qF,List.map_toArray,jI,jJ,hs,hx,hr];exact h g cap w' h2 h3 h4 h5
theorem yS {P:Program}{good:Value→Bool}(w:World){ops:Array Oper}{rest:List Oper}{o:Oper}{a:Act}{Q:Exit→Act→World→Prop}(hgd:o.guard=none)(s x:Operand)(t:TypeId)
 (ho:o.op=.call {callee:=.builtin .append,args:= #[s,x],argTypes:= #[t,t]})
 (base:Nat) (e:TypeId) (i:TypeInfo) (z:Value) (size bytes:Nat) (ht:P.underlying t=some (.slice e)) (hi:P.info? e=some i) (hz:i.zero=some z)
 (hsize:i.size=size) (hby:i.bytes=bytes) (hzs:z.cells.size=size) (hsz:0<size) (hzg: ∀u∈z.cells.toList,good u=true)
 (v:Value) (n:Nat) (xs:List Value) (hs:a.eval s=v) (hown:GRow good w base e size v n xs)
 (ad:Addr) (m c:Nat) (news:List Value) (hx:a.eval x=.slice (some ad) m c) (hl:news.length=m*size) (hnews: ∀j u,news[j]?=some u→w.cell? (ad.add j)=some u) (h1: ∀u∈news,u.oneCell'=true) (hng: ∀u∈news,good u=true)
 (hm:v=.slice none 0 0→0<m) (h63:n+m≤maxLen) (hbytes:(n+m)*bytes≤140737488355328) (hbase:base≤w.heap.size) (H:Nat) (hH:w.heap.size=H)
 (h: ∀g cap w',GRow good w' base e size (.slice (some ⟨g,0,none⟩) (n+m) cap) (n+m) (xs++news)→w.grownBy w' v.ownBlock→(v.ownBlock=some g∨g=H)→g<w'.heap.size→wpList P ops Q rest (a.put o.dst (.slice (some ⟨g,0,none⟩) (n+m) cap)) w'):wpList P ops Q (o::rest) a w:=
 wpList_plain hgd fun _ hK=>Xw w s x t ho base e i z size bytes ht hi hz hsize hby hzs hsz hzg v n xs hs hown ad m c news hx hl hnews h1 hng hm h63 hbytes hbase H hH fun g cap w' h2 h3 h4 h5=>hK _ _ (h g cap w' h2 h3 h4 h5)
theorem GRow.stored {good:Value→Bool}{w:World}{base:Nat}{e:TypeId}{size n g cap:Nat}{xs:List Value}(h:GRow good w base e size (.slice (some ⟨g,0,none⟩) n cap) n xs)(j:Nat)(u:Value)(hu:good u=true):GRow good (w.setCell ⟨g,j,none⟩ u) base e size (.slice (some ⟨g,0,none⟩) n cap) n (xs.set j u):=
 ⟨(h.own.stored j u).1,fun g' cur t fr hv hc=>by
  have hg':g=g':=by simpa [Value.ownBlock] using hv
  subst hg';rcases h.own.2 with⟨h0,_⟩|⟨g2,cap2,cur2,h0,_,hg2,_⟩;·cases h0
  ·have e2:g=g2:=by injection h0 with h0;injection h0 with h0;injection h0
   subst e2;rw [jd w g j _ _ _ hg2]at hc;injection hc with hc;injection hc with hc;subst hc;intro x hx;rw [Array.toList_setIfInBounds]at hx;rcases vv hx with hx|hx;·exact h.all g cur2 e (0,0) rfl hg2 x hx
   ·rw [hx];exact hu⟩
theorem GRow.other {good:Value→Bool}{w:World}{base:Nat}{e:TypeId}{size n:Nat}{v:Value}{xs:List Value}(h:GRow good w base e size v n xs){a:Addr}{u:Value}(hc:w.cell? a=some u)(hu:good u=false):v.ownBlock≠some a.block:=by
 intro he;rcases h.own.2 with⟨rfl,_⟩|⟨g,cap,cur,rfl,_,hg',_⟩;·cases he
 ·have e2:g=a.block:=by simpa [Value.ownBlock] using he
  subst e2;have hall:=h.all _ cur e (0,0) rfl hg';unfold World.cell? at hc;rw [hg']at hc;simp only at hc;split at hc;·cases hc
  ·have hmem:=xB hc;have:=hall _ (by simpa using hmem);rw [hu]at this;cases this
def noLimb:Value→Bool
 | .int .u32 _=>false
 |_=>true
end Go.Proofs.YtnohcdpnnhmpfaaGreatDoor
