/-
  Small laws on memory, over any program: one block that turns, whole rows loaded and stored, the world behind a name.
  Words of 32 bits as BitVec 32: the walk's Int forms, one word of memory after another, what quarter and back do to sixteen words. No program in sight.
  What a text is folded into: pieces of 64 bytes, words out of bytes, the last piece held back. No program in sight.
  A region that draws its order, walked by one schedule: quiet operations first, whatever comes up alone next, a forced tail last.
  Conditions: the schedule is checked by a Bool ('segsB'); the class S holds of the world at the start and behind each operation that is not quiet.
-/
import Derived.WalkKit
import Derived.Deep.Draws
import Derived.Deep.MidRow
import Derived.BigQuiet
import Derived.Laws.Rows
import Derived.Lib.Hide
import Derived.Laws.CopyOwn
import Derived.Laws.BitsAllLaws
import Derived.StillTail
import Derived.OrdersHeld
import Derived.Deep.Quiet
namespace Go
theorem jA {p:Prop}(h:p):RowKit.Hid p:=h
theorem jB {α:Type _}{xs:Array α}{i:Nat}{d:α}:xs.getD i d=xs[i]?.getD d:=by first|exact Array.getD_eq_getD_getElem?|exact Array.getD_eq_getD_getElem? ..
theorem jC {α:Type _}{i:Nat}{a:α}{l:List α}:(a::l)[i+1]?=l[i]?:=by first|exact List.getElem?_cons_succ|exact List.getElem?_cons_succ ..
theorem jD {α:Type _}{a:α}{l:List α}:(a::l)[0]?=some a:=by first|exact List.getElem?_cons_zero|exact List.getElem?_cons_zero ..
theorem jE {α:Type _}{a:List α}{i:Nat}:a.toArray[i]?=a[i]?:=by first|exact List.getElem?_toArray|exact List.getElem?_toArray ..
theorem jF {α:Type _}{a:α}{i:Nat}{l:List α}:(a::l).drop (i+1)=l.drop i:=by first|exact List.drop_succ_cons|exact List.drop_succ_cons ..
theorem jG {α:Type _}{a d:α}:(some a).getD d=a:=by first|exact Option.getD_some|exact Option.getD_some ..
theorem jH {α:Type _}{l:List α}:l.drop 0=l:=by first|exact List.drop_zero|exact List.drop_zero ..
theorem jI {α:Type _}{β:Type _}{f:α→β}{a:α}{l:List α}:(a::l).map f=f a::l.map f:=by first|exact List.map_cons|exact List.map_cons ..
theorem jJ {α:Type _}{β:Type _}{f:α→β}:([]:List α).map f=[]:=by first|exact List.map_nil|exact List.map_nil ..
theorem jK:(∀{α:Type}{xs:Array α}{i:Nat}{d:α},xs.getD i d=xs[i]?.getD d)∧(∀{α:Type}{i:Nat}{a:α}{l:List α},(a::l)[i+1]?=l[i]?)∧(∀{α:Type}{a:α}{l:List α},(a::l)[0]?=some a)∧(∀{α:Type}{a:List α}{i:Nat},a.toArray[i]?=a[i]?)∧(∀{α:Type}{a:α}{i:Nat}{l:List α},(a::l).drop (i+1)=l.drop i)∧(∀{α:Type}{a d:α},(some a).getD d=a)∧(∀{α:Type}{l:List α},l.drop 0=l)∧(∀{α β:Type}{f:α→β}{a:α}{l:List α},(a::l).map f=f a::l.map f)∧(∀{α β:Type}{f:α→β},([]:List α).map f=[]):=⟨Array.getD_eq_getD_getElem? .., List.getElem?_cons_succ .., List.getElem?_cons_zero .., List.getElem?_toArray .., List.drop_succ_cons .., Option.getD_some .., List.drop_zero .., List.map_cons .., List.map_nil ..⟩
theorem RowKit.Hid.u {p:Prop}(h:RowKit.Hid p):p:=h
abbrev jL:=@_root_.Go.Lib.hid
abbrev jM:=@_root_.Go.cell_of_row
abbrev jN:=@_root_.Go.RowKit.Below.refl
abbrev jO:=@_root_.Nat.le_refl
abbrev jP:=@_root_.Go.wpQuiet_nil
abbrev jQ:=@_root_.decide_eq_true
abbrev jR:=@_root_.if_pos
abbrev jS:=@_root_.decide_eq_false
abbrev jT:=@_root_.if_neg
abbrev jU:=@_root_.Nat.le_trans
abbrev jV:=@_root_.Nat.lt_of_lt_of_le
abbrev jW:=@_root_.List.getD_eq_getElem?_getD
abbrev jX:=@_root_.List.length_take
abbrev jY:=@_root_.if_true
abbrev jZ:=@_root_.Nat.le_of_lt
abbrev ja:=@_root_.List.length_append
abbrev jb:=@_root_.Go.frozen_of_row
abbrev jc:=@_root_.List.take_of_length_le
abbrev jd:=@_root_.Go.heap_setCell_same
abbrev je:=@_root_.Nat.mul_add
abbrev jf:=@_root_.List.mem_range
abbrev jg:=@_root_.List.mem_cons
abbrev jh:=@_root_.List.mem_append
abbrev ji:=@_root_.Nat.zero_le
abbrev jj:=@_root_.List.getElem_mem
abbrev jk:=@_root_.List.take_succ_eq_append_getElem
abbrev jl:=@_root_.List.mem_map
abbrev jm:=@_root_.Go.bodyPost_ret
abbrev jo:=@_root_.List.mem_singleton
abbrev jq:=@_root_.List.length_drop
abbrev jr:=@_root_.Nat.pow_succ
abbrev js:=@_root_.Nat.zero_add
abbrev jt:=@_root_.Nat.lt_or_ge
abbrev ju:=@_root_.Nat.mul_assoc
abbrev jv:=@_root_.List.not_mem_nil
abbrev jw:=@_root_.Go.results_cell_row
abbrev jx:=@_root_.or_false
abbrev jy:=@_root_.Bool.and_eq_true
abbrev jz:=@_root_.List.length_map
abbrev kB:=@_root_.List.mem_filter
abbrev kD:=@_root_.List.length_set
abbrev kE:=@_root_.beq_eq_false_iff_ne
abbrev kG:=@_root_.List.take_length
abbrev kH:=@_root_.Rat.natCast_mul
abbrev kJ:=@_root_.Go.Sem.run_bind
abbrev kK:=@_root_.decide_eq_true_eq
abbrev kL:=@_root_.List.length_singleton
abbrev kM:=@_root_.Nat.min_eq_left
abbrev kP:=@_root_.List.getElem?_eq_none
abbrev kQ:=@_root_.Go.wpList_append_own
abbrev kR:=@_root_.List.length_cons
abbrev kS:=@_root_.List.append_assoc
abbrev kU:=@_root_.Nat.mul_comm
abbrev kV:=@_root_.Nat.mod_eq_of_lt
abbrev kW:=@_root_.Nat.pow_le_pow_right
abbrev kY:=@_root_.List.length_eq_zero_iff
abbrev kZ:=@_root_.List.length_range
abbrev ke:=@_root_.List.getElem?_append_right
abbrev kf:=@_root_.Nat.mul_pos
abbrev kg:=@_root_.Nat.le_of_eq
abbrev kh:=@_root_.List.drop_eq_getElem_cons
abbrev kj:=@_root_.List.nil_append
abbrev kl:=@_root_.List.getElem?_eq_getElem
abbrev ko:=@_root_.Rat.le_of_lt
abbrev kr:=@_root_.List.all_eq_true
abbrev kt:=@_root_.List.length_filter_le
abbrev ku:=@_root_.bne_iff_ne
abbrev kw:=@_root_.Nat.not_lt_zero
abbrev kz:=@_root_.Nat.mul_le_mul_left
abbrev qA:=@_root_.Go.World.ownsRow_nil
abbrev qB:=@_root_.Nat.lt_of_le_of_lt
abbrev qC:=@_root_.Nat.mod_lt
abbrev qD:=@_root_.List.append_nil
abbrev qF:=@_root_.Go.Result.andThen_ok
abbrev qG:=@_root_.Nat.mul_one
abbrev qH:=@_root_.Nat.mul_le_mul
abbrev qI:=@_root_.List.drop_of_length_le
abbrev qJ:=@_root_.List.getElem?_append_left
abbrev qK:=@_root_.List.getElem?_map
abbrev qL:=@_root_.Nat.add_mul
abbrev qO:=@_root_.List.length_pos_iff
abbrev qP:=@_root_.List.filter_append
abbrev qQ:=@_root_.List.Nodup.length_le_of_subset
abbrev qR:=@_root_.Go.wpList_store_mid
abbrev qS:=@_root_.Bool.or_eq_true
abbrev qU:=@_root_.List.mem_of_mem_take
abbrev qV:=@_root_.Nat.add_zero
abbrev qX:=@_root_.List.getElem?_replicate
abbrev qY:=@_root_.of_decide_eq_true
abbrev qZ:=@_root_.Go.Addr.add_mid
abbrev qe:=@_root_.List.take_zero
abbrev qf:=@_root_.List.take_append_drop
abbrev qg:=@_root_.Nat.mul_left_comm
abbrev qh:=@_root_.Go.World.cell?_of_block
abbrev qi:=@_root_.List.range_succ
abbrev qj:=@_root_.Rat.natCast_add
abbrev qk:=@_root_.Go.wp_region_lit
abbrev qm:=@_root_.Go.heap_setCell_other
abbrev qo:=@_root_.Go.Sem.run_pure
abbrev qq:=@_root_.Nat.pow_add
abbrev qr:=@_root_.List.getElem?_drop
abbrev qs:=@_root_.List.mem_flatMap
abbrev qt:=@_root_.List.nodup_range
abbrev qu:=@_root_.List.map_congr_left
abbrev qw:=@_root_.Go.run_make_full
abbrev qx:=@_root_.List.map_append
abbrev qy:=@_root_.Nat.add_assoc
abbrev qz:=@_root_.Nat.eq_zero_or_pos
abbrev vA:=@_root_.Array.getElem?_setIfInBounds_ne
abbrev vB:=@_root_.List.nodup_append
abbrev vC:=@_root_.List.filter_congr
abbrev vD:=@_root_.List.idxOf_lt_length_of_mem
abbrev vF:=@_root_.List.flatMap_append
abbrev vG:=@_root_.BitVec.add_assoc
abbrev vH:=@_root_.Int.natCast_mul
abbrev vI:=@_root_.List.ext_getElem
abbrev vJ:=@_root_.List.mem_cons_self
abbrev vK:=@_root_.Go.run_underlying
abbrev vL:=@_root_.Rat.mul_le_mul_of_nonneg_right
abbrev vM:=@_root_.List.nodup_cons
abbrev vO:=@_root_.List.getElem_of_mem
abbrev vP:=@_root_.Array.getElem?_eq_some_iff
abbrev vQ:=@_root_.BitVec.toNat_ofNat
abbrev vS:=@_root_.List.getElem?_set_ne
abbrev vT:=@_root_.List.getElem?_take
abbrev vU:=@_root_.List.cons_append
abbrev vV:=@_root_.List.mem_cons_of_mem
abbrev vW:=@_root_.Nat.add_sub_cancel
abbrev vX:=@_root_.Nat.lt_of_mul_lt_mul_left
abbrev vY:=@_root_.List.mem_of_mem_drop
abbrev vZ:=@_root_.List.pairwise_append
abbrev ve:=@_root_.List.drop_eq_nil_of_le
abbrev vf:=@_root_.Rat.div_mul_cancel
abbrev vh:=@_root_.Rat.natCast_le_natCast
abbrev vk:=@_root_.List.perm_ext_iff_of_nodup
abbrev vm:=@_root_.List.filter_filter
abbrev vn:=@_root_.of_decide_eq_false
abbrev vq:=@_root_.List.size_toArray
abbrev vr:=@_root_.List.length_replicate
abbrev vt:=@_root_.List.setIfInBounds_toArray
abbrev vu:=@_root_.List.mem_take_iff_getElem
abbrev vv:=@_root_.List.mem_or_eq_of_mem_set
abbrev vw:=@_root_.Array.getElem?_eq_none
abbrev vx:=@_root_.Array.getElem?_setIfInBounds_self_of_lt
abbrev vy:=@_root_.List.length_reverse
abbrev xA:=@_root_.List.getElem?_eq_some_iff
abbrev xB:=@_root_.Array.mem_of_getElem?
abbrev xC:=@_root_.List.getElem?_range
abbrev xD:=@_root_.List.filter_eq_self
abbrev xE:=@_root_.Array.getElem?_replicate
abbrev xG:=@_root_.List.getElem_append_left
abbrev xH:=@_root_.List.take_append_of_le_length
abbrev xI:=@_root_.Int.tmod_eq_emod_of_nonneg
abbrev xJ:=@_root_.Array.getElem?_eq_getElem
end Go
set_option linter.unusedVariables false
set_option linter.unusedSimpArgs false
set_option maxRecDepth 100000
namespace Go.Proofs.YtnohcdpnnhmpfaaGreatDoor.ML
open Go.RowKit
structure xp(b:Nat)(w w':World):Prop where
 os:w'.os=w.os
 tape:w'.tape=w.tape
 output:w'.output=w.output
 size:w'.heap.size=w.heap.size
 block: ∀k,k≠b→w'.heap[k]?=w.heap[k]?
theorem xp.refl(b:Nat)(w:World):xp b w w:=⟨rfl,rfl,rfl,rfl,fun _ _=>rfl⟩
theorem xp.trans {b:Nat}{w w1 w2:World}(h:xp b w w1)(k:xp b w1 w2):xp b w w2:=
 ⟨k.os.trans h.os,k.tape.trans h.tape,k.output.trans h.output,k.size.trans h.size,fun i hi=>(k.block i hi).trans (h.block i hi)⟩
theorem xp.drewN {b:Nat}{w w1:World}(h:xp b w w1)(n:Nat):xp b w (w1.drewN n):=⟨h.os,h.tape,h.output,h.size,h.block⟩
theorem xp.drew {b:Nat}{w w1:World}(h:xp b w w1):xp b w w1.drew:=⟨h.os,h.tape,h.output,h.size,h.block⟩
theorem xp.setCell {b:Nat}{w w1:World}(h:xp b w w1)(o:Nat)(v:Value):xp b w (w1.setCell ⟨b,o,none⟩ v):=
 h.trans ⟨rfl,rfl,rfl,by simp,fun k hk=>qm _ _ _ _ hk⟩
theorem xp.below {b:Nat}{w w1:World}(h:xp b w w1){B:Nat}(hB:B≤b):Below B w w1:=
 ⟨h.os,h.tape,h.output,kg h.size.symm,fun k hk=>h.block k (by omega)⟩
theorem XO {B:Nat}{a w:World}(h:Below B a w)(n:Nat):Below B a (w.drewN n):=⟨h.os,h.tape,h.output,h.size,h.block⟩
theorem xQ {B b:Nat}{a w w1:World}(h:Below B a w)(k:xp b w w1)(hb:B≤b):Below B a w1:=h.trans (k.below hb)
theorem JC(b:Nat): ∀(vs:List Value) (o:Nat) (w:World),xp b w (w.setCells b o vs)
 | [],_,w=>xp.refl b w
 |v::r,o,w=>((xp.refl b w).setCell o v).trans (JC b r (o+1) _)
theorem Ql(b:Nat)(t:TypeId): ∀(vs:List Value) (o:Nat) (w:World) (cs:Array Value),w.heap[b]?=some (.cells cs t (0,0))→o+vs.length≤cs.size→
 (w.setCells b o vs).heap[b]?=some (.cells (cs.toList.take o++vs++cs.toList.drop (o+vs.length)).toArray t (0,0))
 |
  [],o,w,cs,h,_=>by
  show w.heap[b]?=_;rw [h];simp
 |
  v::r,o,w,cs,h,hl=>by
  show((w.setCell ⟨b,o,none⟩ v).setCells b (o+1) r).heap[b]?=_;rw [Ql b t r (o+1) _ _ (jd w b o cs t v h) (by simp at hl ⊢;omega)];congr 2;simp only [kR]at hl;have ho:o<cs.toList.length:=by simp;omega
  have e1:(cs.setIfInBounds o v).toList=cs.toList.take o++v::cs.toList.drop (o+1):=by
   rw [Array.toList_setIfInBounds,List.set_eq_take_append_cons_drop,jR ho]
  rw [e1];have e2:(cs.toList.take o).length=o:=by simp;omega
  rw [List.take_append,e2,List.drop_append,e2];have e3:List.take (o+1) (cs.toList.take o)=cs.toList.take o:=by rw [List.take_take];congr 1;omega
  have e4:List.drop (o+1+r.length) (cs.toList.take o)= []:=by rw [List.drop_eq_nil_iff];omega
  rw [e3,e4];have e5:o+1-o=1:=by omega
  have e6:o+1+r.length-o=r.length+1:=by omega
  rw [e5,e6];simp [List.drop_drop];congr 1;omega
theorem jaZ {b:Nat}{t:TypeId}{w:World}{cs new:Array Value}(h:w.heap[b]?=some (.cells cs t (0,0)))(hs:cs.size=new.size):
 (w.setCells b 0 new.toList).heap[b]?=some (.cells new t (0,0)):=by
 rw [Ql b t new.toList 0 w cs h (by simp [hs])];congr 2;have e:List.drop (0+new.toList.length) cs.toList= []:=by rw [List.drop_eq_nil_iff];simp [hs]
 rw [e];simp
section
variable {P:Program} {ops:Array Oper} {rest:List Oper} {o:Oper} {a:Act} {w:World} {Q:Exit→Act→World→Prop}
theorem xM(hgd:o.guard=none)(hdst:o.dst=none)(ty:TypeId)(x y:Operand)(ho:o.op=.store ty x y)(b:Nat)(cs new:Array Value)(t:TypeId)
 (hx:a.eval x=.pointer (some ⟨b,0,none⟩)) (hy:a.eval y=.agg new) (hb:w.heap[b]?=some (.cells cs t (0,0))) (hs:cs.size=new.size)
 (hi:(P.info? ty).map (·.size)=some new.size) (h1:new.all (·.oneCell')=true)
 (h: ∀w1,xp b w w1→w1.heap[b]?=some (.cells new t (0,0))→wpList P ops Q rest a w1):wpList P ops Q (o::rest) a w:=
 qR hgd ty x y ho b 0 new hx hy
  (fun j hj=>by
   rw [js,jM w b j cs t _ hb];exact⟨by simp [hs,hj],jb w b j cs t hb⟩) hi h1 (by rw [hdst];exact h _ (JC b _ _ _) (jaZ hb hs))
theorem jew(w:World)(g:Nat)(cs:Array Value):xp g w (w.setRow g cs):=
 ⟨rfl,rfl,rfl,by simp [World.setRow],fun k hk=>setRow_other w g k cs hk⟩
theorem Vz(hgd:o.guard=none)(d s:Operand)(dT sT:TypeId)
 (ho:o.op=.call {callee:=.builtin .copy,args:= #[d,s],argTypes:= #[dT,sT]}) (elem:TypeId) (hu:P.underlying dT=some (.slice elem)) (hsz:(P.info? elem).map (·.size)=some 1)
 (g off dLen dCap:Nat) (ad:Addr) (sLen sCap:Nat) (hd:a.eval d=.slice (some ⟨g,off,none⟩) dLen dCap) (hs:a.eval s=.slice (some ad) sLen sCap)
 (cur:Array Value) (t:TypeId) (hg:w.heap[g]?=some (.cells cur t (0,0))) (cs:List Value) (hn:cs.length=Nat.min sLen dLen)
 (hsrc: ∀j v,cs[j]?=some v→w.cell? (ad.add j)=some v) (hfit:off+cs.length≤cur.size) (h1: ∀v∈cs,v.oneCell'=true)
 (h: ∀w1,xp g w w1→w1.heap[g]?=some (.cells (cur.toList.take off++(cs++cur.toList.drop (off+cs.length))).toArray t (0,0))→wpList P ops Q rest (a.put o.dst (goInt cs.length)) w1):
 wpList P ops Q (o::rest) a w:=
 wpList_copy_own hgd d s dT sT ho elem hu hsz g off dLen dCap ad sLen sCap hd hs cur t hg cs hn hsrc hfit h1 (h _ (jew w g _) (setRow_heap w g _ _ t _ hg))
theorem xi(hgd:o.guard=none)(ty:TypeId)(x:Operand)(ho:o.op=.load ty x)(b:Nat)(cs:Array Value)(t:TypeId)(fr:Nat×Nat)(d:TypeDesc)
 (hx:a.eval x=.pointer (some ⟨b,0,none⟩)) (hb:w.heap[b]?=some (.cells cs t fr)) (hu:P.underlying ty=some d) (hd:(match d with| .struct _=>true| .array _ _=>true|_=>false)=true)
 (hi:(P.info? ty).map (·.size)=some cs.size) (h:wpList P ops Q rest (a.put o.dst (.agg cs)) w):wpList P ops Q (o::rest) a w:=
 wpList_load_row hgd ty x ho b hx t cs fr d hb hu (by cases d<;>first|rfl|exact hd) hi h
end
theorem xN {w:World}{o:Obj}{n:Nat}(h:w.heap.size=n):(w.alloc o).heap[n]?=some o:=by subst h;exact heap_alloc_new w o
theorem lt_of_heap {w:World}{k:Nat}{x:Obj}(h:w.heap[k]?=some x):k<w.heap.size:=(vP.1 h).1
theorem xx {w:World}{o:Obj}{k:Nat}{x:Obj}(h:w.heap[k]?=some x):(w.alloc o).heap[k]?=some x:=by
 rw [Below.heap_alloc w o k (lt_of_heap h)];exact h
theorem xp.keep {b:Nat}{w w1:World}(h:xp b w w1){k:Nat}{x:Obj}(hk:k≠b)(hx:w.heap[k]?=some x):w1.heap[k]?=some x:=(h.block k hk).trans hx
theorem xK {B:Nat}{w w1:World}(h:Below B w w1){k:Nat}{x:Obj}(hk:k<B)(hx:w.heap[k]?=some x):w1.heap[k]?=some x:=(h.block k hk).trans hx
theorem xP {P:Program}{c:Code}{Q:Exit→Act→World→Prop}{a:Act}{W:World}(F:World→Prop)(hF:F W)(h: ∀w1,F w1→c.wp P Q a w1):c.wp P Q a W:=h W hF
theorem jjI {P:Program}{fn:Func}{R:Ending→World→Prop}{e:Exit}{a:Act}{W:World}(F:World→Prop)(hF:F W)(h: ∀w1,F w1→bodyPost P fn R e a w1):bodyPost P fn R e a W:=h W hF
theorem jkd {P:Program}{ops:Array Oper}{l:List Oper}{Q:Exit→Act→World→Prop}{a:Act}{W:World}(F:World→Prop)(hF:F W)(h: ∀w1,F w1→wpList P ops Q l a w1):wpList P ops Q l a W:=h W hF
theorem YB(w:World)(news:List Value)(t:TypeId)(n:Nat)(hn:w.heap.size=n): ∀j u,news[j]?=some u→(w.alloc (.cells news.toArray t)).cell? ((⟨n,0,none⟩:Addr).add j)=some u:=by
 intro j u h;subst hn;rw [qZ,js,jM _ _ _ _ _ _ (xN rfl)];simpa using h
theorem zE {w:World}{base:Nat}{e e':TypeId}{size:Nat}{v:Value}{n D:Nat}{xs:List Value}{cs:Array Value}{fr:Nat×Nat}(h:w.ownsRow base e size v n xs)(hD:w.heap[D]?=some (.cells cs e' fr))(hne:e≠e'):v.ownBlock≠some D:=by
 rintro hv;rcases h.2 with⟨rfl,_⟩|⟨g,cap,cur,rfl,_,hg,_⟩;·simp [Value.ownBlock]at hv
 ·simp [Value.ownBlock]at hv;subst hv;rw [hg]at hD;simp at hD;exact hne hD.2.1
theorem jjM {w:World}{base:Nat}{e:TypeId}{size:Nat}{v:Value}{n D:Nat}{xs:List Value}(h:w.ownsRow base e size v n xs)(hD:D<base):v.ownBlock≠some D:=by
 intro hv;have:=(h.lt D hv).1;omega
theorem xk {w w':World}{base:Nat}{e:TypeId}{size:Nat}{v:Value}{n:Nat}{xs:List Value}(h:w.ownsRow base e size v n xs)(hb:Below w.heap.size w w'):w'.ownsRow base e size v n xs:=by
 refine⟨h.1,?_⟩;rcases h.2 with h'|⟨g,cap,cur,h1,h2,h3,h4⟩;·exact Or.inl h'
 ·exact Or.inr ⟨g,cap,cur,h1,h2,xK hb (lt_of_heap h3) h3,h4⟩
theorem yA {w w':World}{row:Option Nat}(h:w.grownBy w' row){k:Nat}{x:Obj}(hne:row≠some k)(hx:w.heap[k]?=some x):w'.heap[k]?=some x:=
 (h.block k (lt_of_heap hx) (Ne.symm hne)).trans hx
def xS(B:Nat)(w0:World):Type:={w':World // Below B w0 w'}
def xS.w {B:Nat}{w0:World}(x:xS B w0):World:=x.1
instance {B:Nat} {w0:World}:Nonempty (xS B w0):=⟨⟨w0,jN _ _⟩⟩
def InB(B:Nat)(w0 w':World):Prop:= ∃x:xS B w0,w'=x.w
theorem Zr {B:Nat}{w0 w':World}(h:Below B w0 w'):InB B w0 w':=⟨⟨w',h⟩,rfl⟩
theorem InB.below {B:Nat}{w0 w':World}(h:InB B w0 w'):Below B w0 w':=by obtain⟨x,rfl⟩:=h;exact x.2
@[go_sem] theorem xS.cell {B:Nat} {w0:World} (x:xS B w0) (b o:Nat) (h:b<B):x.w.cell? ⟨b,o,none⟩=w0.cell? ⟨b,o,none⟩:=x.2.cell h
@[go_sem] theorem xS.frozen {B:Nat} {w0:World} (x:xS B w0) (b o:Nat) (h:b<B):x.w.frozen? ⟨b,o,none⟩=w0.frozen? ⟨b,o,none⟩:=x.2.frozen h
section
variable {P:Program} {ops:Array Oper} {rest:List Oper} {o:Oper} {a:Act} {w w0:World} {Q:Exit→Act→World→Prop} {B:Nat} {K:Act→Prop}
theorem yR(hw:Region.wanted o (yielded ops a.tmps)=true)(ty:TypeId)(y:Operand)(ho:o.op=.load ty y)(b:Nat)(cs:Array Value)(t:TypeId)(fr:Nat×Nat)(d:TypeDesc)
 (hx:a.eval y=.pointer (some ⟨b,0,none⟩)) (hb:w0.heap[b]?=some (.cells cs t fr)) (hlt:b<B) (hu:P.underlying ty=some d) (hd:(match d with| .struct _=>true| .array _ _=>true|_=>false)=true)
 (hi:(P.info? ty).map (·.size)=some cs.size) (h:wpQuiet P ops (fun w'=> ∃x:xS B w0,w'=x.w) K rest (a.put o.dst (.agg cs))):
 wpQuiet P ops (fun w'=> ∃x:xS B w0,w'=x.w) K (o::rest) a:=by
 unfold wpQuiet;rw [jR hw];refine⟨.agg cs,fun w' hw'=>?_,h⟩;have hb':w'.heap[b]?=some (.cells cs t fr):=xK (InB.below hw') hlt hb;have hr:=run_loadVar_row (P:=P) w' b t ty cs fr d hb' hu (by cases d<;>first|rfl|exact hd) hi;unfold Oper.quietAt execOp;simp only [ho,hx,Instr.loadAt,Instr.sureAddr,kJ,qo,qF,hr];exact⟨rfl,rfl⟩
end
end Go.Proofs.YtnohcdpnnhmpfaaGreatDoor.ML
namespace Go.Proofs.YtnohcdpnnhmpfaaGreatDoor.FM
open Go.RowKit ML
abbrev U:=BitVec 32
def un(x:U):Int:=(x.toNat:Int)
theorem XC(x:U):0≤un x:=Int.natCast_nonneg _
theorem jeo(x:U):un x<4294967296:=by have:=x.isLt;unfold un;omega
theorem jen(n:Nat)(h:n<4294967296):un (BitVec.ofNat 32 n)=n:=by unfold un;rw [vQ];omega
def uv(x:U):Value:=.int .u32 (un x)
def xj(V:List U):Array Value:=(V.map uv).toArray
theorem jlv(x y:U):IntKind.u32.wrap (un x+un y)=un (x+y):=by unfold un;rw [IntKind.wrap_u32',BitVec.toNat_add];omega
theorem jmd(x y:U):IntKind.u32.wrap (un x-un y)=un (x-y):=by unfold un;rw [IntKind.wrap_u32',BitVec.toNat_sub];have:=x.isLt;have:=y.isLt;omega
theorem jbc(x y:U):bits BinOp.xor IntKind.u32 (un x) (un y)=un (x ^^^ y):=by
 unfold un;rw [u32_xor_nat _ _ x.isLt y.isLt,BitVec.toNat_xor]
theorem jly(x:U)(n:Nat)(h:n<32):
 bits BinOp.or IntKind.u32 (un x/2^n) (un x*2^(32-n)%4294967296)=un (x.rotateRight n):=by
 unfold un;have e1:((x.toNat:Int)/2^n)=((x.toNat/2^n:Nat):Int):=by norm_cast
 have e2:((x.toNat:Int)*2^(32-n)%4294967296)=((x.toNat*2^(32-n)%4294967296:Nat):Int):=by
  rw [Int.natCast_emod,vH,Int.natCast_pow];rfl
 have l1:x.toNat/2^n<4294967296:=qB (Nat.div_le_self _ _) x.isLt;rw [e1,e2,u32_or_nat _ _ l1 (qC _ (by decide)),BitVec.rotateRight_def,BitVec.toNat_or,BitVec.toNat_ushiftRight,BitVec.toNat_shiftLeft,Nat.shiftRight_eq_div_pow,Nat.shiftLeft_eq,kV h]
theorem zA {w:World}{b:Nat}{V:List U}{T:TypeId}(h:w.heap[b]?=some (.cells (xj V) T (0,0)))(o:Nat)(x:U):
 (w.setCell ⟨b,o,none⟩ (.int .u32 (un x))).heap[b]?=some (.cells (xj (V.set o x)) T (0,0)):=by
 rw [jd w b o _ T _ h];congr 2;simp [xj,uv,List.map_set]
theorem yK {w:World}{b:Nat}{V:List U}{T:TypeId}(h:w.heap[b]?=some (.cells (xj V) T (0,0)))(o:Nat)(ho:o<V.length):
 w.cell? ⟨b,o,none⟩=some (.int .u32 (un (V.getD o 0))):=by
 rw [jM w b o _ T _ h];simp [xj,uv,ho,jW]
theorem ye {w:World}{b:Nat}{V:List U}{T:TypeId}(h:w.heap[b]?=some (.cells (xj V) T (0,0)))(o:Nat):w.frozen? ⟨b,o,none⟩=false:=jb w b o _ T h
structure Qq(b:Nat)(T:TypeId)(oa ob oc od:Nat)(w0 w:World)(V:List U)(xa xb xc xd:U):Prop where
 only:xp b w0 w
 blk:w.heap[b]?=some (.cells (xj V) T (0,0))
 len:V.length=16
 ga:V.getD oa 0=xa
 gb:V.getD ob 0=xb
 gc:V.getD oc 0=xc
 gd:V.getD od 0=xd
structure YZ(oa ob oc od:Nat):Prop where
 la:oa<16
 lb:ob<16
 lc:oc<16
 ld:od<16
 ab:oa≠ob
 ac:oa≠oc
 ad:oa≠od
 bc:ob≠oc
 bd:ob≠od
 cd:oc≠od
theorem getD_set_ne(V:List U)(i j:Nat)(x:U)(h:i≠j):(V.set i x).getD j 0=V.getD j 0:=by
 simp [jW,vS h]
theorem Jw(V:List U)(i:Nat)(x:U)(h:i<V.length):(V.set i x).getD i 0=x:=by
 simp [jW,h]
section
variable {b:Nat} {T:TypeId} {oa ob oc od:Nat} {w0 w:World} {V:List U} {xa xb xc xd:U}
theorem Qq.cells(h:Qq b T oa ob oc od w0 w V xa xb xc xd)(D:YZ oa ob oc od):
 w.cell? ⟨b,oa,none⟩=some (.int .u32 (un xa))∧w.cell? ⟨b,ob,none⟩=some (.int .u32 (un xb))∧
 w.cell? ⟨b,oc,none⟩=some (.int .u32 (un xc))∧w.cell? ⟨b,od,none⟩=some (.int .u32 (un xd))∧
 w.frozen? ⟨b,oa,none⟩=false∧w.frozen? ⟨b,ob,none⟩=false∧w.frozen? ⟨b,oc,none⟩=false∧w.frozen? ⟨b,od,none⟩=false:=by
 refine⟨?_,?_,?_,?_,ye h.blk _,ye h.blk _,ye h.blk _,ye h.blk _⟩;·rw [yK h.blk oa (by rw [h.len];exact D.la),h.ga]
 ·rw [yK h.blk ob (by rw [h.len];exact D.lb),h.gb]
 ·rw [yK h.blk oc (by rw [h.len];exact D.lc),h.gc]
 ·rw [yK h.blk od (by rw [h.len];exact D.ld),h.gd]
theorem Qq.seta(h:Qq b T oa ob oc od w0 w V xa xb xc xd)(D:YZ oa ob oc od)(m:Nat)(x:U):
 Qq b T oa ob oc od w0 ((w.drewN m).setCell ⟨b,oa,none⟩ (.int .u32 (un x))) (V.set oa x) x xb xc xd:=
 ⟨
  (h.only.drewN m).setCell _ _,zA (w:=w.drewN m) h.blk _ _,by simp [h.len],Jw _ _ _ (by rw [h.len];exact D.la),
  (getD_set_ne _ _ _ _ D.ab).trans h.gb,(getD_set_ne _ _ _ _ D.ac).trans h.gc,(getD_set_ne _ _ _ _ D.ad).trans h.gd⟩
theorem Qq.setb(h:Qq b T oa ob oc od w0 w V xa xb xc xd)(D:YZ oa ob oc od)(m:Nat)(x:U):
 Qq b T oa ob oc od w0 ((w.drewN m).setCell ⟨b,ob,none⟩ (.int .u32 (un x))) (V.set ob x) xa x xc xd:=
 ⟨
  (h.only.drewN m).setCell _ _,zA (w:=w.drewN m) h.blk _ _,by simp [h.len],(getD_set_ne _ _ _ _ D.ab.symm).trans h.ga,Jw _ _ _ (by rw [h.len];exact D.lb),
  (getD_set_ne _ _ _ _ D.bc).trans h.gc,(getD_set_ne _ _ _ _ D.bd).trans h.gd⟩
theorem Qq.setc(h:Qq b T oa ob oc od w0 w V xa xb xc xd)(D:YZ oa ob oc od)(m:Nat)(x:U):
 Qq b T oa ob oc od w0 ((w.drewN m).setCell ⟨b,oc,none⟩ (.int .u32 (un x))) (V.set oc x) xa xb x xd:=
 ⟨
  (h.only.drewN m).setCell _ _,zA (w:=w.drewN m) h.blk _ _,by simp [h.len],(getD_set_ne _ _ _ _ D.ac.symm).trans h.ga,(getD_set_ne _ _ _ _ D.bc.symm).trans h.gb,
  Jw _ _ _ (by rw [h.len];exact D.lc),(getD_set_ne _ _ _ _ D.cd).trans h.gd⟩
theorem Qq.setd(h:Qq b T oa ob oc od w0 w V xa xb xc xd)(D:YZ oa ob oc od)(m:Nat)(x:U):
 Qq b T oa ob oc od w0 ((w.drewN m).setCell ⟨b,od,none⟩ (.int .u32 (un x))) (V.set od x) xa xb xc x:=
 ⟨
  (h.only.drewN m).setCell _ _,zA (w:=w.drewN m) h.blk _ _,by simp [h.len],(getD_set_ne _ _ _ _ D.ad.symm).trans h.ga,(getD_set_ne _ _ _ _ D.bd.symm).trans h.gb,
  (getD_set_ne _ _ _ _ D.cd.symm).trans h.gc,Jw _ _ _ (by rw [h.len];exact D.ld)⟩
end
def VG(V:List U)(a b c d:Nat)(x y:U):List U:=
 let va:=V.getD a 0;let vb:=V.getD b 0;let vc:=V.getD c 0;let vd:=V.getD d 0
 let a1:=va+(vb+x);let d1:=(vd ^^^ a1).rotateRight 16;let c1:=vc+d1;let b1:=(vb ^^^ c1).rotateRight 12
 let a2:=a1+(b1+y);let d2:=(d1 ^^^ a2).rotateRight 8;let c2:=c1+d2;let b2:=(b1 ^^^ c2).rotateRight 7
 (((((((V.set a a1).set d d1).set c c1).set b b1).set a a2).set d d2).set c c2).set b b2
def jmp(V:List U)(a b c d:Nat)(x y:U):List U:=
 let va:=V.getD a 0;let vb:=V.getD b 0;let vc:=V.getD c 0;let vd:=V.getD d 0
 let b1:=vb.rotateRight 25 ^^^ vc;let c1:=vc-vd;let d1:=vd.rotateRight 24 ^^^ va;let a1:=va-(b1+y)
 let b2:=b1.rotateRight 20 ^^^ c1;let c2:=c1-d1;let d2:=d1.rotateRight 16 ^^^ a1;let a2:=a1-(b2+x)
 (((((((V.set b b1).set c c1).set d d1).set a a1).set b b2).set c c2).set d d2).set a a2
theorem jaH(V:List U)(a b c d:Nat)(x y:U):(VG V a b c d x y).length=V.length:=by simp [VG]
def ca(i:Nat):Nat:=i%4
def cb(i:Nat):Nat:=4+(i+i/4)%4
def cc(i:Nat):Nat:=8+(i+2* (i/4))%4
def cd(i:Nat):Nat:=12+(i+3* (i/4))%4
theorem jaJ(i:Nat):YZ (ca i) (cb i) (cc i) (cd i):=by
 unfold ca cb cc cd;refine⟨?_,?_,?_,?_,?_,?_,?_,?_,?_,?_⟩<;>omega
def jbM:ByteArray:=⟨#[48,49,50,51,52,53,54,55,56,57,97,98,99,100,101,102,101,97,52,56,57,102,100,54,49,99,48,50,98,55,53,51,98,56,99,48,53,50,102,100,97,101,51,54,55,49,57,52,55,57,51,49,100,99,98,101,50,54,53,97,52,48,102,56,57,48,53,55,50,52,97,102,101,49,98,99,54,56,51,100,50,99,54,97,48,98,56,51,52,100,55,53,102,101,49,57,99,53,49,102,101,100,52,97,48,55,54,51,57,50,56,98,100,98,55,101,99,49,51,57,53,48,102,52,56,54,50,97,54,102,101,57,98,51,48,56,99,50,100,55,49,52,97,53,97,50,56,52,55,54,49,53,102,98,57,101,51,99,100,48]⟩
def jdE(k:Nat):Nat:=if 97≤(jbM.get! k).toNat then(jbM.get! k).toNat-87 else(jbM.get! k).toNat-48
def yr(r i:Nat):Nat:=jdE (16*r+i)
theorem jcz:jbM.size=160:=by decide+kernel
theorem jgh: ∀k,(hk:k<jbM.size)→(97:Int)≤((jbM[k]'hk).toNat:Int)→(((jbM[k]'hk).toNat:Int)-97)%256+10=(jdE k:Int):=by decide+kernel
theorem jgg: ∀k,(hk:k<jbM.size)→((jbM[k]'hk).toNat:Int)<97→(((jbM[k]'hk).toNat:Int)-48)%256=(jdE k:Int):=by decide+kernel
theorem jij: ∀k,k<160→jdE k<16:=by decide+kernel
theorem Qr(r i:Nat)(hr:r<10)(hi:i<16):yr r i<16:=jij _ (by omega)
def jhf(V M:List U)(k:Nat):List U:=
 VG V (ca (k%8)) (cb (k%8)) (cc (k%8)) (cd (k%8)) (M.getD (yr (k/8) (2* (k%8))) 0) (M.getD (yr (k/8) (2* (k%8)+1)) 0)
def jmm(V M:List U)(k:Nat):List U:=
 jmp V (ca (k%8)) (cb (k%8)) (cc (k%8)) (cd (k%8)) (M.getD (yr (k/8) (2* (k%8))) 0) (M.getD (yr (k/8) (2* (k%8)+1)) 0)
def zU(V M:List U):Nat→List U
 |0=>V
 |k+1=>jhf (zU V M k) M k
def unK(V M:List U):Nat→List U
 |0=>V
 |k+1=>jmm (unK V M k) M (79-k)
theorem zB(V M:List U): ∀k,(zU V M k).length=V.length
 |0=>rfl
 |k+1=>by rw [zU,jhf,jaH,zB V M k]
theorem xt(V:List U):(xj V).size=V.length:=by simp [xj]
theorem yU(V:List U):(xj V).all (·.oneCell')=true:=by
 simp [xj,uv,Value.oneCell']
theorem jet(V M:List U)(k j:Nat)(hj:j<8):zU V M (8*k+j+1)=VG (zU V M (8*k+j)) (ca j) (cb j) (cc j) (cd j) (M.getD (yr k (2*j)) 0) (M.getD (yr k (2*j+1)) 0):=by
 rw [zU,jhf,show(8*k+j)%8=j by omega,show(8*k+j)/8=k by omega]
def ivL:List U:= [0x6a09e667,0xbb67ae85,0x3c6ef372,0xa54ff53a,0x510e527f,0x9b05688c,0x1f83d9ab,0x5be0cd19]
def KW(H:List U)(n:Nat)(last:Bool):List U:=
 let v:=H++ivL
 let v:=v.set 12 (v.getD 12 0 ^^^ BitVec.ofNat 32 n)
 let v:=v.set 13 (v.getD 13 0 ^^^ BitVec.ofNat 32 (n/4294967296))
 if last then v.set 14 (~~~ v.getD 14 0)else v
def Yj(H:List U):Nat→List U
 |0=>List.replicate 16 0
 |k+1=>((Yj H k).set k (H.getD k 0)).set (k+8) (ivL.getD k 0)
theorem jgC(H:List U)(k:Nat):Yj H (k+1)=((Yj H k).set k (H.getD k 0)).set (k+8) (ivL.getD k 0):=rfl
theorem Xe(H:List U): ∀k,(Yj H k).length=16
 |0=>rfl
 |k+1=>by rw [Yj,kD,kD,Xe H k]
theorem jiP(H:List U)(h:H.length=8):Yj H 8=H++ivL:=by
 match H,h with
 | [a,b,c,d,e,f,g,i],_=>rfl
def Qm(H W:List U):Nat→List U
 |0=>H
 |k+1=>(Qm H W k).set k ((Qm H W k).getD k 0 ^^^(W.getD k 0 ^^^ W.getD (k+8) 0))
def JH(H M:List U)(n:Nat)(last:Bool):List U:=Qm H (zU (KW H n last) M 80) 8
theorem jcB(H W:List U)(k:Nat):Qm H W (k+1)=(Qm H W k).set k ((Qm H W k).getD k 0 ^^^(W.getD k 0 ^^^ W.getD (k+8) 0)):=rfl
theorem JJ(H W:List U): ∀k,(Qm H W k).length=H.length
 |0=>rfl
 |k+1=>by rw [Qm,kD,JJ H W k]
theorem Kr(H M:List U)(n:Nat)(last:Bool):(JH H M n last).length=H.length:=JJ _ _ _
theorem Yh(H:List U)(n:Nat)(last:Bool)(h:H.length=8):(KW H n last).length=16:=by
 unfold KW;cases last<;>simp [h,ivL]
theorem jcs(H V:List U)(n:Nat)(last:Bool)(x12 x13:U)(hV:H++ivL=V)(h12:V.getD 12 0=x12)(h13:V.getD 13 0=x13):
 KW H n last=(if last then(((V.set 12 (x12 ^^^ BitVec.ofNat 32 n)).set 13 (x13 ^^^ BitVec.ofNat 32 (n/4294967296))).set 14 (~~~(((V.set 12 (x12 ^^^ BitVec.ofNat 32 n)).set 13 (x13 ^^^ BitVec.ofNat 32 (n/4294967296))).getD 14 0)))
  else((V.set 12 (x12 ^^^ BitVec.ofNat 32 n)).set 13 (x13 ^^^ BitVec.ofNat 32 (n/4294967296)))):=by
 subst hV;subst h12;subst h13;unfold KW;simp only [FM.getD_set_ne _ 12 13 _ (by decide)]
theorem jlJ(x:U):4294967295-un x=un (~~~ x):=by
 unfold un;rw [BitVec.toNat_not];have:=x.isLt;omega
theorem jjr(x:U):bits BinOp.xor IntKind.u32 (if IntKind.u32.signed=true then -1 else IntKind.u32.max) (un x)=un (~~~ x):=by
 have h:(if IntKind.u32.signed=true then -1 else IntKind.u32.max)=un (BitVec.allOnes 32):=by decide
 rw [h,jbc,BitVec.allOnes_xor]
theorem jfJ(n:Nat):(n:Int)%4294967296=un (BitVec.ofNat 32 n):=by
 unfold un;rw [vQ];omega
theorem jgU(n:Nat):(n:Int)/4294967296%4294967296=un (BitVec.ofNat 32 (n/4294967296)):=by
 have h:=jfJ (n/4294967296);rw [Int.natCast_ediv]at h;exact h
theorem jhz(n:Nat)(h:n<18446744073709551616):IntKind.u64.wrap ((n:Int)/4294967296)%4294967296=un (BitVec.ofNat 32 (n/4294967296)):=by
 have e:IntKind.u64.wrap ((n:Int)/4294967296)=(n:Int)/4294967296:=by
  have h1:IntKind.u64.wrap ((n:Int)/4294967296)=((n:Int)/4294967296)%18446744073709551616:=by simp [IntKind.wrap,IntKind.bits,IntKind.signed]
  rw [h1];omega
 rw [e,jgU]
theorem jcV(V X:List U)(off:Nat):((xj V).toList.take off++(X.map uv++(xj V).toList.drop (off+(X.map uv).length))).toArray=xj (V.take off++(X++V.drop (off+X.length))):=by
 simp [xj,List.map_take,List.map_drop]
theorem jeu {w:World}{b:Nat}{V:List U}{T:TypeId}{fr:Nat×Nat}(h:w.heap[b]?=some (.cells (xj V) T fr)): ∀j v,(V.map uv)[j]?=some v→w.cell? ((⟨b,0,none⟩:Addr).add j)=some v:=by
 intro j v hj;rw [qZ,js,jM _ b j _ _ _ h];simpa [xj] using hj
theorem jaT(V:List U): ∀v∈V.map uv,v.oneCell'=true:=by
 intro v hv;simp only [jl]at hv;obtain⟨x,_,rfl⟩:=hv;rfl
end Go.Proofs.YtnohcdpnnhmpfaaGreatDoor.FM
namespace Go.Proofs.YtnohcdpnnhmpfaaGreatDoor.FM
open Go.RowKit ML
abbrev Bytes:=List UInt8
def yt(B:Bytes)(i:Nat):Nat:=(B.getD i 0).toNat
def VT(B:Bytes)(k:Nat):Nat:=yt B (4*k)+256*yt B (4*k+1)+65536*yt B (4*k+2)+16777216*yt B (4*k+3)
def yN(B:Bytes):List U:=(List.range 16).map fun k=>BitVec.ofNat 32 (VT B k)
theorem zK(B:Bytes):(yN B).length=16:=by simp [yN]
theorem YJ(B:Bytes)(i:Nat):yt B i<256:=(B.getD i 0).toNat_lt
def Jp(T:Bytes)(p:Nat):Bytes:=(T.drop (64*p)).take 64
def zL(h:List U)(T:Bytes):Nat→List U
 |0=>h
 |p+1=>JH (zL h T p) (yN (Jp T p)) (64* (p+1)) false
theorem VK(h:List U)(T:Bytes)(hh:h.length=8): ∀p,(zL h T p).length=8
 |0=>hh
 |p+1=>by rw [zL,Kr,VK h T hh p]
def Jx(T:Bytes):Nat:=(T.length-1)/64
def VM(h:List U)(T:Bytes):List U:=JH (zL h T (Jx T)) (yN (T.drop (64*Jx T))) T.length true
def Vm(V:List U):Bytes:=V.flatMap fun x=> [UInt8.ofNat (x.toNat%256),UInt8.ofNat (x.toNat/256%256),UInt8.ofNat (x.toNat/65536%256),UInt8.ofNat (x.toNat/16777216%256)]
def zr(n:Nat):List U:=ivL.set 0 (ivL.getD 0 0 ^^^(0x01010020+BitVec.ofNat 32 (256*n)))
def yz(K:Bytes):Bytes:=if K= []then []else K++List.replicate (64-K.length) 0
def Jm(K B:Bytes):Bytes:=Vm (VM (zr K.length) (yz K++B))
theorem jbL(T S:Bytes)(p:Nat)(h:64* (p+1)≤T.length):Jp (T++S) p=Jp T p:=by
 unfold Jp;rw [List.drop_append_of_le_length (by omega),xH (by simp;omega)]
theorem YK(h:List U)(T S:Bytes): ∀p,64*p≤T.length→zL h (T++S) p=zL h T p
 |0,_=>rfl
 |p+1,hp=>by rw [zL,zL,YK h T S p (by omega),jbL T S p hp]
theorem YF(V:List U):(Vm V).length=4*V.length:=by
 unfold Vm
 induction V with
 |nil=>rfl
 |cons x V ih=>simp only [List.flatMap_cons,ja,kR,ih];simp;omega
theorem ZU(h:List U)(T:Bytes)(hh:h.length=8):(VM h T).length=8:=by
 unfold VM;rw [Kr,VK h T hh]
structure Yx(T:Bytes)(p t:Nat)(D:Bytes):Prop where
 len:T.length=64*p+t
 le:t≤64
 dl:D.length=64
 held:D.take t=T.drop (64*p)
theorem Yx.full {T D:Bytes}{p:Nat}(m:Yx T p 64 D)(h:List U):JH (zL h T p) (yN D) (64*p+64) false=zL h T (p+1):=by
 have e:D=Jp T p:=by
  have h1:=m.held;rw [jc (by rw [m.dl];exact jO _)]at h1;rw [Jp,←h1,jc (by rw [m.dl];exact jO _)]
 rw [zL,←e,je]
theorem Yx.next {T D:Bytes}{p:Nat}(m:Yx T p 64 D):Yx T (p+1) 0 D:=
 ⟨by have:=m.len;omega,by omega,m.dl,by rw [qe];symm;rw [List.drop_eq_nil_iff];have:=m.len;omega⟩
theorem Yx.more {T D:Bytes}{p t:Nat}(m:Yx T p t D)(E:Bytes)(hE:t+E.length≤64):Yx (T++E) p (t+E.length) (D.take t++(E++D.drop (t+E.length))):=by
 have hl:=m.len;have hd:=m.dl;refine⟨by rw [ja,hl];omega,hE,by simp [hd];omega,?_⟩;rw [List.drop_append_of_le_length (by omega),←m.held];have h1:(D.take t).length=t:=by simp [hd];have:=m.le;omega
 rw [←kS,xH (by simp [hd];omega),jc (by simp [hd];omega)]
theorem Yx.done {T D:Bytes}{p t:Nat}(m:Yx T p t D)(h0:T= []∨0<t):p=Jx T:=by
 have hl:=m.len;have:=m.le;clear m;unfold Jx;rcases h0 with rfl|h;·simp only [List.length_nil]at*;omega
 ·omega
theorem Qz(B:Bytes)(i k:Nat):VT (B.take i) k=(if 4*k<i then yt B (4*k)else 0)+256* (if 4*k+1<i then yt B (4*k+1)else 0)+65536* (if 4*k+2<i then yt B (4*k+2)else 0)+16777216* (if 4*k+3<i then yt B (4*k+3)else 0):=by
 have key: ∀j,yt (B.take i) j=if j<i then yt B j else 0:=by
  intro j;unfold yt;by_cases h:j<i;·rw [jR h];simp [jW,vT,h]
  ·rw [jT h];simp [jW,vT,h]
 unfold VT;rw [key,key,key,key]
theorem jat(B:Bytes)(k:Nat)(hk:k<16):(yN B).getD k 0=BitVec.ofNat 32 (VT B k):=by
 simp [yN,jW,hk]
theorem jad(B:Bytes)(i:Nat):
 yN (B.take (i+1))=(yN (B.take i)).set (i/4) (BitVec.ofNat 32 (VT (B.take i) (i/4)+yt B i*2^(8* (i%4)))):=by
 apply vI (by simp [zK]);intro k h1 h2;have hk:k<16:=by rw [zK]at h1;exact h1
 rw [List.getElem_set];have e: ∀(B:Bytes) (h:k<(yN B).length),(yN B)[k]=BitVec.ofNat 32 (VT B k):=by intro B h;simp [yN]
 rw [e];split
 ·rename_i h;subst h;congr 1;rw [Qz,Qz];generalize hq:i/4=q;have h4:i=4*q∨i=4*q+1∨i=4*q+2∨i=4*q+3:=by omega
  clear hq h1 h2 hk e;rcases h4 with h4|h4|h4|h4<;>subst h4
  ·rw [show(4*q)%4=0 by omega,jR (show 4*q<4*q+1 by omega),jT (show ¬4*q+1<4*q+1 by omega),jT (show ¬4*q+2<4*q+1 by omega),jT (show ¬4*q+3<4*q+1 by omega),jT (show ¬4*q<4*q by omega),jT (show ¬4*q+1<4*q by omega),jT (show ¬4*q+2<4*q by omega),jT (show ¬4*q+3<4*q by omega)];simp
  ·rw [show(4*q+1)%4=1 by omega,jR (show 4*q<4*q+1+1 by omega),jR (show 4*q+1<4*q+1+1 by omega),jT (show ¬4*q+2<4*q+1+1 by omega),jT (show ¬4*q+3<4*q+1+1 by omega),jR (show 4*q<4*q+1 by omega),jT (show ¬4*q+1<4*q+1 by omega),jT (show ¬4*q+2<4*q+1 by omega),jT (show ¬4*q+3<4*q+1 by omega)];simp;omega
  ·rw [show(4*q+2)%4=2 by omega,jR (show 4*q<4*q+2+1 by omega),jR (show 4*q+1<4*q+2+1 by omega),jR (show 4*q+2<4*q+2+1 by omega),jT (show ¬4*q+3<4*q+2+1 by omega),jR (show 4*q<4*q+2 by omega),jR (show 4*q+1<4*q+2 by omega),jT (show ¬4*q+2<4*q+2 by omega),jT (show ¬4*q+3<4*q+2 by omega)];simp;omega
  ·rw [show(4*q+3)%4=3 by omega,jR (show 4*q<4*q+3+1 by omega),jR (show 4*q+1<4*q+3+1 by omega),jR (show 4*q+2<4*q+3+1 by omega),jR (show 4*q+3<4*q+3+1 by omega),jR (show 4*q<4*q+3 by omega),jR (show 4*q+1<4*q+3 by omega),jR (show 4*q+2<4*q+3 by omega),jT (show ¬4*q+3<4*q+3 by omega)];simp;omega
 ·rename_i h;rw [e];congr 1;rw [Qz,Qz];have:i/4≠k:=h;have c0:(4*k<i+1)↔(4*k<i):=by omega
  have c1:(4*k+1<i+1)↔(4*k+1<i):=by omega
  have c2:(4*k+2<i+1)↔(4*k+2<i):=by omega
  have c3:(4*k+3<i+1)↔(4*k+3<i):=by omega
  simp only [c0,c1,c2,c3]
theorem jfH(B:Bytes)(i:Nat):VT (B.take i) (i/4)<2^(8* (i%4)):=by
 rw [Qz];generalize hq:i/4=q;have h4:i=4*q∨i=4*q+1∨i=4*q+2∨i=4*q+3:=by omega
 clear hq;have b0:=YJ B (4*q);have b1:=YJ B (4*q+1);have b2:=YJ B (4*q+2);rcases h4 with h4|h4|h4|h4<;>subst h4
 ·rw [show(4*q)%4=0 by omega,jT (show ¬4*q<4*q by omega),jT (show ¬4*q+1<4*q by omega),jT (show ¬4*q+2<4*q by omega),jT (show ¬4*q+3<4*q by omega)];decide
 ·rw [show(4*q+1)%4=1 by omega,jR (show 4*q<4*q+1 by omega),jT (show ¬4*q+1<4*q+1 by omega),jT (show ¬4*q+2<4*q+1 by omega),jT (show ¬4*q+3<4*q+1 by omega)];omega
 ·rw [show(4*q+2)%4=2 by omega,jR (show 4*q<4*q+2 by omega),jR (show 4*q+1<4*q+2 by omega),jT (show ¬4*q+2<4*q+2 by omega),jT (show ¬4*q+3<4*q+2 by omega)];omega
 ·rw [show(4*q+3)%4=3 by omega,jR (show 4*q<4*q+3 by omega),jR (show 4*q+1<4*q+3 by omega),jR (show 4*q+2<4*q+3 by omega),jT (show ¬4*q+3<4*q+3 by omega)];omega
theorem jla(x c m:Nat)(hx:x<2^m)(hc:c<256)(hm:m+8≤32):
 bits BinOp.or IntKind.u32 (un (BitVec.ofNat 32 x)) ((c:Int)*2^m%4294967296)=un (BitVec.ofNat 32 (x+c*2^m)):=by
 have hp:2^m*256≤4294967296:=by
  have:=kW (show 0<2 by decide) hm;rw [qq]at this;exact this
 have hpos:0<2^m:=Nat.pow_pos (by decide);have h2:c*2^m+2^m≤4294967296:=by
  have:(c+1)*2^m≤256*2^m:=Nat.mul_le_mul_right _ (by omega);rw [qL]at this;omega
 rw [jen _ (by omega),jen _ (by omega)];have e:((c:Int)*2^m%4294967296)=((c*2^m:Nat):Int):=by
  have:((c:Int)*2^m)=((c*2^m:Nat):Int):=by push_cast;rfl
  rw [this];omega
 rw [e,u32_or_nat _ _ (by omega) (by omega)];congr 1;rw [Nat.or_comm,Nat.add_comm,←Nat.shiftLeft_eq,Nat.shiftLeft_add_eq_or_of_lt hx]
end Go.Proofs.YtnohcdpnnhmpfaaGreatDoor.FM
namespace Go
namespace Seg
section
variable {P:Program} {ops:Array Oper} {Q:Exit→Act→World→Prop} {md:Region.Mode} {S:World→Prop}
def Yv(P:Program)(md:Region.Mode)(ops:Array Oper)(Q:Exit→Act→World→Prop)(S:World→Prop)(n:Nat)(E:Array Bool→Act→World→Prop):
 Nat→Array Bool→Act→World→Prop
 |0,listed,a,w=>E listed a w
 |
  f+1,listed,a,w=>Region.ready md ops listed≠ []∧
  ∀i∈Region.ready md ops listed,i<n∧wpOp P ops Q i (fun a' w'=>S w'∧Yv P md ops Q S n E f (listed.setIfInBounds i true) a' w') a w
theorem Kn {n g:Nat}{E:Array Bool→Act→World→Prop}(hE: ∀listed a w,E listed a w→wpAny P md ops Q g listed a w):
 ∀(f:Nat) (listed:Array Bool) (a:Act) (w:World),Yv P md ops Q S n E f listed a w→wpAny P md ops Q (f+g) listed a w
 |0,listed,a,w,h=>by rw [js];exact hE _ _ _ h
 |
  f+1,listed,a,w,h=>by
  rw [show f+1+g=(f+g)+1 by omega];exact⟨fun h0=>absurd h0 h.1,fun i hi=>wpOp_mono (fun a' w' h'=>Kn hE f _ a' w' h'.2) (h.2 i hi).2⟩
def jbB(md:Region.Mode)(ops:Array Oper)(n:Nat):Prop:=n<ops.size→Region.sinkB md ops n=true∧Region.chainB md ops n=true
theorem jeI {n i:Nat}{listed:Array Bool}(hw:jbB md ops n)(inv:HeadInv md ops n listed)(hin:i<n)(hi:i∈Region.ready md ops listed):
 ∀j∈Region.ready md ops listed,j<n:=fun j hj=>by
 rcases jt j n with h|h;·exact h
 ·obtain⟨_,o,ho,_⟩:=mem_ready.1 hj;have hlt:j<ops.size:=(vP.1 ho).1;obtain⟨h1,h2⟩:=hw (by omega);exact absurd hj (tail_waits h1 h2 (by omega) inv _ i rfl hin (mem_ready.1 hi).1 j h)
theorem jgQ {n i:Nat}{oi:Oper}{v:Value}{E:Array Bool→Act→World→Prop}(hi:ops[i]?=some oi)
 (hsel: ∀(j:Nat) (o:Oper) cs b,ops[j]?=some o→o.op≠.select cs b)
 (hQ: ∀c a w,Q (.panic c) (a.put oi.dst v) w→Q (.panic c) a w) (hwt:jbB md ops n) (hin:i<n)
 (hdone: ∀listed a w,E listed a w→ ∀j∈Region.ready md ops listed,n≤j):
 ∀(f:Nat) (listed:Array Bool) (a:Act) (w:World),HeadInv md ops n listed→
  (∀j oj,ops[j]?=some oj→j≠i→listed.getD j true=false→(∀e∈oj.after,Region.binds md e=true→e.on≠i)→oi.apart ops oj=true)→
  i∈Region.ready md ops listed→YieldsIf P ops S oi v a→S w→
  Yv P md ops Q S n E f (listed.setIfInBounds i true) (a.put oi.dst v) w→Yv P md ops Q S n E (f+1) listed a w:=by
 intro f
 induction f with
 |
  zero=>
  intro listed a w inv _ hr hy hS H;refine⟨fun h=>(by rw [h]at hr;cases hr),fun j hj=>?_⟩;have hjn:=jeI hwt inv hin hr j hj;refine⟨hjn,?_⟩;by_cases hji:j=i;·subst hji;exact hy.wpOp hi hS ⟨hS,H⟩
  ·have:=hdone _ _ _ H j (ready_mono hj hji);omega
 |
  succ f ih=>
  intro listed a w inv hfree hr hy hS H;refine⟨fun h=>(by rw [h]at hr;cases hr),fun j hj=>?_⟩;have hjn:=jeI hwt inv hin hr j hj;refine⟨hjn,?_⟩;by_cases hji:j=i;·subst hji;exact hy.wpOp hi hS ⟨hS,H⟩
  ·have h1:=(H.2 j (ready_mono hj hji)).2;obtain⟨hjun,oj,hoj,hall⟩:=mem_ready.1 hj;have hnot: ∀e∈oj.after,Region.binds md e=true→e.on≠i:=fun e he hb heq=>by
    have h1:=hall e he hb;rw [heq,getD_both (mem_ready.1 hr).1]at h1;cases h1
   have h2:=wpOp_putIf hoj (hfree j oj hoj hji hjun hnot) (fun cs b=>hsel i oi cs b hi) (fun cs b=>hsel j oj cs b hoj) hQ hy h1;have hfree': ∀k ok,ops[k]?=some ok→k≠i→(listed.setIfInBounds j true).getD k true=false→
    (∀e∈ok.after,Region.binds md e=true→e.on≠i)→oi.apart ops ok=true:=fun k ok hk hki hun hno=>by
    refine hfree k ok hk hki ?_ hno;by_cases hjk:j=k;·subst hjk;exact hjun
    ·rw [getD_set_ne true hjk]at hun;exact hun
   refine wpOp_mono (fun a' w' h3=>⟨h3.2.1,ih (listed.setIfInBounds j true) a' w' (inv.set hj hjn) hfree' (ready_mono hr (Ne.symm hji)) h3.1 h3.2.1 ?_⟩) h2;rw [Array.setIfInBounds_comm _ _ hji];exact h3.2.2
theorem jkJ {n j:Nat}{E:Array Bool→Act→World→Prop}{f:Nat}{listed:Array Bool}{a:Act}{w:World}(hr:Region.ready md ops listed= [j])(hj:j<n)
 (h:wpOp P ops Q j (fun a' w'=>S w'∧Yv P md ops Q S n E f (listed.setIfInBounds j true) a' w') a w):Yv P md ops Q S n E (f+1) listed a w:=by
 refine⟨by rw [hr];simp,fun i hi=>?_⟩;rw [hr]at hi;obtain rfl:i=j:=by simpa using hi
 exact⟨hj,h⟩
def jaM(o:Oper):Bool:=match o.op with
 | .move _| .assign _| .pick ..| .load ..| .nilCheck _| .binOp ..| .unOp ..| .convert ..| .makeInterface ..| .slice ..| .fieldAddr ..| .field ..
 | .indexAddr ..| .index ..| .lookup ..| .extract ..| .typeAssert ..| .build ..| .sliceToArrayPointer ..| .makeFunc ..=>true
 | .call c=>(match c.callee with| .builtin .len=>true| .builtin .cap=>true| .builtin .min=>true| .builtin .max=>true|_=>false)
 |_=>false
theorem jcf {s:Sem Value}{w w':World}{n:Next}(h:(do pure (Next.value (←s)):Sem Next).run P w=.ok n w'): ∃u,n=.value u:=by
 simp only [kJ]at h;cases hr:s.run P w with
 |ok u w1=>rw [hr]at h;simp at h;exact⟨u,h.1.symm⟩
 |halt x w1=>rw [hr]at h;simp at h
theorem jeN {o:Oper}(hp:jaM o=true){ρ:Operand→Value}{w w':World}{n:Next}(h:(execOp ρ o).run P w=.ok n w'): ∃u,n=.value u:=by
 obtain⟨dst,op,type,pos,after,guard⟩:=o;unfold jaM at hp;cases op<;>(try (simp at hp;done));all_goals simp only [execOp]at h
 case move x=>simp at h;exact⟨_,h.1.symm⟩
 case assign x=>simp at h;exact⟨_,h.1.symm⟩
 case pick c a b=>
  simp only [kJ]at h;cases hr:(asBool (ρ c)).run P w with
  |ok u w1=>rw [hr]at h;simp at h;exact⟨_,h.1.symm⟩
  |halt x w1=>rw [hr]at h;simp at h
 case nilCheck x=>
  have hrt: ∀(w:World),¬ ∃n w',(runtimePanic .nilDeref:Sem Next).run P w=.ok n w':=by
   intro w ⟨n,w',h⟩;unfold runtimePanic at h;simp [goPanic]at h
  split at h;·exact absurd ⟨_,_,h⟩ (hrt _)
  ·exact absurd ⟨_,_,h⟩ (hrt _)
  ·exact absurd ⟨_,_,h⟩ (hrt _)
  ·split at h;·exact absurd ⟨_,_,h⟩ (hrt _)
   ·simp only [kJ]at h;cases h1:(program).run P w with
    |halt x w1=>rw [h1]at h;simp at h
    |
     ok p w1=>
     rw [h1]at h;simp only [qF]at h;revert h;generalize (nilAhead _ _ _ _).run P w1=r;intro h;cases r with
     |halt x w1=>simp at h
     |
      ok p w1=>
      simp only [qF]at h;split at h;·simp [unsupported]at h
      ·simp at h;exact⟨_,h.1.symm⟩
   ·simp at h;exact⟨_,h.1.symm⟩
  ·simp at h;exact⟨_,h.1.symm⟩
 case call c=>
  cases hc:c.callee with
  |builtin b=>cases b<;>simp [hc]at hp<;>simp only [resolve,hc,kJ,qo,qF,invoke,builtin]at h<;>exact jcf (by simpa [kJ] using h)
  |value f=>simp [hc]at hp
  |invoke f m=>simp [hc]at hp
 all_goals exact jcf h
theorem ZD {o:Oper}{a:Act}{K:Act→Prop}(hp:jaM o=true)
 (h:if Region.wanted o (yielded ops a.tmps)then o.quiet P a S K else K (a.put o.dst undef)): ∃v,YieldsIf P ops S o v a∧K (a.put o.dst v):=by
 by_cases hw:Region.wanted o (yielded ops a.tmps)=true
 ·rw [jR hw]at h;obtain⟨v,h1,h2⟩:=h;refine⟨v,.inl ⟨hw,fun w hS=>?_⟩,h2⟩;have h3:=h1 w hS;unfold Oper.quietAt at h3;cases hr:(execOp a.eval o).run P w with
  |halt x w1=>rw [hr]at h3;simp [Oper.quietUpon]at h3
  |
   ok n w1=>
   obtain⟨u,rfl⟩:=jeN hp hr;rw [hr]at h3;simp only [Oper.quietUpon]at h3;rw [h3.1,h3.2]
 ·rw [jT hw]at h;exact⟨undef,.inr ⟨by simpa using hw,rfl⟩,h⟩
def opAt(ops:Array Oper)(i:Nat):Oper:=ops.getD i ⟨none,.move (.const undef),0, "", #[],none⟩
def jey(md:Region.Mode)(ops:Array Oper)(n:Nat):List Nat→Array Bool→Option (Array Bool)
 | [],l=>some l
 |i::r,l=>if(Region.ready md ops l).contains i&&Region.free md ops l i&&jaM (opAt ops i)&&decide (i<n)then jey md ops n r (l.setIfInBounds i true)else none
def jbf(md:Region.Mode)(ops:Array Oper)(n:Nat):List (List Nat×Nat)→List Nat→Array Bool→Bool
 | [],last,l=>match jey md ops n last l with|some l'=>Region.seqB md ops (ops.size-n) n l'|none=>false
 |(q,j)::r,last,l=>match jey md ops n q l with|some l'=>decide (Region.ready md ops l'= [j])&&decide (j<n)&&jbf md ops n r last (l'.setIfInBounds j true)|none=>false
def YV:List (List Nat×Nat)→List Nat→Nat
 | [],last=>last.length
 |(q,_)::r,last=>q.length+(YV r last+1)
def jlx(ops:Array Oper)(n:Nat)(segs:List (List Nat×Nat))(last:List Nat):Bool:=
 Region.noSelect ops&&decide (n≤ops.size)&&(decide (n=ops.size)||(Region.sinkB .any ops n&&Region.chainB .any ops n))&&
 jbf .any ops n segs last (Array.replicate ops.size false)&&decide (YV segs last=n)
def xW(P:Program)(ops:Array Oper)(Q:Exit→Act→World→Prop)(S:World→Prop)(tail:List Oper)(last:List Oper):List (List Oper×Oper)→Act→World→Prop
 | [],a,w=>wpQuiet P ops S (fun a'=>wpList P ops Q tail a' w) last a
 |(q,o)::r,a,w=>wpQuiet P ops S (fun a'=> ∀K:Act→World→Prop,(∀a'' w'',S w''→xW P ops Q S tail last r a'' w''→K a'' w'')→
  if Region.wanted o (yielded ops a'.tmps)then o.wp P a' w K Q else K (a'.put o.dst undef) w) q a
theorem ze {i:Nat}{listed:Array Bool}(h:i∈Region.ready md ops listed):ops[i]?=some (opAt ops i):=by
 obtain⟨_,o,ho,_⟩:=mem_ready.1 h;have hlt:i<ops.size:=(vP.1 ho).1;unfold opAt;simp [hlt]
theorem ZK {n:Nat}{E:Array Bool→Act→World→Prop}(hsel:Region.noSelect ops=true)
 (hQ: ∀i c (a:Act) v w,Q (.panic c) (a.put (opAt ops i).dst v) w→Q (.panic c) a w) (hwt:jbB md ops n)
 (hdone: ∀listed a w,E listed a w→ ∀j∈Region.ready md ops listed,n≤j) {f:Nat} {w:World} (hS:S w) {L:Act→Prop} {listed':Array Bool}:
 ∀(q:List Nat) (listed:Array Bool) (a:Act),HeadInv md ops n listed→jey md ops n q listed=some listed'→
  (∀a',HeadInv md ops n listed'→L a'→Yv P md ops Q S n E f listed' a' w)→
  wpQuiet P ops S L (q.map (opAt ops)) a→Yv P md ops Q S n E (q.length+f) listed a w
 |
  [],listed,a,inv,hr,hL,h=>by
  simp only [jey,Option.some.injEq]at hr;subst hr;simpa using hL a inv h
 |
  i::q,listed,a,inv,hr,hL,h=>by
  unfold jey at hr;split at hr
  ·rename_i hc;simp only [jy,kK]at hc;obtain⟨⟨⟨hrd,hfr⟩,hp⟩,hin⟩:=hc;have hrd':i∈Region.ready md ops listed:=by simpa using hrd
   have h0:=ze hrd';obtain⟨v,hy,hK⟩:=ZD hp h;have H:=ZK hsel hQ hwt hdone hS q _ _ (inv.set hrd' hin) hr hL hK;rw [kR,show q.length+1+f=(q.length+f)+1 by omega];exact jgQ h0 (Region.noSelect_spec hsel) (fun c a w=>hQ i c a v w) hwt hin hdone _ listed a w inv (Region.free_spec h0 hfr) hrd' hy hS H
  ·cases hr
theorem jex {n:Nat}{tail:List Oper}{last:List Nat}(hsel:Region.noSelect ops=true)
 (hQ: ∀i c (a:Act) v w,Q (.panic c) (a.put (opAt ops i).dst v) w→Q (.panic c) a w) (hwt:jbB md ops n):
 ∀(segs:List (List Nat×Nat)) (listed:Array Bool) (a:Act) (w:World),HeadInv md ops n listed→jbf md ops n segs last listed=true→S w→
  xW P ops Q S tail (last.map (opAt ops)) (segs.map fun(q,j)=>(q.map (opAt ops),opAt ops j)) a w→
  Yv P md ops Q S n (fun listed' a' w'=>Region.seqB md ops (ops.size-n) n listed'=true∧wpList P ops Q tail a' w') (YV segs last) listed a w
 |
  [],listed,a,w,inv,hok,hS,h=>by
  unfold jbf at hok;split at hok
  ·rename_i l' hr;have:=ZK (E:=fun listed' a' w'=>Region.seqB md ops (ops.size-n) n listed'=true∧wpList P ops Q tail a' w') (f:=0) hsel hQ hwt
    (fun listed a w hE=>seqB_ready hE.1) hS last listed a inv hr (fun a' _ hL=>⟨hok,hL⟩) h
   simpa [YV] using this
  ·cases hok
 |
  (q,j)::r,listed,a,w,inv,hok,hS,h=>by
  unfold jbf at hok;split at hok
  ·rename_i l' hr;simp only [jy,kK]at hok;obtain⟨⟨hrd,hj⟩,hok'⟩:=hok;have hjr:j∈Region.ready md ops l':=by rw [hrd];simp
   have h0:=ze hjr;refine ZK (f:=YV r last+1) hsel hQ hwt (fun listed a w hE=>seqB_ready hE.1) hS q listed a inv hr (fun a' inv' hL=>?_) h;refine jkJ hrd hj ?_;unfold wpOp;simp only [h0];have hL':=hL (fun a'' w''=>S w''∧Yv P md ops Q S n (fun listed' a' w'=>Region.seqB md ops (ops.size-n) n listed'=true∧wpList P ops Q tail a' w') (YV r last) (l'.setIfInBounds j true) a'' w'')
    (fun a'' w'' hS'' hW=>⟨hS'',jex hsel hQ hwt r _ a'' w'' (inv'.set hjr hj) hok' hS'' hW⟩)
   split;·rename_i hw;rw [jR hw]at hL';exact .inl hL'
   ·rename_i hw;rw [jT hw]at hL';exact hL'
  ·cases hok
theorem xL {id:Nat}{a:Act}{w:World}{l:List Oper}(S:World→Prop)(segs:List (List Nat×Nat))(last:List Nat)(n:Nat)
 (hm:P.follows .mixedOrders=true) (hB:jlx l.toArray n segs last=true)
 (hQ: ∀c (a:Act) d v w,Q (.panic c) (a.put d v) w→Q (.panic c) a w) (hS:S w.drew)
 (h:xW P l.toArray Q S (l.drop n) (last.map (opAt l.toArray)) (segs.map fun(q,j)=>(q.map (opAt l.toArray),opAt l.toArray j)) a w.drew):
 (Code.region id l.toArray true).wp P Q a w:=by
 simp only [jlx,jy,qS,kK]at hB;obtain⟨⟨⟨⟨hsel,hn⟩,hw⟩,hok⟩,hlen⟩:=hB;have hn':n≤l.length:=by simpa using hn
 have hwt:jbB .any l.toArray n:=fun hlt=>by
  rcases hw with hw|hw;·omega
  ·exact hw
 have inv0:HeadInv .any l.toArray n (Array.replicate l.toArray.size false):=
  ⟨by simp,fun j oj _ hl=>(by rw [getD_replicate_false]at hl;cases hl),fun t _ ht=>getD_in (by simpa using ht) (getD_replicate_false _ _)⟩
 have H:=jex (tail:=l.drop n) (md:=.any) hsel (fun i c a v w=>hQ c a _ v w) hwt segs _ a _ inv0 hok hS h;refine wp_region_any hm ?_;have hdl:(l.drop n).length=l.toArray.size-n:=by simp
 have:=Kn (Q:=Q) (g:=l.toArray.size-n) (fun listed a' w' hE=>by
  have:=wpAny_of_seq (md:=.any) (Q':=Q) (l.drop n) n listed a' w' (fun j=>by simp [qr]) (by rw [hdl];exact hE.1) hE.2
  rwa [hdl]at this) _ _ _ _ H
 rw [hlen,show n+(l.toArray.size-n)=l.toArray.size by simp;omega]at this;exact this
end
end Seg
end Go
