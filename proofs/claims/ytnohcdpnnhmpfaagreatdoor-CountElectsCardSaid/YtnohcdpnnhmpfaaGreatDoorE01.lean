/- Small laws on memory, over any program: one block that turns, whole rows loaded and stored, the world behind a name. -/
import Derived.WalkKit
import Derived.Deep.Draws
import Derived.Deep.MidRow
import Derived.BigQuiet
import Derived.Laws.Rows
import Derived.Lib.Hide
import Derived.Laws.CopyOwn
import Derived.Laws.BitsAllLaws
import Derived.StillTail
import Derived.OrdersHeld
import Derived.Deep.Quiet
namespace Go
theorem jA {p:Prop}(h:p):RowKit.Hid p:=h
theorem jB {α:Type _}{xs:Array α}{i:Nat}{d:α}:xs.getD i d=xs[i]?.getD d:=by first|exact Array.getD_eq_getD_getElem?|exact Array.getD_eq_getD_getElem? ..
theorem jC {α:Type _}{i:Nat}{a:α}{l:List α}:(a::l)[i+1]?=l[i]?:=by first|exact List.getElem?_cons_succ|exact List.getElem?_cons_succ ..
theorem jD {α:Type _}{a:α}{l:List α}:(a::l)[0]?=some a:=by first|exact List.getElem?_cons_zero|exact List.getElem?_cons_zero ..
theorem jE {α:Type _}{a:List α}{i:Nat}:a.toArray[i]?=a[i]?:=by first|exact List.getElem?_toArray|exact List.getElem?_toArray ..
theorem jF {α:Type _}{a:α}{i:Nat}{l:List α}:(a::l).drop (i+1)=l.drop i:=by first|exact List.drop_succ_cons|exact List.drop_succ_cons ..
theorem jG {α:Type _}{a d:α}:(some a).getD d=a:=by first|exact Option.getD_some|exact Option.getD_some ..
theorem jH {α:Type _}{l:List α}:l.drop 0=l:=by first|exact List.drop_zero|exact List.drop_zero ..
theorem jI {α:Type _}{β:Type _}{f:α→β}{a:α}{l:List α}:(a::l).map f=f a::l.map f:=by first|exact List.map_cons|exact List.map_cons ..
theorem jJ {α:Type _}{β:Type _}{f:α→β}:([]:List α).map f=[]:=by first|exact List.map_nil|exact List.map_nil ..
theorem jK:(∀{α:Type}{xs:Array α}{i:Nat}{d:α},xs.getD i d=xs[i]?.getD d)∧(∀{α:Type}{i:Nat}{a:α}{l:List α},(a::l)[i+1]?=l[i]?)∧(∀{α:Type}{a:α}{l:List α},(a::l)[0]?=some a)∧(∀{α:Type}{a:List α}{i:Nat},a.toArray[i]?=a[i]?)∧(∀{α:Type}{a:α}{i:Nat}{l:List α},(a::l).drop (i+1)=l.drop i)∧(∀{α:Type}{a d:α},(some a).getD d=a)∧(∀{α:Type}{l:List α},l.drop 0=l)∧(∀{α β:Type}{f:α→β}{a:α}{l:List α},(a::l).map f=f a::l.map f)∧(∀{α β:Type}{f:α→β},([]:List α).map f=[]):=⟨Array.getD_eq_getD_getElem? .., List.getElem?_cons_succ .., List.getElem?_cons_zero .., List.getElem?_toArray .., List.drop_succ_cons .., Option.getD_some .., List.drop_zero .., List.map_cons .., List.map_nil ..⟩
theorem RowKit.Hid.u {p:Prop}(h:RowKit.Hid p):p:=h
abbrev m0:=World
abbrev n0:=Value
abbrev o0:=TypeId
abbrev s0:=Option Addr
abbrev t0:=Array Value
abbrev A0:=List Value
abbrev C0:=List Int
abbrev E0:=List Nat
abbrev L0:=Option Nat
abbrev N0:=List Bool
abbrev O0:=@RowKit.Below
abbrev jL:=@_root_.Go.Lib.hid
abbrev jM:=@_root_.Go.cell_of_row
abbrev jN:=@_root_.Go.RowKit.Below.refl
abbrev jO:=@_root_.Nat.le_refl
abbrev jP:=@_root_.if_pos
abbrev jQ:=@_root_.if_neg
abbrev jR:=@_root_.Go.wpQuiet_nil
abbrev jS:=@_root_.decide_eq_false
abbrev jT:=@_root_.decide_eq_true
abbrev jU:=@_root_.Nat.le_trans
abbrev jV:=@_root_.List.getD_eq_getElem?_getD
abbrev jW:=@_root_.Nat.lt_of_lt_of_le
abbrev jX:=@_root_.Nat.le_of_lt
abbrev jY:=@_root_.if_true
abbrev jZ:=@_root_.List.length_append
abbrev ja:=@_root_.Nat.zero_le
abbrev jb:=@_root_.List.getElem_mem
abbrev jc:=@_root_.Go.frozen_of_row
abbrev jd:=@_root_.Go.heap_setCell_same
abbrev je:=@_root_.List.take_of_length_le
abbrev jf:=@_root_.List.length_take
abbrev jg:=@_root_.Nat.mul_add
abbrev jh:=@_root_.List.take_succ_eq_append_getElem
abbrev jj:=@_root_.List.mem_append
abbrev jk:=@_root_.List.mem_range
abbrev jl:=@_root_.List.mem_cons
abbrev jm:=@_root_.List.mem_singleton
abbrev jo:=@_root_.List.mem_map
abbrev jq:=@_root_.Go.bodyPost_ret
abbrev jr:=@_root_.List.take_length
abbrev js:=@_root_.Nat.pow_succ
abbrev jt:=@_root_.beq_eq_false_iff_ne
abbrev ju:=@_root_.bne_iff_ne
abbrev jv:=@_root_.Nat.zero_add
abbrev jw:=@_root_.Nat.lt_or_ge
abbrev jx:=@_root_.Nat.mul_assoc
abbrev jy:=@_root_.Bool.and_eq_true
abbrev jz:=@_root_.List.mem_filter
abbrev kB:=@_root_.Go.results_cell_row
abbrev kD:=@_root_.List.not_mem_nil
abbrev kE:=@_root_.List.length_set
abbrev kH:=@_root_.or_false
abbrev kJ:=@_root_.Rat.natCast_mul
abbrev kK:=@_root_.decide_eq_true_eq
abbrev kL:=@_root_.List.getElem?_eq_getElem
abbrev kM:=@_root_.List.length_singleton
abbrev kP:=@_root_.Nat.min_eq_left
abbrev kQ:=@_root_.List.length_drop
abbrev kR:=@_root_.List.getElem?_eq_none
abbrev kS:=@_root_.List.length_map
abbrev kU:=@_root_.Go.Sem.run_bind
abbrev kV:=@_root_.Go.wpList_append_own
abbrev kW:=@_root_.List.length_cons
abbrev kY:=@_root_.List.append_assoc
abbrev kZ:=@_root_.List.getElem?_append_right
abbrev ke:=@_root_.Int.toNat_natCast
abbrev kf:=@_root_.Nat.mul_comm
abbrev kg:=@_root_.Go.World.ownsRow_nil
abbrev kh:=@_root_.Nat.le_of_eq
abbrev kl:=@_root_.Nat.mod_eq_of_lt
abbrev ko:=@_root_.Nat.pow_le_pow_right
abbrev kr:=@_root_.Nat.mul_pos
abbrev kt:=@_root_.List.length_eq_zero_iff
abbrev ku:=@_root_.List.length_range
abbrev kw:=@_root_.List.all_eq_true
abbrev qA:=@_root_.List.drop_eq_getElem_cons
abbrev qB:=@_root_.Rat.le_of_lt
abbrev qC:=@_root_.Nat.not_lt_zero
abbrev qD:=@_root_.Go.Addr.add_mid
abbrev qF:=@_root_.Nat.mul_le_mul_left
abbrev qG:=@_root_.List.append_nil
abbrev qH:=@_root_.beq_iff_eq
abbrev qI:=@_root_.List.range_succ
abbrev qJ:=@_root_.List.length_filter_le
abbrev qK:=@_root_.Nat.lt_of_le_of_lt
abbrev qL:=@_root_.Nat.mod_lt
abbrev qO:=@_root_.congrArg
abbrev qP:=@_root_.of_decide_eq_true
abbrev qQ:=@_root_.Go.Result.andThen_ok
abbrev qR:=@_root_.List.mem_of_mem_take
abbrev qS:=@_root_.Nat.mul_one
abbrev qU:=@_root_.List.getElem?_replicate
abbrev qV:=@_root_.Nat.mul_le_mul
abbrev qX:=@_root_.List.drop_of_length_le
abbrev qY:=@_root_.List.filter_append
abbrev qZ:=@_root_.List.getElem?_append_left
abbrev qe:=@_root_.List.getElem?_map
abbrev qf:=@_root_.Go.heap_setCell_other
abbrev qg:=@_root_.Nat.add_mul
abbrev qh:=@_root_.List.length_pos_iff
abbrev qi:=@_root_.List.Nodup.length_le_of_subset
abbrev qj:=@_root_.List.mem_flatMap
abbrev qk:=@_root_.List.map_append
abbrev qm:=@_root_.Go.wpList_store_mid
abbrev qo:=@_root_.Bool.or_eq_true
abbrev qq:=@_root_.Nat.add_zero
abbrev qr:=@_root_.of_decide_eq_false
abbrev qs:=@_root_.List.mem_iff_getElem
abbrev qu:=@_root_.List.take_zero
abbrev qw:=@_root_.List.take_append_drop
abbrev qx:=@_root_.Nat.mul_left_comm
abbrev qy:=@_root_.Rat.natCast_add
abbrev qz:=@_root_.List.map_congr_left
abbrev vA:=@_root_.Go.World.cell?_of_block
abbrev vB:=@_root_.Go.wp_region_lit
abbrev vC:=@_root_.List.map_set
abbrev vD:=@_root_.Nat.pow_add
abbrev vF:=@_root_.List.getElem?_drop
abbrev vG:=@_root_.List.nodup_range
abbrev vH:=@_root_.List.nodup_append
abbrev vI:=@_root_.List.any_eq_true
abbrev vJ:=@_root_.List.setIfInBounds_toArray
abbrev vK:=@_root_.Go.run_make_full
abbrev vL:=@_root_.Int.le_refl
abbrev vM:=@_root_.List.ext_getElem
abbrev vO:=@_root_.Nat.add_assoc
abbrev vP:=@_root_.Nat.eq_zero_or_pos
abbrev vQ:=@_root_.List.nil_append
abbrev vS:=@_root_.List.filter_congr
abbrev vT:=@_root_.List.idxOf_lt_length_of_mem
abbrev vU:=@_root_.Array.getElem?_setIfInBounds_ne
abbrev vV:=@_root_.List.flatMap_append
abbrev vW:=@_root_.Go.toList_madeCells_one
abbrev vX:=@_root_.BitVec.add_assoc
abbrev vY:=@_root_.Int.natCast_mul
abbrev vZ:=@_root_.List.mem_cons_self
abbrev ve:=@_root_.Rat.mul_le_mul_of_nonneg_right
abbrev vf:=@_root_.Nat.lt_trichotomy
abbrev vh:=@_root_.List.nodup_cons
abbrev vk:=@_root_.List.pairwise_append
abbrev vm:=@_root_.List.length_replicate
abbrev vn:=@_root_.List.getElem_of_mem
abbrev vq:=@_root_.List.mem_take_iff_getElem
abbrev vt:=@_root_.Array.getElem?_eq_some_iff
abbrev vu:=@_root_.BitVec.toNat_ofNat
abbrev vv:=@_root_.List.getElem?_set_ne
abbrev vw:=@_root_.List.getElem?_take
abbrev vx:=@_root_.List.cons_append
abbrev vy:=@_root_.List.mem_cons_of_mem
abbrev xA:=@_root_.Nat.add_sub_cancel
abbrev xB:=@_root_.Nat.lt_of_mul_lt_mul_left
abbrev xC:=@_root_.List.mem_of_mem_drop
abbrev xD:=@_root_.Rat.div_mul_cancel
abbrev xE:=@_root_.Rat.natCast_le_natCast
abbrev xG:=@_root_.List.perm_ext_iff_of_nodup
abbrev xH:=@_root_.List.filter_filter
abbrev xI:=@_root_.List.size_toArray
abbrev xJ:=@_root_.List.pairwise_iff_getElem
abbrev xK:=@_root_.List.mem_or_eq_of_mem_set
abbrev xL:=@_root_.Array.mem_of_getElem?
abbrev xM:=@_root_.Array.getElem?_eq_none
abbrev xN:=@_root_.Array.getElem?_setIfInBounds_self_of_lt
abbrev xO:=@_root_.List.getElem?_eq_some_iff
abbrev xP:=@_root_.List.drop_eq_nil_of_le
abbrev xQ:=@_root_.List.getElem?_range
abbrev xR:=@_root_.List.length_reverse
abbrev xS:=@_root_.List.filter_eq_self
abbrev xT:=@_root_.List.Pairwise.imp_of_mem
abbrev xU:=@_root_.Array.getElem?_replicate
abbrev xV:=@_root_.List.getElem_append_left
abbrev xW:=@_root_.List.take_append_of_le_length
abbrev xX:=@_root_.Int.tmod_eq_emod_of_nonneg
abbrev xY:=@_root_.Array.getElem?_eq_getElem
end Go
namespace Go
theorem yD {a b:Nat}(h:a<b):decide ((a:Int)<(b:Int))=true∧decide (a<b)=true∧(a:Int)<(b:Int):=⟨jT (by omega),jT h,by omega⟩
theorem yg {a b:Nat}(h:¬a<b):decide ((a:Int)<(b:Int))=false∧decide (a<b)=false:=⟨jS (by omega),jS h⟩
theorem bxE {P:Program}{c:Code}{Q:Exit→Act→m0→Prop}{a:Act}{w:m0}{B:Nat}{cs:t0}{T:o0}(hB:w.heap.size=B)(h: ∀w1,RowKit.Below B w w1∧w1.heap[B]?=some (.cells cs T (0,0))→Code.wp P c Q a w1):Code.wp P c Q a (w.alloc (.cells cs T)):=h _ ⟨by rw [←hB];exact (RowKit.Below.refl _ _).alloc (jO _) _,by rw [←hB];first|exact heap_alloc_new _ _|exact RowKit.heap_alloc_new _ _|simp [World.alloc]⟩
end Go
set_option linter.all false
set_option maxRecDepth 100000
namespace Go.Proofs.YtnohcdpnnhmpfaaGreatDoor.ML
open Go.RowKit
structure yG(b:Nat)(w w':m0):Prop where
 os:w'.os=w.os
 tape:w'.tape=w.tape
 output:w'.output=w.output
 size:w'.heap.size=w.heap.size
 block: ∀k,k≠b→w'.heap[k]?=w.heap[k]?
theorem yG.refl(b:Nat)(w:m0):yG b w w:=⟨rfl,rfl,rfl,rfl,fun _ _=>rfl⟩
theorem yG.trans {b:Nat}{w w1 w2:m0}(h:yG b w w1)(k:yG b w1 w2):yG b w w2:=
 ⟨k.os.trans h.os,k.tape.trans h.tape,k.output.trans h.output,k.size.trans h.size,fun i hi=>(k.block i hi).trans (h.block i hi)⟩
theorem yG.drewN {b:Nat}{w w1:m0}(h:yG b w w1)(n:Nat):yG b w (w1.drewN n):=⟨h.os,h.tape,h.output,h.size,h.block⟩
theorem yG.drew {b:Nat}{w w1:m0}(h:yG b w w1):yG b w w1.drew:=⟨h.os,h.tape,h.output,h.size,h.block⟩
theorem yG.setCell {b:Nat}{w w1:m0}(h:yG b w w1)(o:Nat)(v:n0):yG b w (w1.setCell ⟨b,o,none⟩ v):=
 h.trans ⟨rfl,rfl,rfl,by simp,fun k hk=>qf _ _ _ _ hk⟩
theorem yG.below {b:Nat}{w w1:m0}(h:yG b w w1){B:Nat}(hB:B≤b):O0 B w w1:=
 ⟨h.os,h.tape,h.output,kh h.size.symm,fun k hk=>h.block k (by omega)⟩
theorem yl {B:Nat}{a w:m0}(h:O0 B a w)(n:Nat):O0 B a (w.drewN n):=⟨h.os,h.tape,h.output,h.size,h.block⟩
theorem xl {B b:Nat}{a w w1:m0}(h:O0 B a w)(k:yG b w w1)(hb:B≤b):O0 B a w1:=h.trans (k.below hb)
theorem JZ(b:Nat): ∀(vs:A0) (o:Nat) (w:m0),yG b w (w.setCells b o vs)
 | [],_,w=>yG.refl b w
 |v::r,o,w=>((yG.refl b w).setCell o v).trans (JZ b r (o+1) _)
theorem VV(b:Nat)(t:o0): ∀(vs:A0) (o:Nat) (w:m0) (cs:t0),w.heap[b]?=some (.cells cs t (0,0))→o+vs.length≤cs.size→
 (w.setCells b o vs).heap[b]?=some (.cells (cs.toList.take o++vs++cs.toList.drop (o+vs.length)).toArray t (0,0))
 |
  [],o,w,cs,h,_=>by
  show w.heap[b]?=_;rw [h];simp
 |
  v::r,o,w,cs,h,hl=>by
  show((w.setCell ⟨b,o,none⟩ v).setCells b (o+1) r).heap[b]?=_;rw [VV b t r (o+1) _ _ (jd w b o cs t v h) (by simp at hl ⊢;omega)];congr 2;simp only [kW]at hl;have ho:o<cs.toList.length:=by simp;omega
  have e1:(cs.setIfInBounds o v).toList=cs.toList.take o++v::cs.toList.drop (o+1):=by
   rw [Array.toList_setIfInBounds,List.set_eq_take_append_cons_drop,jP ho]
  rw [e1];have e2:(cs.toList.take o).length=o:=by simp;omega
  rw [List.take_append,e2,List.drop_append,e2];have e3:List.take (o+1) (cs.toList.take o)=cs.toList.take o:=by rw [List.take_take];congr 1;omega
  have e4:List.drop (o+1+r.length) (cs.toList.take o)= []:=by rw [List.drop_eq_nil_iff];omega
  rw [e3,e4];have e5:o+1-o=1:=by omega
  have e6:o+1+r.length-o=r.length+1:=by omega
  rw [e5,e6];simp [List.drop_drop];congr 1;omega
theorem jci {b:Nat}{t:o0}{w:m0}{cs RH:t0}(h:w.heap[b]?=some (.cells cs t (0,0)))(hs:cs.size=RH.size):
 (w.setCells b 0 RH.toList).heap[b]?=some (.cells RH t (0,0)):=by
 rw [VV b t RH.toList 0 w cs h (by simp [hs])];congr 2;have e:List.drop (0+RH.toList.length) cs.toList= []:=by rw [List.drop_eq_nil_iff];simp [hs]
 rw [e];simp
section
variable {P:Program} {ops:Array Oper} {rest:List Oper} {o:Oper} {a:Act} {w:m0} {Q:Exit→Act→m0→Prop}
theorem xg(tA:o.guard=none)(hdst:o.dst=none)(ty:o0)(x y:Operand)(ho:o.op=.store ty x y)(b:Nat)(cs RH:t0)(t:o0)
 (hx:a.eval x=.pointer (some ⟨b,0,none⟩)) (hy:a.eval y=.agg RH) (hb:w.heap[b]?=some (.cells cs t (0,0))) (hs:cs.size=RH.size)
 (hi:(P.info? ty).map (·.size)=some RH.size) (h1:RH.all (·.oneCell')=true)
 (h: ∀w1,yG b w w1→w1.heap[b]?=some (.cells RH t (0,0))→wpList P ops Q rest a w1):wpList P ops Q (o::rest) a w:=
 qm tA ty x y ho b 0 RH hx hy
  (fun j hj=>by
   rw [jv,jM w b j cs t _ hb];exact⟨by simp [hs,hj],jc w b j cs t hb⟩) hi h1 (by rw [hdst];exact h _ (JZ b _ _ _) (jci hb hs))
theorem jge(w:m0)(g:Nat)(cs:t0):yG g w (w.setRow g cs):=
 ⟨rfl,rfl,rfl,by simp [World.setRow],fun k hk=>setRow_other w g k cs hk⟩
theorem Xt(tA:o.guard=none)(d s:Operand)(dT sT:o0)
 (ho:o.op=.call {callee:=.builtin .copy,args:= #[d,s],argTypes:= #[dT,sT]}) (Lz:o0) (hu:P.underlying dT=some (.slice Lz)) (Iu:(P.info? Lz).map (·.size)=some 1)
 (g Du Ev AF:Nat) (ad:Addr) (DS sCap:Nat) (hd:a.eval d=.slice (some ⟨g,Du,none⟩) Ev AF) (hs:a.eval s=.slice (some ad) DS sCap)
 (Es:t0) (t:o0) (hg:w.heap[g]?=some (.cells Es t (0,0))) (cs:A0) (hn:cs.length=Nat.min DS Ev)
 (hsrc: ∀j v,cs[j]?=some v→w.cell? (ad.add j)=some v) (aU:Du+cs.length≤Es.size) (h1: ∀v∈cs,v.oneCell'=true)
 (h: ∀w1,yG g w w1→w1.heap[g]?=some (.cells (Es.toList.take Du++(cs++Es.toList.drop (Du+cs.length))).toArray t (0,0))→wpList P ops Q rest (a.put o.dst (goInt cs.length)) w1):
 wpList P ops Q (o::rest) a w:=
 wpList_copy_own tA d s dT sT ho Lz hu Iu g Du Ev AF ad DS sCap hd hs Es t hg cs hn hsrc aU h1 (h _ (jge w g _) (setRow_heap w g _ _ t _ hg))
theorem xy(tA:o.guard=none)(ty:o0)(x:Operand)(ho:o.op=.load ty x)(b:Nat)(cs:t0)(t:o0)(fr:Nat×Nat)(d:TypeDesc)
 (hx:a.eval x=.pointer (some ⟨b,0,none⟩)) (hb:w.heap[b]?=some (.cells cs t fr)) (hu:P.underlying ty=some d) (hd:(match d with| .struct _=>true| .array _ _=>true|_=>false)=true)
 (hi:(P.info? ty).map (·.size)=some cs.size) (h:wpList P ops Q rest (a.put o.dst (.agg cs)) w):wpList P ops Q (o::rest) a w:=
 wpList_load_row tA ty x ho b hx t cs fr d hb hu (by cases d<;>first|rfl|exact hd) hi h
end
theorem xh {w:m0}{o:Obj}{n:Nat}(h:w.heap.size=n):(w.alloc o).heap[n]?=some o:=by subst h;exact heap_alloc_new w o
theorem xZ {w:m0}{k:Nat}{x:Obj}(h:w.heap[k]?=some x):k<w.heap.size:=(vt.1 h).1
theorem yM {w:m0}{o:Obj}{k:Nat}{x:Obj}(h:w.heap[k]?=some x):(w.alloc o).heap[k]?=some x:=by
 rw [Below.heap_alloc w o k (xZ h)];exact h
theorem yG.keep {b:Nat}{w w1:m0}(h:yG b w w1){k:Nat}{x:Obj}(hk:k≠b)(hx:w.heap[k]?=some x):w1.heap[k]?=some x:=(h.block k hk).trans hx
theorem xe {B:Nat}{w w1:m0}(h:O0 B w w1){k:Nat}{x:Obj}(hk:k<B)(hx:w.heap[k]?=some x):w1.heap[k]?=some x:=(h.block k hk).trans hx
theorem xr {P:Program}{c:Code}{Q:Exit→Act→m0→Prop}{a:Act}{W:m0}(F:m0→Prop)(hF:F W)(h: ∀w1,F w1→c.wp P Q a w1):c.wp P Q a W:=h W hF
theorem jlX {P:Program}{fn:Func}{R:Ending→m0→Prop}{e:Exit}{a:Act}{W:m0}(F:m0→Prop)(hF:F W)(h: ∀w1,F w1→bodyPost P fn R e a w1):bodyPost P fn R e a W:=h W hF
theorem jmw {P:Program}{ops:Array Oper}{l:List Oper}{Q:Exit→Act→m0→Prop}{a:Act}{W:m0}(F:m0→Prop)(hF:F W)(h: ∀w1,F w1→wpList P ops Q l a w1):wpList P ops Q l a W:=h W hF
theorem Yv(w:m0)(dt:A0)(t:o0)(n:Nat)(hn:w.heap.size=n): ∀j u,dt[j]?=some u→(w.alloc (.cells dt.toArray t)).cell? ((⟨n,0,none⟩:Addr).add j)=some u:=by
 intro j u h;subst hn;rw [qD,jv,jM _ _ _ _ _ _ (xh rfl)];simpa using h
theorem zZ {w:m0}{base:Nat}{e e':o0}{size:Nat}{v:n0}{n D:Nat}{xs:A0}{cs:t0}{fr:Nat×Nat}(h:w.ownsRow base e size v n xs)(hD:w.heap[D]?=some (.cells cs e' fr))(Cs:e≠e'):v.ownBlock≠some D:=by
 rintro hv;rcases h.2 with⟨rfl,_⟩|⟨g,cap,Es,rfl,_,hg,_⟩;·simp [Value.ownBlock]at hv
 ·simp [Value.ownBlock]at hv;subst hv;rw [hg]at hD;simp at hD;exact Cs hD.2.1
theorem jmc {w:m0}{base:Nat}{e:o0}{size:Nat}{v:n0}{n D:Nat}{xs:A0}(h:w.ownsRow base e size v n xs)(hD:D<base):v.ownBlock≠some D:=by
 intro hv;have:=(h.lt D hv).1;omega
theorem yA {w w':m0}{base:Nat}{e:o0}{size:Nat}{v:n0}{n:Nat}{xs:A0}(h:w.ownsRow base e size v n xs)(hb:O0 w.heap.size w w'):w'.ownsRow base e size v n xs:=by
 refine⟨h.1,?_⟩;rcases h.2 with h'|⟨g,cap,Es,h1,h2,h3,h4⟩;·exact Or.inl h'
 ·exact Or.inr ⟨g,cap,Es,h1,h2,xe hb (xZ h3) h3,h4⟩
theorem yU {w w':m0}{row:L0}(h:w.grownBy w' row){k:Nat}{x:Obj}(Cs:row≠some k)(hx:w.heap[k]?=some x):w'.heap[k]?=some x:=
 (h.block k (xZ hx) (Ne.symm Cs)).trans hx
def xj(B:Nat)(w0:m0):Type:={w':m0 // O0 B w0 w'}
def xj.w {B:Nat}{w0:m0}(x:xj B w0):m0:=x.1
instance {B:Nat} {w0:m0}:Nonempty (xj B w0):=⟨⟨w0,jN _ _⟩⟩
def InB(B:Nat)(w0 w':m0):Prop:= ∃x:xj B w0,w'=x.w
theorem jaV {B:Nat}{w0 w':m0}(h:O0 B w0 w'):InB B w0 w':=⟨⟨w',h⟩,rfl⟩
theorem InB.below {B:Nat}{w0 w':m0}(h:InB B w0 w'):O0 B w0 w':=by obtain⟨x,rfl⟩:=h;exact x.2
@[go_sem] theorem xj.cell {B:Nat} {w0:m0} (x:xj B w0) (b o:Nat) (h:b<B):x.w.cell? ⟨b,o,none⟩=w0.cell? ⟨b,o,none⟩:=x.2.cell h
@[go_sem] theorem xj.frozen {B:Nat} {w0:m0} (x:xj B w0) (b o:Nat) (h:b<B):x.w.frozen? ⟨b,o,none⟩=w0.frozen? ⟨b,o,none⟩:=x.2.frozen h
section
variable {P:Program} {ops:Array Oper} {rest:List Oper} {o:Oper} {a:Act} {w w0:m0} {Q:Exit→Act→m0→Prop} {B:Nat} {K:Act→Prop}
theorem yY(hw:Region.wanted o (yielded ops a.tmps)=true)(ty:o0)(y:Operand)(ho:o.op=.load ty y)(b:Nat)(cs:t0)(t:o0)(fr:Nat×Nat)(d:TypeDesc)
 (hx:a.eval y=.pointer (some ⟨b,0,none⟩)) (hb:w0.heap[b]?=some (.cells cs t fr)) (ns:b<B) (hu:P.underlying ty=some d) (hd:(match d with| .struct _=>true| .array _ _=>true|_=>false)=true)
 (hi:(P.info? ty).map (·.size)=some cs.size) (h:wpQuiet P ops (fun w'=> ∃x:xj B w0,w'=x.w) K rest (a.put o.dst (.agg cs))):
 wpQuiet P ops (fun w'=> ∃x:xj B w0,w'=x.w) K (o::rest) a:=by
 unfold wpQuiet;rw [jP hw];refine⟨.agg cs,fun w' Tt=>?_,h⟩;have hb':w'.heap[b]?=some (.cells cs t fr):=xe (InB.below Tt) ns hb;have hr:=run_loadVar_row (P:=P) w' b t ty cs fr d hb' hu (by cases d<;>first|rfl|exact hd) hi;unfold Oper.quietAt execOp;simp only [ho,hx,Instr.loadAt,Instr.sureAddr,kU,Sem.run_pure,qQ,hr];exact⟨rfl,rfl⟩
end
end Go.Proofs.YtnohcdpnnhmpfaaGreatDoor.ML
namespace Go.Proofs.YtnohcdpnnhmpfaaGreatDoor.FM
open Go.RowKit ML
abbrev U:=BitVec 32
def un(x:U):Int:=(x.toNat:Int)
theorem Xw(x:U):0≤un x:=Int.natCast_nonneg _
theorem jfV(x:U):un x<4294967296:=by have:=x.isLt;unfold un;omega
theorem jfU(n:Nat)(h:n<4294967296):un (BitVec.ofNat 32 n)=n:=by unfold un;rw [vu];omega
def uv(x:U):n0:=.int .u32 (un x)
def yF(V:List U):t0:=(V.map uv).toArray
theorem jop(x y:U):IntKind.u32.wrap (un x+un y)=un (x+y):=by unfold un;rw [IntKind.wrap_u32',BitVec.toNat_add];omega
theorem jpf(x y:U):IntKind.u32.wrap (un x-un y)=un (x-y):=by unfold un;rw [IntKind.wrap_u32',BitVec.toNat_sub];have:=x.isLt;have:=y.isLt;omega
theorem jcn(x y:U):bits BinOp.xor IntKind.u32 (un x) (un y)=un (x ^^^ y):=by
 unfold un;rw [u32_xor_nat _ _ x.isLt y.isLt,BitVec.toNat_xor]
theorem jos(x:U)(n:Nat)(h:n<32):
 bits BinOp.or IntKind.u32 (un x/2^n) (un x*2^(32-n)%4294967296)=un (x.rotateRight n):=by
 unfold un;have e1:((x.toNat:Int)/2^n)=((x.toNat/2^n:Nat):Int):=by norm_cast
 have e2:((x.toNat:Int)*2^(32-n)%4294967296)=((x.toNat*2^(32-n)%4294967296:Nat):Int):=by
  rw [Int.natCast_emod,vY,Int.natCast_pow];rfl
 have l1:x.toNat/2^n<4294967296:=qK (Nat.div_le_self _ _) x.isLt;rw [e1,e2,u32_or_nat _ _ l1 (qL _ (by decide)),BitVec.rotateRight_def,BitVec.toNat_or,BitVec.toNat_ushiftRight,BitVec.toNat_shiftLeft,Nat.shiftRight_eq_div_pow,Nat.shiftLeft_eq,kl h]
theorem zU {w:m0}{b:Nat}{V:List U}{T:o0}(h:w.heap[b]?=some (.cells (yF V) T (0,0)))(o:Nat)(x:U):
 (w.setCell ⟨b,o,none⟩ (.int .u32 (un x))).heap[b]?=some (.cells (yF (V.set o x)) T (0,0)):=by
 rw [jd w b o _ T _ h];congr 2;simp [yF,uv,vC]
theorem ye {w:m0}{b:Nat}{V:List U}{T:o0}(h:w.heap[b]?=some (.cells (yF V) T (0,0)))(o:Nat)(ho:o<V.length):
 w.cell? ⟨b,o,none⟩=some (.int .u32 (un (V.getD o 0))):=by
 rw [jM w b o _ T _ h];simp [yF,uv,ho,jV]
theorem yw {w:m0}{b:Nat}{V:List U}{T:o0}(h:w.heap[b]?=some (.cells (yF V) T (0,0)))(o:Nat):w.frozen? ⟨b,o,none⟩=false:=jc w b o _ T h
structure Vb(b:Nat)(T:o0)(oa ob oc od:Nat)(w0 w:m0)(V:List U)(xa xb xc xd:U):Prop where
 only:yG b w0 w
 blk:w.heap[b]?=some (.cells (yF V) T (0,0))
 len:V.length=16
 ga:V.getD oa 0=xa
 gb:V.getD ob 0=xb
 gc:V.getD oc 0=xc
 gd:V.getD od 0=xd
structure Zb(oa ob oc od:Nat):Prop where
 la:oa<16
 lb:ob<16
 lc:oc<16
 ld:od<16
 ab:oa≠ob
 ac:oa≠oc
 ad:oa≠od
 bc:ob≠oc
 bd:ob≠od
 cd:oc≠od
theorem getD_set_ne(V:List U)(i j:Nat)(x:U)(h:i≠j):(V.set i x).getD j 0=V.getD j 0:=by
 simp [jV,vv h]
theorem Kd(V:List U)(i:Nat)(x:U)(h:i<V.length):(V.set i x).getD i 0=x:=by
 simp [jV,h]
section
variable {b:Nat} {T:o0} {oa ob oc od:Nat} {w0 w:m0} {V:List U} {xa xb xc xd:U}
theorem Vb.cells(h:Vb b T oa ob oc od w0 w V xa xb xc xd)(D:Zb oa ob oc od):
 w.cell? ⟨b,oa,none⟩=some (.int .u32 (un xa))∧w.cell? ⟨b,ob,none⟩=some (.int .u32 (un xb))∧
 w.cell? ⟨b,oc,none⟩=some (.int .u32 (un xc))∧w.cell? ⟨b,od,none⟩=some (.int .u32 (un xd))∧
 w.frozen? ⟨b,oa,none⟩=false∧w.frozen? ⟨b,ob,none⟩=false∧w.frozen? ⟨b,oc,none⟩=false∧w.frozen? ⟨b,od,none⟩=false:=by
 refine⟨?_,?_,?_,?_,yw h.blk _,yw h.blk _,yw h.blk _,yw h.blk _⟩;·rw [ye h.blk oa (by rw [h.len];exact D.la),h.ga]
 ·rw [ye h.blk ob (by rw [h.len];exact D.lb),h.gb]
 ·rw [ye h.blk oc (by rw [h.len];exact D.lc),h.gc]
 ·rw [ye h.blk od (by rw [h.len];exact D.ld),h.gd]
theorem Vb.seta(h:Vb b T oa ob oc od w0 w V xa xb xc xd)(D:Zb oa ob oc od)(m:Nat)(x:U):
 Vb b T oa ob oc od w0 ((w.drewN m).setCell ⟨b,oa,none⟩ (.int .u32 (un x))) (V.set oa x) x xb xc xd:=
 ⟨
  (h.only.drewN m).setCell _ _,zU (w:=w.drewN m) h.blk _ _,by simp [h.len],Kd _ _ _ (by rw [h.len];exact D.la),
  (getD_set_ne _ _ _ _ D.ab).trans h.gb,(getD_set_ne _ _ _ _ D.ac).trans h.gc,(getD_set_ne _ _ _ _ D.ad).trans h.gd⟩
theorem Vb.setb(h:Vb b T oa ob oc od w0 w V xa xb xc xd)(D:Zb oa ob oc od)(m:Nat)(x:U):
 Vb b T oa ob oc od w0 ((w.drewN m).setCell ⟨b,ob,none⟩ (.int .u32 (un x))) (V.set ob x) xa x xc xd:=
 ⟨
  (h.only.drewN m).setCell _ _,zU (w:=w.drewN m) h.blk _ _,by simp [h.len],(getD_set_ne _ _ _ _ D.ab.symm).trans h.ga,Kd _ _ _ (by rw [h.len];exact D.lb),
  (getD_set_ne _ _ _ _ D.bc).trans h.gc,(getD_set_ne _ _ _ _ D.bd).trans h.gd⟩
theorem Vb.setc(h:Vb b T oa ob oc od w0 w V xa xb xc xd)(D:Zb oa ob oc od)(m:Nat)(x:U):
 Vb b T oa ob oc od w0 ((w.drewN m).setCell ⟨b,oc,none⟩ (.int .u32 (un x))) (V.set oc x) xa xb x xd:=
 ⟨
  (h.only.drewN m).setCell _ _,zU (w:=w.drewN m) h.blk _ _,by simp [h.len],(getD_set_ne _ _ _ _ D.ac.symm).trans h.ga,(getD_set_ne _ _ _ _ D.bc.symm).trans h.gb,
  Kd _ _ _ (by rw [h.len];exact D.lc),(getD_set_ne _ _ _ _ D.cd).trans h.gd⟩
theorem Vb.setd(h:Vb b T oa ob oc od w0 w V xa xb xc xd)(D:Zb oa ob oc od)(m:Nat)(x:U):
 Vb b T oa ob oc od w0 ((w.drewN m).setCell ⟨b,od,none⟩ (.int .u32 (un x))) (V.set od x) xa xb xc x:=
 ⟨
  (h.only.drewN m).setCell _ _,zU (w:=w.drewN m) h.blk _ _,by simp [h.len],(getD_set_ne _ _ _ _ D.ad.symm).trans h.ga,(getD_set_ne _ _ _ _ D.bd.symm).trans h.gb,
  (getD_set_ne _ _ _ _ D.cd.symm).trans h.gc,Kd _ _ _ (by rw [h.len];exact D.ld)⟩
end
def Vp(V:List U)(a b c d:Nat)(x y:U):List U:=
 let va:=V.getD a 0;let vb:=V.getD b 0;let vc:=V.getD c 0;let vd:=V.getD d 0
 let a1:=va+(vb+x);let d1:=(vd ^^^ a1).rotateRight 16;let c1:=vc+d1;let b1:=(vb ^^^ c1).rotateRight 12
 let a2:=a1+(b1+y);let d2:=(d1 ^^^ a2).rotateRight 8;let c2:=c1+d2;let b2:=(b1 ^^^ c2).rotateRight 7
 (((((((V.set a a1).set d d1).set c c1).set b b1).set a a2).set d d2).set c c2).set b b2
def jps(V:List U)(a b c d:Nat)(x y:U):List U:=
 let va:=V.getD a 0;let vb:=V.getD b 0;let vc:=V.getD c 0;let vd:=V.getD d 0
 let b1:=vb.rotateRight 25 ^^^ vc;let c1:=vc-vd;let d1:=vd.rotateRight 24 ^^^ va;let a1:=va-(b1+y)
 let b2:=b1.rotateRight 20 ^^^ c1;let c2:=c1-d1;let d2:=d1.rotateRight 16 ^^^ a1;let a2:=a1-(b2+x)
 (((((((V.set b b1).set c c1).set d d1).set a a1).set b b2).set c c2).set d d2).set a a2
theorem jbN(V:List U)(a b c d:Nat)(x y:U):(Vp V a b c d x y).length=V.length:=by simp [Vp]
def ca(i:Nat):Nat:=i%4
def cb(i:Nat):Nat:=4+(i+i/4)%4
def cc(i:Nat):Nat:=8+(i+2* (i/4))%4
def cd(i:Nat):Nat:=12+(i+3* (i/4))%4
theorem jbP(i:Nat):Zb (ca i) (cb i) (cc i) (cd i):=by
 unfold ca cb cc cd;refine⟨?_,?_,?_,?_,?_,?_,?_,?_,?_,?_⟩<;>omega
def jdj:ByteArray:=⟨#[48,49,50,51,52,53,54,55,56,57,97,98,99,100,101,102,101,97,52,56,57,102,100,54,49,99,48,50,98,55,53,51,98,56,99,48,53,50,102,100,97,101,51,54,55,49,57,52,55,57,51,49,100,99,98,101,50,54,53,97,52,48,102,56,57,48,53,55,50,52,97,102,101,49,98,99,54,56,51,100,50,99,54,97,48,98,56,51,52,100,55,53,102,101,49,57,99,53,49,102,101,100,52,97,48,55,54,51,57,50,56,98,100,98,55,101,99,49,51,57,53,48,102,52,56,54,50,97,54,102,101,57,98,51,48,56,99,50,100,55,49,52,97,53,97,50,56,52,55,54,49,53,102,98,57,101,51,99,100,48]⟩
def jfn(k:Nat):Nat:=if 97≤(jdj.get! k).toNat then(jdj.get! k).toNat-87 else(jdj.get! k).toNat-48
def zJ(r i:Nat):Nat:=jfn (16*r+i)
theorem jdW:jdj.size=160:=by decide+kernel
theorem jhZ: ∀k,(hk:k<jdj.size)→(97:Int)≤((jdj[k]'hk).toNat:Int)→(((jdj[k]'hk).toNat:Int)-97)%256+10=(jfn k:Int):=by decide+kernel
theorem jhY: ∀k,(hk:k<jdj.size)→((jdj[k]'hk).toNat:Int)<97→(((jdj[k]'hk).toNat:Int)-48)%256=(jfn k:Int):=by decide+kernel
theorem jkl: ∀k,k<160→jfn k<16:=by decide+kernel
theorem Vc(r i:Nat)(hr:r<10)(hi:i<16):zJ r i<16:=jkl _ (by omega)
def jjc(V M:List U)(k:Nat):List U:=
 Vp V (ca (k%8)) (cb (k%8)) (cc (k%8)) (cd (k%8)) (M.getD (zJ (k/8) (2* (k%8))) 0) (M.getD (zJ (k/8) (2* (k%8)+1)) 0)
def jpp(V M:List U)(k:Nat):List U:=
 jps V (ca (k%8)) (cb (k%8)) (cc (k%8)) (cd (k%8)) (M.getD (zJ (k/8) (2* (k%8))) 0) (M.getD (zJ (k/8) (2* (k%8)+1)) 0)
def zt(V M:List U):Nat→List U
 |0=>V
 |k+1=>jjc (zt V M k) M k
def unK(V M:List U):Nat→List U
 |0=>V
 |k+1=>jpp (unK V M k) M (79-k)
theorem zX(V M:List U): ∀k,(zt V M k).length=V.length
 |0=>rfl
 |k+1=>by rw [zt,jjc,jbN,zX V M k]
theorem yL(V:List U):(yF V).size=V.length:=by simp [yF]
theorem yp(V:List U):(yF V).all (·.oneCell')=true:=by
 simp [yF,uv,Value.oneCell']
theorem jga(V M:List U)(k j:Nat)(hj:j<8):zt V M (8*k+j+1)=Vp (zt V M (8*k+j)) (ca j) (cb j) (cc j) (cd j) (M.getD (zJ k (2*j)) 0) (M.getD (zJ k (2*j+1)) 0):=by
 rw [zt,jjc,show(8*k+j)%8=j by omega,show(8*k+j)/8=k by omega]
def ivL:List U:= [0x6a09e667,0xbb67ae85,0x3c6ef372,0xa54ff53a,0x510e527f,0x9b05688c,0x1f83d9ab,0x5be0cd19]
def Kw(H:List U)(n:Nat)(last:Bool):List U:=
 let v:=H++ivL
 let v:=v.set 12 (v.getD 12 0 ^^^ BitVec.ofNat 32 n)
 let v:=v.set 13 (v.getD 13 0 ^^^ BitVec.ofNat 32 (n/4294967296))
 if last then v.set 14 (~~~ v.getD 14 0)else v
def Zj(H:List U):Nat→List U
 |0=>List.replicate 16 0
 |k+1=>((Zj H k).set k (H.getD k 0)).set (k+8) (ivL.getD k 0)
theorem jiv(H:List U)(k:Nat):Zj H (k+1)=((Zj H k).set k (H.getD k 0)).set (k+8) (ivL.getD k 0):=rfl
theorem YY(H:List U): ∀k,(Zj H k).length=16
 |0=>rfl
 |k+1=>by rw [Zj,kE,kE,YY H k]
theorem jkX(H:List U)(h:H.length=8):Zj H 8=H++ivL:=by
 match H,h with
 | [a,b,c,d,e,f,g,i],_=>rfl
def VW(H W:List U):Nat→List U
 |0=>H
 |k+1=>(VW H W k).set k ((VW H W k).getD k 0 ^^^(W.getD k 0 ^^^ W.getD (k+8) 0))
def Jd(H M:List U)(n:Nat)(last:Bool):List U:=VW H (zt (Kw H n last) M 80) 8
theorem jdY(H W:List U)(k:Nat):VW H W (k+1)=(VW H W k).set k ((VW H W k).getD k 0 ^^^(W.getD k 0 ^^^ W.getD (k+8) 0)):=rfl
theorem Jg(H W:List U): ∀k,(VW H W k).length=H.length
 |0=>rfl
 |k+1=>by rw [VW,kE,Jg H W k]
theorem Ql(H M:List U)(n:Nat)(last:Bool):(Jd H M n last).length=H.length:=Jg _ _ _
theorem Zi(H:List U)(n:Nat)(last:Bool)(h:H.length=8):(Kw H n last).length=16:=by
 unfold Kw;cases last<;>simp [h,ivL]
theorem jdP(H V:List U)(n:Nat)(last:Bool)(wE uE:U)(hV:H++ivL=V)(EK:V.getD 12 0=wE)(DK:V.getD 13 0=uE):
 Kw H n last=(if last then(((V.set 12 (wE ^^^ BitVec.ofNat 32 n)).set 13 (uE ^^^ BitVec.ofNat 32 (n/4294967296))).set 14 (~~~(((V.set 12 (wE ^^^ BitVec.ofNat 32 n)).set 13 (uE ^^^ BitVec.ofNat 32 (n/4294967296))).getD 14 0)))
  else((V.set 12 (wE ^^^ BitVec.ofNat 32 n)).set 13 (uE ^^^ BitVec.ofNat 32 (n/4294967296)))):=by
 subst hV;subst EK;subst DK;unfold Kw;simp only [FM.getD_set_ne _ 12 13 _ (by decide)]
theorem joE(x:U):4294967295-un x=un (~~~ x):=by
 unfold un;rw [BitVec.toNat_not];have:=x.isLt;omega
theorem jlz(x:U):bits BinOp.xor IntKind.u32 (if IntKind.u32.signed=true then -1 else IntKind.u32.max) (un x)=un (~~~ x):=by
 have h:(if IntKind.u32.signed=true then -1 else IntKind.u32.max)=un (BitVec.allOnes 32):=by decide
 rw [h,jcn,BitVec.allOnes_xor]
theorem jhB(n:Nat):(n:Int)%4294967296=un (BitVec.ofNat 32 n):=by
 unfold un;rw [vu];omega
theorem jiQ(n:Nat):(n:Int)/4294967296%4294967296=un (BitVec.ofNat 32 (n/4294967296)):=by
 have h:=jhB (n/4294967296);rw [Int.natCast_ediv]at h;exact h
theorem jjx(n:Nat)(h:n<18446744073709551616):IntKind.u64.wrap ((n:Int)/4294967296)%4294967296=un (BitVec.ofNat 32 (n/4294967296)):=by
 have e:IntKind.u64.wrap ((n:Int)/4294967296)=(n:Int)/4294967296:=by
  have h1:IntKind.u64.wrap ((n:Int)/4294967296)=((n:Int)/4294967296)%18446744073709551616:=by simp [IntKind.wrap,IntKind.bits,IntKind.signed]
  rw [h1];omega
 rw [e,jiQ]
theorem jeu(V X:List U)(Du:Nat):((yF V).toList.take Du++(X.map uv++(yF V).toList.drop (Du+(X.map uv).length))).toArray=yF (V.take Du++(X++V.drop (Du+X.length))):=by
 simp [yF,List.map_take,List.map_drop]
theorem jgc {w:m0}{b:Nat}{V:List U}{T:o0}{fr:Nat×Nat}(h:w.heap[b]?=some (.cells (yF V) T fr)): ∀j v,(V.map uv)[j]?=some v→w.cell? ((⟨b,0,none⟩:Addr).add j)=some v:=by
 intro j v hj;rw [qD,jv,jM _ b j _ _ _ h];simpa [yF] using hj
theorem jcb(V:List U): ∀v∈V.map uv,v.oneCell'=true:=by
 intro v hv;simp only [jo]at hv;obtain⟨x,_,rfl⟩:=hv;rfl
end Go.Proofs.YtnohcdpnnhmpfaaGreatDoor.FM
namespace Go.Proofs.YtnohcdpnnhmpfaaGreatDoor.FM
open Go.RowKit ML
variable{p:Nat}
abbrev Bytes:=List UInt8
def zL(B:Bytes)(i:Nat):Nat:=(B.getD i 0).toNat
def XG(B:Bytes)(k:Nat):Nat:=zL B (4*k)+256*zL B (4*k+1)+65536*zL B (4*k+2)+16777216*zL B (4*k+3)
def yh(B:Bytes):List U:=(List.range 16).map fun k=>BitVec.ofNat 32 (XG B k)
theorem zn(B:Bytes):(yh B).length=16:=by simp [yh]
theorem ZD(B:Bytes)(i:Nat):zL B i<256:=(B.getD i 0).toNat_lt
def KV(T:Bytes)(p:Nat):Bytes:=(T.drop (64*p)).take 64
def zo(h:List U)(T:Bytes):Nat→List U
 |0=>h
 |p+1=>Jd (zo h T p) (yh (KV T p)) (64* (p+1)) false
theorem Vu(h:List U)(T:Bytes)(hh:h.length=8): ∀p,(zo h T p).length=8
 |0=>hh
 |p+1=>by rw [zo,Ql,Vu h T hh p]
def Ke(T:Bytes):Nat:=(T.length-1)/64
def Vx(h:List U)(T:Bytes):List U:=Jd (zo h T (Ke T)) (yh (T.drop (64*Ke T))) T.length true
def Xg(V:List U):Bytes:=V.flatMap fun x=> [UInt8.ofNat (x.toNat%256),UInt8.ofNat (x.toNat/256%256),UInt8.ofNat (x.toNat/65536%256),UInt8.ofNat (x.toNat/16777216%256)]
def JP(n:Nat):List U:=ivL.set 0 (ivL.getD 0 0 ^^^(0x01010020+BitVec.ofNat 32 (256*n)))
def zS(K:Bytes):Bytes:=if K= []then []else K++List.replicate (64-K.length) 0
def KS(K B:Bytes):Bytes:=Xg (Vx (JP K.length) (zS K++B))
theorem jdi(T S:Bytes)(p:Nat)(h:64* (p+1)≤T.length):KV (T++S) p=KV T p:=by
 unfold KV;rw [List.drop_append_of_le_length (by omega),xW (by simp;omega)]
theorem ZG(h:List U)(T S:Bytes): ∀p,64*p≤T.length→zo h (T++S) p=zo h T p
 |0,_=>rfl
 |p+1,hp=>by rw [zo,zo,ZG h T S p (by omega),jdi T S p hp]
theorem Yz(V:List U):(Xg V).length=4*V.length:=by
 unfold Xg
 induction V with
 |nil=>rfl
 |cons x V ih=>simp only [List.flatMap_cons,jZ,kW,ih];simp;omega
theorem jax(h:List U)(T:Bytes)(hh:h.length=8):(Vx h T).length=8:=by
 unfold Vx;rw [Ql,Vu h T hh]
structure Zz(T:Bytes)(p t:Nat)(D:Bytes):Prop where
 len:T.length=64*p+t
 le:t≤64
 dl:D.length=64
 held:D.take t=T.drop (64*p)
theorem Zz.full {T D:Bytes}(m:Zz T p 64 D)(h:List U):Jd (zo h T p) (yh D) (64*p+64) false=zo h T (p+1):=by
 have e:D=KV T p:=by
  have h1:=m.held;rw [je (by rw [m.dl];exact jO _)]at h1;rw [KV,←h1,je (by rw [m.dl];exact jO _)]
 rw [zo,←e,jg]
theorem Zz.next {T D:Bytes}(m:Zz T p 64 D):Zz T (p+1) 0 D:=
 ⟨by have:=m.len;omega,by omega,m.dl,by rw [qu];symm;rw [List.drop_eq_nil_iff];have:=m.len;omega⟩
theorem Zz.more {T D:Bytes}{p t:Nat}(m:Zz T p t D)(E:Bytes)(hE:t+E.length≤64):Zz (T++E) p (t+E.length) (D.take t++(E++D.drop (t+E.length))):=by
 have hl:=m.len;have hd:=m.dl;refine⟨by rw [jZ,hl];omega,hE,by simp [hd];omega,?_⟩;rw [List.drop_append_of_le_length (by omega),←m.held];have h1:(D.take t).length=t:=by simp [hd];have:=m.le;omega
 rw [←kY,xW (by simp [hd];omega),je (by simp [hd];omega)]
theorem Zz.done {T D:Bytes}{t:Nat}(m:Zz T p t D)(h0:T= []∨0<t):p=Ke T:=by
 have hl:=m.len;have:=m.le;clear m;unfold Ke;rcases h0 with rfl|h;·simp only [List.length_nil]at*;omega
 ·omega
theorem Vi(B:Bytes)(i k:Nat):XG (B.take i) k=(if 4*k<i then zL B (4*k)else 0)+256* (if 4*k+1<i then zL B (4*k+1)else 0)+65536* (if 4*k+2<i then zL B (4*k+2)else 0)+16777216* (if 4*k+3<i then zL B (4*k+3)else 0):=by
 have Rv: ∀j,zL (B.take i) j=if j<i then zL B j else 0:=by
  intro j;unfold zL;by_cases h:j<i;·rw [jP h];simp [jV,vw,h]
  ·rw [jQ h];simp [jV,vw,h]
 unfold XG;rw [Rv,Rv,Rv,Rv]
theorem jbz(B:Bytes)(k:Nat)(hk:k<16):(yh B).getD k 0=BitVec.ofNat 32 (XG B k):=by
 simp [yh,jV,hk]
theorem jbj(B:Bytes)(i:Nat):
 yh (B.take (i+1))=(yh (B.take i)).set (i/4) (BitVec.ofNat 32 (XG (B.take i) (i/4)+zL B i*2^(8* (i%4)))):=by
 apply vM (by simp [zn]);intro k h1 h2;have hk:k<16:=by rw [zn]at h1;exact h1
 rw [List.getElem_set];have e: ∀(B:Bytes) (h:k<(yh B).length),(yh B)[k]=BitVec.ofNat 32 (XG B k):=by intro B h;simp [yh]
 rw [e];split
 ·rename_i h;subst h;congr 1;rw [Vi,Vi];generalize hq:i/4=q;have h4:i=4*q∨i=4*q+1∨i=4*q+2∨i=4*q+3:=by omega
  clear hq h1 h2 hk e;rcases h4 with h4|h4|h4|h4<;>subst h4
  ·rw [show(4*q)%4=0 by omega,jP (show 4*q<4*q+1 by omega),jQ (show ¬4*q+1<4*q+1 by omega),jQ (show ¬4*q+2<4*q+1 by omega),jQ (show ¬4*q+3<4*q+1 by omega),jQ (show ¬4*q<4*q by omega),jQ (show ¬4*q+1<4*q by omega),jQ (show ¬4*q+2<4*q by omega),jQ (show ¬4*q+3<4*q by omega)];simp
  ·rw [show(4*q+1)%4=1 by omega,jP (show 4*q<4*q+1+1 by omega),jP (show 4*q+1<4*q+1+1 by omega),jQ (show ¬4*q+2<4*q+1+1 by omega),jQ (show ¬4*q+3<4*q+1+1 by omega),jP (show 4*q<4*q+1 by omega),jQ (show ¬4*q+1<4*q+1 by omega),jQ (show ¬4*q+2<4*q+1 by omega),jQ (show ¬4*q+3<4*q+1 by omega)];simp;omega
  ·rw [show(4*q+2)%4=2 by omega,jP (show 4*q<4*q+2+1 by omega),jP (show 4*q+1<4*q+2+1 by omega),jP (show 4*q+2<4*q+2+1 by omega),jQ (show ¬4*q+3<4*q+2+1 by omega),jP (show 4*q<4*q+2 by omega),jP (show 4*q+1<4*q+2 by omega),jQ (show ¬4*q+2<4*q+2 by omega),jQ (show ¬4*q+3<4*q+2 by omega)];simp;omega
  ·rw [show(4*q+3)%4=3 by omega,jP (show 4*q<4*q+3+1 by omega),jP (show 4*q+1<4*q+3+1 by omega),jP (show 4*q+2<4*q+3+1 by omega),jP (show 4*q+3<4*q+3+1 by omega),jP (show 4*q<4*q+3 by omega),jP (show 4*q+1<4*q+3 by omega),jP (show 4*q+2<4*q+3 by omega),jQ (show ¬4*q+3<4*q+3 by omega)];simp;omega
 ·rename_i h;rw [e];congr 1;rw [Vi,Vi];have:i/4≠k:=h;have c0:(4*k<i+1)↔(4*k<i):=by omega
  have c1:(4*k+1<i+1)↔(4*k+1<i):=by omega
  have c2:(4*k+2<i+1)↔(4*k+2<i):=by omega
  have c3:(4*k+3<i+1)↔(4*k+3<i):=by omega
  simp only [c0,c1,c2,c3]
theorem jhz(B:Bytes)(i:Nat):XG (B.take i) (i/4)<2^(8* (i%4)):=by
 rw [Vi];generalize hq:i/4=q;have h4:i=4*q∨i=4*q+1∨i=4*q+2∨i=4*q+3:=by omega
 clear hq;have b0:=ZD B (4*q);have b1:=ZD B (4*q+1);have b2:=ZD B (4*q+2);rcases h4 with h4|h4|h4|h4<;>subst h4
 ·rw [show(4*q)%4=0 by omega,jQ (show ¬4*q<4*q by omega),jQ (show ¬4*q+1<4*q by omega),jQ (show ¬4*q+2<4*q by omega),jQ (show ¬4*q+3<4*q by omega)];decide
 ·rw [show(4*q+1)%4=1 by omega,jP (show 4*q<4*q+1 by omega),jQ (show ¬4*q+1<4*q+1 by omega),jQ (show ¬4*q+2<4*q+1 by omega),jQ (show ¬4*q+3<4*q+1 by omega)];omega
 ·rw [show(4*q+2)%4=2 by omega,jP (show 4*q<4*q+2 by omega),jP (show 4*q+1<4*q+2 by omega),jQ (show ¬4*q+2<4*q+2 by omega),jQ (show ¬4*q+3<4*q+2 by omega)];omega
 ·rw [show(4*q+3)%4=3 by omega,jP (show 4*q<4*q+3 by omega),jP (show 4*q+1<4*q+3 by omega),jP (show 4*q+2<4*q+3 by omega),jQ (show ¬4*q+3<4*q+3 by omega)];omega
theorem jnQ(x c m:Nat)(hx:x<2^m)(hc:c<256)(hm:m+8≤32):
 bits BinOp.or IntKind.u32 (un (BitVec.ofNat 32 x)) ((c:Int)*2^m%4294967296)=un (BitVec.ofNat 32 (x+c*2^m)):=by
 have hp:2^m*256≤4294967296:=by
  have:=ko (show 0<2 by decide) hm;rw [vD]at this;exact this
 have pu:0<2^m:=Nat.pow_pos (by decide);have h2:c*2^m+2^m≤4294967296:=by
  have:(c+1)*2^m≤256*2^m:=Nat.mul_le_mul_right _ (by omega);rw [qg]at this;omega
 rw [jfU _ (by omega),jfU _ (by omega)];have e:((c:Int)*2^m%4294967296)=((c*2^m:Nat):Int):=by
  have:((c:Int)*2^m)=((c*2^m:Nat):Int):=by push_cast;rfl
  rw [this];omega
 rw [e,u32_or_nat _ _ (by omega) (by omega)];congr 1;rw [Nat.or_comm,Nat.add_comm,←Nat.shiftLeft_eq,Nat.shiftLeft_add_eq_or_of_lt hx]
end Go.Proofs.YtnohcdpnnhmpfaaGreatDoor.FM
namespace Go
namespace Seg
section
variable {P:Program} {ops:Array Oper} {Q:Exit→Act→m0→Prop} {md:Region.Mode} {S:m0→Prop}
def Zx(P:Program)(md:Region.Mode)(ops:Array Oper)(Q:Exit→Act→m0→Prop)(S:m0→Prop)(n:Nat)(E:Array Bool→Act→m0→Prop):
 Nat→Array Bool→Act→m0→Prop
 |0,ls,a,w=>E ls a w
 |
  f+1,ls,a,w=>Region.ready md ops ls≠ []∧
  ∀i∈Region.ready md ops ls,i<n∧wpOp P ops Q i (fun a' w'=>S w'∧Zx P md ops Q S n E f (ls.setIfInBounds i true) a' w') a w
theorem Qh {n g:Nat}{E:Array Bool→Act→m0→Prop}(hE: ∀ls a w,E ls a w→wpAny P md ops Q g ls a w):
 ∀(f:Nat) (ls:Array Bool) (a:Act) (w:m0),Zx P md ops Q S n E f ls a w→wpAny P md ops Q (f+g) ls a w
 |0,ls,a,w,h=>by rw [jv];exact hE _ _ _ h
 |
  f+1,ls,a,w,h=>by
  rw [show f+1+g=(f+g)+1 by omega];exact⟨fun h0=>absurd h0 h.1,fun i hi=>wpOp_mono (fun a' w' h'=>Qh hE f _ a' w' h'.2) (h.2 i hi).2⟩
def jcV(md:Region.Mode)(ops:Array Oper)(n:Nat):Prop:=n<ops.size→Region.sinkB md ops n=true∧Region.chainB md ops n=true
theorem jgq {n i:Nat}{ls:Array Bool}(hw:jcV md ops n)(inv:HeadInv md ops n ls)(bt:i<n)(hi:i∈Region.ready md ops ls):
 ∀j∈Region.ready md ops ls,j<n:=fun j hj=>by
 rcases jw j n with h|h;·exact h
 ·obtain⟨_,o,ho,_⟩:=mem_ready.1 hj;have ns:j<ops.size:=(vt.1 ho).1;obtain⟨h1,h2⟩:=hw (by omega);exact absurd hj (tail_waits h1 h2 (by omega) inv _ i rfl bt (mem_ready.1 hi).1 j h)
theorem jiM {n i:Nat}{oi:Oper}{v:n0}{E:Array Bool→Act→m0→Prop}(hi:ops[i]?=some oi)
 (nw: ∀(j:Nat) (o:Oper) cs b,ops[j]?=some o→o.op≠.select cs b)
 (hQ: ∀c a w,Q (.panic c) (a.put oi.dst v) w→Q (.panic c) a w) (ix:jcV md ops n) (bt:i<n)
 (Pv: ∀ls a w,E ls a w→ ∀j∈Region.ready md ops ls,n≤j):
 ∀(f:Nat) (ls:Array Bool) (a:Act) (w:m0),HeadInv md ops n ls→
  (∀j oj,ops[j]?=some oj→j≠i→ls.getD j true=false→(∀e∈oj.after,Region.binds md e=true→e.on≠i)→oi.apart ops oj=true)→
  i∈Region.ready md ops ls→YieldsIf P ops S oi v a→S w→
  Zx P md ops Q S n E f (ls.setIfInBounds i true) (a.put oi.dst v) w→Zx P md ops Q S n E (f+1) ls a w:=by
 intro f
 induction f with
 |
  zero=>
  intro ls a w inv _ hr hy hS H;refine⟨fun h=>(by rw [h]at hr;cases hr),fun j hj=>?_⟩;have az:=jgq ix inv bt hr j hj;refine⟨az,?_⟩;by_cases Ow:j=i;·subst Ow;exact hy.wpOp hi hS ⟨hS,H⟩
  ·have:=Pv _ _ _ H j (ready_mono hj Ow);omega
 |
  succ f ih=>
  intro ls a w inv WQ hr hy hS H;refine⟨fun h=>(by rw [h]at hr;cases hr),fun j hj=>?_⟩;have az:=jgq ix inv bt hr j hj;refine⟨az,?_⟩;by_cases Ow:j=i;·subst Ow;exact hy.wpOp hi hS ⟨hS,H⟩
  ·have h1:=(H.2 j (ready_mono hj Ow)).2;obtain⟨hjun,oj,hoj,hall⟩:=mem_ready.1 hj;have hnot: ∀e∈oj.after,Region.binds md e=true→e.on≠i:=fun e he hb cU=>by
    have h1:=hall e he hb;rw [cU,getD_both (mem_ready.1 hr).1]at h1;cases h1
   have h2:=wpOp_putIf hoj (WQ j oj hoj Ow hjun hnot) (fun cs b=>nw i oi cs b hi) (fun cs b=>nw j oj cs b hoj) hQ hy h1;have WT: ∀k ok,ops[k]?=some ok→k≠i→(ls.setIfInBounds j true).getD k true=false→
    (∀e∈ok.after,Region.binds md e=true→e.on≠i)→oi.apart ops ok=true:=fun k ok hk nu AE DT=>by
    refine WQ k ok hk nu ?_ DT;by_cases mM:j=k;·subst mM;exact hjun
    ·rw [getD_set_ne true mM]at AE;exact AE
   refine wpOp_mono (fun a' w' h3=>⟨h3.2.1,ih (ls.setIfInBounds j true) a' w' (inv.set hj az) WT (ready_mono hr (Ne.symm Ow)) h3.1 h3.2.1 ?_⟩) h2;rw [Array.setIfInBounds_comm _ _ Ow];exact h3.2.2
theorem jnj {n j:Nat}{E:Array Bool→Act→m0→Prop}{f:Nat}{ls:Array Bool}{a:Act}{w:m0}(hr:Region.ready md ops ls= [j])(hj:j<n)
 (h:wpOp P ops Q j (fun a' w'=>S w'∧Zx P md ops Q S n E f (ls.setIfInBounds j true) a' w') a w):Zx P md ops Q S n E (f+1) ls a w:=by
 refine⟨by rw [hr];simp,fun i hi=>?_⟩;rw [hr]at hi;obtain rfl:i=j:=by simpa using hi
 exact⟨hj,h⟩
def jbT(o:Oper):Bool:=match o.op with
 | .move _| .assign _| .pick ..| .load ..| .nilCheck _| .binOp ..| .unOp ..| .convert ..| .makeInterface ..| .slice ..| .fieldAddr ..| .field ..
 | .indexAddr ..| .index ..| .lookup ..| .extract ..| .typeAssert ..| .build ..| .sliceToArrayPointer ..| .makeFunc ..=>true
 | .call c=>(match c.callee with| .builtin .len=>true| .builtin .cap=>true| .builtin .min=>true| .builtin .max=>true|_=>false)
 |_=>false
theorem jdD {s:Sem n0}{w w':m0}{n:Next}(h:(do pure (Next.value (←s)):Sem Next).run P w=.ok n w'): ∃u,n=.value u:=by
 simp only [kU]at h;cases hr:s.run P w with
 |ok u w1=>rw [hr]at h;simp at h;exact⟨u,h.1.symm⟩
 |halt x w1=>rw [hr]at h;simp at h
theorem jgt {o:Oper}(hp:jbT o=true){ρ:Operand→n0}{w w':m0}{n:Next}(h:(execOp ρ o).run P w=.ok n w'): ∃u,n=.value u:=by
 obtain⟨rV,op,type,pos,after,guard⟩:=o;unfold jbT at hp;cases op<;>(try (simp at hp;done));all_goals simp only [execOp]at h
 case move x=>simp at h;exact⟨_,h.1.symm⟩
 case assign x=>simp at h;exact⟨_,h.1.symm⟩
 case pick c a b=>
  simp only [kU]at h;cases hr:(asBool (ρ c)).run P w with
  |ok u w1=>rw [hr]at h;simp at h;exact⟨_,h.1.symm⟩
  |halt x w1=>rw [hr]at h;simp at h
 case nilCheck x=>
  have hrt: ∀(w:m0),¬ ∃n w',(runtimePanic .nilDeref:Sem Next).run P w=.ok n w':=by
   intro w ⟨n,w',h⟩;unfold runtimePanic at h;simp [goPanic]at h
  split at h;·exact absurd ⟨_,_,h⟩ (hrt _)
  ·exact absurd ⟨_,_,h⟩ (hrt _)
  ·exact absurd ⟨_,_,h⟩ (hrt _)
  ·split at h;·exact absurd ⟨_,_,h⟩ (hrt _)
   ·simp only [kU]at h;cases h1:(program).run P w with
    |halt x w1=>rw [h1]at h;simp at h
    |
     ok p w1=>
     rw [h1]at h;simp only [qQ]at h;revert h;generalize (nilAhead _ _ _ _).run P w1=r;intro h;cases r with
     |halt x w1=>simp at h
     |
      ok p w1=>
      simp only [qQ]at h;split at h;·simp [unsupported]at h
      ·simp at h;exact⟨_,h.1.symm⟩
   ·simp at h;exact⟨_,h.1.symm⟩
  ·simp at h;exact⟨_,h.1.symm⟩
 case call c=>
  cases hc:c.callee with
  |builtin b=>cases b<;>simp [hc]at hp<;>simp only [resolve,hc,kU,Sem.run_pure,qQ,invoke,builtin]at h<;>exact jdD (by simpa [kU] using h)
  |value f=>simp [hc]at hp
  |invoke f m=>simp [hc]at hp
 all_goals exact jdD h
theorem jaf {o:Oper}{a:Act}{K:Act→Prop}(hp:jbT o=true)
 (h:if Region.wanted o (yielded ops a.tmps)then o.quiet P a S K else K (a.put o.dst undef)): ∃v,YieldsIf P ops S o v a∧K (a.put o.dst v):=by
 by_cases hw:Region.wanted o (yielded ops a.tmps)=true
 ·rw [jP hw]at h;obtain⟨v,h1,h2⟩:=h;refine⟨v,.inl ⟨hw,fun w hS=>?_⟩,h2⟩;have h3:=h1 w hS;unfold Oper.quietAt at h3;cases hr:(execOp a.eval o).run P w with
  |halt x w1=>rw [hr]at h3;simp [Oper.quietUpon]at h3
  |
   ok n w1=>
   obtain⟨u,rfl⟩:=jgt hp hr;rw [hr]at h3;simp only [Oper.quietUpon]at h3;rw [h3.1,h3.2]
 ·rw [jQ hw]at h;exact⟨undef,.inr ⟨by simpa using hw,rfl⟩,h⟩
def opAt(ops:Array Oper)(i:Nat):Oper:=ops.getD i ⟨none,.move (.const undef),0, "", #[],none⟩
def jgg(md:Region.Mode)(ops:Array Oper)(n:Nat):E0→Array Bool→Option (Array Bool)
 | [],l=>some l
 |i::r,l=>if(Region.ready md ops l).contains i&&Region.free md ops l i&&jbT (opAt ops i)&&decide (i<n)then jgg md ops n r (l.setIfInBounds i true)else none
def jcr(md:Region.Mode)(ops:Array Oper)(n:Nat):List (E0×Nat)→E0→Array Bool→Bool
 | [],last,l=>match jgg md ops n last l with|some l'=>Region.seqB md ops (ops.size-n) n l'|none=>false
 |(q,j)::r,last,l=>match jgg md ops n q l with|some l'=>decide (Region.ready md ops l'= [j])&&decide (j<n)&&jcr md ops n r last (l'.setIfInBounds j true)|none=>false
def ZU:List (E0×Nat)→E0→Nat
 | [],last=>last.length
 |(q,_)::r,last=>q.length+(ZU r last+1)
def jor(ops:Array Oper)(n:Nat)(lA:List (E0×Nat))(last:E0):Bool:=
 Region.noSelect ops&&decide (n≤ops.size)&&(decide (n=ops.size)||(Region.sinkB .any ops n&&Region.chainB .any ops n))&&
 jcr .any ops n lA last (Array.replicate ops.size false)&&decide (ZU lA last=n)
def xu(P:Program)(ops:Array Oper)(Q:Exit→Act→m0→Prop)(S:m0→Prop)(tail:List Oper)(last:List Oper):List (List Oper×Oper)→Act→m0→Prop
 | [],a,w=>wpQuiet P ops S (fun a'=>wpList P ops Q tail a' w) last a
 |(q,o)::r,a,w=>wpQuiet P ops S (fun a'=> ∀K:Act→m0→Prop,(∀lD Fu,S Fu→xu P ops Q S tail last r lD Fu→K lD Fu)→
  if Region.wanted o (yielded ops a'.tmps)then o.wp P a' w K Q else K (a'.put o.dst undef) w) q a
theorem zl {i:Nat}{ls:Array Bool}(h:i∈Region.ready md ops ls):ops[i]?=some (opAt ops i):=by
 obtain⟨_,o,ho,_⟩:=mem_ready.1 h;have ns:i<ops.size:=(vt.1 ho).1;unfold opAt;simp [ns]
theorem jan {n:Nat}{E:Array Bool→Act→m0→Prop}(nw:Region.noSelect ops=true)
 (hQ: ∀i c (a:Act) v w,Q (.panic c) (a.put (opAt ops i).dst v) w→Q (.panic c) a w) (ix:jcV md ops n)
 (Pv: ∀ls a w,E ls a w→ ∀j∈Region.ready md ops ls,n≤j) {f:Nat} {w:m0} (hS:S w) {L:Act→Prop} {Ss:Array Bool}:
 ∀(q:E0) (ls:Array Bool) (a:Act),HeadInv md ops n ls→jgg md ops n q ls=some Ss→
  (∀a',HeadInv md ops n Ss→L a'→Zx P md ops Q S n E f Ss a' w)→
  wpQuiet P ops S L (q.map (opAt ops)) a→Zx P md ops Q S n E (q.length+f) ls a w
 |
  [],ls,a,inv,hr,hL,h=>by
  simp only [jgg,Option.some.injEq]at hr;subst hr;simpa using hL a inv h
 |
  i::q,ls,a,inv,hr,hL,h=>by
  unfold jgg at hr;split at hr
  ·rename_i hc;simp only [jy,kK]at hc;obtain⟨⟨⟨CE,SG⟩,hp⟩,bt⟩:=hc;have iT:i∈Region.ready md ops ls:=by simpa using CE
   have h0:=zl iT;obtain⟨v,hy,hK⟩:=jaf hp h;have H:=jan nw hQ ix Pv hS q _ _ (inv.set iT bt) hr hL hK;rw [kW,show q.length+1+f=(q.length+f)+1 by omega];exact jiM h0 (Region.noSelect_spec nw) (fun c a w=>hQ i c a v w) ix bt Pv _ ls a w inv (Region.free_spec h0 SG) iT hy hS H
  ·cases hr
theorem jgf {n:Nat}{tail:List Oper}{last:E0}(nw:Region.noSelect ops=true)
 (hQ: ∀i c (a:Act) v w,Q (.panic c) (a.put (opAt ops i).dst v) w→Q (.panic c) a w) (ix:jcV md ops n):
 ∀(lA:List (E0×Nat)) (ls:Array Bool) (a:Act) (w:m0),HeadInv md ops n ls→jcr md ops n lA last ls=true→S w→
  xu P ops Q S tail (last.map (opAt ops)) (lA.map fun(q,j)=>(q.map (opAt ops),opAt ops j)) a w→
  Zx P md ops Q S n (fun Ss a' w'=>Region.seqB md ops (ops.size-n) n Ss=true∧wpList P ops Q tail a' w') (ZU lA last) ls a w
 |
  [],ls,a,w,inv,gu,hS,h=>by
  unfold jcr at gu;split at gu
  ·rename_i l' hr;have:=jan (E:=fun Ss a' w'=>Region.seqB md ops (ops.size-n) n Ss=true∧wpList P ops Q tail a' w') (f:=0) nw hQ ix
    (fun ls a w hE=>seqB_ready hE.1) hS last ls a inv hr (fun a' _ hL=>⟨gu,hL⟩) h
   simpa [ZU] using this
  ·cases gu
 |
  (q,j)::r,ls,a,w,inv,gu,hS,h=>by
  unfold jcr at gu;split at gu
  ·rename_i l' hr;simp only [jy,kK]at gu;obtain⟨⟨CE,hj⟩,hok'⟩:=gu;have Lx:j∈Region.ready md ops l':=by rw [CE];simp
   have h0:=zl Lx;refine jan (f:=ZU r last+1) nw hQ ix (fun ls a w hE=>seqB_ready hE.1) hS q ls a inv hr (fun a' LS hL=>?_) h;refine jnj CE hj ?_;unfold wpOp;simp only [h0];have wZ:=hL (fun lD Fu=>S Fu∧Zx P md ops Q S n (fun Ss a' w'=>Region.seqB md ops (ops.size-n) n Ss=true∧wpList P ops Q tail a' w') (ZU r last) (l'.setIfInBounds j true) lD Fu)
    (fun lD Fu OD hW=>⟨OD,jgf nw hQ ix r _ lD Fu (LS.set Lx hj) hok' OD hW⟩)
   split;·rename_i hw;rw [jP hw]at wZ;exact .inl wZ
   ·rename_i hw;rw [jQ hw]at wZ;exact wZ
  ·cases gu
theorem xf {id:Nat}{a:Act}{w:m0}{l:List Oper}(S:m0→Prop)(lA:List (E0×Nat))(last:E0)(n:Nat)
 (hm:P.follows .mixedOrders=true) (hB:jor l.toArray n lA last=true)
 (hQ: ∀c (a:Act) d v w,Q (.panic c) (a.put d v) w→Q (.panic c) a w) (hS:S w.drew)
 (h:xu P l.toArray Q S (l.drop n) (last.map (opAt l.toArray)) (lA.map fun(q,j)=>(q.map (opAt l.toArray),opAt l.toArray j)) a w.drew):
 (Code.region id l.toArray true).wp P Q a w:=by
 simp only [jor,jy,qo,kK]at hB;obtain⟨⟨⟨⟨nw,hn⟩,hw⟩,gu⟩,Ds⟩:=hB;have hn':n≤l.length:=by simpa using hn
 have ix:jcV .any l.toArray n:=fun ns=>by
  rcases hw with hw|hw;·omega
  ·exact hw
 have IS:HeadInv .any l.toArray n (Array.replicate l.toArray.size false):=
  ⟨by simp,fun j oj _ hl=>(by rw [getD_replicate_false]at hl;cases hl),fun t _ ht=>getD_in (by simpa using ht) (getD_replicate_false _ _)⟩
 have H:=jgf (tail:=l.drop n) (md:=.any) nw (fun i c a v w=>hQ c a _ v w) ix lA _ a _ IS gu hS h;refine wp_region_any hm ?_;have Tw:(l.drop n).length=l.toArray.size-n:=by simp
 have:=Qh (Q:=Q) (g:=l.toArray.size-n) (fun ls a' w' hE=>by
  have:=wpAny_of_seq (md:=.any) (Q':=Q) (l.drop n) n ls a' w' (fun j=>by simp [vF]) (by rw [Tw];exact hE.1) hE.2
  rwa [Tw]at this) _ _ _ _ H
 rw [Ds,show n+(l.toArray.size-n)=l.toArray.size by simp;omega]at this;exact this
end
end Seg
end Go
