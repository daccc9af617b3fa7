/-
  The reference's Add, Sub, Compare.
-/
import Derived.Test.YtkkpfoidppjbdaaDoorNOf
import Derived.Test.YtkkpfoidppjbdaaDoorNDig2
import Derived.Test.YtkkpfoidppjbdaaDoorSeg
namespace Go.Proofs.YtkkpfoidppjbdaaDoor
set_option linter.unusedVariables false
open Go.RowKit ML ND

set_option maxHeartbeats 4000000 in
set_option maxRecDepth 100000 in
theorem refAdd_any (x y : Nat) (oa ob : Option Addr) (ca cb : Nat) (w : World) (ha : IntsAt w oa (dig x)) (hb : IntsAt w ob (dig y)) (hx : (dig x).length < 1099511627776) (hy : (dig y).length < 1099511627776) :
    Calls Tryd.prog 19 #[.slice oa (dig x).length ca, .slice ob (dig y).length cb] w fun e w' => ∃ oc cc, e = .returned (.slice oc (dig (x + y)).length cc) ∧ IntsAt w' oc (dig (x + y)) ∧ Below w.heap.size w w' := by
  obtain ⟨i0, hi, hz0, hz1, hz2⟩ := info_parts info_int
  have HI := Lib.hid hi
  have HZ0 := Lib.hid hz0
  have HZ1 := Lib.hid hz1
  have HZ2 := Lib.hid hz2
  have HA := Lib.hid ha
  have HBB := Lib.hid hb
  clear hi hz0 hz1 hz2 ha hb
  go_enter Tryd.func19, Tryd.ntmps19
  go_upto_region 4 with (fail)
  go_loopw [5, 6, 7] (fun v z i wr => ∃ (O : List Nat) (u : Nat), z = .int .i64 u ∧ i = .int .i64 O.length ∧ O.length ≤ (dig x).length + (dig y).length + 1 ∧ AddSt x y O u ∧ Below w.heap.size w wr ∧ wr.ownsRow w.heap.size 3 1 v O.length (nvals O)) (fun _ _ i _ => (dig x).length + (dig y).length + 1 - (intOf i).toNat)
  case atStart => exact ⟨[], 0, rfl, rfl, by simp, AddSt.init x y, Below.refl _ _, World.ownsRow_nil _ _ _ _⟩
  case round =>
  obtain ⟨O, u, rfl, rfl, hOl, S, bel, own⟩ := hrel
  by_cases hm : O.length < (dig x).length ∨ O.length < (dig y).length ∨ 0 < u
  · have hsh := S.short hm
    have SN := Lib.hid (S.next hm)
    have hup := S.up
    have QA := Lib.hid (fun (oz : Option Addr) (L : List Nat) (cz : Nat) (h : (oz = oa ∧ L = dig x) ∨ (oz = ob ∧ L = dig y)) => refAt_any oz L cz O.length wr (by
      rcases h with ⟨rfl, rfl⟩ | ⟨rfl, rfl⟩
      · exact HA.out.below bel
      · exact HBB.out.below bel) (by rcases h with ⟨rfl, rfl⟩ | ⟨rfl, rfl⟩ <;> omega) (by omega))
    have h1 : dAt (dig x) O.length < 10 := getD_lt (all_dig x) O.length
    have h2 : dAt (dig y) O.length < 10 := getD_lt (all_dig y) O.length
    clear S
    have hd : ((O.length : Int) < ((dig x).length : Int)) ∨ (¬ (O.length : Int) < ((dig x).length : Int) ∧ (O.length : Int) < ((dig y).length : Int)) ∨
        (¬ (O.length : Int) < ((dig x).length : Int) ∧ ¬ (O.length : Int) < ((dig y).length : Int) ∧ (0 : Int) < (u : Int)) := by omega
    have bsz := bel.size
    clear hm
    rcases hd with d1 | ⟨d1, d2⟩ | ⟨d1, d2, d3⟩
    all_goals (
      go_upto_region 8 with (first
        | (go_at_call 61; refine (QA.out _ _ _ ?ih).mono ?_; (case ih => first | exact .inl ⟨rfl, rfl⟩ | exact .inr ⟨rfl, rfl⟩); rintro e w3 ⟨rfl, rfl⟩)
        | (at_builtin; refine wpList_append_own _ rfl (.tmp 34) (.tmp 37) 31 rfl w.heap.size 3 i0 (.int .i64 0) 1 8 Tryd.underlying31 HI.out HZ0.out HZ1.out HZ2.out rfl (by decide) u5 O.length (nvals O) rfl (own.alloc _) ⟨w3.heap.size, 0, none⟩ 1 1 (nvals [(dAt (dig x) O.length + dAt (dig y) O.length + u) % 10]) rfl rfl ?c1 ?c2 ?c3 ?c4 ?c5 ?_))
      case c1 => exact news_nvals w3 [(dAt (dig x) O.length + dAt (dig y) O.length + u) % 10] _ _ rfl
      case c2 => exact nvals_one _
      case c3 => unfold maxLen; omega
      case c4 => omega
      case c5 => simp; omega
      intro v5 w5 own5 hg5 _
      have bel5 : Below w.heap.size w w5 := (bel.alloc bsz _).grown hg5 (by simp; omega) (fun q hq => (own.lt q hq).1)
      rw [nvals_append] at own5
      have OWN5 : w5.ownsRow w.heap.size 3 1 v5 (O ++ [(dAt (dig x) O.length + dAt (dig y) O.length + u) % 10]).length (nvals (O ++ [(dAt (dig x) O.length + dAt (dig y) O.length + u) % 10])) := by rw [List.length_append]; exact own5
      clear own5 own hg5 bel QA
      go_wp2_with fail
      go_roundw
      case rel => exact ⟨O ++ [(dAt (dig x) O.length + dAt (dig y) O.length + u) % 10], (dAt (dig x) O.length + dAt (dig y) O.length + u) / 10, by go_num, by rw [List.length_append, List.length_singleton]; go_num, by rw [List.length_append, List.length_singleton]; omega, SN.out, bel5, OWN5⟩
      case measure => simp [intOf]; omega)
  · have h3 : ¬ 0 < u := fun h => hm (.inr (.inr h))
    obtain rfl : u = 0 := by omega
    have h1 : ¬ O.length < (dig x).length := fun h => hm (.inl h)
    have h2 : ¬ O.length < (dig y).length := fun h => hm (.inr (.inl h))
    have hO := Lib.hid (S.done h1 h2)
    obtain ⟨oc, cc, rfl, _, _, hI⟩ := intsAt_own own
    have HII := Lib.hid hI
    have d1 : decide ((O.length : Int) < ((dig x).length : Int)) = false := by simp; omega
    have d2 : decide ((O.length : Int) < ((dig y).length : Int)) = false := by simp; omega
    clear hI own S hm h3
    go_wp2_with fail
    go_ret
    rw [← hO.out]
    exact ⟨oc, cc, rfl, HII.out, bel⟩
end Go.Proofs.YtkkpfoidppjbdaaDoor
