/-
  '==' between two arrays of 32-bit words.
-/
import Derived.Test.YtjajidbpfjhnbaaFMath
import Derived.Laws.StructEq
namespace Go.Proofs.Ytjajidbpfjhnbaa.FM
open Go.RowKit ML
variable {P : Program} (w : World)
theorem run_part_word (e : TypeId) (V : List U) (i : Nat) (he : P.underlying e = some (.int .u32)) (hi : i < V.length) :
    (part e (vals V) i).run P w = .ok (uv V[i]) w := by
  have : (vals V)[i]? = some (uv V[i]) := by simp [vals, hi]
  simp [part, isAgg, run_underlying he, this]
theorem run_eq_word (d : Nat) (e : TypeId) (he : P.underlying e = some (.int .u32)) (x y : U) : (Op.equalIn (d + 1) e (uv x) (uv y)).run P w = .ok (decide (x = y)) w := by
  unfold uv
  rw [run_equalIn_int w d e .u32 .u32 _ _ he]
  congr 1
  by_cases h : x = y
  · subst h; simp
  · have : ¬ un x = un y := fun e => h (BitVec.eq_of_toNat_eq (by unfold un at e; omega))
    simp [h, this]
theorem run_equalIn_words (d : Nat) (t e : TypeId) (len : Nat) (V W : List U) (ht : P.underlying t = some (.array len e)) (he : P.underlying e = some (.int .u32))
    (hs : (P.info? e).map (·.size) = some 1) (hV : V.length = len) (hW : W.length = len) :
    (Op.equalIn (d + 2) t (.agg (vals V)) (.agg (vals W))).run P w = .ok (decide (V = W)) w := by
  cases hq : P.info? e with
  | none => simp [hq] at hs
  | some inf =>
  have hsz : inf.size = 1 := by simpa [hq] using hs
  rw [Op.equalIn]
  simp only [Sem.run_bind, run_underlying ht, Result.andThen_ok, sizeOf, typeInfo, run_program, hq, Sem.run_pure, hsz, Std.Legacy.Range.forIn_eq_forIn_range', Nat.mul_one]
  have key : ∀ (n s : Nat) (w : World), s + n = len →
      (forIn (List.range' s n) ((none : Option Bool), ()) fun i (_ : Option Bool × Unit) => do
          let a ← part e (vals V) i
          let b ← part e (vals W) i
          let r ← Op.equalIn (d + 1) e a b
          if (!r) = true then pure (ForInStep.done (some false, ())) else pure (ForInStep.yield (none, ())) : Sem (Option Bool × Unit)).run P w
        = .ok (if V.drop s = W.drop s then (none, ()) else (some false, ())) w := by
    intro n
    induction n with
    | zero =>
      intro s w h
      have e1 : V.drop s = [] := by rw [List.drop_eq_nil_iff]; omega
      have e2 : W.drop s = [] := by rw [List.drop_eq_nil_iff]; omega
      simp [e1, e2]
    | succ n ih =>
      intro s w h
      have l1 : s < V.length := by omega
      have l2 : s < W.length := by omega
      simp only [List.range'_succ, List.forIn_cons, Sem.run_bind, run_part_word w e V s he l1, run_part_word w e W s he l2, Result.andThen_ok, run_eq_word w d e he]
      have hiff : (V.drop s = W.drop s) ↔ (V[s] = W[s] ∧ V.drop (s + 1) = W.drop (s + 1)) := by
        rw [List.drop_eq_getElem_cons l1, List.drop_eq_getElem_cons l2, List.cons.injEq]
      by_cases hxy : V[s] = W[s]
      · simp only [hxy, decide_true, Bool.not_true, Bool.false_eq_true, if_false, Sem.run_pure, Result.andThen_ok]
        rw [ih (s + 1) w (by omega)]
        congr 1
        by_cases h2 : V.drop (s + 1) = W.drop (s + 1)
        · rw [if_pos h2, if_pos (hiff.2 ⟨hxy, h2⟩)]
        · rw [if_neg h2, if_neg (fun h => h2 (hiff.1 h).2)]
      · rw [if_neg (fun h => hxy (hiff.1 h).1)]
        simp only [hxy, decide_false, Bool.not_false, if_true, Sem.run_pure, Result.andThen_ok]
  have k0 := key len 0 w (by omega)
  simp only [List.drop_zero] at k0
  simp only [Std.Legacy.Range.size, Nat.sub_zero, Nat.add_sub_cancel, Nat.div_one]
  rw [k0]
  by_cases h : V = W <;> simp [h]

theorem run_eql_words (t e : TypeId) (len : Nat) (V W : List U) (ht : P.underlying t = some (.array len e)) (he : P.underlying e = some (.int .u32))
    (hs : (P.info? e).map (·.size) = some 1) (hV : V.length = len) (hW : W.length = len) :
    (binOp .eql t (.agg (vals V)) (.agg (vals W))).run P w = .ok (.bool (decide (V = W))) w := by
  rw [run_eql_struct, run_equalIn_words w 9998 t e len V W ht he hs hV hW]; rfl
theorem run_neq_words (t e : TypeId) (len : Nat) (V W : List U) (ht : P.underlying t = some (.array len e)) (he : P.underlying e = some (.int .u32))
    (hs : (P.info? e).map (·.size) = some 1) (hV : V.length = len) (hW : W.length = len) :
    (binOp .neq t (.agg (vals V)) (.agg (vals W))).run P w = .ok (.bool (!decide (V = W))) w := by
  rw [run_neq_struct, run_equalIn_words w 9998 t e len V W ht he hs hV hW]; rfl
end Go.Proofs.Ytjajidbpfjhnbaa.FM
