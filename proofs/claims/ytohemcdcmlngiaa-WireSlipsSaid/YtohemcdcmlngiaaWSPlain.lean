/-
  WireSlips: plain law: what is written is read again; one sign for another, or two side by side the other way round, is told.
-/
import Derived.Test.YtohemcdcmlngiaaWFPlain
import Derived.Test.YtohemcdcmlngiaaWRLet
namespace Go.Proofs.Ytohemcdcmlngiaa
set_option linter.unusedVariables false
set_option linter.unusedSimpArgs false
namespace WL
open ML FM

/-- without hyphens -/
def bareT (S : Bytes) : Bytes := S.filter (fun c => c != 45)
theorem bareT_append (A B : Bytes) : bareT (A ++ B) = bareT A ++ bareT B := by simp [bareT]
theorem rdT_bare (S : Bytes) : rdT S = (bareT S).map fun c => valR c.toNat := rfl
theorem bare_sgn (L : List Nat) (h : ∀ v ∈ L, v < 37) : bareT (L.map sgn) = L.map sgn := by
  unfold bareT
  rw [List.filter_eq_self]
  intro c hc
  obtain ⟨v, hv, rfl⟩ := List.mem_map.1 hc
  simpa using sgn_ne v (h v hv)
theorem bare_hyT (L : List Nat) (h : ∀ v ∈ L, v < 37) : ∀ k, k ≤ L.length → bareT (hyT L k) = (L.take k).map sgn := by
  intro k
  induction k with
  | zero => intro _; simp [hyT, bareT]
  | succ k ih =>
    intro hk
    have hlt : k < L.length := by omega
    have hg : L.getD k 0 = L[k] := by rw [List.getD_eq_getElem?_getD, List.getElem?_eq_getElem hlt]; rfl
    have h1 : bareT [sgn L[k]] = [sgn L[k]] := bare_sgn [L[k]] (fun v hv => by rw [List.mem_singleton] at hv; subst hv; exact h _ (List.getElem_mem hlt))
    have h2 : (L.take (k + 1)).map sgn = (L.take k).map sgn ++ [sgn L[k]] := by rw [List.take_succ_eq_append_getElem hlt, List.map_append]; rfl
    simp only [hyT]
    rw [hg, h2]
    split
    · rw [bareT_append, bareT_append, ih (by omega), h1]
      have : bareT [45] = [] := by decide
      rw [this, List.append_nil]
    · rw [bareT_append, ih (by omega), h1]
theorem bare_letters (B : Bytes) (h : B.length ≤ 64) : bareT (lettersT B) = (sgsOf B).map sgn := by
  unfold lettersT
  rw [if_neg (by omega), bare_hyT _ (sgsOf_lt B) _ (Nat.le_refl _), List.take_length]
theorem rd_sgn (L : List Nat) (h : ∀ v ∈ L, v < 37) : (L.map sgn).map (fun c => valR c.toNat) = L.map (fun v : Nat => (v : Int)) := by
  rw [List.map_map]
  apply List.map_congr_left
  intro v hv
  exact valR_sgn v (h v hv)
theorem rd_letters (B : Bytes) (h : B.length ≤ 64) : rdT (lettersT B) = (sgsOf B).map (fun v : Nat => (v : Int)) := by
  rw [rdT_bare, bare_letters B h, rd_sgn _ (sgsOf_lt B)]
theorem ok_digits {l : List Nat} {c : Nat} (hl : ∀ v ∈ l, v < 32) : OkV ((l ++ [c]).map (fun v : Nat => (v : Int))) := by
  intro i hi
  rw [List.getElem_map]
  refine ⟨by omega, fun h2 => ?_⟩
  rw [List.length_map, List.length_append, List.length_singleton] at h2
  rw [List.getElem_append_left (by omega)]
  have := hl _ (List.getElem_mem (by omega : i < l.length))
  omega
/-- what is written is read again -/
theorem read_letters (B : Bytes) (h : B.length ≤ 64) : fromE (lettersT B) = 0 ∧ fromB (lettersT B) = B := by
  have hrd := rd_letters B h
  unfold sgsOf at hrd
  have hok : OkV (rdT (lettersT B)) := by rw [hrd]; exact ok_digits (all_valsOf B)
  obtain ⟨hE, hD⟩ := fromE_of hrd hok
  obtain ⟨h1, h2, h3⟩ := bytesOf_valsOf B
  have h0 : fromE (lettersT B) = 0 := by
    rw [hE, if_neg (by rw [length_valsOf]; unfold mV; omega), if_neg (by omega), if_neg (fun hn => hn rfl), if_neg (fun hn => hn h2)]
  refine ⟨h0, ?_⟩
  unfold fromB
  rw [if_pos h0, hD, h1]
/-- what is read without an error -/
theorem fromE_zero {T : Bytes} {L : List Nat} (h : rdT T = L.map (fun v : Nat => (v : Int))) (h0 : fromE T = 0) : ∃ l c, L = l ++ [c] ∧ (∀ v ∈ l, v < 32) ∧ ckV l = c := by
  have hne : rdT T ≠ [] := fun hn => by rw [fromE_nil hn] at h0; cases h0
  have hok : OkV (rdT T) := by
    by_cases ho : OkV (rdT T)
    · exact ho
    · have := fromE_bad (T := T) (A := T) (M := []) (by simp) ho
      rw [this] at h0; cases h0
  have hL : L ≠ [] := fun hn => hne (by rw [h, hn]; rfl)
  refine ⟨L.dropLast, L.getLast hL, (List.dropLast_concat_getLast hL).symm, ?_, ?_⟩
  · intro v hv
    obtain ⟨i, hi, rfl⟩ := List.getElem_of_mem hv
    rw [List.length_dropLast] at hi
    rw [h] at hok
    have := (hok i (by rw [List.length_map]; omega)).2 (by rw [List.length_map]; omega)
    rw [List.getElem_map] at this
    rw [List.getElem_dropLast]
    omega
  · obtain ⟨hE, -⟩ := fromE_of (T := T) (l := L.dropLast) (c := L.getLast hL) (by rw [h, List.dropLast_concat_getLast]) hok
    by_cases hc : ckV L.dropLast = L.getLast hL
    · exact hc
    · rw [hE] at h0
      split at h0
      · cases h0
      · split at h0
        · cases h0
        · first | (rw [if_pos hc] at h0; cases h0) | exact absurd h0 (by decide)
def ckF (n : Nat) (C : List Nat) : Nat := C.foldl (fun n v => (n * 32 + v) % 37) n
theorem ckV_app (A C : List Nat) : ckV (A ++ C) = ckF (ckV A) C := by simp [ckV, ckF]
theorem ckF_cons (n v : Nat) (C : List Nat) : ckF n (v :: C) = ckF ((n * 32 + v) % 37) C := rfl
theorem slip_end (n k a : Nat) (hk : k < 37) (ha : a < 37) (h1 : k = (n * 32 + a) % 37) (h2 : (n * 32 + k) % 37 = a) : a = k := by omega
theorem slip_mid (n a b : Nat) (ha : a < 37) (hb : b < 37) (h : ((n * 32 + a) % 37 * 32 + b) % 37 = ((n * 32 + b) % 37 * 32 + a) % 37) : a = b := by omega
theorem slip_one' (n a b : Nat) (ha : a < 37) (hb : b < 37) (h : (n * 32 + a) % 37 = (n * 32 + b) % 37) : a = b := by omega
theorem ckF_inj (C : List Nat) : ∀ n m, n < 37 → m < 37 → ckF n C = ckF m C → n = m := by
  induction C with
  | nil => intro n m _ _ h; exact h
  | cons v C ih =>
    intro n m hn hm h
    have := ih ((n * 32 + v) % 37) ((m * 32 + v) % 37) (Nat.mod_lt _ (by decide)) (Nat.mod_lt _ (by decide)) h
    omega
/-- another value in one place -/
theorem slip_one {V : List Nat} (hV : ∀ v ∈ V, v < 32) (at_ : Nat) (hat : at_ < (V ++ [ckV V]).length) (o : Nat) (ho : o ≠ (V ++ [ckV V])[at_]) (l : List Nat) (c : Nat)
    (h : (V ++ [ckV V]).take at_ ++ [o] ++ (V ++ [ckV V]).drop (at_ + 1) = l ++ [c]) (hl : ∀ v ∈ l, v < 32) : ckV l ≠ c := by
  intro hc
  rw [List.length_append, List.length_singleton] at hat
  by_cases he : at_ = V.length
  · subst he
    rw [List.take_left, List.drop_of_length_le (by simp), List.append_nil] at h
    obtain ⟨h1, h2⟩ := List.append_inj' h rfl
    rw [List.getElem_append_right (Nat.le_refl _)] at ho
    simp only [Nat.sub_self, List.getElem_singleton] at ho
    have h3 : o = c := by simpa using h2
    rw [← h1] at hc
    omega
  · have hlt : at_ < V.length := by omega
    have hd : (V ++ [ckV V]).drop (at_ + 1) = V.drop (at_ + 1) ++ [ckV V] := by rw [List.drop_append_of_le_length (by omega)]
    have ht : (V ++ [ckV V]).take at_ = V.take at_ := by rw [List.take_append_of_le_length (by omega)]
    rw [hd, ht, ← List.append_assoc] at h
    obtain ⟨h1, h2⟩ := List.append_inj' h rfl
    have h3 : ckV V = c := by simpa using h2
    rw [List.getElem_append_left hlt] at ho
    have hoV : o < 32 := hl o (by rw [← h1]; simp)
    have hv := hV _ (List.getElem_mem hlt)
    have hVs : V = V.take at_ ++ V[at_] :: V.drop (at_ + 1) := by rw [List.getElem_cons_drop, List.take_append_drop]
    have e1 : ckV V = ckF (ckV (V.take at_)) (V[at_] :: V.drop (at_ + 1)) := by rw [← ckV_app, ← hVs]
    have e2 : ckV l = ckF (ckV (V.take at_)) (o :: V.drop (at_ + 1)) := by rw [← h1, List.append_assoc, ckV_app]; rfl
    rw [hc, ← h3, e1, ckF_cons, ckF_cons] at e2
    have h5 := ckF_inj (V.drop (at_ + 1)) _ _ (Nat.mod_lt _ (by decide)) (Nat.mod_lt _ (by decide)) e2
    exact ho (slip_one' _ _ _ (by omega) (by omega) h5).symm
/-- two side by side the other way round -/
theorem slip_two {V : List Nat} (hV : ∀ v ∈ V, v < 32) (at_ : Nat) (hat : at_ + 1 < (V ++ [ckV V]).length) (ho : (V ++ [ckV V])[at_] ≠ (V ++ [ckV V])[at_ + 1]) (l : List Nat) (c : Nat)
    (h : (V ++ [ckV V]).take at_ ++ [(V ++ [ckV V])[at_ + 1]] ++ [(V ++ [ckV V])[at_]] ++ (V ++ [ckV V]).drop (at_ + 2) = l ++ [c]) (hl : ∀ v ∈ l, v < 32) : ckV l ≠ c := by
  intro hc
  rw [List.length_append, List.length_singleton] at hat
  have hlt : at_ < V.length := by omega
  have hva := hV _ (List.getElem_mem hlt)
  have ht : (V ++ [ckV V]).take at_ = V.take at_ := by rw [List.take_append_of_le_length (by omega)]
  have ga : (V ++ [ckV V])[at_] = V[at_] := List.getElem_append_left hlt
  rw [ga] at ho h
  have hn := ckV_lt (V.take at_)
  by_cases he : at_ + 1 = V.length
  · have gb : (V ++ [ckV V])[at_ + 1] = ckV V := by
      rw [List.getElem_append_right (by omega)]
      simp
    rw [gb] at ho h
    rw [ht, List.drop_of_length_le (by simp; omega), List.append_nil] at h
    obtain ⟨h1, h2⟩ := List.append_inj' h rfl
    have h3 : V[at_] = c := by simpa using h2
    have hVs : V = V.take at_ ++ [V[at_]] := by
      conv => lhs; rw [← List.take_append_drop at_ V]
      rw [← List.getElem_cons_drop hlt, List.drop_of_length_le (by omega)]
    have e1 : ckV V = (ckV (V.take at_) * 32 + V[at_]) % 37 := by
      conv => lhs; rw [hVs]
      rw [ckV_snoc]
    have e2 : ckV l = (ckV (V.take at_) * 32 + ckV V) % 37 := by rw [← h1, ckV_snoc]
    have hk := ckV_lt V
    rw [hc, ← h3] at e2
    exact ho (slip_end _ _ _ hk (by omega) e1 e2.symm)
  · have hlt2 : at_ + 1 < V.length := by omega
    have gb : (V ++ [ckV V])[at_ + 1] = V[at_ + 1] := List.getElem_append_left hlt2
    have hvb := hV _ (List.getElem_mem hlt2)
    rw [gb] at ho h
    have hd : (V ++ [ckV V]).drop (at_ + 2) = V.drop (at_ + 2) ++ [ckV V] := by rw [List.drop_append_of_le_length (by omega)]
    rw [hd, ht, ← List.append_assoc] at h
    obtain ⟨h1, h2⟩ := List.append_inj' h rfl
    have h3 : ckV V = c := by simpa using h2
    have hVs : V = V.take at_ ++ V[at_] :: V[at_ + 1] :: V.drop (at_ + 2) := by
      conv => lhs; rw [← List.take_append_drop at_ V]
      rw [← List.getElem_cons_drop hlt, ← List.getElem_cons_drop hlt2]
    have e1 : ckV V = ckF (ckV (V.take at_)) (V[at_] :: V[at_ + 1] :: V.drop (at_ + 2)) := by rw [← ckV_app, ← hVs]
    have e2 : ckV l = ckF (ckV (V.take at_)) (V[at_ + 1] :: V[at_] :: V.drop (at_ + 2)) := by rw [← h1, List.append_assoc, List.append_assoc, ckV_app]; rfl
    rw [hc, ← h3, e1, ckF_cons, ckF_cons, ckF_cons, ckF_cons] at e2
    have h5 := ckF_inj (V.drop (at_ + 2)) _ _ (Nat.mod_lt _ (by decide)) (Nat.mod_lt _ (by decide)) e2
    exact ho (slip_mid _ _ _ (by omega) (by omega) h5)
theorem rd_list {X : Bytes} (h : ∀ c ∈ X, c ≠ 45) : rdT X = X.map fun c => valR c.toNat := by
  unfold rdT
  rw [List.filter_eq_self.2 (fun c hc => by simpa using h c hc)]
theorem sgn_no {L : List Nat} (h : ∀ v ∈ L, v < 37) : ∀ c ∈ L.map sgn, c ≠ 45 := by
  intro c hc
  obtain ⟨v, hv, rfl⟩ := List.mem_map.1 hc
  exact sgn_ne v (h v hv)
theorem told_one {V L : List Nat} (hV : AllV V) (hL : L = V ++ [ckV V]) (h37 : ∀ v ∈ L, v < 37) (k : Nat) (hk : k < L.length) (z : UInt8) (hz : z ≠ 45) (hv : valR z.toNat ≠ (L[k] : Int)) :
    fromE ((L.map sgn).take k ++ [z] ++ (L.map sgn).drop (k + 1)) ≠ 0 := by
  have hA : ∀ v ∈ L.take k, v < 37 := fun v h => h37 v (List.mem_of_mem_take h)
  have hC : ∀ v ∈ L.drop (k + 1), v < 37 := fun v h => h37 v (List.mem_of_mem_drop h)
  have e1 : rdT ((L.map sgn).take k) = (L.take k).map (fun v : Nat => (v : Int)) := by rw [← List.map_take, rd_list (sgn_no hA), rd_sgn _ hA]
  have e2 : rdT ((L.map sgn).drop (k + 1)) = (L.drop (k + 1)).map (fun v : Nat => (v : Int)) := by rw [← List.map_drop, rd_list (sgn_no hC), rd_sgn _ hC]
  intro h0
  by_cases hn : valR z.toNat < 0
  · have := fromE_bad (A := (L.map sgn).take k ++ [z]) (M := (L.map sgn).drop (k + 1)) rfl (by rw [rdT_sign _ _ hz]; exact not_okV_neg hn)
    rw [this] at h0; cases h0
  · obtain ⟨v, hvv⟩ : ∃ v : Nat, valR z.toNat = (v : Int) := ⟨(valR z.toNat).toNat, by omega⟩
    have hrd : rdT ((L.map sgn).take k ++ [z] ++ (L.map sgn).drop (k + 1)) = (L.take k ++ [v] ++ L.drop (k + 1)).map (fun v : Nat => (v : Int)) := by
      rw [rdT_append, rdT_sign _ _ hz, e1, e2, hvv]; simp
    obtain ⟨l, c, h1, h2, h3⟩ := fromE_zero hrd h0
    subst hL
    refine slip_one hV k hk v (fun he => hv (by rw [hvv, he])) l c ?_ h2 h3
    exact h1
theorem told_two {V L : List Nat} (hV : AllV V) (hL : L = V ++ [ckV V]) (h37 : ∀ v ∈ L, v < 37) (k : Nat) (hk : k + 1 < L.length) (hv : L[k] ≠ L[k + 1]) :
    fromE ((L.map sgn).take k ++ [sgn L[k + 1]] ++ [sgn L[k]] ++ (L.map sgn).drop (k + 2)) ≠ 0 := by
  intro h0
  have e : (L.map sgn).take k ++ [sgn L[k + 1]] ++ [sgn L[k]] ++ (L.map sgn).drop (k + 2) = (L.take k ++ [L[k + 1]] ++ [L[k]] ++ L.drop (k + 2)).map sgn := by simp
  have hA : ∀ v ∈ L.take k ++ [L[k + 1]] ++ [L[k]] ++ L.drop (k + 2), v < 37 := by
    intro v h
    simp only [List.mem_append, List.mem_singleton] at h
    rcases h with ((h | h) | h) | h
    · exact h37 v (List.mem_of_mem_take h)
    · rw [h]; exact h37 _ (List.getElem_mem _)
    · rw [h]; exact h37 _ (List.getElem_mem _)
    · exact h37 v (List.mem_of_mem_drop h)
  rw [e] at h0
  obtain ⟨l, c, h1, h2, h3⟩ := fromE_zero (by rw [rd_list (sgn_no hA), rd_sgn _ hA]) h0
  subst hL
  exact slip_two hV k hk hv l c h1 h2 h3
end WL
end Go.Proofs.Ytohemcdcmlngiaa
