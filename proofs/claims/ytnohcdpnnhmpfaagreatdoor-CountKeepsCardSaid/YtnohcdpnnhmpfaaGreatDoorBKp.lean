/-
  Chapter 13, CountKeeps: no vote is lost; who is elected when. The plain law. No program in sight.
  Chapter 13: CountKeeps' helpers: small, whole. Printed by tools/genka.py.
  Chapter 13: CountKeeps: what its walk wants: sums by nat.Plus, order, literals of fractions, the plain law.
  Chapter 13: CountKeeps walked. Printed by tools/genkeeps.py.
-/
import Derived.Test.YtnohcdpnnhmpfaaGreatDoorBTx
import Derived.Test.YtnohcdpnnhmpfaaGreatDoorTrG
import Derived.Test.YtnohcdpnnhmpfaaGreatDoorBCm
import Derived.Test.YtnohcdpnnhmpfaaGreatDoorBytes
import Derived.Test.YtnohcdpnnhmpfaaGreatDoorBTz
import Derived.Test.YtnohcdpnnhmpfaaGreatDoorBTf
import Derived.Test.YtnohcdpnnhmpfaaGreatDoorKpFr
import Derived.Great.BuildSlice
namespace Go.Proofs.YtnohcdpnnhmpfaaGreatDoor.TR
set_option linter.unusedVariables false
open FRP

/-- who was elected in these rounds -/
def elOf (R : List Rd) : List Nat := R.flatMap fun rd => if rd.d = 1 ∨ rd.d = 4 then rd.who else []
theorem elOf_snoc (R : List Rd) (rd : Rd) : elOf (R ++ [rd]) = elOf R ++ if rd.d = 1 ∨ rd.d = 4 then rd.who else [] := by simp [elOf]
theorem elOf_take (R : List Rd) (i : Nat) (h : i < R.length) : elOf (R.take (i + 1)) = elOf (R.take i) ++ if R[i].d = 1 ∨ R[i].d = 4 then R[i].who else [] := by
  rw [List.take_succ_eq_append_getElem h, elOf_snoc]
/-- what is said of one round -/
structure RdOk (n s m : Nat) (q : Fr) (E : List Nat) (rd : Rd) : Prop where
  len : rd.tots.length = n
  oks : ∀ x ∈ rd.tots, Sml x
  non : Sml rd.non
  sums : ∀ j, Sml (fsum rd.non (rd.tots.take j))
  sum : fsum rd.non rd.tots = Fr.wh m
  lt : ∀ i ∈ rd.who, i < n
  who : ∀ i ∈ rd.who, (i ∈ E ↔ rd.d = 2)
  big : rd.d = 1 → ∀ i (h : i < rd.tots.length), i ∈ rd.who → q.v < (rd.tots[i]).v
  dos : rd.d = 1 ∨ rd.d = 2 ∨ rd.d = 3 ∨ rd.d = 4
  wlen : rd.who.length ≤ n
  wne : rd.who ≠ []
section
variable {n s m k0 : Nat} {q : Fr} {O : List Nat} {S : St}
theorem Inv.nonv (h : Inv n s m q O S) : (S.non m).ok ∧ (S.non m).v = rs (List.range m) (fun k => if (S.V k).wi = none then (S.V k).wt.v else 0) := by
  obtain ⟨h1, h2⟩ := fsum_ok ((S.pile m none).map fun k => (S.V k).wt) zero zero_ok (fun x hx => by
    obtain ⟨k, hk, rfl⟩ := List.mem_map.1 hx
    exact h.wok k (mem_pile.1 hk).1)
  refine ⟨h1, ?_⟩
  unfold St.non
  rw [h2, v_zero, List.map_map]
  have e : rs (S.pile m none) (fun k => (S.V k).wt.v) = rs (List.range m) (fun k => if (S.V k).wi = none then (S.V k).wt.v else 0) := by
    unfold St.pile
    rw [rs_filter]
    exact rs_congr _ _ _ fun k _ => by simp only [decide_eq_true_eq]
  rw [← e]
  show (0 : Rat) + rs (S.pile m none) (fun k => (S.V k).wt.v) = _
  grind
/-- no vote is lost -/
theorem Inv.all (h : Inv n s m q O S) : (∀ j, (fsum (S.non m) (((List.range n).map (S.tot m)).take j)).ok) ∧ fsum (S.non m) ((List.range n).map (S.tot m)) = Fr.wh m := by
  have ht : ∀ x ∈ (List.range n).map (S.tot m), x.ok := fun x hx => by
    obtain ⟨i, hi, rfl⟩ := List.mem_map.1 hx
    exact h.tok i
  obtain ⟨n1, n2⟩ := h.nonv
  refine ⟨fun j => (fsum_ok _ _ n1 fun x hx => ht x (List.mem_of_mem_take hx)).1, ?_⟩
  obtain ⟨a1, a2⟩ := fsum_ok _ _ n1 ht
  refine Fr.v_inj a1 (Fr.wh_ok m) ?_
  rw [a2, n2, Fr.v_wh, List.map_map]
  show _ + rs (List.range n) (fun i => (S.tot m i).v) = _
  rw [rs_congr (List.range n) _ _ (fun i _ => h.totv i), rs_add, rs_swap _ List.nodup_range, ← h.cons]
  have e : rs (List.range m) (fun k => if (S.V k).wi = none then (S.V k).wt.v else 0) + rs (List.range m) (fun k => if (∃ i ∈ List.range n, (S.V k).wi = some i) then (S.V k).wt.v else 0) = rs (List.range m) (fun k => (S.V k).wt.v) := by
    rw [← rs_add]
    refine rs_congr _ _ _ fun k hk => ?_
    cases hw : (S.V k).wi with
    | none =>
      rw [if_pos rfl, if_neg (by rintro ⟨i, _, h2⟩; cases h2)]; grind
    | some i =>
      rw [if_neg (by intro h2; cases h2), if_pos ⟨i, List.mem_range.2 (h.at_ k (List.mem_range.1 hk) i hw).1, rfl⟩]; grind
  grind
theorem Inv.allSml (h : Inv n s m q O S) (hn : n ≤ 12) (hm : m ≤ 4096) (j : Nat) : Sml (fsum (S.non m) (((List.range n).map (S.tot m)).take j)) := by
  obtain ⟨D, h1, h2, h3⟩ := h.sml hn hm
  have ht : ∀ x ∈ (List.range n).map (S.tot m), x.ok ∧ Dv D x := fun x hx => by
    obtain ⟨i, hi, rfl⟩ := List.mem_map.1 hx
    exact ⟨h.tok i, h.tdv h1 h2 i⟩
  have hnd : Dv D (S.non m) := Dv.sum _ _ zero_ok (Dv.zero D) fun x hx => by
    obtain ⟨k, hk, rfl⟩ := List.mem_map.1 hx
    exact ⟨h.wok k (mem_pile.1 hk).1, h2 k (mem_pile.1 hk).1⟩
  have hno := h.nonv.1
  obtain ⟨a1, a2⟩ := fsum_ok (((List.range n).map (S.tot m)).take j) (S.non m) hno (fun x hx => (ht x (List.mem_of_mem_take hx)).1)
  refine h3 _ a1 (Dv.sum _ _ hno hnd fun x hx => ht x (List.mem_of_mem_take hx)) ?_
  have e1 := congrArg Fr.v h.all.2
  rw [(fsum_ok _ _ hno fun x hx => (ht x hx).1).2, Fr.v_wh] at e1
  rw [a2, ← e1]
  have e2 : (((List.range n).map (S.tot m)).map Fr.v).sum = ((((List.range n).map (S.tot m)).take j).map Fr.v).sum + ((((List.range n).map (S.tot m)).drop j).map Fr.v).sum := by
    conv => lhs; rw [← List.take_append_drop j ((List.range n).map (S.tot m)), List.map_append, List.sum_append]
  have e3 := sum_nonneg ((((List.range n).map (S.tot m)).drop j).map Fr.v) (fun y hy => by
    obtain ⟨x, hx, rfl⟩ := List.mem_map.1 hy
    exact Fr.v_nonneg (ht x (List.mem_of_mem_drop hx)).1.1)
  grind
theorem Inv.rdOk (h : Inv n s m q O S) (hn : n ≤ 12) (hm : m ≤ 4096) {d : Nat} {r : List Nat} (hd : Dec m s q O S d r) : RdOk n s m q S.el (S.rd n m d r) := by
  have hsm : ∀ x ∈ (List.range n).map (S.tot m), Sml x := fun x hx => by
    obtain ⟨i, hi, rfl⟩ := List.mem_map.1 hx
    exact h.t_sml hn hm (List.mem_range.1 hi)
  have hnel : ∀ i, S.cont i = true → i ∉ S.el := fun i hc hi => by rw [(h.elc i hi).2] at hc; cases hc
  have hle : ∀ l : List Nat, l.Nodup → (∀ i ∈ l, i < n) → l.length ≤ n := fun l hl hi => by
    have := List.Nodup.length_le_of_subset hl (fun x hx => List.mem_range.2 (hi x hx))
    simpa using this
  cases hd with
  | elect r ho hr =>
    obtain ⟨a, b, c⟩ := h.rnd h.over_nd hr
    have hi : ∀ i ∈ r, _ := fun i hi => h.mem_over.1 ((b i).1 hi)
    refine ⟨by simp [St.rd], hsm, h.n_sml hn hm, h.allSml hn hm, h.all.2, fun i hr => (hi i hr).1, fun i hr => ⟨fun hh => absurd hh (hnel i (hi i hr).2.1), fun hh => by cases hh⟩, fun _ i hl hr => ?_, .inl rfl, hle _ a fun i hr => (hi i hr).1, fun e => ho (List.length_eq_zero_iff.1 (by rw [← c, show r = [] from e]; rfl))⟩
    have e : ((S.rd n m 1 r).tots[i]) = S.tot m i := by simp [St.rd]
    rw [e]; exact (hi i hr).2.2
  | fill r ho h1 h2 hr =>
    obtain ⟨a, b, c⟩ := h.rnd h.still_nd hr
    have hi : ∀ i ∈ r, _ := fun i hi => h.mem_still.1 ((b i).1 hi)
    exact ⟨by simp [St.rd], hsm, h.n_sml hn hm, h.allSml hn hm, h.all.2, fun i hr => (hi i hr).1, fun i hr => ⟨fun hh => absurd hh (hnel i (hi i hr).2), fun hh => by cases hh⟩, (fun hh => by cases hh), .inr (.inr (.inr rfl)), hle _ a fun i hr => (hi i hr).1, fun e => by
      have e1 : (S.still O).length = 0 := by rw [← c, show r = [] from e]; rfl
      have e2 := h.many
      have e3 := h.few
      omega⟩
  | move i r ho h1 h2 hr =>
    have hi := h.mem_wait.1 (hr.perm.mem_iff.1 (List.mem_cons_self))
    refine ⟨by simp [St.rd], hsm, h.n_sml hn hm, h.allSml hn hm, h.all.2, fun j hj => ?_, fun j hj => ?_, (fun hh => by cases hh), .inr (.inl rfl), hle _ (by simp [St.rd]) fun j hj => ?_, by simp [St.rd]⟩
    · rw [List.mem_singleton.1 hj]; exact hi.1
    · rw [List.mem_singleton.1 hj]; exact ⟨fun _ => rfl, fun _ => hi.2.1⟩
    · rw [List.mem_singleton.1 hj]; exact hi.1
  | excl i r ho h1 h2 h3 hr =>
    have hi := h.mem_still.1 (hr.perm.mem_iff.1 (show i ∈ r ++ [i] by simp))
    refine ⟨by simp [St.rd], hsm, h.n_sml hn hm, h.allSml hn hm, h.all.2, fun j hj => ?_, fun j hj => ?_, (fun hh => by cases hh), .inr (.inr (.inl rfl)), hle _ (by simp [St.rd]) fun j hj => ?_, by simp [St.rd]⟩
    · rw [List.mem_singleton.1 hj]; exact hi.1
    · rw [List.mem_singleton.1 hj]; exact ⟨fun hh => absurd hh (hnel i hi.2), fun hh => by cases hh⟩
    · rw [List.mem_singleton.1 hj]; exact hi.1
theorem Dec.el {d : Nat} {r : List Nat} (hd : Dec m s q O S d r) : (S.next m q d r).el = S.el ++ if d = 1 ∨ d = 4 then r else [] := by
  cases hd with
  | elect => rfl
  | fill => rfl
  | move i r => show S.el = _; simp
  | excl i r => show S.el = _; simp
end
theorem Runs.keeps {n s m : Nat} {q : Fr} {O : List Nat} {S0 S : St} {R : List Rd} (h0 : Inv n s m q O S0) (he : S0.el = []) (hn : n ≤ 12) (hm : m ≤ 4096) (h : Runs n m s q O S0 R S) : S.el = elOf R ∧ ∀ i (h : i < R.length), RdOk n s m q (elOf (R.take i)) R[i] := by
  induction h with
  | nil => exact ⟨he, fun i hi => by simp at hi⟩
  | @snoc R S d r h hd ih =>
    obtain ⟨h1, h2⟩ := ih
    refine ⟨by rw [elOf_snoc, ← h1]; exact hd.el, fun i hi => ?_⟩
    by_cases hlt : i < R.length
    · rw [List.take_append_of_le_length (by omega), List.getElem_append_left hlt]
      exact h2 i hlt
    · have e : i = R.length := by simp at hi; omega
      subst e
      have g1 : (R ++ [S.rd n m d r])[R.length] = S.rd n m d r := by simp
      rw [g1, List.take_append_of_le_length (Nat.le_refl _), List.take_length, ← h1]
      exact (h.inv h0 hm).1.rdOk hn hm hd
/-- all of it, at the end -/
theorem keeps {n s : Nat} {O : List Nat} {Rs : List (List Nat)} {R : List Rd} {S : St} (hs : s ≤ n) (hn : n ≤ 12) (hm : Rs.length ≤ 4096) (hd : O.Nodup) (hO : ∀ i, i ∈ O ↔ i < n) (hR : ∀ rk ∈ Rs, ∀ i ∈ rk, i < n)
    (h : Runs n Rs.length s (quotaF Rs.length s) O (S0 n Rs Rs.length) R S) (he : End Rs.length s (quotaF Rs.length s) O S) :
    S.el = elOf R ∧ S.el.length = s ∧ R.length ≤ 2 * n ∧ ∀ i (h : i < R.length), RdOk n s Rs.length (quotaF Rs.length s) (elOf (R.take i)) R[i] := by
  have hi0 := inv_start (s := s) hs hn hd hO hR
  obtain ⟨h1, h2⟩ := h.keeps hi0 rfl hn hm
  refine ⟨h1, he.2, ?_, h2⟩
  have h3 := (h.inv hi0 hm).2
  have h4 : (S0 n Rs Rs.length).mu O = 2 * (O.filter (c0 n)).length + (O.filter fun i => decide (i ∈ ([] : List Nat)) && !false).length := rfl
  have h5 : (O.filter fun i => decide (i ∈ ([] : List Nat)) && !false) = [] := List.filter_eq_nil_iff.2 fun i _ => by simp
  have h6 : (O.filter (c0 n)).length ≤ O.length := List.length_filter_le _ _
  rw [len_of_mem hd hO] at h6
  rw [h4, h5] at h3
  simp at h3
  omega
end Go.Proofs.YtnohcdpnnhmpfaaGreatDoor.TR
namespace Go.Proofs.YtnohcdpnnhmpfaaGreatDoor.TR
set_option linter.unusedVariables false
set_option linter.unusedSimpArgs false
open Go.RowKit ML FRP AU FM NL

/-- fractions' texts that are not too long -/
def smB (F : List (Bytes × Bytes)) : Bool := F.all fun p => decide (p.1.length ≤ 4000) && decide (p.2.length ≤ 4000)
theorem smB_iff (F : List (Bytes × Bytes)) : smB F = true ↔ ∀ p ∈ F, p.1.length ≤ 4000 ∧ p.2.length ≤ 4000 := by
  simp [smB, List.all_eq_true]
theorem smB_no {F : List (Bytes × Bytes)} {p : Bytes × Bytes} (hp : p ∈ F) (h : 4000 < p.1.length ∨ 4000 < p.2.length) : smB F = false := by
  rw [← Bool.not_eq_true]
  intro h2
  have := (smB_iff F).1 h2 p hp
  omega
set_option maxHeartbeats 2000000 in
set_option maxRecDepth 100000 in
theorem small_any (F : List (Bytes × Bytes)) (o : Option Addr) (n cap : Nat) (w : World) (h : FsAt w o F) (hn : n = F.length) (hl : n < 4611686018427387904) (hF : ∀ p ∈ F, p.1.length < 9223372036854775808 ∧ p.2.length < 9223372036854775808) :
    Calls Tryz.prog 15 #[.slice o n cap] w fun e w' => e = .returned (.bool (smB F)) ∧ Below w.heap.size w w' := by
  subst hn
  have H := Lib.hid h
  have HF := Lib.hid hF
  clear h hF
  go_enter Tryz.func15, Tryz.ntmps15
  go_wp2_with fail
  go_loopw [7] (fun v wr => ∃ k : Nat, v = .int .i64 k ∧ k ≤ F.length ∧ (∀ p ∈ F.take k, p.1.length ≤ 4000 ∧ p.2.length ≤ 4000) ∧ Below w.heap.size w wr) (fun v _ => F.length - (intOf v).toNat)
  case atStart => exact ⟨0, rfl, Nat.zero_le _, (fun p hp => by simp at hp), Below.refl _ _⟩
  case round =>
  obtain ⟨k, rfl, hk, hs, hb⟩ := hrel
  have HS := Lib.hid hs
  have BR := Lib.hid hb
  clear hs hb
  by_cases hlt : k < F.length
  case neg =>
    have dk : decide ((k : Int) < (F.length : Int)) = false := decide_eq_false (by omega)
    have dk2 : decide (k < F.length) = false := decide_eq_false hlt
    obtain rfl : k = F.length := by omega
    go_wp2_with fail
    go_ret
    exact ⟨by rw [(smB_iff F).2 (by have := HS.out; rwa [List.take_length] at this)]; rfl, BR.out⟩
  have dk : decide ((k : Int) < (F.length : Int)) = true := decide_eq_true (by omega)
  have dk2 : decide (k < F.length) = true := decide_eq_true hlt
  have hki : (k : Int) < (F.length : Int) := by omega
  obtain ⟨q, hoa, hqb, hqc⟩ := (H.out.below BR.out).cells k hlt
  subst hoa
  have HQC := Lib.hid hqc
  have hx := HF.out _ (List.getElem_mem hlt)
  have HNX := Lib.hid (show (F[k].1.length ≤ 4000 ∧ F[k].2.length ≤ 4000) → ∀ p ∈ F.take (k + 1), p.1.length ≤ 4000 ∧ p.2.length ≤ 4000 from fun h p hp => by
    rw [List.take_succ_eq_append_getElem hlt, List.mem_append] at hp
    rcases hp with hp | hp
    · exact HS.out p hp
    · rw [List.mem_singleton.1 hp]; exact h)
  have HNO := Lib.hid (show 4000 < F[k].1.length ∨ 4000 < F[k].2.length → smB F = false from fun h => smB_no (List.getElem_mem hlt) h)
  have e : fcell F[k] = [.string ⟨F[k].1.toArray⟩, .string ⟨F[k].2.toArray⟩] := rfl
  rw [e] at HQC
  clear hqc e
  obtain ⟨X, hX⟩ : ∃ X, X = F[k].1 := ⟨_, rfl⟩
  obtain ⟨Y, hY⟩ : ∃ Y, Y = F[k].2 := ⟨_, rfl⟩
  rw [← hX] at HQC HNX HNO hx
  rw [← hY] at HQC HNX HNO hx
  have hx1 := hx.1
  have hx2 := hx.2
  have l1 : (ByteArray.mk X.toArray).size = X.length := size_mk X
  have l2 : (ByteArray.mk Y.toArray).size = Y.length := size_mk Y
  clear hX hY hx
  go_upto_region 4 with (first
    | (refine wpList_load_at rfl 27 _ rfl (q.add (k * 2)) rfl [.string ⟨X.toArray⟩, .string ⟨Y.toArray⟩] _ HQC.out Tryz.underlying27 rfl size_api ?_)
    | (refine wpList_store_whole rfl rfl 27 _ _ rfl wr.heap.size #[.string ⟨#[]⟩, .string ⟨#[]⟩] #[.string ⟨X.toArray⟩, .string ⟨Y.toArray⟩] 27 rfl rfl (heap_at rfl) rfl size_api (two_strings _ _) ?_; intro w3 ho hp))
  have b3 : Below wr.heap.size wr w3 := bel_only ((Below.refl _ _).alloc (Nat.le_refl _) _) ho (Nat.le_refl _)
  have B3 := Lib.hid (BR.out.trans (b3.mono BR.out.size))
  have hD : wr.heap.size < w3.heap.size := lt_of_heap hp
  have c0 : w3.cell? ⟨wr.heap.size, 0, none⟩ = some (.string ⟨X.toArray⟩) := cell_of_row w3 wr.heap.size 0 _ _ _ hp
  have c1 : w3.cell? ⟨wr.heap.size, 1, none⟩ = some (.string ⟨Y.toArray⟩) := cell_of_row w3 wr.heap.size 1 _ _ _ hp
  generalize wr.heap.size = D at *
  clear b3 ho hp BR HQC hqb
  by_cases h1 : 4000 < X.length
  · have d1 : decide ((4000 : Int) < (X.length : Int)) = true := decide_eq_true (by omega)
    have d1' : decide (4000 < X.length) = true := decide_eq_true h1
    have HE := Lib.hid (HNO.out (.inl h1))
    clear h1
    go_wp2_with go_big_skip
    go_ret
    exact ⟨by rw [HE.out]; rfl, B3.out⟩
  have d1 : decide ((4000 : Int) < (X.length : Int)) = false := decide_eq_false (by omega)
  have d1' : decide (4000 < X.length) = false := decide_eq_false h1
  by_cases h2 : 4000 < Y.length
  · have d2 : decide ((4000 : Int) < (Y.length : Int)) = true := decide_eq_true (by omega)
    have d2' : decide (4000 < Y.length) = true := decide_eq_true h2
    have HE := Lib.hid (HNO.out (.inr h2))
    clear h1 h2
    go_wp2_with go_big_skip
    go_ret
    exact ⟨by rw [HE.out]; rfl, B3.out⟩
  have d2 : decide ((4000 : Int) < (Y.length : Int)) = false := decide_eq_false (by omega)
  have d2' : decide (4000 < Y.length) = false := decide_eq_false h2
  have HN := Lib.hid (HNX.out ⟨by omega, by omega⟩)
  clear h1 h2
  go_wp2_with go_big_skip
  go_roundw
  case rel => exact ⟨k + 1, by go_num, by omega, HN.out, B3.out⟩
  case measure => simp [intOf]; omega
theorem built_two (a b : ByteArray) : Tryz.prog.built 27 [(0, .string a), (1, .string b)] = some #[.string a, .string b] := by kernel_rfl
theorem digB_step {k : Nat} (h : 0 < k) : digB k = digB (k / 10) ++ [UInt8.ofNat (k % 10 + 48)] := by
  unfold digB
  rw [ND.dig_pos h, List.reverse_cons, List.map_append]
  rfl
theorem digB_zero : digB 0 = [] := by unfold digB; rw [ND.dig_zero]; rfl
theorem digB_ne {k : Nat} (h : 0 < k) : digB k ≠ [] := by
  rw [digB_step h]; simp
set_option maxHeartbeats 2000000 in
set_option maxRecDepth 100000 in
theorem whole_any (m : Nat) (w : World) (hm : m ≤ 4096) : Calls Tryz.prog 17 #[.int .i64 m] w fun e w' => e = .returned (.agg #[.string ⟨(strD m).toArray⟩, .string ⟨#[49]⟩]) ∧ Below w.heap.size w w' := by
  go_enter Tryz.func17, Tryz.ntmps17
  go_upto_region 1 with (fail)
  generalize hB : w.heap.size = B at *
  refine wp_abs (fun w1 => Below B w w1 ∧ w1.heap[B]? = some (.cells #[.string ⟨#[]⟩, .string ⟨#[]⟩] 27 (0, 0))) ⟨by rw [← hB]; exact (Below.refl _ _).alloc (Nat.le_refl _) _, by rw [← hB]; exact heap_at rfl⟩ (fun w1 hw1 => ?_)
  have HB := Lib.hid hB
  have H1 := Lib.hid hw1
  clear hB hw1
  go_wp2_with fail
  go_loopw [4, 3] (fun v s wr => ∃ (k : Nat) (S : Bytes), v = .int .i64 k ∧ s = .string ⟨S.toArray⟩ ∧ digB k ++ S = digB m ∧ k ≤ m ∧ Below B w wr ∧ wr.heap[B]? = some (.cells #[.string ⟨#[]⟩, .string ⟨#[]⟩] 27 (0, 0))) (fun v _ _ => (intOf v).toNat)
  case atStart => exact ⟨m, [], rfl, rfl, List.append_nil _, Nat.le_refl _, H1.out.1, H1.out.2⟩
  case round =>
  clear H1
  obtain ⟨k, S, rfl, rfl, hd, hk, hb, hx⟩ := hrel
  have HD := Lib.hid hd
  have BR := Lib.hid hb
  have XR := Lib.hid hx
  have hBr : B < wr.heap.size := lt_of_heap hx
  clear hd hb hx
  by_cases h0 : 0 < k
  · have dk : decide ((0 : Int) < (k : Int)) = true := decide_eq_true (by omega)
    have dk2 : decide (0 < k) = true := decide_eq_true h0
    have HSL := Lib.hid (show S.length ≤ 65537 by
      have h1 := congrArg List.length HD.out
      rw [List.length_append, length_digB, length_digB] at h1
      have h2 := (lens_of (x := m) (e := 12) (by omega) (by decide)).2
      omega)
    have HN := Lib.hid (show digB (k / 10) ++ ([UInt8.ofNat (k % 10 + 48)] ++ S) = digB m by rw [← HD.out, digB_step h0, List.append_assoc])
    obtain ⟨r, hr⟩ : ∃ r : Nat, r = k % 10 := ⟨_, rfl⟩
    obtain ⟨z, hz⟩ : ∃ z : Nat, z = k / 10 := ⟨_, rfl⟩
    have e1 : (k : Int) % 10 = (r : Int) := by omega
    have e2 : (k : Int) / 10 = (z : Int) := by omega
    have hr10 : r < 10 := by omega
    have hzk : z < k := by omega
    rw [← hr, ← hz] at HN
    have hcb : Lib.byteCells [UInt8.ofNat (r + 48)] = [.int .u8 (48 + (r : Int))] := by
      unfold Lib.byteCells
      have : ((UInt8.ofNat (r + 48)).toNat : Int) = 48 + (r : Int) := by
        simp [Nat.mod_eq_of_lt (show r + 48 < 256 by omega)]; omega
      simp only [List.map_cons, List.map_nil, this]
    have HC := Lib.hid hcb
    have a1 := append_mk [UInt8.ofNat (r + 48)] S
    generalize [UInt8.ofNat (r + 48)] ++ S = S2 at *
    have hl1 : [UInt8.ofNat (r + 48)].length = 1 := rfl
    have HL1 := Lib.hid hl1
    clear hl1 hr hz hcb
    generalize [UInt8.ofNat (r + 48)] = R1 at *
    have r1 : (ByteArray.mk R1.toArray).size = 1 := by rw [size_mk]; exact HL1.out
    obtain ⟨L, hL⟩ : ∃ L, L = S.length := ⟨_, rfl⟩
    have hLb : L ≤ 65537 := by rw [hL]; exact HSL.out
    have s1 : (ByteArray.mk S.toArray).size = L := by rw [size_mk, hL]
    clear hL
    have hw256 : (48 + (r : Int)) % 256 = 48 + (r : Int) := by omega
    go_wp2_with (refine wpList_bytes_back rfl _ 91 9 5 rfl Tryz.underlying91 Tryz.underlying5 Tryz.underlying9 wr.heap.size 1 1 R1 HL1.out.symm rfl (by rw [HC.out]; exact rangeAt_block (heap_at rfl)) ?_)
    go_roundw
    case rel => exact ⟨z, S2, by go_num, rfl, HN.out, by omega, BR.out.alloc (by omega) _, heap_lt XR.out⟩
    case measure => simp [intOf]; omega
  obtain rfl : k = 0 := by omega
  have hS : S = digB m := by have := HD.out; rwa [digB_zero, List.nil_append] at this
  have dk : decide ((0 : Int) < ((0 : Nat) : Int)) = false := rfl
  by_cases hm0 : m = 0
  · subst hm0
    rw [digB_zero] at hS
    subst hS
    go_wp2_with (first
      | (with_reducible refine wpList_build rfl 27 _ rfl [(0, .string ⟨#[48]⟩), (1, .string ⟨#[49]⟩)] (by first | (simp; done) | (simp [Act.eval]; done)) _ (built_two _ _) ?_)
      | (refine wpList_store_whole rfl rfl 27 _ _ rfl B #[.string ⟨#[]⟩, .string ⟨#[]⟩] #[.string ⟨#[48]⟩, .string ⟨#[49]⟩] 27 rfl rfl XR.out rfl size_api (two_strings _ _) ?_; intro w3 ho hp))
    refine bodyPost_ret (results_cell_row rfl _ w3 B _ _ _ _ rfl hp Tryz.underlying27 rfl size_api) rfl ?_
    exact ⟨rfl, by rw [HB.out]; exact bel_only BR.out ho (Nat.le_refl _)⟩
  · have hne : S ≠ [] := by rw [hS]; exact digB_ne (by omega)
    have hSt : S = strD m := by unfold strD; rw [if_neg hm0]; exact hS
    have HST := Lib.hid hSt
    have t1 : (S == ([] : List UInt8)) = false := by
      rw [beq_eq_false_iff_ne]; exact hne
    have t2 : ((ByteArray.mk S.toArray).toList == (ByteArray.mk #[]).toList) = false := by
      rw [ByteArray.toList_eq, ByteArray.toList_eq]; exact t1
    clear hS hSt hne HD
    go_wp2_with (first
      | (with_reducible refine wpList_build rfl 27 _ rfl [(0, .string ⟨S.toArray⟩), (1, .string ⟨#[49]⟩)] (by first | (simp; done) | (simp [Act.eval]; done)) _ (built_two _ _) ?_)
      | (refine wpList_store_whole rfl rfl 27 _ _ rfl B #[.string ⟨#[]⟩, .string ⟨#[]⟩] #[.string ⟨S.toArray⟩, .string ⟨#[49]⟩] 27 rfl rfl XR.out rfl size_api (two_strings _ _) ?_; intro w3 ho hp))
    refine bodyPost_ret (results_cell_row rfl _ w3 B _ _ _ _ rfl hp Tryz.underlying27 rfl size_api) rfl ?_
    exact ⟨by rw [HST.out], by rw [HB.out]; exact bel_only BR.out ho (Nat.le_refl _)⟩
end Go.Proofs.YtnohcdpnnhmpfaaGreatDoor.TR
namespace Go.Proofs.YtnohcdpnnhmpfaaGreatDoor.TR
set_option linter.unusedVariables false
set_option linter.unusedSimpArgs false
open Go.RowKit ML FRP AU CT FM NL

theorem wrongF_txt {x : Fr} (hx : x.ok) (l1 : (txt x).1.length ≤ 4000) (l2 : (txt x).2.length ≤ 4000) : KF.wrongF (txt x).1 (txt x).2 = 0 := by
  have e1 : dv (txt x).1 = x.n := dv_strD x.n
  have e2 : dv (txt x).2 = x.d := dv_strD x.d
  have h1 := hx.1
  unfold KF.wrongF
  rw [if_pos ⟨numB_strD _, numB_strD _⟩, if_neg (by omega), e1, e2, if_neg]
  rintro (h | h)
  · omega
  · exact h hx.2
theorem wrongF2_txt {x y : Fr} (hx : x.ok) (hy : y.ok) (l1 : (txt x).1.length ≤ 4000) (l2 : (txt x).2.length ≤ 4000) (l3 : (txt y).1.length ≤ 4000) (l4 : (txt y).2.length ≤ 4000) : KF.wrongF2 (txt x).1 (txt x).2 (txt y).1 (txt y).2 = 0 := by
  unfold KF.wrongF2
  rw [if_pos (wrongF_txt hx l1 l2)]
  exact wrongF_txt hy l3 l4
theorem natPlus_V (x y : Fr) (hx : x.ok) (hy : y.ok) (l1 : (txt x).1.length ≤ 4000) (l2 : (txt x).2.length ≤ 4000) (l3 : (txt y).1.length ≤ 4000) (l4 : (txt y).2.length ≤ 4000) (w : World) :
    Calls Tryz.prog 16 #[.agg #[.string ⟨(txt x).1.toArray⟩, .string ⟨(txt x).2.toArray⟩], .agg #[.string ⟨(txt y).1.toArray⟩, .string ⟨(txt y).2.toArray⟩]] w fun e w' => e = .returned (.tuple #[.agg #[.string ⟨(txt (x.add y)).1.toArray⟩, .string ⟨(txt (x.add y)).2.toArray⟩], .int .i64 0]) ∧ Below w.heap.size w w' := by
  refine (KF.natFPlus_any (txt x).1 (txt x).2 (txt y).1 (txt y).2 w (by omega) (by omega) (by omega) (by omega)).mono ?_
  rintro e w' ⟨rfl, hb⟩
  refine ⟨?_, hb⟩
  rw [wrongF2_txt hx hy l1 l2 l3 l4]
  have e1 : dv (txt x).1 = x.n := dv_strD x.n
  have e2 : dv (txt x).2 = x.d := dv_strD x.d
  have e3 : dv (txt y).1 = y.n := dv_strD y.n
  have e4 : dv (txt y).2 = y.d := dv_strD y.d
  rw [e1, e2, e3, e4]
  rfl
theorem natOrder_V (x y : Fr) (hx : x.ok) (hy : y.ok) (hlt : y.v < x.v) (l1 : (txt x).1.length ≤ 4000) (l2 : (txt x).2.length ≤ 4000) (l3 : (txt y).1.length ≤ 4000) (l4 : (txt y).2.length ≤ 4000) (w : World) :
    Calls Tryz.prog 18 #[.agg #[.string ⟨(txt x).1.toArray⟩, .string ⟨(txt x).2.toArray⟩], .agg #[.string ⟨(txt y).1.toArray⟩, .string ⟨(txt y).2.toArray⟩]] w fun e w' => e = .returned (.tuple #[.int .i64 1, .int .i64 0]) ∧ Below w.heap.size w w' := by
  refine (KF.natOrder_any (txt x).1 (txt x).2 (txt y).1 (txt y).2 w (by omega) (by omega) (by omega) (by omega)).mono ?_
  rintro e w' ⟨rfl, hb⟩
  refine ⟨?_, hb⟩
  rw [wrongF2_txt hx hy l1 l2 l3 l4]
  have e1 : dv (txt x).1 = x.n := dv_strD x.n
  have e2 : dv (txt x).2 = x.d := dv_strD x.d
  have e3 : dv (txt y).1 = y.n := dv_strD y.n
  have e4 : dv (txt y).2 = y.d := dv_strD y.d
  rw [e1, e2, e3, e4, if_pos rfl]
  have h1 := (Fr.lt_iff hy.1 hx.1).1 hlt
  have h2 : NL.cmpI (x.n * y.d) (y.n * x.d) = 1 := cmpI_gt h1
  rw [h2]
  rfl
theorem txt_wh (m : Nat) : txt (Fr.wh m) = (strD m, [49]) := by
  have h : strD 1 = [49] := by
    unfold strD
    rw [if_neg (by decide), digB_step (by decide), show 1 / 10 = 0 from rfl, digB_zero]
    rfl
  show (strD m, strD 1) = _
  rw [h]
theorem fsum_take (a : Fr) (l : List Fr) (j : Nat) (h : j < l.length) : fsum a (l.take (j + 1)) = (fsum a (l.take j)).add l[j] := by
  unfold fsum
  rw [List.take_succ_eq_append_getElem h, List.foldl_append]
  rfl
theorem fsAt_flat {w : World} {a : Addr} {F : List (Bytes × Bytes)} (h : FsAt w (some a) F) : ∀ j u, (fvals F)[j]? = some u → w.cell? (a.add j) = some u := by
  intro j u hj
  have hlt : j < F.length * 2 := by rw [← length_fvals]; exact (List.getElem?_eq_some_iff.1 hj).1
  have hi : j / 2 < F.length := by omega
  obtain ⟨a', ha, _, hc⟩ := h.cells (j / 2) hi
  obtain rfl : a = a' := by injection ha
  have hr : j % 2 < (fcell F[j / 2]).length := by show j % 2 < 2; omega
  have e : (fvals F)[j / 2 * 2 + j % 2]? = some ((fcell F[j / 2])[j % 2]) := fvals_get F (j / 2) hi (j % 2) _ (List.getElem?_eq_getElem hr)
  have ej : j / 2 * 2 + j % 2 = j := by omega
  rw [ej, hj] at e
  injection e with e
  have h2 := hc (j % 2) _ (List.getElem?_eq_getElem hr)
  rw [Go.Deep.add_add, ej] at h2
  rw [h2, e]
theorem fsAt_blk {w : World} {V : Nat} {F : List (Bytes × Bytes)} {cs : Array Value} {t : TypeId} {fr : Nat × Nat} (h : w.heap[V]? = some (.cells cs t fr)) (hc : cs = (fvals F).toArray) : FsAt w (some ⟨V, 0, none⟩) F := ⟨fun i hi => ⟨_, rfl, lt_of_heap h, fun j v hj => by
  rw [Go.Deep.add_add, Addr.add_mid, Nat.zero_add, cell_of_row w V (i * 2 + j) _ _ _ h, hc, List.getElem?_toArray]
  exact fvals_get F i hi j v hj⟩⟩
theorem own_fr1 {w : World} {V M : Nat} {a b : ByteArray} (h : w.heap[V]? = some (.cells #[.string a, .string b] 27 (0, 0))) (hM : M ≤ V) : w.ownsRow M 27 2 (.slice (some ⟨V, 0, none⟩) 1 1) 1 [.string a, .string b] :=
  ⟨rfl, .inr ⟨V, 1, _, rfl, hM, h, Nat.le_refl _, by decide, rfl, rfl⟩⟩
theorem info_saidK : (Tryz.prog.info? 27).map (fun i => (i.zero, i.size, i.bytes)) = some (some (.agg #[.string ⟨#[]⟩, .string ⟨#[]⟩]), 2, 32) := by kernel_rfl
theorem wpList_fr {ops : Array Oper} {rest : List Oper} {o : Oper} {a : Act} {w : World} {Q : Exit → Act → World → Prop} (hg : o.guard = none) (len : Nat) (parts : Array (Nat × Operand)) (ho : o.op = .buildSlice 42 len parts)
    (hl : 0 < len ∧ len ≤ 2) (ps : List (Nat × Value)) (hp : (parts.map fun (i, x) => (i, a.eval x)).toList = ps) (cells : Array Value) (hf : Instr.fill (fun i => some (i * 2, 2)) ((Array.range (len * 2)).map ((Value.agg #[.string ⟨#[]⟩, .string ⟨#[]⟩]).cells[· % (Value.agg #[.string ⟨#[]⟩, .string ⟨#[]⟩]).cells.size]!)) ps = some cells)
    (h : wpList Tryz.prog ops Q rest (a.put o.dst (.slice (some ⟨w.heap.size, 0, none⟩) len len)) (w.alloc (.cells cells 27))) : wpList Tryz.prog ops Q (o :: rest) a w := by
  obtain ⟨j0, hj0, hv0, hv1, hv2⟩ := info_parts info_saidK
  refine wpList_buildSlice hg 42 27 len parts ho cells j0 (.agg #[.string ⟨#[]⟩, .string ⟨#[]⟩]) Tryz.underlying42 hj0 hv0 (by rw [hv1]; omega) (by rw [hv1]; omega) (by rw [hv1, hp]; exact hf) h
theorem fill_fr1 (a b : ByteArray) : Instr.fill (fun i => some (i * 2, 2)) ((Array.range (1 * 2)).map ((Value.agg #[.string ⟨#[]⟩, .string ⟨#[]⟩]).cells[· % (Value.agg #[.string ⟨#[]⟩, .string ⟨#[]⟩]).cells.size]!)) [(0, .agg #[.string a, .string b])] = some #[.string a, .string b] := by kernel_rfl
theorem fill_fr2 (a b c d : ByteArray) : Instr.fill (fun i => some (i * 2, 2)) ((Array.range (2 * 2)).map ((Value.agg #[.string ⟨#[]⟩, .string ⟨#[]⟩]).cells[· % (Value.agg #[.string ⟨#[]⟩, .string ⟨#[]⟩]).cells.size]!)) [(0, .agg #[.string a, .string b]), (1, .agg #[.string c, .string d])] = some #[.string a, .string b, .string c, .string d] := by kernel_rfl
theorem len_strD4 {x : Nat} (h : x ≤ 4096) : (strD x).length ≤ 4000 := by
  unfold strD
  by_cases h0 : x = 0
  · rw [if_pos h0]; decide
  · rw [if_neg h0, length_digB]
    exact Nat.le_trans (ND.length_dig_le x 4 (by omega)) (by decide)
theorem quota_short {m s : Nat} (hm : m ≤ 4096) (hs : s ≤ 4095) : (txt (quotaF m s)).1.length ≤ 4000 ∧ (txt (quotaF m s)).2.length ≤ 4000 := by
  have h1 : (quotaF m s).n ≤ m := by
    show low1 (m * 1) (1 * (s + 1)) ≤ m
    rw [Nat.mul_one]
    exact Nat.div_le_self _ _
  have h2 : (quotaF m s).d ≤ s + 1 := by
    show low2 (m * 1) (1 * (s + 1)) ≤ s + 1
    rw [Nat.one_mul]
    exact Nat.div_le_self _ _
  exact ⟨len_strD4 (by omega), len_strD4 (by omega)⟩
theorem len_strDd (x : Nat) : (strD x).length ≤ (ND.dig x).length + 1 := by
  unfold strD
  by_cases h0 : x = 0
  · rw [if_pos h0]; simp
  · rw [if_neg h0, length_digB]; omega
theorem len_txt {x : Fr} (h : Sml x) : (txt x).1.length ≤ 65538 ∧ (txt x).2.length ≤ 65538 := by
  have h1 := h.lens.dn
  have h2 := h.lens.dd
  have h3 := len_strDd x.n
  have h4 := len_strDd x.d
  exact ⟨by show (strD x.n).length ≤ _; omega, by show (strD x.d).length ≤ _; omega⟩
theorem own_el {w : World} {M n : Nat} {v : Value} {A B E : List Nat} (h : w.ownsRow M 3 1 v n (ivals (nats A) ++ ivals (nats B))) (hE : E = A ++ B) (hn : n = A.length + B.length) : ∃ o c, v = .slice o E.length c ∧ w.ownsRow M 3 1 (.slice o E.length c) E.length (ivals (nats E)) := by
  subst hE
  subst hn
  have e : ivals (nats A) ++ ivals (nats B) = ivals (nats (A ++ B)) := by simp [ivals, nats]
  rw [e] at h
  obtain ⟨o, c, hv, _, _⟩ := isAt_own h
  rw [length_nats] at hv
  refine ⟨o, c, hv, ?_⟩
  rw [← hv, List.length_append]
  exact h
theorem beq_nat (a b : Nat) : ((a : Int) == (b : Int)) = decide (a = b) := by
  by_cases h : a = b
  · rw [decide_eq_true h, h]; simp
  · rw [decide_eq_false h, beq_eq_false_iff_ne]; omega
theorem elOf_le {R : List Rd} (k : Nat) : (elOf (R.take k)).length ≤ (elOf R).length := by
  have e : elOf R = elOf (R.take k) ++ elOf (R.drop k) := by
    unfold elOf
    rw [← List.flatMap_append, List.take_append_drop]
  rw [e, List.length_append]
  omega
/-- the law, in plain words: what the walk wants -/
theorem keeps_walk {n s : Nat} {O : List Nat} {Bs : List (Value × List Int)} {R : List Rd} {S : St} (hs : s ≤ n) (hn : n ≤ 12) (hm : Bs.length ≤ 4096) (hd : O.Nodup) (hO : ∀ i, i ∈ O ↔ i < n) (hR : ∀ p ∈ Bs, Rnk n p.2)
    (h : Runs n Bs.length s (quotaF Bs.length s) O (S0 n (ranksOf Bs) Bs.length) R S) (he : End Bs.length s (quotaF Bs.length s) O S) :
    S.el = elOf R ∧ S.el.length = s ∧ R.length ≤ 2 * n ∧ ∀ i (h : i < R.length), RdOk n s Bs.length (quotaF Bs.length s) (elOf (R.take i)) R[i] := by
  have hl : (ranksOf Bs).length = Bs.length := by unfold ranksOf; rw [List.length_map]
  have hRk : ∀ rk ∈ ranksOf Bs, ∀ i ∈ rk, i < n := fun rk hrk i hi => by
    unfold ranksOf at hrk
    obtain ⟨p, hp, rfl⟩ := List.mem_map.1 hrk
    exact (hR p hp).lt i hi
  rw [← hl] at h he hm ⊢
  exact keeps hs hn hm hd hO hRk h he
end Go.Proofs.YtnohcdpnnhmpfaaGreatDoor.TR
namespace Go.Proofs.YtnohcdpnnhmpfaaGreatDoor.TR
set_option linter.unusedVariables false
set_option linter.unusedSimpArgs false
open Go.RowKit ML FRP AU CT FM

theorem two_mid {w : World} {g o : Nat} {a b : Value} (h0 : w.cell? ⟨g, o, none⟩ = some a) (h1 : w.cell? ⟨g, o + 1, none⟩ = some b) : ∀ j v, [a, b][j]? = some v → w.cell? ((⟨g, o, none⟩ : Addr).add j) = some v := by
  intro j v hj
  rw [Addr.add_mid]
  match j with
  | 0 => injection hj with hj; subst hj; exact h0
  | 1 => injection hj with hj; subst hj; exact h1
  | _ + 2 => cases hj
theorem elNone {w : World} {M : Nat} : w.ownsRow M 3 1 (.slice none 0 0) 0 (ivals (nats [])) := World.ownsRow_nil _ _ _ _
set_option maxHeartbeats 8000000 in
set_option maxRecDepth 100000 in
theorem countKeeps_any (c : CTest) (P : List (Value × List Int)) (lots : Bytes) (oa : Option Addr) (cap : Nat) (ob : Option Addr) (cb : Nat) (w : World) (hs : StrsAt w oa c.op) (hP : PsAt w ob P) (hf : c.Fits lots) (hnl : c.op.length < 9223372036854775807) :
    Calls Tryz.prog 5 #[.agg (c.cells oa cap).toArray, .slice ob P.length cb, .string ⟨lots.toArray⟩] w fun e w' => e = .returned (.bool true) ∧ Below w.heap.size w w' := by
  have hC : (c.cells oa cap).toArray = #[.string ⟨c.nm.toArray⟩, .slice oa c.op.length cap, .int .i64 c.rl, .int .i64 c.se, .int .i64 c.mo] := rfl
  rw [hC]
  have QT := Lib.hid (fun w1 h1 h2 => cTransfer_any c P lots oa cap ob cb w1 h1 h2 hf hnl)
  unfold TrGot at QT
  have HS := Lib.hid hs
  have HP := Lib.hid hP
  have HWC := Lib.hid (fun (h : prE c P = 0) => (show (1 ≤ c.op.length ∧ c.op.length ≤ 12 ∧ 1 ≤ c.se ∧ c.se ≤ c.op.length) ∧ filE c.op.length P = 0 by
    unfold prE at h
    cases hw : wrongC c with
    | true => rw [hw, if_pos rfl] at h; cases h
    | false =>
      rw [hw, if_neg (by decide)] at h
      have h1 := wrongC_no hw
      exact ⟨⟨h1.1, h1.2.1, h1.2.2.2.2⟩, h⟩))
  clear hs hP hf hC
  go_enter Tryz.func5, Tryz.ntmps5
  go_upto_region 1 with (fail)
  generalize hB : w.heap.size = B at *
  refine wp_abs (fun w1 => Below B w w1 ∧ w1.heap[B]? = some (.cells #[.string ⟨c.nm.toArray⟩, .slice oa c.op.length cap, .int .i64 c.rl, .int .i64 c.se, .int .i64 c.mo] 24 (0, 0))) ⟨by rw [← hB]; exact (Below.refl _ _).alloc (Nat.le_refl _) _, by rw [← hB]; exact heap_at rfl⟩ (fun w1 hw1 => ?_)
  have HB := Lib.hid hB
  have B1 := Lib.hid hw1.1
  have X1 := Lib.hid hw1.2
  have hBs : B < w1.heap.size := lt_of_heap hw1.2
  have Q1 := Lib.hid (QT.out w1 (HS.out.below (HB.out.symm ▸ B1.out)) (HP.out.below (HB.out.symm ▸ B1.out)))
  clear hB hw1 QT
  by_cases h0 : prE c P = 0
  case neg =>
    have H0 := Lib.hid h0
    have e2 : (prE c P != 0) = true := by rw [bne_iff_ne]; exact h0
    clear h0 HWC
    go_upto_region 2 with (first
        | go_big_skip
        | ((with_reducible refine at_load 24 ?_); refine wpList_load_g ?_ 24 (.tmp 3) ?_ B _ _ _ _ ?_ X1.out Tryz.underlying24 ?_ size_contest ?_; rfl; rfl; rfl; rfl)
        | (go_at_call 9; refine (Q1.out).mono ?_; rintro e w3 ⟨b3, h3⟩; rw [if_neg H0.out] at h3; subst h3; dsimp only; have B3 := Lib.hid b3; clear b3)
        | (refine wpList_store_whole rfl rfl 31 _ _ rfl w3.heap.size #[.string ⟨#[]⟩, .string ⟨#[]⟩, .slice none 0 0, .slice none 0 0] #[.string ⟨#[]⟩, .string ⟨#[]⟩, .slice none 0 0, .slice none 0 0] 31 rfl rfl (heap_at rfl) rfl size_trans4 (four_one _ _ _ _ rfl rfl) ?_; intro w4 ho hp))
    have c2 : w4.cell? ⟨w3.heap.size, 2, none⟩ = some (.slice none 0 0) := cell_of_row w4 w3.heap.size 2 _ _ _ hp
    have c3 : w4.cell? ⟨w3.heap.size, 3, none⟩ = some (.slice none 0 0) := cell_of_row w4 w3.heap.size 3 _ _ _ hp
    go_wp2_with go_big_skip
    go_ret
    exact ⟨rfl, by rw [HB.out]; exact bel_only ((B1.out.trans (B3.out.mono (Nat.le_of_lt hBs))).alloc (by have := B3.out.size; omega) _) ho (by have := B3.out.size; omega)⟩
  obtain ⟨⟨hn1, hn12, hs1, hsn⟩, hfe⟩ := HWC.out h0
  have H0 := Lib.hid h0
  have HFE := Lib.hid hfe
  clear h0 HWC hfe
  go_upto_region 2 with (first
      | go_big_skip
      | ((with_reducible refine at_load 24 ?_); refine wpList_load_g ?_ 24 (.tmp 3) ?_ B _ _ _ _ ?_ X1.out Tryz.underlying24 ?_ size_contest ?_; rfl; rfl; rfl; rfl)
      | (go_at_call 9; refine (Q1.out).mono ?_; rintro e w3 ⟨b3, h3⟩; rw [if_pos H0.out] at h3; obtain ⟨O, R, S, oR, cR, oE, cE, hO, hru, hen, rfl, hrd, hie⟩ := h3; dsimp only; have B3 := Lib.hid b3; have HO := Lib.hid hO; have HRU := Lib.hid hru; have HEN := Lib.hid hen; have IE := Lib.hid hie; have RR := Lib.hid hrd; clear b3 hO hru hen hrd hie)
      | (refine wpList_store_whole rfl rfl 31 _ _ rfl w3.heap.size #[.string ⟨#[]⟩, .string ⟨#[]⟩, .slice none 0 0, .slice none 0 0] #[.string ⟨(txt (quotaF (P.filter (keepP (c.rule 3))).length c.se.toNat)).1.toArray⟩, .string ⟨(txt (quotaF (P.filter (keepP (c.rule 3))).length c.se.toNat)).2.toArray⟩, .slice oR R.length cR, .slice oE S.el.length cE] 31 rfl rfl (heap_at rfl) rfl size_trans4 (four_one _ _ _ _ rfl rfl) ?_; intro w4 ho hp))
  have b4 : Below w3.heap.size w3 w4 := bel_only ((Below.refl _ _).alloc (Nat.le_refl _) _) ho (Nat.le_refl _)
  have b14 := B3.out.trans (b4.mono B3.out.size)
  have B4 := Lib.hid (B1.out.trans (b14.mono (Nat.le_of_lt hBs)))
  have X4 := Lib.hid (bel_keep b14 hBs X1.out)
  have hB4 : B < w4.heap.size := lt_of_heap X4.out
  have I4 := Lib.hid (IE.out.below b4)
  have R4 := Lib.hid (RR.out.below b4)
  have Y4 := Lib.hid hp
  have hD4 : w3.heap.size < w4.heap.size := lt_of_heap hp
  generalize w3.heap.size = D at *
  clear b4 b14 ho hp B1 X1 Q1 IE RR B3 hBs
  have Q4 := Lib.hid (refFilled_any c 3 P oa cap ob cb w4 (HP.out.below (HB.out.symm ▸ B4.out)) hn12)
  unfold FilGot at Q4
  -- what the law says, in plain words
  obtain ⟨hA, h4096⟩ := filE_ok HFE.out
  have hR : ∀ p ∈ P.filter (keepP (c.rule 3)), Rnk c.op.length p.2 := fun p hp => by
    obtain ⟨h1, h2⟩ := List.mem_filter.1 hp
    have h3 : fitsB (c.rule 3) p.2 = true := by
      have h4 : (fitsB (c.rule 3) p.2 && somePos p.2) = true := h2
      rw [Bool.and_eq_true] at h4; exact h4.1
    exact rnk_of (c := c.rule 3) rfl (hA p h1) h3
  have hK4 : (P.filter (keepP (c.rule 3))).length ≤ 4096 := Nat.le_trans (List.length_filter_le _ _) h4096
  obtain ⟨ke1, ke2, ke3, ke4⟩ := keeps_walk (s := c.se.toNat) (by omega) hn12 hK4 (ord_nats HO.out).1 (ord_nats HO.out).2 hR HRU.out HEN.out
  have KE1 := Lib.hid ke1
  have KE2 := Lib.hid ke2
  have KE4 := Lib.hid ke4
  have QOK := Lib.hid (quota_v (P.filter (keepP (c.rule 3))).length c.se.toNat).1
  have QTX := Lib.hid (show (txt (quotaF (P.filter (keepP (c.rule 3))).length c.se.toNat)).1.length ≤ 4000 ∧ (txt (quotaF (P.filter (keepP (c.rule 3))).length c.se.toNat)).2.length ≤ 4000 from quota_short hK4 (by omega))
  clear hR hA h4096 HRU HEN HO ke1 ke2 ke4
  generalize quotaF (P.filter (keepP (c.rule 3))).length c.se.toNat = q at *
  generalize P.filter (keepP (c.rule 3)) = Bs at *
  obtain ⟨s, hs⟩ : ∃ s : Nat, c.se = (s : Int) := ⟨c.se.toNat, by omega⟩
  have hsN : c.se.toNat = s := by omega
  rw [hsN] at KE2 KE4
  have HSE := Lib.hid hs
  have hs12 : s ≤ 12 := by omega
  clear hs hsN hs1 hsn
  go_upto_region 5 with (first
      | go_big_skip
      | ((with_reducible refine at_load 24 ?_); refine wpList_load_g ?_ 24 (.tmp 3) ?_ B _ _ _ _ ?_ X4.out Tryz.underlying24 ?_ size_contest ?_; rfl; rfl; rfl; rfl)
      | (go_at_call 12; refine (Q4.out).mono ?_; rintro e w5 ⟨b5, h5⟩; rw [if_pos HFE.out] at h5; obtain ⟨oo, co, hp5, rfl⟩ := h5; dsimp only; have B5 := Lib.hid (B4.out.trans (b5.mono (Nat.le_of_lt hB4))); have X5 := Lib.hid (bel_keep b5 hB4 X4.out); have I5 := Lib.hid (I4.out.below b5); have R5 := Lib.hid (R4.out.below b5); have Y5 := Lib.hid (bel_keep b5 hD4 Y4.out); have hD5 : D < w5.heap.size := Nat.lt_of_lt_of_le hD4 b5.size; have hB5 : B < w5.heap.size := lt_of_heap X5.out; clear hp5 b5))
  clear Q4 HFE H0 X4 Y4 I4 R4 B4 hB4 hD4
  have y2 : w5.cell? ⟨D, 2, none⟩ = some (.slice oR R.length cR) := cell_of_row w5 D 2 _ _ _ Y5.out
  obtain ⟨i0, hi, hz0, hz1, hz2⟩ := info_parts info_i64
  have HI := Lib.hid hi
  have HZ0 := Lib.hid hz0
  have HZ1 := Lib.hid hz1
  have HZ2 := Lib.hid hz2
  obtain ⟨f0, hf0, hv0, hv1, hv2⟩ := info_parts info_saidK
  have F0 := Lib.hid hf0
  have FZ0 := Lib.hid hv0
  have FZ1 := Lib.hid hv1
  have FZ2 := Lib.hid hv2
  clear hi hz0 hz1 hz2 hf0 hv0 hv1 hv2
  obtain ⟨M, hM⟩ : ∃ M, M = w5.heap.size := ⟨_, rfl⟩
  have HM := Lib.hid hM
  have hBM : B < M := by omega
  have hDM : D < M := by omega
  clear hM
  as_aux_lemma =>
  go_wp2_with fail
  go_loopw [49, 11] (fun v ev wr => ∃ (k : Nat) (oe : Option Addr) (ce : Nat), v = .int .i64 k ∧ ev = .slice oe (elOf (R.take k)).length ce ∧ k ≤ R.length ∧ wr.ownsRow M 3 1 (.slice oe (elOf (R.take k)).length ce) (elOf (R.take k)).length (ivals (nats (elOf (R.take k)))) ∧ Below M w5 wr) (fun v _ _ => R.length - (intOf v).toNat)
  case atStart => exact ⟨0, none, 0, rfl, rfl, Nat.zero_le _, elNone, by rw [HM.out]; exact Below.refl _ _⟩
  case round =>
  obtain ⟨k, oe, ce, rfl, rfl, hk, how, hb⟩ := hrel
  have OW := Lib.hid how
  have BR := Lib.hid hb
  have hMr : M ≤ wr.heap.size := by have := hb.size; have := HM.out; omega
  clear how hb
  by_cases hlt : k < R.length
  case neg =>
    obtain rfl : k = R.length := by omega
    rw [List.take_length, ← KE1.out] at OW ⊢
    have dk : decide ((R.length : Int) < (R.length : Int)) = false := decide_eq_false (by omega)
    obtain ⟨oe', ce', he, _, hIS⟩ := isAt_own OW.out
    rw [length_nats] at he
    obtain ⟨rfl, rfl⟩ : oe = oe' ∧ ce = ce' := by injection he with h1 _ h2; exact ⟨h1, h2⟩
    have QS := Lib.hid (sameInts_any oe oE (nats S.el) ce cE wr hIS (I5.out.below (HM.out ▸ BR.out)) (by rw [length_nats, KE2.out]; omega))
    rw [length_nats] at QS
    have y3 : wr.cell? ⟨D, 3, none⟩ = some (.slice oE S.el.length cE) := cell_of_row wr D 3 _ _ _ (bel_keep BR.out hDM Y5.out)
    have g1 : ((S.el.length : Int) == (s : Int)) = true := by rw [KE2.out]; simp
    have g1' : (S.el.length == s) = true := by rw [KE2.out]; simp
    have g2 : decide ((R.length : Int) ≤ 3 * (c.op.length : Int)) = true := decide_eq_true (by omega)
    have g2' : decide (R.length ≤ 3 * c.op.length) = true := decide_eq_true (by omega)
    have HX3 := Lib.hid (show ∀ w9, Below M w5 w9 → w9.cell? ⟨B, 3, none⟩ = some (.int .i64 (s : Int)) from fun w9 b9 => by
      rw [← HSE.out]
      exact cell_of_row w9 B 3 _ _ _ (bel_keep b9 hBM X5.out))
    clear he hIS y2
    go_wp2_with (first
          | go_big_skip
          | (go_at_call 19; refine (QS.out).mono ?_; rintro e w9 ⟨rfl, b9⟩; dsimp only; have B9 := Lib.hid (BR.out.trans (b9.mono hMr)); have x1 : w9.cell? ⟨B, 1, none⟩ = some (.slice oa c.op.length cap) := cell_of_row w9 B 1 _ _ _ (bel_keep B9.out hBM X5.out); have x3 : w9.cell? ⟨B, 3, none⟩ = some (.int .i64 (s : Int)) := HX3.out w9 B9.out; have y2 : w9.cell? ⟨D, 2, none⟩ = some (.slice oR R.length cR) := cell_of_row w9 D 2 _ _ _ (bel_keep B9.out hDM Y5.out); clear b9))
    go_ret
    exact ⟨rfl, by rw [HB.out]; exact B5.out.trans (B9.out.mono (by omega))⟩
  have dk : decide ((k : Int) < (R.length : Int)) = true := decide_eq_true (by omega)
  have dk2 : decide (k < R.length) = true := decide_eq_true hlt
  have hki : (k : Int) < (R.length : Int) := by omega
  have ROK := Lib.hid (KE4.out k hlt)
  have HEL := Lib.hid (elOf_take R k hlt)
  obtain ⟨q0, ot, ct, ow, cw, hoR, hqb, hqc, hfs, his⟩ := R5.out.cells k hlt
  subst hoR
  have HQC := Lib.hid (fun j v h => ((HM.out ▸ BR.out : Below w5.heap.size w5 wr).cell (p := (q0.add (k * 5)).add j) (by rw [addr_block, addr_block]; exact hqb)).trans (hqc j v h))
  have FS5 := Lib.hid hfs
  have WS5 := Lib.hid his
  unfold rdCells at HQC
  clear hqc hfs his
  obtain ⟨rd, hrd⟩ : ∃ rd, rd = R[k] := ⟨_, rfl⟩
  rw [← hrd] at ROK HEL HQC FS5 WS5
  clear hrd
  obtain ⟨EL, hEL⟩ : ∃ EL, EL = elOf (R.take k) := ⟨_, rfl⟩
  rw [← hEL] at ROK HEL OW ⊢
  have HELK := Lib.hid hEL
  clear hEL
  obtain ⟨wo, hwo⟩ : ∃ wo : World, wo = wr := ⟨_, rfl⟩
  subst hwo
  go_upto_region 9 with (first
    | (refine wpList_load_at rfl 44 _ rfl (q0.add (k * 5)) rfl [.slice ot rd.tots.length ct, .string ⟨(txt rd.non).1.toArray⟩, .string ⟨(txt rd.non).2.toArray⟩, .int .i64 (rd.d : Int), .slice ow rd.who.length cw] _ HQC.out Tryz.underlying44 rfl size_round ?_)
    | (refine wpList_store_whole rfl rfl 44 _ _ rfl wo.heap.size #[.slice none 0 0, .string ⟨#[]⟩, .string ⟨#[]⟩, .int .i64 0, .slice none 0 0] #[.slice ot rd.tots.length ct, .string ⟨(txt rd.non).1.toArray⟩, .string ⟨(txt rd.non).2.toArray⟩, .int .i64 (rd.d : Int), .slice ow rd.who.length cw] 44 rfl rfl (heap_at rfl) rfl size_round (five_one _ _ _ _ _ rfl rfl rfl) ?_; intro w6 ho hp))
  have b6 : Below wo.heap.size wo w6 := bel_only ((Below.refl _ _).alloc (Nat.le_refl _) _) ho (Nat.le_refl _)
  have B6 := Lib.hid (BR.out.trans (b6.mono hMr))
  have Q6 := Lib.hid hp
  have O6 := Lib.hid (own_below OW.out b6)
  have hQM : M ≤ wo.heap.size := hMr
  have hQ6 : wo.heap.size < w6.heap.size := lt_of_heap hp
  generalize wo.heap.size = Q at *
  clear b6 ho hp HQC BR OW dk dk2 hqb
  have EC := Lib.hid (two_mid (cell_of_row w6 Q 1 _ _ _ Q6.out) (cell_of_row w6 Q 2 _ _ _ Q6.out))
  go_upto_region 10 with (first
    | (refine wpList_load_at rfl 27 _ rfl ⟨Q, 1, none⟩ rfl [.string ⟨(txt rd.non).1.toArray⟩, .string ⟨(txt rd.non).2.toArray⟩] _ EC.out Tryz.underlying27 rfl size_api ?_)
    | (refine wpList_store_whole rfl rfl 27 _ _ rfl w6.heap.size #[.string ⟨#[]⟩, .string ⟨#[]⟩] #[.string ⟨(txt rd.non).1.toArray⟩, .string ⟨(txt rd.non).2.toArray⟩] 27 rfl rfl (heap_at rfl) rfl size_api (two_strings _ _) ?_; intro w7 ho hp))
  have b7 : Below w6.heap.size w6 w7 := bel_only ((Below.refl _ _).alloc (Nat.le_refl _) _) ho (Nat.le_refl _)
  have hMU : M ≤ w6.heap.size := by omega
  have B7 := Lib.hid (B6.out.trans (b7.mono hMU))
  have Q7 := Lib.hid (bel_keep b7 hQ6 Q6.out)
  have O7 := Lib.hid (own_below O6.out b7)
  have U7 := Lib.hid hp
  have hQU : Q < w6.heap.size := hQ6
  have hU7 : w6.heap.size < w7.heap.size := lt_of_heap hp
  generalize w6.heap.size = U at *
  have hQ7 : Q < w7.heap.size := by omega
  clear b7 ho hp EC B6 Q6 O6 hQ6
  have hn := ROK.out.len
  have HNL := Lib.hid hn
  obtain ⟨nt, hnt⟩ : ∃ nt, nt = rd.tots.length := ⟨_, rfl⟩
  have hnt1 : 1 ≤ nt := by omega
  have hnt12 : nt ≤ 12 := by omega
  have HNT := Lib.hid hnt
  have k0 : w7.cell? ⟨Q, 0, none⟩ = some (.slice ot nt ct) := by rw [hnt]; exact cell_of_row w7 Q 0 _ _ _ Q7.out
  have FS5 := Lib.hid (show FsAt w5 ot (rd.tots.map txt) from FS5.out)
  clear hn hnt
  obtain ⟨a0, ha0, hab, _⟩ := FS5.out.cells 0 (by rw [List.length_map, ← HNT.out]; omega)
  subst ha0
  have F7 := Lib.hid (FS5.out.below (HM.out ▸ B7.out))
  have QS := Lib.hid (fun o n cap w h hn => small_any (txt rd.non :: rd.tots.map txt) o n cap w h hn (by rw [hn, List.length_cons, List.length_map, ← HNT.out]; omega) (fun p hp => by
    rcases List.mem_cons.1 hp with rfl | hp
    · have := len_txt ROK.out.non; omega
    · obtain ⟨x, hx, rfl⟩ := List.mem_map.1 hp
      have := len_txt (ROK.out.oks x hx); omega))
  cases hsm : smB (txt rd.non :: rd.tots.map txt) with
  | false =>
    rw [hsm] at QS
    clear hsm
    go_wp2_with (first
        | (refine wpList_load_whole rfl 27 _ rfl U #[.string ⟨(txt rd.non).1.toArray⟩, .string ⟨(txt rd.non).2.toArray⟩] _ _ _ rfl U7.out Tryz.underlying27 rfl size_api ?_)
        | (with_reducible refine wpList_fr rfl 1 _ rfl (by decide) [(0, .agg #[.string ⟨(txt rd.non).1.toArray⟩, .string ⟨(txt rd.non).2.toArray⟩])] (by first | rfl | (simp [Act.eval, Act.put]; done)) _ (fill_fr1 _ _) ?_)
        | (at_builtin; refine wpList_append_own _ rfl (.tmp 56) (.tmp 58) 42 rfl M 27 f0 (.agg #[.string ⟨#[]⟩, .string ⟨#[]⟩]) 2 32 Tryz.underlying42 F0.out FZ0.out FZ1.out FZ2.out rfl (by decide) (.slice (some ⟨w7.heap.size, 0, none⟩) 1 1) 1 [.string ⟨(txt rd.non).1.toArray⟩, .string ⟨(txt rd.non).2.toArray⟩] rfl (own_fr1 (heap_at rfl) (by omega)) a0 nt ct (fvals (rd.tots.map txt)) rfl (by rw [length_fvals, List.length_map, ← HNT.out]) (fsAt_flat (F7.out.below ((Below.refl _ _).alloc (Nat.le_refl _) _))) (fvals_one _) (by unfold maxLen; omega) (by omega) (by simp; omega) ?_; intro v8 w8 own8 hg8 _; obtain ⟨o8, c8, rfl, _, hf8⟩ := fsAt_own (F := txt rd.non :: rd.tots.map txt) own8; have F8 := Lib.hid hf8; have b8 : Below w7.heap.size w7 w8 := ((Below.refl _ _).alloc (Nat.le_refl _) _).grown hg8 (by simp) (fun x hx => by (have e : w7.heap.size = x := by injection hx); omega); have B8 := Lib.hid b8; clear own8 hg8 hf8 b8)
        | (go_at_call 15; refine (QS.out o8 _ c8 w8 F8.out (by simp)).mono ?_; rintro e w9 ⟨rfl, b9⟩; dsimp only; have B79 := Lib.hid (B8.out.trans (b9.mono B8.out.size)); have B9 := Lib.hid (B7.out.trans (B79.out.mono (by omega))); clear b9))
    go_ret
    exact ⟨rfl, by rw [HB.out]; exact B5.out.trans ((B9.out).mono (by omega))⟩
  | true =>
    rw [hsm] at QS
    have HSM := Lib.hid ((smB_iff _).1 hsm)
    clear hsm
    go_upto_region 12 with (first
        | (refine wpList_load_whole rfl 27 _ rfl U #[.string ⟨(txt rd.non).1.toArray⟩, .string ⟨(txt rd.non).2.toArray⟩] _ _ _ rfl U7.out Tryz.underlying27 rfl size_api ?_)
        | (with_reducible refine wpList_fr rfl 1 _ rfl (by decide) [(0, .agg #[.string ⟨(txt rd.non).1.toArray⟩, .string ⟨(txt rd.non).2.toArray⟩])] (by first | rfl | (simp [Act.eval, Act.put]; done)) _ (fill_fr1 _ _) ?_)
        | (at_builtin; refine wpList_append_own _ rfl (.tmp 56) (.tmp 58) 42 rfl M 27 f0 (.agg #[.string ⟨#[]⟩, .string ⟨#[]⟩]) 2 32 Tryz.underlying42 F0.out FZ0.out FZ1.out FZ2.out rfl (by decide) (.slice (some ⟨w7.heap.size, 0, none⟩) 1 1) 1 [.string ⟨(txt rd.non).1.toArray⟩, .string ⟨(txt rd.non).2.toArray⟩] rfl (own_fr1 (heap_at rfl) (by omega)) a0 nt ct (fvals (rd.tots.map txt)) rfl (by rw [length_fvals, List.length_map, ← HNT.out]) (fsAt_flat (F7.out.below ((Below.refl _ _).alloc (Nat.le_refl _) _))) (fvals_one _) (by unfold maxLen; omega) (by omega) (by simp; omega) ?_; intro v8 w8 own8 hg8 _; obtain ⟨o8, c8, rfl, _, hf8⟩ := fsAt_own (F := txt rd.non :: rd.tots.map txt) own8; have F8 := Lib.hid hf8; have b8 : Below w7.heap.size w7 w8 := ((Below.refl _ _).alloc (Nat.le_refl _) _).grown hg8 (by simp) (fun x hx => by (have e : w7.heap.size = x := by injection hx); omega); have B8 := Lib.hid b8; clear own8 hg8 hf8 b8)
        | (go_at_call 15; refine (QS.out o8 _ c8 w8 F8.out (by simp)).mono ?_; rintro e w9 ⟨rfl, b9⟩; dsimp only; have B79 := Lib.hid (B8.out.trans (b9.mono B8.out.size)); have B9 := Lib.hid (B7.out.trans (B79.out.mono (by omega))); clear b9))
    have hS7 : w7.heap.size ≤ w9.heap.size := B79.out.size
    have Q9 := Lib.hid (bel_keep B79.out hQ7 Q7.out)
    have U9 := Lib.hid (bel_keep B79.out hU7 U7.out)
    have O9 := Lib.hid (own_below O7.out B79.out)
    have k9 : w9.cell? ⟨Q, 0, none⟩ = some (.slice (some a0) nt ct) := by rw [HNT.out]; exact cell_of_row w9 Q 0 _ _ _ Q9.out
    clear QS B8 B79 Q7 U7 O7 F7 B7 hQ7 hU7 hS7 k0
    as_aux_lemma =>
    go_wp2_with fail
    clear k9
    go_loopw [65] (fun v wr => ∃ j : Nat, v = .int .i64 j ∧ j ≤ nt ∧ Below M w5 wr ∧ wr.heap[Q]? = some (.cells #[.slice (some a0) rd.tots.length ct, .string ⟨(txt rd.non).1.toArray⟩, .string ⟨(txt rd.non).2.toArray⟩, .int .i64 (rd.d : Int), .slice ow rd.who.length cw] 44 (0, 0)) ∧ wr.heap[U]? = some (.cells #[.string ⟨(txt (fsum rd.non (rd.tots.take j))).1.toArray⟩, .string ⟨(txt (fsum rd.non (rd.tots.take j))).2.toArray⟩] 27 (0, 0)) ∧ wr.ownsRow M 3 1 (.slice oe EL.length ce) EL.length (ivals (nats EL))) (fun v _ => nt - (intOf v).toNat)
    case atStart => exact ⟨0, rfl, Nat.zero_le _, B9.out, Q9.out, U9.out, O9.out⟩
    case round =>
    clear B9 Q9 U9 O9
    obtain ⟨j, rfl, hj, hb, hq, hu, ho⟩ := hrel
    have BR := Lib.hid hb
    have QR := Lib.hid hq
    have UR := Lib.hid hu
    have OW := Lib.hid ho
    have hQr : Q < wr.heap.size := lt_of_heap hq
    have hUr : U < wr.heap.size := lt_of_heap hu
    clear hb hq hu ho
    by_cases hjt : j < nt
    · have gk : decide ((j : Int) < (nt : Int)) = true := decide_eq_true (by omega)
      have gk2 : decide (j < nt) = true := decide_eq_true hjt
      have gki : (j : Int) < (nt : Int) := by omega
      have hjl : j < rd.tots.length := by rw [← HNT.out]; exact hjt
      have HNX := Lib.hid (fsum_take rd.non rd.tots j hjl)
      have HAS := Lib.hid (ROK.out.sums j)
      have HXS := Lib.hid (ROK.out.oks _ (List.getElem_mem hjl))
      obtain ⟨a', ha', _, hac⟩ := (FS5.out.below (HM.out ▸ BR.out)).cells j (by rw [List.length_map]; exact hjl)
      obtain rfl : a0 = a' := by injection ha'
      rw [List.getElem_map] at hac
      have HAC := Lib.hid hac
      clear hac ha'
      generalize fsum rd.non (rd.tots.take j) = acc at *
      generalize rd.tots[j] = x at *
      have hcx : fcell (txt x) = [.string ⟨(txt x).1.toArray⟩, .string ⟨(txt x).2.toArray⟩] := rfl
      rw [hcx] at HAC
      clear hcx hjl
      go_upto_region 15 with (first
        | (refine wpList_load_at rfl 27 _ rfl (a0.add (j * 2)) rfl [.string ⟨(txt x).1.toArray⟩, .string ⟨(txt x).2.toArray⟩] _ HAC.out Tryz.underlying27 rfl size_api ?_)
        | (refine wpList_store_whole rfl rfl 27 _ _ rfl wr.heap.size #[.string ⟨#[]⟩, .string ⟨#[]⟩] #[.string ⟨(txt x).1.toArray⟩, .string ⟨(txt x).2.toArray⟩] 27 rfl rfl (heap_at rfl) rfl size_api (two_strings _ _) ?_; intro w10 ho hp))
      have b10 : Below wr.heap.size wr w10 := bel_only ((Below.refl _ _).alloc (Nat.le_refl _) _) ho (Nat.le_refl _)
      have hMr : M ≤ wr.heap.size := by have := BR.out.size; have := HM.out; omega
      have B10 := Lib.hid (BR.out.trans (b10.mono hMr))
      have Q10 := Lib.hid (bel_keep b10 hQr QR.out)
      have U10 := Lib.hid (bel_keep b10 hUr UR.out)
      have O10 := Lib.hid (own_below OW.out b10)
      have X10 := Lib.hid hp
      have hXU : U < wr.heap.size := hUr
      have hMX : M ≤ wr.heap.size := hMr
      have hX10 : wr.heap.size < w10.heap.size := lt_of_heap hp
      generalize wr.heap.size = X at *
      clear b10 ho hp BR QR UR OW HAC hQr hUr hMr gk gk2 gki
      have hl1 := len_txt HAS.out
      have hl2 := len_txt HXS.out
      have QS := Lib.hid (fun o cap w h => small_any [txt acc, txt x] o 2 cap w h rfl (by decide) (fun p hp => by
        simp only [List.mem_cons, List.not_mem_nil, or_false] at hp
        rcases hp with rfl | rfl <;> omega))
      have QP := Lib.hid (fun (h : smB [txt acc, txt x] = true) w => natPlus_V acc x HAS.out.ok HXS.out.ok ((smB_iff _).1 h _ (by simp)).1 ((smB_iff _).1 h _ (by simp)).2 ((smB_iff _).1 h _ (by simp)).1 ((smB_iff _).1 h _ (by simp)).2 w)
      cases hsm : smB [txt acc, txt x] with
      | false =>
        rw [hsm] at QS
        clear hsm hl1 hl2 QP
        go_wp2_with (first
          | (refine wpList_load_whole rfl 27 _ rfl U #[.string ⟨(txt acc).1.toArray⟩, .string ⟨(txt acc).2.toArray⟩] _ _ _ rfl U10.out Tryz.underlying27 rfl size_api ?_)
          | (refine wpList_load_whole rfl 27 _ rfl X #[.string ⟨(txt x).1.toArray⟩, .string ⟨(txt x).2.toArray⟩] _ _ _ rfl X10.out Tryz.underlying27 rfl size_api ?_)
          | (with_reducible refine wpList_fr rfl 2 _ rfl (by decide) [(0, .agg #[.string ⟨(txt acc).1.toArray⟩, .string ⟨(txt acc).2.toArray⟩]), (1, .agg #[.string ⟨(txt x).1.toArray⟩, .string ⟨(txt x).2.toArray⟩])] (by first | rfl | (simp [Act.eval, Act.put]; done)) _ (fill_fr2 _ _ _ _) ?_)
          | (go_at_call 15; refine (QS.out (some ⟨w10.heap.size, 0, none⟩) 2 _ (fsAt_blk (F := [txt acc, txt x]) (heap_at rfl) rfl)).mono ?_; rintro e w12 ⟨rfl, b12⟩; dsimp only; have B1012 := Lib.hid (show Below w10.heap.size w10 w12 from ((Below.refl _ _).alloc (Nat.le_refl _) _).trans (b12.mono (by simp))); have B12 := Lib.hid (B10.out.trans (B1012.out.mono (by omega))); clear b12))
        go_ret
        exact ⟨rfl, by rw [HB.out]; exact B5.out.trans ((B12.out).mono (by omega))⟩
      | true =>
        rw [hsm] at QS
        have QP2 := Lib.hid (QP.out hsm)
        clear hsm hl1 hl2 QP
        go_upto_region 17 with (first
          | (refine wpList_load_whole rfl 27 _ rfl U #[.string ⟨(txt acc).1.toArray⟩, .string ⟨(txt acc).2.toArray⟩] _ _ _ rfl U10.out Tryz.underlying27 rfl size_api ?_)
          | (refine wpList_load_whole rfl 27 _ rfl X #[.string ⟨(txt x).1.toArray⟩, .string ⟨(txt x).2.toArray⟩] _ _ _ rfl X10.out Tryz.underlying27 rfl size_api ?_)
          | (with_reducible refine wpList_fr rfl 2 _ rfl (by decide) [(0, .agg #[.string ⟨(txt acc).1.toArray⟩, .string ⟨(txt acc).2.toArray⟩]), (1, .agg #[.string ⟨(txt x).1.toArray⟩, .string ⟨(txt x).2.toArray⟩])] (by first | rfl | (simp [Act.eval, Act.put]; done)) _ (fill_fr2 _ _ _ _) ?_)
          | (go_at_call 15; refine (QS.out (some ⟨w10.heap.size, 0, none⟩) 2 _ (fsAt_blk (F := [txt acc, txt x]) (heap_at rfl) rfl)).mono ?_; rintro e w12 ⟨rfl, b12⟩; dsimp only; have B1012 := Lib.hid (show Below w10.heap.size w10 w12 from ((Below.refl _ _).alloc (Nat.le_refl _) _).trans (b12.mono (by simp))); have B12 := Lib.hid (B10.out.trans (B1012.out.mono (by omega))); clear b12))
        have Q12 := Lib.hid (bel_keep B1012.out (Nat.lt_trans hQU (Nat.lt_trans hXU hX10)) Q10.out)
        have U12 := Lib.hid (bel_keep B1012.out (Nat.lt_trans hXU hX10) U10.out)
        have X12 := Lib.hid (bel_keep B1012.out hX10 X10.out)
        have O12 := Lib.hid (own_below O10.out B1012.out)
        have hQ12 : Q < w12.heap.size := lt_of_heap Q12.out
        have hU12 : U < w12.heap.size := lt_of_heap U12.out
        clear B1012 Q10 U10 X10 O10 B10 QS
        go_wp2_with (first
          | (refine wpList_load_whole rfl 27 _ rfl U #[.string ⟨(txt acc).1.toArray⟩, .string ⟨(txt acc).2.toArray⟩] _ _ _ rfl U12.out Tryz.underlying27 rfl size_api ?_)
          | (refine wpList_load_whole rfl 27 _ rfl X #[.string ⟨(txt x).1.toArray⟩, .string ⟨(txt x).2.toArray⟩] _ _ _ rfl X12.out Tryz.underlying27 rfl size_api ?_)
          | (go_at_call 16; refine (QP2.out w12).mono ?_; rintro e w13 ⟨rfl, b13⟩; dsimp only; have U13 := Lib.hid (bel_keep b13 hU12 U12.out); have B13 := Lib.hid b13; clear b13)
          | (refine wpList_store_whole rfl rfl 27 _ _ rfl U #[.string ⟨(txt acc).1.toArray⟩, .string ⟨(txt acc).2.toArray⟩] #[.string ⟨(txt (acc.add x)).1.toArray⟩, .string ⟨(txt (acc.add x)).2.toArray⟩] 27 rfl rfl U13.out rfl size_api (two_strings _ _) ?_; intro w14 ho hp))
        have tV : Trn 27 M (some U) w13 w14 := Trn.of_only ho U13.out hMU (fun u hu => by
          simp only [List.mem_cons, List.not_mem_nil, or_false] at hu
          rcases hu with rfl | rfl <;> rfl)
        have Q14 := tV.keep (bel_keep B13.out hQ12 Q12.out) (by decide)
        have O14 := own_trn tV (by decide) (own_below O12.out B13.out)
        have hMw : M ≤ w12.heap.size := by omega
        have B14 := bel_only (B12.out.trans (B13.out.mono hMw)) ho hMU
        go_roundw
        case rel => exact ⟨j + 1, by go_num, by omega, B14, Q14, by rw [HNX.out]; exact hp, O14⟩
        case measure => simp [intOf]; omega
    have gk : decide ((j : Int) < (nt : Int)) = false := decide_eq_false (by omega)
    have gk2 : decide (j < nt) = false := decide_eq_false hjt
    have hjn : nt = j := by omega
    subst hjn
    have UR2 := Lib.hid (show wr.heap[U]? = some (.cells #[.string ⟨(strD Bs.length).toArray⟩, .string ⟨#[49]⟩] 27 (0, 0)) by
      have h1 := UR.out
      rw [HNT.out, List.take_length, ROK.out.sum, txt_wh] at h1
      exact h1)
    have QW := Lib.hid (fun w => whole_any Bs.length w hK4)
    have hMr : M ≤ wr.heap.size := by have := BR.out.size; have := HM.out; omega
    clear UR
    generalize strD Bs.length = SM at *
    obtain ⟨wq, hwq⟩ : ∃ wq : World, wq = wr := ⟨_, rfl⟩
    subst hwq
    go_upto_region 21 with (fail)
    clear gk gk2
    refine Seg.wp_region_segs (fun w' => ∃ x : BelowT wq.heap.size wq, w' = x.w) [([0, 1, 2], 3)] [] 4 (by kernel_rfl) (by kernel_rfl) (fun _ _ d _ _ h => by cases d <;> exact h) (⟨⟨_, (Below.refl _ _).drew⟩, rfl⟩) ?_
    simp only [List.map_cons, List.map_nil, Seg.opAt, List.drop_succ_cons, List.drop_zero, Seg.wpSegs, Array.getD_eq_getD_getElem?, List.getElem?_toArray, List.getElem?_cons_succ, List.getElem?_cons_zero, Option.getD_some]
    refine wpQuiet_load_whole rfl 27 _ rfl U #[.string ⟨SM.toArray⟩, .string ⟨#[49]⟩] _ _ _ rfl UR2.out hUr Tryz.underlying27 rfl size_api ?_
    first | go_big_quiet_step (fail) | quiet_step (fail)
    first | go_big_quiet_step (fail) | quiet_step (fail)
    refine wpQuiet_nil ?_
    intro Kc hK
    simp only [Region.wanted, if_true]
    go_wp2_with (go_at_call 17; refine (QW.out _).mono ?_; rintro e wb ⟨rfl, b10⟩)
    have B10 := Lib.hid (undrew b10)
    refine hK _ _ ⟨⟨wb, B10.out⟩, rfl⟩ ?_
    clear hK Kc b10 QW
    repeat (any_goals (first | go_big_quiet_step (fail) | quiet_step (fail)))
    refine wpQuiet_nil ?_
    have Qb := Lib.hid (bel_keep B10.out hQr QR.out)
    have Ob := Lib.hid (own_below OW.out B10.out)
    have Bb := Lib.hid (BR.out.trans (B10.out.mono hMr))
    have hQb : Q < wb.heap.size := lt_of_heap Qb.out
    clear B10 QR OW BR UR2 hUr hQr hMr
    obtain ⟨nw, hnw⟩ : ∃ nw, nw = rd.who.length := ⟨_, rfl⟩
    have k4 : wb.cell? ⟨Q, 4, none⟩ = some (.slice ow nw cw) := by rw [hnw]; exact cell_of_row wb Q 4 _ _ _ Qb.out
    have hnw1 : 0 < nw := by rw [hnw]; exact List.length_pos_iff.2 ROK.out.wne
    have hnw12 : nw ≤ 12 := by rw [hnw]; have := ROK.out.wlen; omega
    have HNW := Lib.hid hnw
    obtain ⟨aw, haw, haw2, haw3⟩ := WS5.out.cells 0 (by rw [length_nats, ← hnw]; exact hnw1)
    subst haw
    have hel12 : EL.length ≤ 12 := by
      rw [HELK.out]
      have h1 := elOf_le (R := R) k
      rw [← KE1.out, KE2.out] at h1
      omega
    have hMb : M ≤ wb.heap.size := by have := Bb.out.size; have := HM.out; omega
    have Yb := Lib.hid (bel_keep Bb.out hDM Y5.out)
    have hDb : D < wb.heap.size := lt_of_heap Yb.out
    obtain ⟨b1, hb1⟩ : ∃ b1 : Bool, b1 = decide (rd.d = 1) := ⟨_, rfl⟩
    obtain ⟨b2, hb2⟩ : ∃ b2 : Bool, b2 = decide (rd.d = 2) := ⟨_, rfl⟩
    obtain ⟨b4, hb4⟩ : ∃ b4 : Bool, b4 = decide (rd.d = 4) := ⟨_, rfl⟩
    have HB1 := Lib.hid hb1
    have HB2 := Lib.hid hb2
    have HB4 := Lib.hid hb4
    have e1 : ((rd.d : Int) == 1) = b1 := by rw [hb1]; exact beq_nat rd.d 1
    have e2 : ((rd.d : Int) == 2) = b2 := by rw [hb2]; exact beq_nat rd.d 2
    have e4 : ((rd.d : Int) == 4) = b4 := by rw [hb4]; exact beq_nat rd.d 4
    clear haw2 haw3 hnw hb1 hb2 hb4
    go_upto_region 24 with (fail)
    go_wp2_with fail
    clear k4
    go_loopw [91] (fun v wr => ∃ j : Nat, v = .int .i64 j ∧ j ≤ nw ∧ Below wb.heap.size wb wr) (fun v _ => nw - (intOf v).toNat)
    case atStart => exact ⟨0, rfl, Nat.zero_le _, Below.refl _ _⟩
    case round =>
    obtain ⟨j, rfl, hj, hb⟩ := hrel
    have BR := Lib.hid hb
    clear hb
    by_cases hjt : j < nw
    · have gk : decide ((j : Int) < (nw : Int)) = true := decide_eq_true (by omega)
      have gk2 : decide (j < nw) = true := decide_eq_true hjt
      have gki : (j : Int) < (nw : Int) := by omega
      have hjl : j < rd.who.length := by rw [← HNW.out]; exact hjt
      have WSr := Lib.hid ((WS5.out.below (HM.out ▸ Bb.out)).below BR.out)
      obtain ⟨a', ha', _, hac⟩ := WSr.out.cells j (by rw [length_nats]; exact hjl)
      obtain rfl : aw = a' := by injection ha'
      have hgi : (nats rd.who)[j]'(by rw [length_nats]; exact hjl) = ((rd.who[j] : Nat) : Int) := by simp [nats]
      rw [hgi] at hac
      have him : rd.who[j] ∈ rd.who := List.getElem_mem hjl
      clear ha' hgi WSr
      generalize rd.who[j] = i at *
      have hin : i < nt := by
        rw [HNT.out, HNL.out]
        exact ROK.out.lt i him
      have hbi : decide ((i : Int) ∈ nats EL) = b2 := by
        rw [HB2.out]
        have h1 : ((i : Int) ∈ nats EL) ↔ i ∈ EL := by
          unfold nats
          rw [List.mem_map]
          exact ⟨fun ⟨a, ha, e⟩ => by rw [show i = a by omega]; exact ha, fun h => ⟨i, h, rfl⟩⟩
        have h2 := h1.trans (ROK.out.who i him)
        by_cases h : rd.d = 2
        · rw [decide_eq_true h, decide_eq_true (h2.2 h)]
        · rw [decide_eq_false h, decide_eq_false (fun h3 => h (h2.1 h3))]
      obtain ⟨oe', ce', he, _, hIS⟩ := isAt_own (own_below Ob.out BR.out)
      rw [length_nats] at he
      obtain ⟨rfl, rfl⟩ : oe = oe' ∧ ce = ce' := by injection he with h1 _ h2; exact ⟨h1, h2⟩
      have QI := Lib.hid (lawIn_any oe (nats EL) ce (i : Int) wr.drew hIS.drew (by rw [length_nats]; omega))
      rw [length_nats, hbi] at QI
      have Qr := bel_keep BR.out hQb Qb.out
      have hQr : Q < wr.heap.size := lt_of_heap Qr
      have d3 : ∀ x : BelowT wr.heap.size wr, x.w.cell? ⟨Q, 3, none⟩ = some (.int .i64 (rd.d : Int)) := fun x => cell_of_row _ Q 3 _ _ _ (bel_keep x.2 hQr Qr)
      have QR := Lib.hid Qr
      clear he hIS hbi Qr hjl
      go_upto_region 26 with (fail)
      clear gk gk2 gki hac
      refine Seg.wp_region_segs (fun w' => ∃ x : BelowT wr.heap.size wr, w' = x.w) [([0, 1, 3, 4, 5], 2)] [] 6 (by kernel_rfl) (by kernel_rfl) (fun _ _ d _ _ h => by cases d <;> exact h) (⟨⟨_, (Below.refl _ _).drew⟩, rfl⟩) ?_
      simp only [List.map_cons, List.map_nil, Seg.opAt, List.drop_succ_cons, List.drop_zero, Seg.wpSegs, Array.getD_eq_getD_getElem?, List.getElem?_toArray, List.getElem?_cons_succ, List.getElem?_cons_zero, Option.getD_some]
      repeat (any_goals (first | go_big_quiet_step (fail) | quiet_step (fail)))
      refine wpQuiet_nil ?_
      intro K hK
      simp only [Region.wanted, if_true]
      go_wp2_with (go_at_call 13; refine QI.out.mono ?_; rintro e wc ⟨rfl, rfl⟩)
      refine hK _ _ ⟨⟨_, (Below.refl _ _).drew⟩, rfl⟩ ?_
      clear hK K QI d3
      repeat (any_goals (first | go_big_quiet_step (fail) | quiet_step (fail)))
      refine wpQuiet_nil ?_
      go_upto_region 28 with (fail)
      refine wp_abs (fun wd => Below wb.heap.size wb wd) BR.out.drew (fun wd hwd => ?_)
      have BD := Lib.hid hwd
      have Qd := Lib.hid (bel_keep hwd hQb Qb.out)
      have Yd := Lib.hid (bel_keep hwd hDb Yb.out)
      have hQd : Q < wd.heap.size := lt_of_heap Qd.out
      have hDd : D < wd.heap.size := lt_of_heap Yd.out
      have k3 : wd.cell? ⟨Q, 3, none⟩ = some (.int .i64 (rd.d : Int)) := cell_of_row _ Q 3 _ _ _ Qd.out
      clear hwd BR QR hQr
      cases b1 with
      | false =>
        go_wp2_with go_big_skip
        go_roundw
        case rel => exact ⟨j + 1, by go_num, by omega, BD.out⟩
        case measure => simp [intOf]; omega
      | true =>
        have hd1 : rd.d = 1 := of_decide_eq_true HB1.out.symm
        have hil : i < rd.tots.length := by rw [← HNT.out]; exact hin
        have FX := Lib.hid ((FS5.out.below (HM.out ▸ Bb.out)).below BD.out)
        have HX := Lib.hid (show ∀ w', (∃ y : BelowT wd.heap.size wd, w' = y.w) → ∀ j v, [.string ⟨(txt rd.tots[i]).1.toArray⟩, .string ⟨(txt rd.tots[i]).2.toArray⟩][j]? = some v → w'.cell? ((a0.add (i * 2)).add j) = some v from fun w' hw' j v hv => by
          obtain ⟨y, rfl⟩ := hw'
          obtain ⟨a', ha', _, hac⟩ := (FX.out.below y.2).cells i (by rw [List.length_map]; exact hil)
          obtain rfl : a0 = a' := by injection ha'
          rw [List.getElem_map] at hac
          exact hac j v hv)
        have HD := Lib.hid (show ∀ w', (∃ y : BelowT wd.heap.size wd, w' = y.w) → ∀ j v, [.string ⟨(txt q).1.toArray⟩, .string ⟨(txt q).2.toArray⟩][j]? = some v → w'.cell? ((⟨D, 0, none⟩ : Addr).add j) = some v from fun w' hw' => by
          obtain ⟨y, rfl⟩ := hw'
          have h1 := bel_keep y.2 hDd Yd.out
          exact two_mid (cell_of_row _ D 0 _ _ _ h1) (cell_of_row _ D 1 _ _ _ h1))
        have hxm : rd.tots[i] ∈ rd.tots := List.getElem_mem hil
        have hxs := HSM.out (txt rd.tots[i]) (List.mem_cons_of_mem _ (List.mem_map.2 ⟨_, hxm, rfl⟩))
        have QO := Lib.hid (fun w => natOrder_V rd.tots[i] q (ROK.out.oks _ hxm).ok QOK.out (ROK.out.big hd1 i hil him) hxs.1 hxs.2 QTX.out.1 QTX.out.2 w)
        have k0 : wd.cell? ⟨Q, 0, none⟩ = some (.slice (some a0) nt ct) := by rw [HNT.out]; exact cell_of_row wd Q 0 _ _ _ Qd.out
        have d0 : ∀ y : BelowT wd.heap.size wd, y.w.cell? ⟨Q, 0, none⟩ = some (.slice (some a0) nt ct) := fun y => by rw [HNT.out]; exact cell_of_row _ Q 0 _ _ _ (bel_keep y.2 hQd Qd.out)
        have i1 : decide ((i : Int) < 0) = false := decide_eq_false (by omega)
        have i2 : decide ((nt : Int) ≤ (i : Int)) = false := decide_eq_false (by omega)
        have i2' : decide (nt ≤ i) = false := decide_eq_false (by omega)
        have i3 : (i : Int) < (nt : Int) := by omega
        clear hxs hxm hd1 FX
        generalize rd.tots[i] = x at *
        clear hil
        go_upto_region 31 with go_big_skip
        clear i1 i2 i2' k0
        refine Seg.wp_region_segs (fun w' => ∃ x : BelowT wd.heap.size wd, w' = x.w) [([0, 1, 2, 3, 4, 5, 6], 7)] [8, 9, 10, 11] 12 (by kernel_rfl) (by kernel_rfl) (fun _ _ d _ _ h => by cases d <;> exact h) (⟨⟨_, (Below.refl _ _).drew⟩, rfl⟩) ?_
        simp only [List.map_cons, List.map_nil, Seg.opAt, List.drop_succ_cons, List.drop_zero, Seg.wpSegs, Array.getD_eq_getD_getElem?, List.getElem?_toArray, List.getElem?_cons_succ, List.getElem?_cons_zero, Option.getD_some]
        first | go_big_quiet_step (fail) | quiet_step (fail)
        first | go_big_quiet_step (fail) | quiet_step (fail)
        first | go_big_quiet_step (fail) | quiet_step (fail)
        first | go_big_quiet_step (fail) | quiet_step (fail)
        refine wpQuiet_load_at rfl 27 _ rfl (a0.add (i * 2)) [.string ⟨(txt x).1.toArray⟩, .string ⟨(txt x).2.toArray⟩] _ rfl HX.out Tryz.underlying27 rfl size_api ?_
        first | go_big_quiet_step (fail) | quiet_step (fail)
        refine wpQuiet_load_at rfl 27 _ rfl ⟨D, 0, none⟩ [.string ⟨(txt q).1.toArray⟩, .string ⟨(txt q).2.toArray⟩] _ rfl HD.out Tryz.underlying27 rfl size_api ?_
        refine wpQuiet_nil ?_
        intro Kc hK
        simp only [Region.wanted, if_true]
        go_wp2_with (go_at_call 18; refine (QO.out _).mono ?_; rintro e we ⟨rfl, b11⟩)
        have B11 := Lib.hid (undrew b11)
        refine hK _ _ ⟨⟨we, B11.out⟩, rfl⟩ ?_
        clear hK Kc b11 QO d0
        repeat (any_goals (first | go_big_quiet_step (fail) | quiet_step (fail)))
        refine wpQuiet_nil ?_
        have BE := Lib.hid (BD.out.trans (B11.out.mono BD.out.size))
        clear BD B11 HX HD Qd Yd hQd hDd k3
        go_wp2_with go_big_skip
        go_roundw
        case rel => exact ⟨j + 1, by go_num, by omega, BE.out⟩
        case measure => simp [intOf]; omega
    have hjn : nw = j := by omega
    subst hjn
    have gk : decide ((nw : Int) < (nw : Int)) = false := decide_eq_false (by omega)
    have Qr := Lib.hid (bel_keep BR.out hQb Qb.out)
    have OWr := Lib.hid (own_below Ob.out BR.out)
    have k3 : wr.cell? ⟨Q, 3, none⟩ = some (.int .i64 (rd.d : Int)) := cell_of_row _ Q 3 _ _ _ Qr.out
    have k4 : wr.cell? ⟨Q, 4, none⟩ = some (.slice (some aw) nw cw) := by rw [HNW.out]; exact cell_of_row _ Q 4 _ _ _ Qr.out
    have BB := Lib.hid (Bb.out.trans (BR.out.mono hMb))
    have WSr := Lib.hid ((WS5.out.below (HM.out ▸ Bb.out)).below BR.out)
    have hMw : M ≤ wr.heap.size := by have := BR.out.size; omega
    have hQw : Q < wr.heap.size := lt_of_heap Qr.out
    have HBO := Lib.hid (show (b1 || b4) = decide (rd.d = 1 ∨ rd.d = 4) by rw [HB1.out, HB4.out]; simp [Bool.decide_or])
    clear Qb Ob Bb Yb BR Qr hQb hDb hMb hjt hj
    cases hbo : (b1 || b4) with
    | true =>
      have HE1 := Lib.hid (show elOf (R.take (k + 1)) = EL ++ rd.who by
        rw [HEL.out, if_pos (of_decide_eq_true (HBO.out.symm.trans hbo))])
      cases b1 with
      | true =>
        clear hbo HBO
        go_wp2_with (first
          | go_big_skip
          | (at_builtin; refine wpList_append_own _ rfl (.tmp 140) (.tmp 142) 29 rfl M 3 i0 (.int .i64 0) 1 8 Tryz.underlying29 HI.out HZ0.out HZ1.out HZ2.out rfl (by decide) (.slice oe EL.length ce) EL.length (ivals (nats EL)) rfl OWr.out aw nw cw (ivals (nats rd.who)) rfl (by rw [HNW.out]; simp [ivals, nats]) (ints_flat WSr.out) (ivals_one _) (by unfold maxLen; omega) (by omega) hMw ?_; intro v8 w8 own8 hg8 _; have B8 := Lib.hid (BB.out.grown hg8 hMw (fun x hx => (OWr.out.lt x hx.symm.symm).1)); obtain ⟨o8, c8, rfl, h8⟩ := own_el own8 HE1.out (by rw [HNW.out]); have H8 := Lib.hid h8; clear own8 hg8 h8))
        go_roundw
        case rel => exact ⟨k + 1, o8, c8, by go_num, rfl, by omega, H8.out, B8.out⟩
        case measure => simp [intOf]; omega
      | false =>
        obtain rfl : b4 = true := by simpa using hbo
        clear hbo HBO
        go_wp2_with (first
          | go_big_skip
          | (at_builtin; refine wpList_append_own _ rfl (.tmp 140) (.tmp 142) 29 rfl M 3 i0 (.int .i64 0) 1 8 Tryz.underlying29 HI.out HZ0.out HZ1.out HZ2.out rfl (by decide) (.slice oe EL.length ce) EL.length (ivals (nats EL)) rfl OWr.out aw nw cw (ivals (nats rd.who)) rfl (by rw [HNW.out]; simp [ivals, nats]) (ints_flat WSr.out) (ivals_one _) (by unfold maxLen; omega) (by omega) hMw ?_; intro v8 w8 own8 hg8 _; have B8 := Lib.hid (BB.out.grown hg8 hMw (fun x hx => (OWr.out.lt x hx.symm.symm).1)); obtain ⟨o8, c8, rfl, h8⟩ := own_el own8 HE1.out (by rw [HNW.out]); have H8 := Lib.hid h8; clear own8 hg8 h8))
        go_roundw
        case rel => exact ⟨k + 1, o8, c8, by go_num, rfl, by omega, H8.out, B8.out⟩
        case measure => simp [intOf]; omega
    | false =>
      have HE0 := Lib.hid (show elOf (R.take (k + 1)) = EL by
        rw [HEL.out, if_neg (of_decide_eq_false (HBO.out.symm.trans hbo)), List.append_nil])
      obtain ⟨rfl, rfl⟩ : b1 = false ∧ b4 = false := by cases b1 <;> cases b4 <;> simp_all
      clear hbo HBO
      go_wp2_with go_big_skip
      go_roundw
      case rel => exact ⟨k + 1, oe, ce, by go_num, by rw [HE0.out], by omega, by rw [HE0.out]; exact OWr.out, BB.out⟩
      case measure => simp [intOf]; omega
end Go.Proofs.YtnohcdpnnhmpfaaGreatDoor.TR
