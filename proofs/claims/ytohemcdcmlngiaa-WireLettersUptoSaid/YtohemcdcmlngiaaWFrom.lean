/-
  Chapter 4: wire.FromLetters.
-/
import Derived.Test.YtohemcdcmlngiaaWFPlain
import Derived.Test.YtohemcdcmlngiaaWIdx
import Derived.Test.YtohemcdcmlngiaaWLet
namespace Go.Proofs.Ytohemcdcmlngiaa
set_option linter.unusedVariables false
set_option linter.unusedSimpArgs false
open Go.RowKit ML FM WL

def setIt (w : World) (E : Nat) (o : Obj) : World := { w with heap := w.heap.setIfInBounds E o }
theorem setIt_only (w : World) (E : Nat) (o : Obj) : Only E w (setIt w E o) :=
  ⟨rfl, rfl, rfl, by simp [setIt], fun k hk => by simp [setIt, Array.getElem?_setIfInBounds, Ne.symm hk]⟩
theorem setIt_at {w : World} {E : Nat} {o x : Obj} (h : w.heap[E]? = some x) : (setIt w E o).heap[E]? = some o := by
  have := lt_of_heap h
  simp [setIt, Array.getElem?_setIfInBounds, this]
theorem run_next_at {P : Program} (w : World) (E : Nat) (s : ByteArray) (pos : Nat) (ty : TypeId) (hE : w.heap[E]? = some (.stringIter s pos)) (h : pos < s.size) :
    (Instr.next (.pointer (some ⟨E, 0, none⟩)) true ty).run P w = .ok (.tuple #[.bool true, .int .i64 pos, .int .i32 (Utf8.decode s pos).1]) (setIt w E (.stringIter s (pos + (Utf8.decode s pos).2))) := by
  simp [Instr.next, getObj, setObj, Sem.run_bind, Sem.run, hE, Result.andThen, h, setIt, goInt]
theorem run_next_stop {P : Program} (w : World) (E : Nat) (s : ByteArray) (pos : Nat) (ty : TypeId) (hE : w.heap[E]? = some (.stringIter s pos)) (h : ¬ pos < s.size) :
    (Instr.next (.pointer (some ⟨E, 0, none⟩)) true ty).run P w = .ok (.tuple #[.bool false]) w := by
  simp [Instr.next, getObj, Sem.run, hE, h]
theorem iterPos_of {w : World} {E : Nat} {s : ByteArray} {p : Nat} (h : w.heap[E]? = some (.stringIter s p)) : w.iterPos E = p := by simp [World.iterPos, h]
theorem or5 (x c : Nat) (hx : x < 1099511627776) (hc : c < 32) : bits BinOp.or IntKind.i64 ((x : Int) * 32) (c : Int) = ((x * 32 + c : Nat) : Int) := by
  have e : ((x : Int) * 32) = ((x * 32 : Nat) : Int) := by omega
  rw [e]
  show IntKind.i64.wrap ((BitVec.ofInt 64 ((x * 32 : Nat) : Int) ||| BitVec.ofInt 64 (c : Int)).toNat : Int) = _
  rw [BitVec.toNat_or, ofInt_u64 (x * 32) (by omega), ofInt_u64 c (by omega)]
  have h1 : x * 32 ||| c = x * 32 + c := by
    have := Nat.shiftLeft_add_eq_or_of_lt (show c < 2 ^ 5 by omega) x
    rw [Nat.shiftLeft_eq] at this
    exact this.symm
  rw [h1, IntKind.wrap_i64]
  omega
theorem and_m (z j m : Nat) (h : z < 9223372036854775808) (hm : m = 2 ^ j - 1) (hj : m < 9223372036854775808) : bits BinOp.and IntKind.i64 (z : Int) (m : Int) = ((z % 2 ^ j : Nat) : Int) := by
  show IntKind.i64.wrap ((BitVec.ofInt 64 (z : Int) &&& BitVec.ofInt 64 (m : Int)).toNat : Int) = _
  have h2 : z % 2 ^ j ≤ z := Nat.mod_le _ _
  rw [BitVec.toNat_and, ofInt_i64 z h, ofInt_i64 m hj, hm, Nat.and_two_pow_sub_one_eq_mod, IntKind.wrap_i64]
  omega
theorem run_nil_str (w : World) : (convert 35 9 (.slice none 0 0)).run Try.prog w = .ok (.string ⟨#[]⟩) w := by kernel_rfl
theorem upN_high {n : Nat} (h : 128 ≤ n) : upN n = n := by unfold upN; rw [if_neg (by omega)]
theorem valR_high {n : Nat} (h : 128 ≤ n) : valR n = -1 := by
  unfold valR
  rw [upN_high h, if_neg (by omega), if_neg (by omega), if_neg (by omega)]
set_option maxHeartbeats 8000000 in
set_option maxRecDepth 100000 in
theorem wireFrom_any (T : Bytes) (w : World) (hT : T.length < 1000000000) :
    Calls Try.prog 12 #[.string ⟨T.toArray⟩] w fun e w' => e = .returned (.tuple #[.string ⟨(fromB T).toArray⟩, .int .i64 (fromE T : Int)]) ∧ Below w.heap.size w w' := by
  obtain ⟨i0, hi, hz0, hz1, hz2⟩ := info_parts info_int
  have HI := Lib.hid hi
  have HZ0 := Lib.hid hz0
  have HZ1 := Lib.hid hz1
  have HZ2 := Lib.hid hz2
  have hszT := size_mk T
  obtain ⟨A, hA⟩ : ∃ A, A = fromB T := ⟨_, rfl⟩
  obtain ⟨n, hn⟩ : ∃ n, n = fromE T := ⟨_, rfl⟩
  rw [← hA, ← hn]
  have HN := Lib.hid hn
  have HA := Lib.hid (show A = if n = 0 then bytesOf ((rdT T).dropLast.map Int.toNat) else [] by rw [hA, hn]; rfl)
  have HB2 := Lib.hid (fun (h : n = 2) => (show A = [] by rw [HA.out, if_neg (by omega)]))
  clear hi hz0 hz1 hz2 hA hn
  go_enter Try.func12, Try.ntmps12
  go_upto_region 3 with (fail)
  generalize hW : w.heap.size = W at *
  have HW := Lib.hid hW
  clear hW
  refine wp_abs (fun w1 => Below W w w1 ∧ w1.heap[W]? = some (.stringIter ⟨T.toArray⟩ 0) ∧ W < w1.heap.size) ⟨by rw [← HW.out]; exact (Below.refl _ _).alloc (Nat.le_refl _) _, by first | (rw [← HW.out]; exact heap_at rfl) | exact heap_at HW.out, by simp [HW.out, World.iter]⟩ (fun w1 hw1 => ?_)
  obtain ⟨bel1, it1, hs1⟩ := hw1
  go_loopw [4] (fun v wr => ∃ (k : Nat) (L : List Nat), k ≤ T.length ∧ rdT (T.take k) = L.map (fun v : Nat => (v : Int)) ∧ OkV (rdT (T.take k)) ∧ (∀ v ∈ L, v < 37) ∧ L.length ≤ k ∧ wr.heap[W]? = some (.stringIter ⟨T.toArray⟩ k) ∧ wr.ownsRow (W + 1) 3 1 v L.length (nvals L) ∧ Below W w wr ∧ W < wr.heap.size) (fun _ wr => T.length - wr.iterPos W)
  case atStart => exact ⟨0, [], by omega, rfl, okV_nil, (by simp), by simp, it1, World.ownsRow_nil _ _ _ _, bel1, hs1⟩
  case round =>
  clear bel1 it1 hs1
  obtain ⟨k, L, hk, hL, hok, hLv, hLk, hit, own, bel, hsr⟩ := hrel
  by_cases hlt : k < T.length
  · have hlt2 : k < (ByteArray.mk T.toArray).size := by rw [hszT]; exact hlt
    have hnx := fun ty => run_next_at (P := Try.prog) wr W ⟨T.toArray⟩ k ty hit hlt2
    have hrl := decode_le (ByteArray.mk T.toArray) k
    have hbt : ((ByteArray.mk T.toArray)[k]'hlt2) = T[k] := rfl
    have hda : T[k].toNat < 128 → Utf8.decode (ByteArray.mk T.toArray) k = (T[k].toNat, 1) := fun h => by
      have := decode_ascii (ByteArray.mk T.toArray) k hlt2 (by rw [hbt]; exact h)
      rw [this, hbt]
    have hdh : ¬ T[k].toNat < 128 → 128 ≤ (Utf8.decode (ByteArray.mk T.toArray) k).1 := fun h => (decode_high (ByteArray.mk T.toArray) k hlt2 (by rw [hbt]; omega)).1
    obtain ⟨rn, wd, hdec⟩ : ∃ rn wd, Utf8.decode (ByteArray.mk T.toArray) k = (rn, wd) := ⟨_, _, rfl⟩
    rw [hdec] at hnx hrl hda hdh
    have hsn : T.take (k + 1) = T.take k ++ [T[k]] := by rw [List.take_succ_eq_append_getElem hlt]
    have htd : T = T.take (k + 1) ++ T.drop (k + 1) := (List.take_append_drop _ _).symm
    have hrl2 : rn ≤ 2147483647 := hrl
    have h45 : rn = 45 → T[k] = 45 ∧ wd = 1 := fun h => by
      by_cases h1 : T[k].toNat < 128
      · have h2 := hda h1
        rw [h] at h2
        have h3 : 45 = T[k].toNat ∧ wd = 1 := by simpa using h2
        exact ⟨UInt8.toNat_inj.1 (by rw [← h3.1]; rfl), h3.2⟩
      · have h2 : 128 ≤ rn := hdh h1
        omega
    have hn45 : rn ≠ 45 → T[k] ≠ 45 ∧ valR rn = valR T[k].toNat ∧ (0 ≤ valR rn → wd = 1) := fun h => by
      by_cases h1 : T[k].toNat < 128
      · have h2 := hda h1
        have h3 : rn = T[k].toNat ∧ wd = 1 := by simpa using h2
        exact ⟨fun h4 => h (by rw [h3.1, h4]; rfl), by rw [h3.1], fun _ => h3.2⟩
      · have h2 : 128 ≤ rn := hdh h1
        refine ⟨fun h4 => h1 (by rw [h4]; decide), by rw [valR_high h2, valR_high (by omega)], fun h5 => ?_⟩
        rw [valR_high h2] at h5
        omega
    have hset := setIt_only wr W (.stringIter ⟨T.toArray⟩ (k + wd))
    have hsat := setIt_at (o := .stringIter ⟨T.toArray⟩ (k + wd)) hit
    have HPR := Lib.hid (iterPos_of hit)
    have HSO := Lib.hid hset
    have HSA := Lib.hid hsat
    have H45 := Lib.hid h45
    have HN45 := Lib.hid hn45
    have HSN := Lib.hid hsn
    have HTD := Lib.hid htd
    have HL := Lib.hid hL
    have HOK := Lib.hid hok
    have OWN := Lib.hid own
    have BEL := Lib.hid bel
    have QV := Lib.hid (fun w => wireValue_any rn w hrl2)
    have hvlt := valR_lt rn
    have hvge := valR_ge rn
    clear hrl hbt hda hdh hdec hsn htd h45 hn45 hset hsat hL hok own bel hit
    go_upto_region 4 with (fail)
    clear hnx
    refine wp_abs (fun w2 => Only W wr w2 ∧ w2.heap[W]? = some (.stringIter ⟨T.toArray⟩ (k + wd))) ⟨HSO.out, HSA.out⟩ (fun w2 hw2 => ?_)
    have own2 := Lib.hid (own_only OWN.out hw2.1 (own_ge OWN.out (by omega)))
    have bel2 := Lib.hid (bel_only BEL.out hw2.1 (Nat.le_refl _))
    have hs2 : W < w2.heap.size := by rw [hw2.1.size]; exact hsr
    have HIT := Lib.hid hw2.2
    clear hw2 HSO HSA OWN BEL hsr
    by_cases he : rn = 45
    · have de : ((rn : Int) == 45) = true := by rw [beq_iff_eq]; omega
      obtain ⟨h1, h2⟩ := H45.out he
      have hnew := Lib.hid (show rdT (T.take (k + 1)) = rdT (T.take k) by rw [HSN.out, h1, rdT_hyphen])
      have hwd := Lib.hid h2
      clear h1 h2 he H45 HN45
      go_wp2_with fail
      go_roundw
      case rel => exact ⟨k + 1, L, by omega, by rw [hnew.out]; exact HL.out, by rw [hnew.out]; exact HOK.out, hLv, by omega, by rw [← hwd.out]; exact HIT.out, own2.out, bel2.out, hs2⟩
      case measure => rw [iterPos_of HIT.out, HPR.out, hwd.out]; omega
    · have de : ((rn : Int) == 45) = false := by rw [beq_eq_false_iff_ne]; omega
      have hnew := Lib.hid (show rdT (T.take (k + 1)) = rdT (T.take k) ++ [valR rn] by rw [HSN.out, rdT_sign _ _ (HN45.out he).1, (HN45.out he).2.1])
      clear H45
      obtain ⟨oa, cap, rfl, hcap, hge, hI⟩ := intsAt_own own2.out
      by_cases hv : valR rn < 0
      · have hv1 : valR rn = -1 := by omega
        have hn2 := Lib.hid (HN.out.trans (fromE_bad HTD.out (by rw [hnew.out]; exact not_okV_neg hv)))
        rw [hv1] at QV
        clear hv hv1 hvlt hvge hI hge HN45 he
        go_wp2_with (go_at_call 25; refine (QV.out w2).mono ?_; rintro e w3 ⟨rfl, bel3⟩)
        go_ret2
        exact ⟨by rw [hn2.out, HB2.out hn2.out]; rfl, by rw [HW.out]; exact bel2.out.trans (bel3.mono (by omega))⟩
      · obtain ⟨v, hvv⟩ : ∃ v : Nat, valR rn = (v : Int) := ⟨(valR rn).toNat, by omega⟩
        have hv37 : v < 37 := by omega
        have hwd1 := Lib.hid ((HN45.out he).2.2 (by omega))
        have HV := Lib.hid hvv
        rw [hvv] at QV
        have dv0 : decide ((v : Int) < 0) = false := decide_eq_false (by omega)
        clear hv hvv hvlt hvge
        by_cases hL0 : L = []
        · have hok2 := Lib.hid (show OkV (rdT (T.take k) ++ [valR rn]) from okV_snoc HOK.out (fun i hi h => by rw [HL.out, hL0] at hi; simp at hi) (by rw [HV.out]; omega))
          have hl0 : decide (0 < L.length) = false := decide_eq_false (by rw [hL0]; simp)
          have hl0' : decide ((0 : Int) < (L.length : Int)) = false := decide_eq_false (by rw [hL0]; simp)
          clear hI hge hL0
          go_wp2_with (first
            | (go_at_call 25; refine (QV.out w2).mono ?_; rintro e w3 ⟨rfl, bel3⟩; have OWN3 := Lib.hid (own_below own2.out bel3); have IT3 := Lib.hid (bel_keep bel3 hs2 HIT.out); have BEL3 := Lib.hid (bel2.out.trans (bel3.mono (by omega))); have hs3 : W < w3.heap.size := (by have := bel3.size; omega); clear bel3)
            | (at_builtin; refine wpList_append_own _ rfl (.tmp 41) (.tmp 43) 45 rfl (W + 1) 3 i0 (.int .i64 0) 1 8 Try.underlying45 HI.out HZ0.out HZ1.out HZ2.out rfl (by decide) (.slice oa L.length cap) L.length (nvals L) rfl (OWN3.out.alloc _) ⟨w3.heap.size, 0, none⟩ 1 1 (nvals [v]) rfl rfl (by first | exact news_nvals w3 [v] _ _ rfl | exact fun j u h => h) (nvals_one _) (by unfold maxLen; omega) (by omega) (by first | omega | (simp; omega)) ?_; intro v5 w5 own5 hg5 _))
          have bel5 : Below W w w5 := (BEL3.out.alloc (by omega) _).grown hg5 (by simp; omega) (fun q hq => by have := (OWN3.out.lt q hq).1; omega)
          have it5 : w5.heap[W]? = some (.stringIter ⟨T.toArray⟩ (k + wd)) := grown_keep hg5 (own_ge OWN3.out (by omega)) (heap_lt IT3.out)
          rw [nvals_append] at own5
          have own6 : w5.ownsRow (W + 1) 3 1 v5 (L ++ [v]).length (nvals (L ++ [v])) := by rw [List.length_append]; exact own5
          have hs5 : W < w5.heap.size := lt_of_heap it5
          have HP5 := Lib.hid (iterPos_of it5)
          have hwd := Lib.hid (HN45.out he).2.2
          clear own5 hg5 OWN3 IT3 BEL3
          go_roundw
          case rel => exact ⟨k + 1, L ++ [v], by omega, by rw [hnew.out, HL.out, HV.out]; simp, by rw [hnew.out]; exact hok2.out, fun x hx => by
            rcases List.mem_append.1 hx with h | h
            · exact hLv x h
            · rw [List.mem_singleton] at h; subst h; exact hv37, by rw [List.length_append, List.length_singleton]; omega, by rw [← hwd1.out]; exact it5, own6, bel5, hs5⟩
          case measure => rw [HP5.out, HPR.out, hwd1.out]; omega
          
        · obtain ⟨m, hm⟩ : ∃ m, L.length = m + 1 := ⟨L.length - 1, by have := List.length_pos_iff.2 hL0; omega⟩
          have hmL : m < L.length := by omega
          obtain ⟨a, hoa, hab, hac⟩ := hI.cells m hmL
          have hrl := Lib.hid (show ∀ i (hi : i < (rdT (T.take k)).length), i + 1 = (rdT (T.take k)).length → (rdT (T.take k))[i] = (L[m] : Int) from fun i hi h => by
            have e := HL.out
            have hl : (rdT (T.take k)).length = L.length := by rw [e, List.length_map]
            have him : i = m := by omega
            subst him
            have : ∀ (X : List Int) (hX : X = L.map (fun v : Nat => (v : Int))) (h1 : i < X.length), X[i] = (L[i] : Int) := by
              intro X hX h1; subst hX; simp
            exact this _ e hi)
          have hlen := Lib.hid (show (rdT (T.take k)).length = m + 1 by rw [HL.out, List.length_map, hm])
          subst hoa
          have hacell : ∀ w3, Below w2.heap.size w2 w3 → w3.cell? (a.add m) = some (.int .i64 (L[m] : Int)) := fun w3 hb => by rw [hb.cell (p := a.add m) (by rw [addr_block]; exact hab)]; exact hac
          have HAC := Lib.hid hacell
          have hmi : (L.length : Int) - 1 = (m : Int) := by omega
          have hl0 : decide (0 < L.length) = true := decide_eq_true (by omega)
          have hl0' : decide ((0 : Int) < (L.length : Int)) = true := decide_eq_true (by omega)
          have hml : (m : Int) < (L.length : Int) := by omega
          have ha37 := hLv _ (List.getElem_mem hmL)
          have Hm := Lib.hid hm
          clear hac hacell hI hge hm hL0 hab
          generalize hlm : L[m] = la at *
          clear hlm
          by_cases h32 : 32 ≤ la
          · have d32 : decide ((32 : Int) ≤ (la : Int)) = true := decide_eq_true (by omega)
            have hn2 := Lib.hid (HN.out.trans (fromE_bad HTD.out (by
              rw [hnew.out]
              exact not_okV_high m (by rw [hlen.out]; omega) hlen.out.symm (hrl.out m (by rw [hlen.out]; omega) hlen.out.symm) (by omega))))
            clear h32 HN45 he
            go_wp2_with (go_at_call 25; refine (QV.out w2).mono ?_; rintro e w3 ⟨rfl, bel3⟩; have hac3 := HAC.out w3 bel3; have BL3 := Lib.hid bel3; clear bel3)
            go_ret2
            exact ⟨by rw [hn2.out, HB2.out hn2.out]; rfl, by rw [HW.out]; exact bel2.out.trans (BL3.out.mono (by omega))⟩
          · have d32 : decide ((32 : Int) ≤ (la : Int)) = false := decide_eq_false (by omega)
            have hok2 := Lib.hid (show OkV (rdT (T.take k) ++ [valR rn]) from okV_snoc HOK.out (fun i hi h => by rw [hrl.out i hi h]; omega) (by rw [HV.out]; omega))
            clear h32
            go_wp2_with (first
              | (go_at_call 25; refine (QV.out w2).mono ?_; rintro e w3 ⟨rfl, bel3⟩; have hac3 := HAC.out w3 bel3; have OWN3 := Lib.hid (own_below own2.out bel3); have IT3 := Lib.hid (bel_keep bel3 hs2 HIT.out); have BEL3 := Lib.hid (bel2.out.trans (bel3.mono (by omega))); have hs3 : W < w3.heap.size := (by have := bel3.size; omega); clear bel3)
              | (at_builtin; refine wpList_append_own _ rfl (.tmp 41) (.tmp 43) 45 rfl (W + 1) 3 i0 (.int .i64 0) 1 8 Try.underlying45 HI.out HZ0.out HZ1.out HZ2.out rfl (by decide) (.slice (some a) L.length cap) L.length (nvals L) rfl (OWN3.out.alloc _) ⟨w3.heap.size, 0, none⟩ 1 1 (nvals [v]) rfl rfl (by first | exact news_nvals w3 [v] _ _ rfl | exact fun j u h => h) (nvals_one _) (by unfold maxLen; omega) (by omega) (by first | omega | (simp; omega)) ?_; intro v5 w5 own5 hg5 _))
            have bel5 : Below W w w5 := (BEL3.out.alloc (by omega) _).grown hg5 (by simp; omega) (fun q hq => by have := (OWN3.out.lt q hq).1; omega)
            have it5 : w5.heap[W]? = some (.stringIter ⟨T.toArray⟩ (k + wd)) := grown_keep hg5 (own_ge OWN3.out (by omega)) (heap_lt IT3.out)
            rw [nvals_append] at own5
            have own6 : w5.ownsRow (W + 1) 3 1 v5 (L ++ [v]).length (nvals (L ++ [v])) := by rw [List.length_append]; exact own5
            have hs5 : W < w5.heap.size := lt_of_heap it5
            have HP5 := Lib.hid (iterPos_of it5)
            have hwd := Lib.hid (HN45.out he).2.2
            clear own5 hg5 OWN3 IT3 BEL3
            go_roundw
            case rel => exact ⟨k + 1, L ++ [v], by omega, by rw [hnew.out, HL.out, HV.out]; simp, by rw [hnew.out]; exact hok2.out, fun x hx => by
              rcases List.mem_append.1 hx with h | h
              · exact hLv x h
              · rw [List.mem_singleton] at h; subst h; exact hv37, by rw [List.length_append, List.length_singleton]; omega, by rw [← hwd1.out]; exact it5, own6, bel5, hs5⟩
            case measure => rw [HP5.out, HPR.out, hwd1.out]; omega
            
  · obtain rfl : k = T.length := by omega
    rw [List.take_length] at hL hok
    have hnx := fun ty => run_next_stop (P := Try.prog) wr W ⟨T.toArray⟩ T.length ty hit (by rw [hszT]; omega)
    clear hlt hLk hk hit
    by_cases hL0 : L = []
    · have hn2 := Lib.hid (HN.out.trans (fromE_nil (by rw [hL, hL0]; rfl)))
      subst hL0
      obtain ⟨oa, cap, rfl, hcap, hge, hI⟩ := intsAt_own own
      clear hL hok hI hge own
      go_wp2_with fail
      go_ret2
      exact ⟨by rw [hn2.out, HB2.out hn2.out]; rfl, by rw [HW.out]; exact bel⟩
    obtain ⟨l, c, rfl⟩ : ∃ l c, L = l ++ [c] := ⟨L.dropLast, L.getLast hL0, (List.dropLast_concat_getLast hL0).symm⟩
    obtain ⟨hE, hD⟩ := fromE_of hL hok
    have hl32 : ∀ v ∈ l, v < 32 := fun v hv => by
      obtain ⟨i, hi, rfl⟩ := List.getElem_of_mem hv
      have h1 : ∀ (X : List Int) (hX : X = (l ++ [c]).map (fun v : Nat => (v : Int))), OkV X → (l[i] : Int) < 32 := by
        intro X hX hO
        subst hX
        have := (hO i (by simp; omega)).2 (by simp; omega)
        rw [List.getElem_map, List.getElem_append_left hi] at this
        exact this
      have := h1 _ hL hok
      omega
    have hc37 : c < 37 := hLv c (by simp)
    rw [hD] at HA
    have HE := Lib.hid (HN.out.trans hE)
    have HAA := Lib.hid HA.out
    have HL32 := Lib.hid hl32
    obtain ⟨oa, cap, rfl, hcap, hge, hI⟩ := intsAt_own own
    obtain ⟨a, hoa, hab, hac⟩ := hI.cells l.length (by simp)
    rw [List.getElem_append_right (Nat.le_refl _)] at hac
    simp only [Nat.sub_self, List.getElem_singleton] at hac
    have hI2 := hI.take l.length
    rw [List.take_left] at hI2
    have HII := Lib.hid hI2
    rw [List.length_append, List.length_singleton] at hcap ⊢
    have hlT : l.length < 1000000000 := by
      have h1 : (rdT T).length ≤ T.length := by unfold rdT; rw [List.length_map]; exact List.length_filter_le _ _
      rw [hL] at h1
      simp at h1
      omega
    have BEL := Lib.hid bel
    subst hoa
    have hd0 : ((l.length : Int) + 1 == 0) = false := by rw [beq_eq_false_iff_ne]; omega
    have hli : (l.length : Int) + 1 - 1 = (l.length : Int) := by omega
    have hlj : (l.length : Int) < (l.length : Int) + 1 := by omega
    have hlk : (l.length : Int) ≤ (cap : Int) := by omega
    have hlm : IntKind.i64.wrap ((l.length : Int) + 1 - 1) = (l.length : Int) := by rw [hli]; exact IntWalk.i64_in _ (by omega)
    have hln : IntKind.i64.wrap (l.length : Int) = (l.length : Int) := IntWalk.i64_in _ (by omega)
    have hl0i : (0 : Int) ≤ (l.length : Int) := by omega
    clear hL0 hL hok hE hD hl32 hI hI2 own bel HN HB2 hLv HA
    go_upto_region 12 with (fail)
    go_quiet (fail)
    go_upto_region 13 with (fail)
    refine wp_abs (fun w4 => Below W w w4 ∧ IntsAt w4 (some a) l ∧ W < w4.heap.size) ⟨bel_drewN BEL.out _, HII.out.below (bel_drewN (Below.refl _ _) _), hsr⟩ (fun w4 hw4 => ?_)
    have HW4 := Lib.hid hw4
    clear hw4 hnx hac hab hge HII BEL hd0 hli hlj hlk hlm hln hl0i hsr
    obtain ⟨sp, hsp⟩ : ∃ sp, sp = 5 * l.length % 8 := ⟨_, rfl⟩
    have hspi : (5 * (l.length : Int)) % 8 = (sp : Int) := by omega
    have hsp8 : sp < 8 := by omega
    rw [← hsp] at HE
    have HSP := Lib.hid hsp
    clear hsp
    by_cases h103 : 103 < l.length
    · have d1 : decide (103 < l.length) = true := decide_eq_true h103
      have d2 : decide ((103 : Int) < (l.length : Int)) = true := decide_eq_true (by omega)
      have hn3 := Lib.hid (HE.out.trans (if_pos h103))
      have ha3 := Lib.hid (HAA.out.trans (if_neg (by rw [hn3.out]; decide)))
      clear h103 HE HAA
      go_wp2_with fail
      go_ret2
      exact ⟨by rw [hn3.out, ha3.out]; rfl, by rw [HW.out]; exact HW4.out.1⟩
    have d1 : decide (103 < l.length) = false := decide_eq_false h103
    have d2 : decide ((103 : Int) < (l.length : Int)) = false := decide_eq_false (by omega)
    have HE1 := Lib.hid (HE.out.trans (if_neg h103))
    have hl103 : l.length ≤ 103 := by omega
    clear h103 HE hlT
    by_cases h5 : 5 ≤ sp
    · have d3 : decide (5 ≤ sp) = true := decide_eq_true h5
      have d4 : decide ((5 : Int) ≤ (sp : Int)) = true := decide_eq_true (by omega)
      have hn3 := Lib.hid (HE1.out.trans (if_pos h5))
      have ha3 := Lib.hid (HAA.out.trans (if_neg (by rw [hn3.out]; decide)))
      clear h5 HE1 HAA
      go_wp2_with fail
      go_ret2
      exact ⟨by rw [hn3.out, ha3.out]; rfl, by rw [HW.out]; exact HW4.out.1⟩
    have d3 : decide (5 ≤ sp) = false := decide_eq_false h5
    have d4 : decide ((5 : Int) ≤ (sp : Int)) = false := decide_eq_false (by omega)
    have HE2 := Lib.hid (HE1.out.trans (if_neg h5))
    clear h5 HE1
    obtain ⟨j0, ji, jz0, jz1, jz2⟩ := info_parts info_byte
    have JI := Lib.hid ji
    have JZ0 := Lib.hid jz0
    have JZ1 := Lib.hid jz1
    have JZ2 := Lib.hid jz2
    clear ji jz0 jz1 jz2
    go_upto_region 21 with (fail)
    clear hspi
    generalize hR : w4.heap.size = R at *
    have HR := Lib.hid hR
    have hWR : W ≤ R := by have := HW4.out.2.2; omega
    clear hR
    go_loopw [10, 11, 12, 13, 72] (fun v h b s i wr => ∃ (k t x : Nat) (O : Bytes), k ≤ l.length ∧ h = .int .i64 x ∧ b = .int .i64 t ∧ s = .int .i64 ((ckV (l.take k) : Nat) : Int) ∧ i = .int .i64 k ∧ GetV (l.take k) O x t ∧ wr.ownsRow R 5 1 v O.length (Lib.byteCells O) ∧ Below R w4 wr) (fun _ _ _ _ i _ => l.length - (intOf i).toNat)
    case atStart => exact ⟨0, 0, 0, [], by omega, rfl, rfl, rfl, rfl, GetV.nil, World.ownsRow_nil _ _ _ _, Below.refl _ _⟩
    case round =>
    obtain ⟨k, t, x, O, hk, rfl, rfl, rfl, rfl, hG, own, bel⟩ := hrel
    by_cases hlt : k < l.length
    · have dk : decide ((k : Int) < (l.length : Int)) = true := decide_eq_true (by omega)
      have dk2 : decide (k < l.length) = true := decide_eq_true hlt
      obtain ⟨a1, h1, hab, hac⟩ := HW4.out.2.1.cells k hlt
      cases h1
      rw [HR.out] at hab
      have hac2 : wr.cell? (a.add k) = some (.int .i64 (l[k] : Int)) := by rw [bel.cell (p := a.add k) (by rw [addr_block]; exact hab)]; exact hac
      have hv32 := HL32.out _ (List.getElem_mem hlt)
      have hsn : l.take (k + 1) = l.take k ++ [l[k]] := by rw [List.take_succ_eq_append_getElem hlt]
      have hcs : (((ckV (l.take k) : Nat) : Int) * 32 + (l[k] : Int)) % 37 = ((ckV (l.take (k + 1)) : Nat) : Int) := by rw [hsn, ckV_snoc]; omega
      have hck := ckV_lt (l.take k)
      have hOl := hG.len
      have hO2 : O.length < 1000 := by rw [List.length_take] at hOl; omega
      have hfew := hG.few
      have hx128 : x < 128 := Nat.lt_of_lt_of_le hG.low (Nat.le_trans (Nat.pow_le_pow_right (by decide) (by omega : t ≤ 7)) (by decide))
      have HG := Lib.hid hG
      have OWN := Lib.hid own
      have BL := Lib.hid bel
      have hRr : R ≤ wr.heap.size := by have := bel.size; rw [HR.out] at this; exact this
      have hki : (k : Int) < (l.length : Int) := by omega
      have HSN := Lib.hid hsn
      have hor := or5 x l[k] (by omega) hv32
      generalize l[k] = v at *
      generalize hcn : ckV (l.take (k + 1)) = c2 at *
      have HCN := Lib.hid hcn
      generalize ckV (l.take k) = c1 at *
      obtain ⟨y, hy⟩ : ∃ y, y = x * 32 + v := ⟨_, rfl⟩
      rw [← hy] at hor
      have HY := Lib.hid hy
      have hy4 : y < 4096 := by omega
      clear hac hab hsn hOl hG own bel hcn hy hlt
      by_cases h8 : t < 3
      · have d8 : decide ((8 : Int) ≤ (t : Int) + 5) = false := decide_eq_false (by omega)
        have hg2 := Lib.hid (by have := HG.out.keep (v := v) hv32 (by omega); rwa [← HSN.out, ← HY.out] at this : GetV (l.take (k + 1)) O y (t + 5))
        clear h8 HG
        go_wp2_with fail
        go_roundw
        case rel => exact ⟨k + 1, t + 5, y, O, by omega, rfl, by go_num, by rw [HCN.out, hcs], by go_num, hg2.out, OWN.out, BL.out⟩
        case measure => simp [intOf]; omega
      have h4 : t = 3 ∨ t = 4 ∨ t = 5 ∨ t = 6 ∨ t = 7 := by omega
      clear h8
      obtain ⟨hg2, hb2⟩ := HG.out.take (v := v) hv32 (by omega)
      rw [← HSN.out, ← HY.out] at hg2
      rw [← HY.out] at hb2
      clear HG
      rcases h4 with rfl | rfl | rfl | rfl | rfl
      · have hq : y / 2 ^ ((3 : Nat) + 5 - 8) = y / 1 := rfl
        have hr : y % 2 ^ ((3 : Nat) + 5 - 8) = y % 1 := rfl
        rw [hq, hr] at hg2
        rw [hq] at hb2
        have hand : bits BinOp.and IntKind.i64 (y : Int) 0 = ((y % 1 : Nat) : Int) := and_m y 0 0 (by omega) (by decide) (by decide)
        obtain ⟨qb, hqb⟩ : ∃ qb, qb = y / 1 := ⟨_, rfl⟩
        have hqi : (y : Int) = (qb : Int) := by omega
        rw [← hqb] at hg2 hb2
        obtain rfl : qb = y := by rw [hqb, Nat.div_one]
        have HQI := Lib.hid hqi
        have HQY := Lib.hid (show qb ≤ qb from Nat.le_refl _)
        have hqn : (UInt8.ofNat qb).toNat = qb := by rw [UInt8.toNat_ofNat']; omega
        have hcb := Lib.hid (show Lib.byteCells [UInt8.ofNat qb] = [.int .u8 (qb : Int)] by unfold Lib.byteCells; simp only [List.map_cons, List.map_nil, hqn])
        have HG2 := Lib.hid hg2
        have hmm : qb % 1 < 1 := Nat.mod_lt _ (by decide)
        clear hq hr hqb hg2 hqn hqi
        generalize qb % 1 = z at *
        have hd8 : decide ((8 : Int) ≤ 3 + 5) = true := by decide
        have hyq := HQY.out
        go_wp2_with (at_builtin; refine wpList_append_own _ rfl (.tmp 91) (.tmp 96) 35 rfl R 5 j0 (.int .u8 0) 1 1 Try.underlying35 JI.out JZ0.out JZ1.out JZ2.out rfl (by decide) u10 O.length (Lib.byteCells O) rfl (OWN.out.alloc _) ⟨wr.heap.size, 0, none⟩ 1 1 [.int .u8 (qb : Int)] rfl rfl (by first | exact news_new wr [.int .u8 (qb : Int)] _ _ rfl | exact fun j u h => h) (fun x hx => by rw [List.mem_singleton] at hx; subst hx; rfl) (by unfold maxLen; omega) (by omega) (by first | omega | (simp; omega)) ?_; intro v5 w5 own5 hg5 _)
        have bel5 : Below R w4 w5 := (BL.out.alloc hRr _).grown hg5 (by simp; omega) (fun q hq => (OWN.out.lt q hq).1)
        rw [← hcb.out, byteCells_append] at own5
        have own6 : w5.ownsRow R 5 1 v5 (O ++ [UInt8.ofNat qb]).length (Lib.byteCells (O ++ [UInt8.ofNat qb])) := by rw [List.length_append]; exact own5
        clear own5 hg5
        go_wp2_with fail
        go_roundw
        case rel => exact ⟨k + 1, 0, z, O ++ [UInt8.ofNat qb], by omega, rfl, rfl, by rw [HCN.out], by go_num, HG2.out, own6, bel5⟩
        case measure => simp [intOf]; omega
      · have hq : y / 2 ^ ((4 : Nat) + 5 - 8) = y / 2 := rfl
        have hr : y % 2 ^ ((4 : Nat) + 5 - 8) = y % 2 := rfl
        rw [hq, hr] at hg2
        rw [hq] at hb2
        have hand : bits BinOp.and IntKind.i64 (y : Int) 1 = ((y % 2 : Nat) : Int) := and_m y 1 1 (by omega) (by decide) (by decide)
        obtain ⟨qb, hqb⟩ : ∃ qb, qb = y / 2 := ⟨_, rfl⟩
        have hqi : (y : Int) / 2 = (qb : Int) := by omega
        rw [← hqb] at hg2 hb2
        have HQI := Lib.hid hqi
        have HQY := Lib.hid (show qb ≤ y by rw [hqb]; exact Nat.div_le_self _ _)
        have hqn : (UInt8.ofNat qb).toNat = qb := by rw [UInt8.toNat_ofNat']; omega
        have hcb := Lib.hid (show Lib.byteCells [UInt8.ofNat qb] = [.int .u8 (qb : Int)] by unfold Lib.byteCells; simp only [List.map_cons, List.map_nil, hqn])
        have HG2 := Lib.hid hg2
        have hmm : y % 2 < 2 := Nat.mod_lt _ (by decide)
        clear hq hr hqb hg2 hqn
        generalize y % 2 = z at *
        have hd8 : decide ((8 : Int) ≤ 4 + 5) = true := by decide
        have hyq := HQY.out
        go_wp2_with (at_builtin; refine wpList_append_own _ rfl (.tmp 91) (.tmp 96) 35 rfl R 5 j0 (.int .u8 0) 1 1 Try.underlying35 JI.out JZ0.out JZ1.out JZ2.out rfl (by decide) u10 O.length (Lib.byteCells O) rfl (OWN.out.alloc _) ⟨wr.heap.size, 0, none⟩ 1 1 [.int .u8 (qb : Int)] rfl rfl (by first | exact news_new wr [.int .u8 (qb : Int)] _ _ rfl | exact fun j u h => h) (fun x hx => by rw [List.mem_singleton] at hx; subst hx; rfl) (by unfold maxLen; omega) (by omega) (by first | omega | (simp; omega)) ?_; intro v5 w5 own5 hg5 _)
        have bel5 : Below R w4 w5 := (BL.out.alloc hRr _).grown hg5 (by simp; omega) (fun q hq => (OWN.out.lt q hq).1)
        rw [← hcb.out, byteCells_append] at own5
        have own6 : w5.ownsRow R 5 1 v5 (O ++ [UInt8.ofNat qb]).length (Lib.byteCells (O ++ [UInt8.ofNat qb])) := by rw [List.length_append]; exact own5
        clear own5 hg5
        go_wp2_with fail
        go_roundw
        case rel => exact ⟨k + 1, 1, z, O ++ [UInt8.ofNat qb], by omega, rfl, rfl, by rw [HCN.out], by go_num, HG2.out, own6, bel5⟩
        case measure => simp [intOf]; omega
      · have hq : y / 2 ^ ((5 : Nat) + 5 - 8) = y / 4 := rfl
        have hr : y % 2 ^ ((5 : Nat) + 5 - 8) = y % 4 := rfl
        rw [hq, hr] at hg2
        rw [hq] at hb2
        have hand : bits BinOp.and IntKind.i64 (y : Int) 3 = ((y % 4 : Nat) : Int) := and_m y 2 3 (by omega) (by decide) (by decide)
        obtain ⟨qb, hqb⟩ : ∃ qb, qb = y / 4 := ⟨_, rfl⟩
        have hqi : (y : Int) / 4 = (qb : Int) := by omega
        rw [← hqb] at hg2 hb2
        have HQI := Lib.hid hqi
        have HQY := Lib.hid (show qb ≤ y by rw [hqb]; exact Nat.div_le_self _ _)
        have hqn : (UInt8.ofNat qb).toNat = qb := by rw [UInt8.toNat_ofNat']; omega
        have hcb := Lib.hid (show Lib.byteCells [UInt8.ofNat qb] = [.int .u8 (qb : Int)] by unfold Lib.byteCells; simp only [List.map_cons, List.map_nil, hqn])
        have HG2 := Lib.hid hg2
        have hmm : y % 4 < 4 := Nat.mod_lt _ (by decide)
        clear hq hr hqb hg2 hqn
        generalize y % 4 = z at *
        have hd8 : decide ((8 : Int) ≤ 5 + 5) = true := by decide
        have hyq := HQY.out
        go_wp2_with (at_builtin; refine wpList_append_own _ rfl (.tmp 91) (.tmp 96) 35 rfl R 5 j0 (.int .u8 0) 1 1 Try.underlying35 JI.out JZ0.out JZ1.out JZ2.out rfl (by decide) u10 O.length (Lib.byteCells O) rfl (OWN.out.alloc _) ⟨wr.heap.size, 0, none⟩ 1 1 [.int .u8 (qb : Int)] rfl rfl (by first | exact news_new wr [.int .u8 (qb : Int)] _ _ rfl | exact fun j u h => h) (fun x hx => by rw [List.mem_singleton] at hx; subst hx; rfl) (by unfold maxLen; omega) (by omega) (by first | omega | (simp; omega)) ?_; intro v5 w5 own5 hg5 _)
        have bel5 : Below R w4 w5 := (BL.out.alloc hRr _).grown hg5 (by simp; omega) (fun q hq => (OWN.out.lt q hq).1)
        rw [← hcb.out, byteCells_append] at own5
        have own6 : w5.ownsRow R 5 1 v5 (O ++ [UInt8.ofNat qb]).length (Lib.byteCells (O ++ [UInt8.ofNat qb])) := by rw [List.length_append]; exact own5
        clear own5 hg5
        go_wp2_with fail
        go_roundw
        case rel => exact ⟨k + 1, 2, z, O ++ [UInt8.ofNat qb], by omega, rfl, rfl, by rw [HCN.out], by go_num, HG2.out, own6, bel5⟩
        case measure => simp [intOf]; omega
      · have hq : y / 2 ^ ((6 : Nat) + 5 - 8) = y / 8 := rfl
        have hr : y % 2 ^ ((6 : Nat) + 5 - 8) = y % 8 := rfl
        rw [hq, hr] at hg2
        rw [hq] at hb2
        have hand : bits BinOp.and IntKind.i64 (y : Int) 7 = ((y % 8 : Nat) : Int) := and_m y 3 7 (by omega) (by decide) (by decide)
        obtain ⟨qb, hqb⟩ : ∃ qb, qb = y / 8 := ⟨_, rfl⟩
        have hqi : (y : Int) / 8 = (qb : Int) := by omega
        rw [← hqb] at hg2 hb2
        have HQI := Lib.hid hqi
        have HQY := Lib.hid (show qb ≤ y by rw [hqb]; exact Nat.div_le_self _ _)
        have hqn : (UInt8.ofNat qb).toNat = qb := by rw [UInt8.toNat_ofNat']; omega
        have hcb := Lib.hid (show Lib.byteCells [UInt8.ofNat qb] = [.int .u8 (qb : Int)] by unfold Lib.byteCells; simp only [List.map_cons, List.map_nil, hqn])
        have HG2 := Lib.hid hg2
        have hmm : y % 8 < 8 := Nat.mod_lt _ (by decide)
        clear hq hr hqb hg2 hqn
        generalize y % 8 = z at *
        have hd8 : decide ((8 : Int) ≤ 6 + 5) = true := by decide
        have hyq := HQY.out
        go_wp2_with (at_builtin; refine wpList_append_own _ rfl (.tmp 91) (.tmp 96) 35 rfl R 5 j0 (.int .u8 0) 1 1 Try.underlying35 JI.out JZ0.out JZ1.out JZ2.out rfl (by decide) u10 O.length (Lib.byteCells O) rfl (OWN.out.alloc _) ⟨wr.heap.size, 0, none⟩ 1 1 [.int .u8 (qb : Int)] rfl rfl (by first | exact news_new wr [.int .u8 (qb : Int)] _ _ rfl | exact fun j u h => h) (fun x hx => by rw [List.mem_singleton] at hx; subst hx; rfl) (by unfold maxLen; omega) (by omega) (by first | omega | (simp; omega)) ?_; intro v5 w5 own5 hg5 _)
        have bel5 : Below R w4 w5 := (BL.out.alloc hRr _).grown hg5 (by simp; omega) (fun q hq => (OWN.out.lt q hq).1)
        rw [← hcb.out, byteCells_append] at own5
        have own6 : w5.ownsRow R 5 1 v5 (O ++ [UInt8.ofNat qb]).length (Lib.byteCells (O ++ [UInt8.ofNat qb])) := by rw [List.length_append]; exact own5
        clear own5 hg5
        go_wp2_with fail
        go_roundw
        case rel => exact ⟨k + 1, 3, z, O ++ [UInt8.ofNat qb], by omega, rfl, rfl, by rw [HCN.out], by go_num, HG2.out, own6, bel5⟩
        case measure => simp [intOf]; omega
      · have hq : y / 2 ^ ((7 : Nat) + 5 - 8) = y / 16 := rfl
        have hr : y % 2 ^ ((7 : Nat) + 5 - 8) = y % 16 := rfl
        rw [hq, hr] at hg2
        rw [hq] at hb2
        have hand : bits BinOp.and IntKind.i64 (y : Int) 15 = ((y % 16 : Nat) : Int) := and_m y 4 15 (by omega) (by decide) (by decide)
        obtain ⟨qb, hqb⟩ : ∃ qb, qb = y / 16 := ⟨_, rfl⟩
        have hqi : (y : Int) / 16 = (qb : Int) := by omega
        rw [← hqb] at hg2 hb2
        have HQI := Lib.hid hqi
        have HQY := Lib.hid (show qb ≤ y by rw [hqb]; exact Nat.div_le_self _ _)
        have hqn : (UInt8.ofNat qb).toNat = qb := by rw [UInt8.toNat_ofNat']; omega
        have hcb := Lib.hid (show Lib.byteCells [UInt8.ofNat qb] = [.int .u8 (qb : Int)] by unfold Lib.byteCells; simp only [List.map_cons, List.map_nil, hqn])
        have HG2 := Lib.hid hg2
        have hmm : y % 16 < 16 := Nat.mod_lt _ (by decide)
        clear hq hr hqb hg2 hqn
        generalize y % 16 = z at *
        have hd8 : decide ((8 : Int) ≤ 7 + 5) = true := by decide
        have hyq := HQY.out
        go_wp2_with (at_builtin; refine wpList_append_own _ rfl (.tmp 91) (.tmp 96) 35 rfl R 5 j0 (.int .u8 0) 1 1 Try.underlying35 JI.out JZ0.out JZ1.out JZ2.out rfl (by decide) u10 O.length (Lib.byteCells O) rfl (OWN.out.alloc _) ⟨wr.heap.size, 0, none⟩ 1 1 [.int .u8 (qb : Int)] rfl rfl (by first | exact news_new wr [.int .u8 (qb : Int)] _ _ rfl | exact fun j u h => h) (fun x hx => by rw [List.mem_singleton] at hx; subst hx; rfl) (by unfold maxLen; omega) (by omega) (by first | omega | (simp; omega)) ?_; intro v5 w5 own5 hg5 _)
        have bel5 : Below R w4 w5 := (BL.out.alloc hRr _).grown hg5 (by simp; omega) (fun q hq => (OWN.out.lt q hq).1)
        rw [← hcb.out, byteCells_append] at own5
        have own6 : w5.ownsRow R 5 1 v5 (O ++ [UInt8.ofNat qb]).length (Lib.byteCells (O ++ [UInt8.ofNat qb])) := by rw [List.length_append]; exact own5
        clear own5 hg5
        go_wp2_with fail
        go_roundw
        case rel => exact ⟨k + 1, 4, z, O ++ [UInt8.ofNat qb], by omega, rfl, rfl, by rw [HCN.out], by go_num, HG2.out, own6, bel5⟩
        case measure => simp [intOf]; omega
    · have dk : decide ((k : Int) < (l.length : Int)) = false := decide_eq_false (by omega)
      have dk2 : decide (k < l.length) = false := decide_eq_false hlt
      obtain rfl : k = l.length := by omega
      rw [List.take_length] at hG ⊢
      obtain ⟨hx, hO⟩ := hG.done
      have hx128 : x < 128 := Nat.lt_of_lt_of_le hG.low (Nat.le_trans (Nat.pow_le_pow_right (by decide) (by have := hG.few; omega : t ≤ 7)) (by decide))
      have HX := Lib.hid hx
      have HO := Lib.hid hO
      have OWN := Lib.hid own
      have belF := Lib.hid (HW4.out.1.trans (bel.mono hWR))
      clear hx hO hG own hlt
      generalize hcc : ckV l = cc at *
      clear hcc
      by_cases hck : cc = c
      · have d8 : ((cc : Int) == (c : Int)) = true := by rw [beq_iff_eq]; omega
        have HE3 := Lib.hid (HE2.out.trans (if_neg (fun h => h hck)))
        rw [← HX.out] at HE3
        clear HE2 hck
        by_cases hx0 : x = 0
        · have d9 : ((x : Int) == 0) = true := by rw [beq_iff_eq]; omega
          have hn3 := Lib.hid (HE3.out.trans (if_neg (fun h => h hx0)))
          have ha3 := Lib.hid (HAA.out.trans (if_pos hn3.out))
          rw [← HO.out] at ha3
          clear HE3 HAA hx0
          rcases OWN.out.2 with ⟨rfl, h0⟩ | ⟨g, cpo, cur, rfl, hg1, hg2, hg3, hg4, hg5, hg6⟩
          · have hO0 : O = [] := List.length_eq_zero_iff.1 h0
            subst hO0
            clear h0
            have hnil := run_nil_str
            go_wp2_with fail
            go_ret2
            exact ⟨by rw [hn3.out, ha3.out]; rfl, by rw [HW.out]; exact belF.out⟩
          · have hrange : wr.rangeAt g 0 (Lib.byteCells O) := fun j v hv => by
              have := OWN.out.cells (g := g) rfl j v hv
              rw [add_cell] at this
              rw [Nat.zero_add]; exact this
            have HRG := Lib.hid hrange
            clear hg1 hg2 hg3 hg4 hg5 hg6 hrange OWN
            go_wp2_with (refine wpList_bytes_back rfl _ 35 9 5 rfl Try.underlying35 Try.underlying5 Try.underlying9 g cpo O.length O rfl rfl HRG.out ?_)
            go_ret2
            exact ⟨by rw [hn3.out, ha3.out]; rfl, by rw [HW.out]; exact belF.out⟩
        · have d9 : ((x : Int) == 0) = false := by rw [beq_eq_false_iff_ne]; omega
          have hn3 := Lib.hid (HE3.out.trans (if_pos hx0))
          have ha3 := Lib.hid (HAA.out.trans (if_neg (by rw [hn3.out]; decide)))
          clear HE3 HAA hx0
          go_wp2_with fail
          go_ret2
          exact ⟨by rw [hn3.out, ha3.out]; rfl, by rw [HW.out]; exact belF.out⟩
      · have d8 : ((cc : Int) == (c : Int)) = false := by rw [beq_eq_false_iff_ne]; omega
        have hn3 := Lib.hid (HE2.out.trans (if_pos hck))
        have ha3 := Lib.hid (HAA.out.trans (if_neg (by rw [hn3.out]; decide)))
        clear HE2 HAA hck
        go_wp2_with fail
        go_ret2
        exact ⟨by rw [hn3.out, ha3.out]; rfl, by rw [HW.out]; exact belF.out⟩
end Go.Proofs.Ytohemcdcmlngiaa
