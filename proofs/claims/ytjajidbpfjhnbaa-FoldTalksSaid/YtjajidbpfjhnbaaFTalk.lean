/-
  fold.Talk and the reference's: each function's contract.
  Conditions: what is joined is within the reach.
-/
import Derived.Test.YtjajidbpfjhnbaaFStream
import Derived.Laws.Rows
namespace Go.Proofs.Ytjajidbpfjhnbaa
set_option linter.unusedVariables false
set_option linter.unusedSimpArgs false
open Go.RowKit ML FM

def talkL : Bytes := [116, 97, 108, 107]
def sayL : Bytes := [115, 97, 121]
def askL : Bytes := [97, 115, 107]
def askedL : Bytes := [97, 115, 107, 101, 100]
def newT (L : Bytes) : Bytes := digestL [] (joinL talkL [L])
def sayT (S L B : Bytes) : Bytes := digestL [] (joinL sayL [S, L, B])
def askT (S L : Bytes) : Bytes := digestL [] (joinL askL [S, L])
def askedT (S L : Bytes) : Bytes := digestL [] (joinL askedL [S, L])
theorem len_join1 (X A : Bytes) : (joinL X [A]).length = X.length + A.length + 8 := by
  simp only [joinL, List.flatMap_cons, List.flatMap_nil, List.append_nil, List.length_append, fourN, List.length_cons, List.length_nil]; omega
theorem len_join2 (X A B : Bytes) : (joinL X [A, B]).length = X.length + A.length + B.length + 12 := by
  simp only [joinL, List.flatMap_cons, List.flatMap_nil, List.append_nil, List.length_append, fourN, List.length_cons, List.length_nil]; omega
theorem len_join3 (X A B C : Bytes) : (joinL X [A, B, C]).length = X.length + A.length + B.length + C.length + 16 := by
  simp only [joinL, List.flatMap_cons, List.flatMap_nil, List.append_nil, List.length_append, fourN, List.length_cons, List.length_nil]; omega
theorem len_newT (L : Bytes) : (newT L).length = 32 := length_digestL _ _
theorem len_sayT (S L B : Bytes) : (sayT S L B).length = 32 := length_digestL _ _
theorem len_askedT (S L : Bytes) : (askedT S L).length = 32 := length_digestL _ _
theorem size_rtalk : (Try.prog.info? 46).map (·.size) = some 1 := by kernel_rfl
theorem one_str (X : Bytes) : (#[Value.string ⟨X.toArray⟩] : Array Value).all (·.oneCell') = true := by simp [Value.oneCell']
def NewGot (L : Bytes) (t : TypeId) (w : World) (e : Ending) (w' : World) : Prop :=
  ∃ b, e = .returned (.pointer (some ⟨b, 0, none⟩)) ∧ w.heap.size ≤ b ∧ w'.heap[b]? = some (.cells #[.string ⟨(newT L).toArray⟩] t (0, 0)) ∧ Below w.heap.size w w'
set_option maxHeartbeats 4000000 in
set_option maxRecDepth 100000 in
theorem newTalk_any (L : Bytes) (w : World) (hL : L.length < 200000000000000) :
    Calls Try.prog 23 #[.string ⟨L.toArray⟩] w (NewGot L 82 w) := by
  have QT := Lib.hid (fun (g : Nat) (w3 : World) (h : w3.heap[g]? = some (.cells #[.string ⟨L.toArray⟩] 9 (0, 0))) =>
    tag_any talkL (some ⟨g, 0, none⟩) [L] 1 w3 (strsAt_block h rfl) (by rw [len_join1, show talkL.length = 4 from rfl]; omega) (by show 1 < 9223372036854775807; decide))
  have HN := Lib.hid (show digestL [] (joinL talkL [L]) = newT L from rfl)
  rw [HN.out] at QT
  clear hL
  go_enter Try.func23, Try.ntmps23
  go_wp2_with (go_at_call 43; refine (QT.out w.heap.size _ (heap_at rfl)).mono ?_; rintro e w2 ⟨rfl, hb2⟩)
  go_ret
  have hb3 : Below w.heap.size w w2 := ((Below.refl _ _).alloc (Nat.le_refl _) _).trans (hb2.mono (by simp))
  exact ⟨w2.heap.size, rfl, hb3.size, heap_at rfl, hb3.alloc hb3.size _⟩
set_option maxHeartbeats 4000000 in
set_option maxRecDepth 100000 in
theorem refNewTalk_any (L : Bytes) (w : World) (hL : L.length < 200000000000000) :
    Calls Try.prog 24 #[.string ⟨L.toArray⟩] w fun e w' => e = .returned (.agg #[.string ⟨(newT L).toArray⟩]) ∧ Below w.heap.size w w' := by
  have QT := Lib.hid (fun (g : Nat) (w3 : World) (h : w3.heap[g]? = some (.cells #[.string ⟨L.toArray⟩] 9 (0, 0))) =>
    refTag_any talkL (some ⟨g, 0, none⟩) [L] 1 w3 (strsAt_block h rfl) (by rw [len_join1, show talkL.length = 4 from rfl]; omega) (by show 1 < 9223372036854775807; decide))
  have HN := Lib.hid (show digestL [] (joinL talkL [L]) = newT L from rfl)
  rw [HN.out] at QT
  clear hL
  have HSZ := Lib.hid size_rtalk
  go_enter Try.func24, Try.ntmps24
  go_upto_region 1 with (fail)
  generalize hB : w.heap.size = B at *
  refine wp_abs (fun w1 => Below B w w1 ∧ w1.heap[B]? = some (.cells #[.string ⟨#[]⟩] 46 (0, 0))) ⟨by rw [← hB]; exact (Below.refl _ _).alloc (Nat.le_refl _) _, by rw [← hB]; exact heap_at rfl⟩ (fun w1 hw1 => ?_)
  have HB := Lib.hid hB
  clear hB
  obtain ⟨bel1, h1⟩ := hw1
  have hlt := lt_of_heap h1
  have BEL1 := Lib.hid bel1
  have H1 := Lib.hid h1
  clear bel1 h1
  go_wp2_with (first
    | (go_at_call 22; refine (QT.out w1.heap.size _ (heap_at rfl)).mono ?_; rintro e w2 ⟨rfl, hb2⟩)
    | (refine wpList_store_whole rfl rfl 46 _ _ rfl B #[.string ⟨#[]⟩] #[.string ⟨(newT L).toArray⟩] 46 rfl rfl (bel_keep (((Below.refl _ _).alloc (Nat.le_refl _) _).trans (hb2.mono (by simp))) hlt H1.out) rfl HSZ.out (one_str _) ?_; intro w3 ho hp))
  refine bodyPost_ret (results_cell_row rfl _ w3 B _ _ _ _ rfl hp Try.underlying46 rfl HSZ.out) rfl ⟨rfl, ?_⟩
  rw [HB.out]
  exact bel_only (BEL1.out.trans ((((Below.refl _ _).alloc (Nat.le_refl _) _).trans (hb2.mono (by simp))).mono (by omega))) ho (Nat.le_refl _)
/-- a talk behind a pointer is turned: new blocks beside it -/
def TalkUp (b : Nat) (X : Bytes) (t : TypeId) (w w' : World) : Prop := w'.heap[b]? = some (.cells #[.string ⟨X.toArray⟩] t (0, 0)) ∧ w.grownBy w' (some b)
theorem talkUp_set {b : Nat} {S X : Bytes} {t : TypeId} {w w2 : World} (h2 : w2.heap[b]? = some (.cells #[.string ⟨S.toArray⟩] t (0, 0))) (hg : w.grownBy w2 (some b)) : TalkUp b X t w (w2.setCell ⟨b, 0, none⟩ (.string ⟨X.toArray⟩)) :=
  ⟨by rw [heap_setCell_same w2 b 0 _ _ _ h2]; rfl, gtrans hg (grown_only ((Only.refl b w2).setCell _ _))⟩
set_option maxHeartbeats 4000000 in
set_option maxRecDepth 100000 in
theorem say_any (b : Nat) (S L B : Bytes) (w : World) (hb : w.heap[b]? = some (.cells #[.string ⟨S.toArray⟩] 82 (0, 0))) (hS : S.length < 200000000000000) (hL : L.length < 200000000000000) (hB : B.length < 200000000000000) :
    Calls Try.prog 25 #[.pointer (some ⟨b, 0, none⟩), .string ⟨L.toArray⟩, .string ⟨B.toArray⟩] w fun e w' => e = .returned (.tuple #[]) ∧ TalkUp b (sayT S L B) 82 w w' := by
  have QT := Lib.hid (fun (g : Nat) (w3 : World) (h : w3.heap[g]? = some (.cells #[.string ⟨S.toArray⟩, .string ⟨L.toArray⟩, .string ⟨B.toArray⟩] 9 (0, 0))) =>
    tag_any sayL (some ⟨g, 0, none⟩) [S, L, B] 3 w3 (strsAt_block h rfl) (by rw [len_join3, show sayL.length = 3 from rfl]; omega) (by show 3 < 9223372036854775807; decide))
  have HN := Lib.hid (show digestL [] (joinL sayL [S, L, B]) = sayT S L B from rfl)
  rw [HN.out] at QT
  have hlt := lt_of_heap hb
  have c0 := cell_of_row w b 0 _ _ _ hb
  have HB := Lib.hid hb
  clear hS hL hB hb
  generalize sayT S L B = X at *
  clear HN
  go_enter Try.func25, Try.ntmps25
  go_wp2_with (go_at_call 43; refine (QT.out w.heap.size _ (heap_at rfl)).mono ?_; rintro e w2 ⟨rfl, hb2⟩; have hb3 : Below w.heap.size w w2 := ((Below.refl _ _).alloc (Nat.le_refl _) _).trans (hb2.mono (by simp)); have H2 := Lib.hid (bel_keep hb3 hlt HB.out); have c2 := cell_of_row w2 b 0 _ _ _ H2.out; have f2 := frozen_of_row w2 b 0 _ _ H2.out; have hs2 := lt_of_heap H2.out; have HB3 := Lib.hid hb3; clear hb2 hb3)
  go_end0
  exact ⟨rfl, talkUp_set H2.out (grown_below HB3.out)⟩
set_option maxHeartbeats 4000000 in
set_option maxRecDepth 100000 in
theorem ask_any (b : Nat) (S L : Bytes) (w : World) (hb : w.heap[b]? = some (.cells #[.string ⟨S.toArray⟩] 82 (0, 0))) (hS : S.length < 200000000000000) (hL : L.length < 200000000000000) :
    Calls Try.prog 28 #[.pointer (some ⟨b, 0, none⟩), .string ⟨L.toArray⟩] w fun e w' => e = .returned (.string ⟨(askT S L).toArray⟩) ∧ TalkUp b (askedT S L) 82 w w' := by
  have QT := Lib.hid (fun (g : Nat) (w3 : World) (h : w3.heap[g]? = some (.cells #[.string ⟨S.toArray⟩, .string ⟨L.toArray⟩] 9 (0, 0))) =>
    tag_any askL (some ⟨g, 0, none⟩) [S, L] 2 w3 (strsAt_block h rfl) (by rw [len_join2, show askL.length = 3 from rfl]; omega) (by show 2 < 9223372036854775807; decide))
  have QU := Lib.hid (fun (g : Nat) (w3 : World) (h : w3.heap[g]? = some (.cells #[.string ⟨S.toArray⟩, .string ⟨L.toArray⟩] 9 (0, 0))) =>
    tag_any askedL (some ⟨g, 0, none⟩) [S, L] 2 w3 (strsAt_block h rfl) (by rw [len_join2, show askedL.length = 5 from rfl]; omega) (by show 2 < 9223372036854775807; decide))
  have HN := Lib.hid (show digestL [] (joinL askL [S, L]) = askT S L from rfl)
  have HN2 := Lib.hid (show digestL [] (joinL askedL [S, L]) = askedT S L from rfl)
  rw [HN.out] at QT
  rw [HN2.out] at QU
  have hlt := lt_of_heap hb
  have c0 := cell_of_row w b 0 _ _ _ hb
  have HB := Lib.hid hb
  clear hS hL hb
  generalize askT S L = X at *
  generalize askedT S L = Y at *
  clear HN HN2
  go_enter Try.func28, Try.ntmps28
  go_upto_region 2 with (go_at_call 43; refine (QT.out w.heap.size _ (heap_at rfl)).mono ?_; rintro e w2 ⟨rfl, hb2⟩; have hb3 : Below w.heap.size w w2 := ((Below.refl _ _).alloc (Nat.le_refl _) _).trans (hb2.mono (by simp)); have H2 := Lib.hid (bel_keep hb3 hlt HB.out); have c2 := cell_of_row w2 b 0 _ _ _ H2.out; have hs2 := lt_of_heap H2.out; have HB3 := Lib.hid hb3; clear hb2 hb3 c0)
  go_upto_region 3 with (go_at_call 43; refine (QU.out w2.heap.size _ (heap_at rfl)).mono ?_; rintro e w4 ⟨rfl, hb4⟩; have hb5 : Below w2.heap.size w2 w4 := ((Below.refl _ _).alloc (Nat.le_refl _) _).trans (hb4.mono (by simp)); have H4 := Lib.hid (bel_keep hb5 hs2 H2.out); have c4 := cell_of_row w4 b 0 _ _ _ H4.out; have f4 := frozen_of_row w4 b 0 _ _ H4.out; have hs4 := lt_of_heap H4.out; have HB5 := Lib.hid hb5; clear hb4 hb5 c2)
  go_wp2_with fail
  go_ret
  exact ⟨rfl, talkUp_set H4.out (gtrans (grown_below HB3.out) (grown_below HB5.out))⟩
def ForkGot (S : Bytes) (t : TypeId) (w : World) (e : Ending) (w' : World) : Prop :=
  ∃ b, e = .returned (.pointer (some ⟨b, 0, none⟩)) ∧ w.heap.size ≤ b ∧ w'.heap[b]? = some (.cells #[.string ⟨S.toArray⟩] t (0, 0)) ∧ Below w.heap.size w w'
theorem size_talk : (Try.prog.info? 82).map (·.size) = some 1 := by kernel_rfl
set_option maxHeartbeats 4000000 in
set_option maxRecDepth 100000 in
theorem fork_any (b : Nat) (S : Bytes) (w : World) (hb : w.heap[b]? = some (.cells #[.string ⟨S.toArray⟩] 82 (0, 0))) :
    Calls Try.prog 29 #[.pointer (some ⟨b, 0, none⟩)] w (ForkGot S 82 w) := by
  have hlt := lt_of_heap hb
  have HB := Lib.hid hb
  have HSZ := Lib.hid size_talk
  clear hb
  go_enter Try.func29, Try.ntmps29
  go_wp2_with (first
    | (refine wpList_load_whole rfl 82 _ rfl b #[.string ⟨S.toArray⟩] 82 (0, 0) _ rfl HB.out Try.underlying82 rfl HSZ.out ?_)
    | (refine wpList_store_whole rfl rfl 82 _ _ rfl w.heap.size #[.string ⟨#[]⟩] #[.string ⟨S.toArray⟩] 82 rfl rfl (heap_at rfl) rfl HSZ.out (one_str _) ?_; intro w3 ho hp))
  go_ret
  exact ⟨w.heap.size, rfl, Nat.le_refl _, hp, bel_only ((Below.refl _ _).alloc (Nat.le_refl _) _) ho (Nat.le_refl _)⟩
structure TBox (B : Nat) (w w1 : World) (X Y : Array Value) (T U : TypeId) : Prop where
  bel : Below B w w1
  x : w1.heap[B]? = some (.cells X T (0, 0))
  y : w1.heap[B + 1]? = some (.cells Y U (0, 0))
theorem TBox.mk' (w : World) (X Y : Array Value) (T U : TypeId) : TBox w.heap.size w ((w.alloc (.cells X T)).alloc (.cells Y U)) X Y T U := by
  have b1 := (Below.refl w.heap.size w).alloc (Nat.le_refl _) (.cells X T)
  exact ⟨b1.alloc (by simp) _, heap_lt (heap_at rfl), heap_at (by simp)⟩
theorem TBox.keep {B : Nat} {w w1 w2 : World} {X Y : Array Value} {T U : TypeId} (h : TBox B w w1 X Y T U) (hb : Below w1.heap.size w1 w2) : TBox B w w2 X Y T U :=
  ⟨h.bel.trans (hb.mono (Nat.le_of_lt (lt_of_heap h.x))), bel_keep hb (lt_of_heap h.x) h.x, bel_keep hb (lt_of_heap h.y) h.y⟩
set_option maxHeartbeats 4000000 in
set_option maxRecDepth 100000 in
theorem refSay_any (S L B : Bytes) (w : World) (hS : S.length < 200000000000000) (hL : L.length < 200000000000000) (hB : B.length < 200000000000000) :
    Calls Try.prog 26 #[.agg #[.string ⟨S.toArray⟩], .string ⟨L.toArray⟩, .string ⟨B.toArray⟩] w fun e w' => e = .returned (.agg #[.string ⟨(sayT S L B).toArray⟩]) ∧ Below w.heap.size w w' := by
  have QT := Lib.hid (fun (g : Nat) (w3 : World) (h : w3.heap[g]? = some (.cells #[.string ⟨S.toArray⟩, .string ⟨L.toArray⟩, .string ⟨B.toArray⟩] 9 (0, 0))) =>
    refTag_any sayL (some ⟨g, 0, none⟩) [S, L, B] 3 w3 (strsAt_block h rfl) (by rw [len_join3, show sayL.length = 3 from rfl]; omega) (by show 3 < 9223372036854775807; decide))
  have HN := Lib.hid (show digestL [] (joinL sayL [S, L, B]) = sayT S L B from rfl)
  rw [HN.out] at QT
  have HSZ := Lib.hid size_rtalk
  clear hS hL hB
  generalize sayT S L B = X at *
  clear HN
  go_enter Try.func26, Try.ntmps26
  go_upto_region 1 with (fail)
  have BX := TBox.mk' w #[.string ⟨S.toArray⟩] #[.string ⟨#[]⟩] 46 46
  generalize hW : w.heap.size = W at *
  refine wp_abs (fun w1 => TBox W w w1 #[.string ⟨S.toArray⟩] #[.string ⟨#[]⟩] 46 46) BX (fun w1 B1' => ?_)
  have HW := Lib.hid hW
  have HB1 := Lib.hid B1'
  have c1 := cell_of_row w1 W 0 _ _ _ B1'.x
  have hs1 := lt_of_heap B1'.y
  clear BX hW B1'
  go_wp2_with (first
    | (go_at_call 22; refine (QT.out w1.heap.size _ (heap_at rfl)).mono ?_; rintro e w2 ⟨rfl, hb2⟩; have hb3 : Below w1.heap.size w1 w2 := ((Below.refl _ _).alloc (Nat.le_refl _) _).trans (hb2.mono (by simp)); have HB2 := Lib.hid (HB1.out.keep hb3); clear hb2 hb3 c1)
    | (refine wpList_store_whole rfl rfl 46 _ _ rfl (W + 1) #[.string ⟨#[]⟩] #[.string ⟨X.toArray⟩] 46 rfl rfl HB2.out.y rfl HSZ.out (one_str _) ?_; intro w3 ho hp))
  refine bodyPost_ret (results_cell_row rfl _ w3 (W + 1) _ _ _ _ rfl hp Try.underlying46 rfl HSZ.out) rfl ⟨rfl, ?_⟩
  rw [HW.out]
  exact bel_only HB2.out.bel ho (by omega)
end Go.Proofs.Ytjajidbpfjhnbaa
