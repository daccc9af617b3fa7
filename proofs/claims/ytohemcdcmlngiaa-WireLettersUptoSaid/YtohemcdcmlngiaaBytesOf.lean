/-
  '[]byte(s)': a new row that reads as the text.
-/
import Derived.Test.YtohemcdcmlngiaaBytes
namespace Go.Proofs.Ytohemcdcmlngiaa
open Go.RowKit ML FM

/-- '[]byte(s)': a new row that reads as the text -/
theorem wpList_bytes_of {P : Program} {w : World} {ops : Array Oper} {rest : List Oper} {o : Oper} {a : Act} {Q : Exit → Act → World → Prop} (hgd : o.guard = none) (x : Operand) (src dst e : TypeId)
    (ho : o.op = .convert src dst x) (hs : P.underlying src = some .string) (hd : P.underlying dst = some (.slice e)) (he : P.underlying e = some (.int .u8)) (D : Bytes) (hx : a.eval x = .string ⟨D.toArray⟩)
    (h : ∀ cap w', Below w.heap.size w w' → w.heap.size < w'.heap.size → (∀ j, j < D.length → w'.cell? ⟨w.heap.size, j, none⟩ = some (.int .u8 (byteN D j : Int))) → wpList P ops Q rest (a.put o.dst (.slice (some ⟨w.heap.size, 0, none⟩) D.length cap)) w') : wpList P ops Q (o :: rest) a w := by
  refine wpList_plain hgd fun K hK => ?_
  have hrun := run_bytes_of_string (P := P) w src dst e ⟨D.toArray⟩ hs hd he
  rw [size_mk] at hrun
  unfold Oper.wp
  simp only [execOp, ho, hx]
  generalize hc : grownCap w D.length 0 e = cap at *
  have hW := h cap _ (((Below.refl w.heap.size w).drew).alloc (Nat.le_refl _) (.cells (bytesRow ⟨D.toArray⟩ cap) e ((bytesRow ⟨D.toArray⟩ cap).size, (bytesRow ⟨D.toArray⟩ cap).size + 1))) (by simp) (fun j hj => by
    have hb := bytesRow_at ⟨D.toArray⟩ cap j (by simpa using hj)
    have hh : (w.drew.alloc (.cells (bytesRow ⟨D.toArray⟩ cap) e ((bytesRow ⟨D.toArray⟩ cap).size, (bytesRow ⟨D.toArray⟩ cap).size + 1))).heap[w.heap.size]? = some (.cells (bytesRow ⟨D.toArray⟩ cap) e ((bytesRow ⟨D.toArray⟩ cap).size, (bytesRow ⟨D.toArray⟩ cap).size + 1)) := heap_at rfl
    unfold World.cell?
    simp only [hh]
    rw [hb]
    simp [byteN, List.getD_eq_getElem?_getD, hj])
  simp [hrun, Result.andThen] at hK ⊢
  exact hK _ _ hW
end Go.Proofs.Ytohemcdcmlngiaa
