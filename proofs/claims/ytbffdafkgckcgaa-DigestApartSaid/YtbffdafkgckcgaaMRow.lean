/- A row of bytes that a conversion has made: its mark lies behind its last cell. -/
import Derived.Test.YtbffdafkgckcgaaBytes
namespace Go.Proofs.Ytbffdafkgckcgaa
open Go.RowKit

/-- Block g is such a row of c cells, and holds the bytes l, n of them. -/
def MRow (w : World) (g n c : Nat) (l : List UInt8) : Prop :=
  l.length = n ∧ n ≤ c ∧ c ≤ 9223372036854775807 ∧ ∃ cs : Array Value, cs.size = c ∧ w.heap[g]? = some (.cells cs 5 (c, c + 1)) ∧ cs.toList.take n = vb l
section
variable {w w' : World} {g n c : Nat} {l : List UInt8}
theorem MRow.arg (h : MRow w g n c l) : BArg w (some ⟨g, 0, none⟩) n c l := by
  obtain ⟨h1, h2, h3, cs, _, hg, hx⟩ := h
  exact BArg.of_row hg h1 h2 h3 hx
theorem MRow.cell (h : MRow w g n c l) {j : Nat} (hj : j < n) : w.cell? ⟨g, j, none⟩ = some (.int .u8 ((l.getD j 0).toNat : Int)) := by
  obtain ⟨h1, h2, h3, cs, _, hg, hx⟩ := h
  rw [cell_of_row w g j _ _ _ hg, ← Array.getElem?_toList, ← List.getElem?_take_of_lt hj, hx, vb_get]
  simp [List.getD, List.getElem?_eq_getElem (show j < l.length by omega)]
theorem MRow.free (h : MRow w g n c l) {j : Nat} (hj : j < n) : w.frozen? ⟨g, j, none⟩ = false := by
  obtain ⟨h1, h2, h3, cs, _, hg, hx⟩ := h
  simp only [World.frozen?, hg]
  have : ¬ c ≤ j := by omega
  simp [this]
theorem MRow.stored (h : MRow w g n c l) (j : Nat) (z : UInt8) : MRow (w.setCell ⟨g, j, none⟩ (.int .u8 (z.toNat : Int))) g n c (l.set j z) := by
  obtain ⟨h1, h2, h3, cs, hs, hg, hx⟩ := h
  refine ⟨by rw [List.length_set]; exact h1, h2, h3, cs.setIfInBounds j (.int .u8 (z.toNat : Int)), by rw [Array.size_setIfInBounds]; exact hs, ?_, ?_⟩
  · simp [World.setCell, Array.getElem?_modify, hg]
  · rw [Array.toList_setIfInBounds, List.take_set, hx]
    simp [vb, List.map_set]
theorem MRow.below (h : MRow w g n c l) (hb : Below w.heap.size w w') : MRow w' g n c l := by
  obtain ⟨h1, h2, h3, cs, hs, hg, hx⟩ := h
  exact ⟨h1, h2, h3, cs, hs, (hb.block _ (Array.getElem?_eq_some_iff.1 hg).1).trans hg, hx⟩
end
theorem MRow.of_text (w : World) (s : ByteArray) (hs : s.size ≤ 9223372036854775807) : MRow (tworld w s) w.heap.size s.size (tcap w s) (sb s) := by
  have h1 := grownCap_ge w s.size 0 5
  have h2 := grownCap_le_maxLen w s.size 0 5 (by unfold maxLen; omega)
  unfold maxLen at h2
  have hsz : (Lib.bytesCells w 5 s).size = tcap w s := by
    unfold Lib.bytesCells tcap
    simp
    omega
  refine ⟨sb_size s, h1, h2, Lib.bytesCells w 5 s, hsz, ?_, ?_⟩
  · have := Lib.bytesWorld_at_new w 5 s
    rw [hsz] at this
    exact this
  · unfold Lib.bytesCells
    rw [Array.toList_append, List.take_append_of_le_length (by simp), List.take_of_length_le (by simp)]
    simp [vb, sb]
end Go.Proofs.Ytbffdafkgckcgaa
