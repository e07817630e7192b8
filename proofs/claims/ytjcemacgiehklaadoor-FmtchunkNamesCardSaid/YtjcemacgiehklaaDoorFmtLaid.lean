/- What the rows' condition says of the package's variables. -/
import Derived.Test.YtjcemacgiehklaaDoorFmt
import Derived.Lib.LaidTab
import Derived.Stop.LaidErr
import Derived.LaidMore
namespace Go.Proofs.YtjcemacgiehklaaDoor
open Go.ChangeShapes Go.WideShapes Go.ChangeAt Go.RowKit

theorem gW : Tryd.prog.globalNamed "cadenza/fmtchunk.widths" = some 0 := by kernel_rfl
theorem gG : Tryd.prog.globalNamed "cadenza/fmtchunk.guid" = some 1 := by kernel_rfl
theorem tyW : (Tryd.prog.globals[0]?).map (·.type) = some 52 := by kernel_rfl
theorem tyG : (Tryd.prog.globals[1]?).map (·.type) = some 60 := by kernel_rfl

theorem fvars_of_laid {W : World} (h : laidMetH Tryd.prog Rows.fmtchunkWritesRow.laid W) : FVars W := by
  have h1 : laidMet Tryd.prog [("cadenza/fmtchunk.widths", Lib.tabData .i64 [2, 2, 4, 4, 2, 2, 2, 2, 4]), ("cadenza/fmtchunk.guid", Lib.tabData .u8 [1, 0, 0, 0, 0, 0, 16, 0, 128, 0, 0, 170, 0, 56, 155, 113])] W := h
  have hW := Lib.tabIs_of_head gW tyW Tryd.underlying52 Tryd.underlying3 (by kernel_rfl) (by kernel_rfl) h1
  have hG := Lib.tabIs_of_head gG tyG Tryd.underlying60 Tryd.underlying5 (by kernel_rfl) (by kernel_rfl) h1.tail
  have cG : ∀ i, i < 16 → W.cell? ⟨1, i, none⟩ = some (.int .u8 (([1, 0, 0, 0, 0, 0, 16, 0, 128, 0, 0, 170, 0, 56, 155, 113] : List Int).getD i 0)) := fun i hi => hG.cell gG i hi
  have hb := World.block_lt_of_cell? _ _ (cG 0 (by decide))
  have hrow : ∃ t fr, W.heap[(0 : Nat)]? = some (.cells (ints .i64 wdI) t fr) := by
    have hw : W.var? Tryd.prog "cadenza/fmtchunk.widths" = some (ints .i64 wdI) := hW
    unfold World.var? at hw
    rw [gW] at hw
    simp only [Option.bind_some] at hw
    split at hw
    · rename_i cs t fr hc
      injection hw with hw
      exact ⟨t, fr, by rw [hc, hw]⟩
    · cases hw
  refine ⟨hrow, fun j hj => ?_, ⟨rfl, by decide, by decide, ⟨rfl, fun _ => ⟨_, rfl, rfl, hb, fun j u hu => ?_⟩⟩, fun h => by cases h⟩, hb⟩
  · have := hW.cell gW j hj
    rw [this]
    congr 2
    have : j = 0 ∨ j = 1 ∨ j = 2 ∨ j = 3 ∨ j = 4 ∨ j = 5 ∨ j = 6 ∨ j = 7 ∨ j = 8 := by omega
    rcases this with h | h | h | h | h | h | h | h | h <;> subst h <;> rfl
  · have hj : j < 16 := by
      have := (List.getElem?_eq_some_iff.1 hu).1
      simpa [vb, guidL] using this
    have e : (⟨1, 0, none⟩ : Addr).add j = ⟨1, j, none⟩ := by
      unfold Addr.add
      by_cases h0 : j = 0
      · subst h0; rfl
      · simp [h0]
    rw [e, cG j hj, ← hu]
    have : j = 0 ∨ j = 1 ∨ j = 2 ∨ j = 3 ∨ j = 4 ∨ j = 5 ∨ j = 6 ∨ j = 7 ∨ j = 8 ∨ j = 9 ∨ j = 10 ∨ j = 11 ∨ j = 12 ∨ j = 13 ∨ j = 14 ∨ j = 15 := by omega
    rcases this with h | h | h | h | h | h | h | h | h | h | h | h | h | h | h | h <;> subst h <;> rfl

/-- The door's own heap meets the condition. -/
theorem door_met (os : Os) (args : Array Value) : laidMetH Tryd.prog Rows.fmtchunkWritesRow.laid ((World.doorLaid Tryd.prog 19 os).forCall (fun _ _ => 0) ⟨#[], args, []⟩).memory :=
  laidMetH_of_parts3 (fuel := 8) (laidMet_of_run' 8 (by kernel_rfl) (by kernel_rfl)) (by kernel_rfl) (by kernel_rfl)
end Go.Proofs.YtjcemacgiehklaaDoor
