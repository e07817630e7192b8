/- FmtchunkNames: the walk of the law. -/
import Derived.Test.YtjcemacgiehklaaDoorFmtMasksL
import Derived.Test.YtjcemacgiehklaaDoorGRow
import Derived.Test.YtjcemacgiehklaaDoorAppGW
namespace Go.Proofs.YtjcemacgiehklaaDoor
open Go.RowKit
attribute [local go_sem ↓] Go.wp_at_zero Go.wp_at_succ

theorem fnP : wrL 2 16 44100 = formL 2 16 44100 false 3 := by decide +kernel
theorem fnW : wrL 6 24 1048576 = formL 6 24 1048576 true 63 := by decide +kernel
def xorAt (L : List UInt8) (k : Nat) : List UInt8 := L.set k (L.getD k 0 ^^^ 1)
theorem fn40 : ∀ k, k < 40 → ((20 ≤ k ∧ k < 24) → rdsB (xorAt (wrL 6 24 1048576) k) 6 24 1048576 = true) ∧ (¬ (20 ≤ k ∧ k < 24) → readB (xorAt (wrL 6 24 1048576) k) = false) := by decide +kernel
theorem fn16 : ∀ k, k < 16 → readB (xorAt (wrL 2 16 44100) k) = false := by decide +kernel
theorem fnN0 : readB [] = false := by decide +kernel
theorem fnN1 : readB ((wrL 2 16 44100).take 15) = false := by decide +kernel
theorem fnN2 : readB (wrL 2 16 44100 ++ [0, 0]) = false := by decide +kernel
theorem fnN3 : readB ((wrL 6 24 1048576).take 39) = false := by decide +kernel
theorem fnN4 : readB ((wrL 6 24 1048576).take 16) = false := by decide +kernel
theorem fnN5 : readB (wrL 6 24 1048576 ++ [0]) = false := by decide +kernel
theorem fnN6 : ((wrL 6 24 1048576).take 24).drop 20 = [63, 0, 0, 0] := by decide +kernel
theorem fnLP : (wrL 2 16 44100).length = 16 := by decide +kernel
theorem fnLW : (wrL 6 24 1048576).length = 40 := by decide +kernel

theorem bcap {w : World} {a : Option Addr} {n c : Nat} {l : List UInt8} (h : BArg w a n c l) : BArg w a n n l :=
  ⟨h.len_eq, Nat.le_refl _, Nat.le_trans h.le h.small, h.reads, fun ha => by have := h.nil ha; have := h.le; omega⟩
/-- The first loop's memory. -/
def Lp1 (w wr : World) : Prop := Below w.heap.size w wr ∧ w.heap.size < wr.heap.size ∧ wr.cell? ⟨w.heap.size, 0, none⟩ = some (.int .i64 2) ∧ wr.cell? ⟨w.heap.size, 1, none⟩ = some (.int .i64 16) ∧ wr.cell? ⟨w.heap.size, 2, none⟩ = some (.int .i64 44100)
theorem Lp1.next {w wr w' : World} (h : Lp1 w wr) (hb : Below wr.heap.size wr w') : Lp1 w w' :=
  ⟨h.1.trans (hb.mono h.1.size), Nat.lt_of_lt_of_le h.2.1 hb.size, (hb.cell (p := ⟨w.heap.size, 0, none⟩) h.2.1).trans h.2.2.1, (hb.cell (p := ⟨w.heap.size, 1, none⟩) h.2.1).trans h.2.2.2.1, (hb.cell (p := ⟨w.heap.size, 2, none⟩) h.2.1).trans h.2.2.2.2⟩

set_option maxRecDepth 100000 in
set_option maxHeartbeats 8000000 in
theorem fmtnames_calls (w : World) (hv : FVars w) :
    Calls Tryd.prog 5 #[] w fun e w' => e = .returned (.bool true) ∧ Below w.heap.size w w' := by
  have HV := Lib.hid (fun w' (h : Below w.heap.size w w') => hv.below h)
  clear hv
  go_enter Tryd.func5, Tryd.ntmps5
  go_wp2_with fail
  go_loopw [2] (fun i wr => ∃ k : Nat, k ≤ 10 ∧ i = .int .i64 k ∧ Hid (Lp1 w wr)) (fun i _ => 10 - (intOf i).toNat)
  case atStart =>
    refine ⟨0, by omega, rfl, Lib.hid ?_⟩
    exact ⟨(Below.refl _ _).alloc (Nat.le_refl _) _, by simp, by rw [World.cell?_alloc_at _ _ _ _ rfl]; rfl, by rw [World.cell?_alloc_at _ _ _ _ rfl]; rfl, by rw [World.cell?_alloc_at _ _ _ _ rfl]; rfl⟩
  case round =>
    obtain ⟨k, hk, rfl, HL⟩ := hrel
    by_cases hlt : k < 10
    · have c0 := HL.out.2.2.1
      have c1 := HL.out.2.2.2.1
      have c2 := HL.out.2.2.2.2
      have hz := HL.out.2.1
      have hkk : k = 0 ∨ k = 1 ∨ k = 2 ∨ k = 3 ∨ k = 4 ∨ k = 5 ∨ k = 6 ∨ k = 7 ∨ k = 8 ∨ k = 9 := by omega
      rcases hkk with rfl | rfl | rfl | rfl | rfl | rfl | rfl | rfl | rfl | rfl
      · obtain ⟨w1, hw1, d1, d2, d3, hB, hz1⟩ := box3 wr (.int .i64 0) (.int .i64 16) (.int .i64 44100) 23
        have HW := Lib.hid hw1
        have HB := Lib.hid hB
        clear hw1 hB
        go_wp2_with fail
        rw [← HW.out]
        clear HW
        refine (write_any 0 16 44100 _ (HV.out _ (HL.out.1.trans (HB.out.mono HL.out.1.size)))).mono ?_
        rintro e w2 ⟨A2, q2, rfl, _, hb⟩
        rw [show sndE 0 16 44100 = 8 by decide]
        have HB2 := Lib.hid (HB.out.trans (hb.mono HB.out.size))
        have e1 := (hb.cell (p := ⟨wr.heap.size, 0, none⟩) hz1).trans d1
        have e2 := (hb.cell (p := ⟨wr.heap.size, 1, none⟩) hz1).trans d2
        have e3 := (hb.cell (p := ⟨wr.heap.size, 2, none⟩) hz1).trans d3
        have hz2 := Nat.lt_of_lt_of_le hz1 hb.size
        clear hb d1 d2 d3 c0 c1 c2
        go_wp2_with fail
        refine (wide_any 0 16 44100 _).mono ?_
        rintro e w3 ⟨rfl, hb⟩
        rw [show sndE 0 16 44100 = 8 by decide]
        have HB3 := Lib.hid (HB2.out.trans (hb.mono HB2.out.size))
        have f1 := (hb.cell (p := ⟨wr.heap.size, 0, none⟩) hz2).trans e1
        have f2 := (hb.cell (p := ⟨wr.heap.size, 1, none⟩) hz2).trans e2
        have f3 := (hb.cell (p := ⟨wr.heap.size, 2, none⟩) hz2).trans e3
        clear hb e1 e2 e3
        go_wp2_with fail
        refine (check_any 0 16 44100 _).mono ?_
        rintro e w4 ⟨rfl, hb⟩
        rw [show sndE 0 16 44100 = 8 by decide]
        have HB4 := Lib.hid (HB3.out.trans (hb.mono HB3.out.size))
        clear hb f1 f2 f3
        go_wp2_with fail
        go_roundw
        case rel => exact ⟨1, by omega, by rfl, Lib.hid (HL.out.next HB4.out)⟩
        case measure => simp [intOf]
      · obtain ⟨w1, hw1, d1, d2, d3, hB, hz1⟩ := box3 wr (.int .i64 7) (.int .i64 16) (.int .i64 44100) 23
        have HW := Lib.hid hw1
        have HB := Lib.hid hB
        clear hw1 hB
        go_wp2_with fail
        rw [← HW.out]
        clear HW
        refine (write_any 7 16 44100 _ (HV.out _ (HL.out.1.trans (HB.out.mono HL.out.1.size)))).mono ?_
        rintro e w2 ⟨A2, q2, rfl, _, hb⟩
        rw [show sndE 7 16 44100 = 8 by decide]
        have HB2 := Lib.hid (HB.out.trans (hb.mono HB.out.size))
        have e1 := (hb.cell (p := ⟨wr.heap.size, 0, none⟩) hz1).trans d1
        have e2 := (hb.cell (p := ⟨wr.heap.size, 1, none⟩) hz1).trans d2
        have e3 := (hb.cell (p := ⟨wr.heap.size, 2, none⟩) hz1).trans d3
        have hz2 := Nat.lt_of_lt_of_le hz1 hb.size
        clear hb d1 d2 d3 c0 c1 c2
        go_wp2_with fail
        refine (wide_any 7 16 44100 _).mono ?_
        rintro e w3 ⟨rfl, hb⟩
        rw [show sndE 7 16 44100 = 8 by decide]
        have HB3 := Lib.hid (HB2.out.trans (hb.mono HB2.out.size))
        have f1 := (hb.cell (p := ⟨wr.heap.size, 0, none⟩) hz2).trans e1
        have f2 := (hb.cell (p := ⟨wr.heap.size, 1, none⟩) hz2).trans e2
        have f3 := (hb.cell (p := ⟨wr.heap.size, 2, none⟩) hz2).trans e3
        clear hb e1 e2 e3
        go_wp2_with fail
        refine (check_any 7 16 44100 _).mono ?_
        rintro e w4 ⟨rfl, hb⟩
        rw [show sndE 7 16 44100 = 8 by decide]
        have HB4 := Lib.hid (HB3.out.trans (hb.mono HB3.out.size))
        clear hb f1 f2 f3
        go_wp2_with fail
        go_roundw
        case rel => exact ⟨2, by omega, by rfl, Lib.hid (HL.out.next HB4.out)⟩
        case measure => simp [intOf]
      · obtain ⟨w1, hw1, d1, d2, d3, hB, hz1⟩ := box3 wr (.int .i64 2) (.int .i64 0) (.int .i64 44100) 23
        have HW := Lib.hid hw1
        have HB := Lib.hid hB
        clear hw1 hB
        go_wp2_with fail
        rw [← HW.out]
        clear HW
        refine (write_any 2 0 44100 _ (HV.out _ (HL.out.1.trans (HB.out.mono HL.out.1.size)))).mono ?_
        rintro e w2 ⟨A2, q2, rfl, _, hb⟩
        rw [show sndE 2 0 44100 = 8 by decide]
        have HB2 := Lib.hid (HB.out.trans (hb.mono HB.out.size))
        have e1 := (hb.cell (p := ⟨wr.heap.size, 0, none⟩) hz1).trans d1
        have e2 := (hb.cell (p := ⟨wr.heap.size, 1, none⟩) hz1).trans d2
        have e3 := (hb.cell (p := ⟨wr.heap.size, 2, none⟩) hz1).trans d3
        have hz2 := Nat.lt_of_lt_of_le hz1 hb.size
        clear hb d1 d2 d3 c0 c1 c2
        go_wp2_with fail
        refine (wide_any 2 0 44100 _).mono ?_
        rintro e w3 ⟨rfl, hb⟩
        rw [show sndE 2 0 44100 = 8 by decide]
        have HB3 := Lib.hid (HB2.out.trans (hb.mono HB2.out.size))
        have f1 := (hb.cell (p := ⟨wr.heap.size, 0, none⟩) hz2).trans e1
        have f2 := (hb.cell (p := ⟨wr.heap.size, 1, none⟩) hz2).trans e2
        have f3 := (hb.cell (p := ⟨wr.heap.size, 2, none⟩) hz2).trans e3
        clear hb e1 e2 e3
        go_wp2_with fail
        refine (check_any 2 0 44100 _).mono ?_
        rintro e w4 ⟨rfl, hb⟩
        rw [show sndE 2 0 44100 = 8 by decide]
        have HB4 := Lib.hid (HB3.out.trans (hb.mono HB3.out.size))
        clear hb f1 f2 f3
        go_wp2_with fail
        go_roundw
        case rel => exact ⟨3, by omega, by rfl, Lib.hid (HL.out.next HB4.out)⟩
        case measure => simp [intOf]
      · obtain ⟨w1, hw1, d1, d2, d3, hB, hz1⟩ := box3 wr (.int .i64 2) (.int .i64 12) (.int .i64 44100) 23
        have HW := Lib.hid hw1
        have HB := Lib.hid hB
        clear hw1 hB
        go_wp2_with fail
        rw [← HW.out]
        clear HW
        refine (write_any 2 12 44100 _ (HV.out _ (HL.out.1.trans (HB.out.mono HL.out.1.size)))).mono ?_
        rintro e w2 ⟨A2, q2, rfl, _, hb⟩
        rw [show sndE 2 12 44100 = 8 by decide]
        have HB2 := Lib.hid (HB.out.trans (hb.mono HB.out.size))
        have e1 := (hb.cell (p := ⟨wr.heap.size, 0, none⟩) hz1).trans d1
        have e2 := (hb.cell (p := ⟨wr.heap.size, 1, none⟩) hz1).trans d2
        have e3 := (hb.cell (p := ⟨wr.heap.size, 2, none⟩) hz1).trans d3
        have hz2 := Nat.lt_of_lt_of_le hz1 hb.size
        clear hb d1 d2 d3 c0 c1 c2
        go_wp2_with fail
        refine (wide_any 2 12 44100 _).mono ?_
        rintro e w3 ⟨rfl, hb⟩
        rw [show sndE 2 12 44100 = 8 by decide]
        have HB3 := Lib.hid (HB2.out.trans (hb.mono HB2.out.size))
        have f1 := (hb.cell (p := ⟨wr.heap.size, 0, none⟩) hz2).trans e1
        have f2 := (hb.cell (p := ⟨wr.heap.size, 1, none⟩) hz2).trans e2
        have f3 := (hb.cell (p := ⟨wr.heap.size, 2, none⟩) hz2).trans e3
        clear hb e1 e2 e3
        go_wp2_with fail
        refine (check_any 2 12 44100 _).mono ?_
        rintro e w4 ⟨rfl, hb⟩
        rw [show sndE 2 12 44100 = 8 by decide]
        have HB4 := Lib.hid (HB3.out.trans (hb.mono HB3.out.size))
        clear hb f1 f2 f3
        go_wp2_with fail
        go_roundw
        case rel => exact ⟨4, by omega, by rfl, Lib.hid (HL.out.next HB4.out)⟩
        case measure => simp [intOf]
      · obtain ⟨w1, hw1, d1, d2, d3, hB, hz1⟩ := box3 wr (.int .i64 2) (.int .i64 32) (.int .i64 44100) 23
        have HW := Lib.hid hw1
        have HB := Lib.hid hB
        clear hw1 hB
        go_wp2_with fail
        rw [← HW.out]
        clear HW
        refine (write_any 2 32 44100 _ (HV.out _ (HL.out.1.trans (HB.out.mono HL.out.1.size)))).mono ?_
        rintro e w2 ⟨A2, q2, rfl, _, hb⟩
        rw [show sndE 2 32 44100 = 8 by decide]
        have HB2 := Lib.hid (HB.out.trans (hb.mono HB.out.size))
        have e1 := (hb.cell (p := ⟨wr.heap.size, 0, none⟩) hz1).trans d1
        have e2 := (hb.cell (p := ⟨wr.heap.size, 1, none⟩) hz1).trans d2
        have e3 := (hb.cell (p := ⟨wr.heap.size, 2, none⟩) hz1).trans d3
        have hz2 := Nat.lt_of_lt_of_le hz1 hb.size
        clear hb d1 d2 d3 c0 c1 c2
        go_wp2_with fail
        refine (wide_any 2 32 44100 _).mono ?_
        rintro e w3 ⟨rfl, hb⟩
        rw [show sndE 2 32 44100 = 8 by decide]
        have HB3 := Lib.hid (HB2.out.trans (hb.mono HB2.out.size))
        have f1 := (hb.cell (p := ⟨wr.heap.size, 0, none⟩) hz2).trans e1
        have f2 := (hb.cell (p := ⟨wr.heap.size, 1, none⟩) hz2).trans e2
        have f3 := (hb.cell (p := ⟨wr.heap.size, 2, none⟩) hz2).trans e3
        clear hb e1 e2 e3
        go_wp2_with fail
        refine (check_any 2 32 44100 _).mono ?_
        rintro e w4 ⟨rfl, hb⟩
        rw [show sndE 2 32 44100 = 8 by decide]
        have HB4 := Lib.hid (HB3.out.trans (hb.mono HB3.out.size))
        clear hb f1 f2 f3
        go_wp2_with fail
        go_roundw
        case rel => exact ⟨5, by omega, by rfl, Lib.hid (HL.out.next HB4.out)⟩
        case measure => simp [intOf]
      · obtain ⟨w1, hw1, d1, d2, d3, hB, hz1⟩ := box3 wr (.int .i64 2) (.int .i64 16) (.int .i64 0) 23
        have HW := Lib.hid hw1
        have HB := Lib.hid hB
        clear hw1 hB
        go_wp2_with fail
        rw [← HW.out]
        clear HW
        refine (write_any 2 16 0 _ (HV.out _ (HL.out.1.trans (HB.out.mono HL.out.1.size)))).mono ?_
        rintro e w2 ⟨A2, q2, rfl, _, hb⟩
        rw [show sndE 2 16 0 = 8 by decide]
        have HB2 := Lib.hid (HB.out.trans (hb.mono HB.out.size))
        have e1 := (hb.cell (p := ⟨wr.heap.size, 0, none⟩) hz1).trans d1
        have e2 := (hb.cell (p := ⟨wr.heap.size, 1, none⟩) hz1).trans d2
        have e3 := (hb.cell (p := ⟨wr.heap.size, 2, none⟩) hz1).trans d3
        have hz2 := Nat.lt_of_lt_of_le hz1 hb.size
        clear hb d1 d2 d3 c0 c1 c2
        go_wp2_with fail
        refine (wide_any 2 16 0 _).mono ?_
        rintro e w3 ⟨rfl, hb⟩
        rw [show sndE 2 16 0 = 8 by decide]
        have HB3 := Lib.hid (HB2.out.trans (hb.mono HB2.out.size))
        have f1 := (hb.cell (p := ⟨wr.heap.size, 0, none⟩) hz2).trans e1
        have f2 := (hb.cell (p := ⟨wr.heap.size, 1, none⟩) hz2).trans e2
        have f3 := (hb.cell (p := ⟨wr.heap.size, 2, none⟩) hz2).trans e3
        clear hb e1 e2 e3
        go_wp2_with fail
        refine (check_any 2 16 0 _).mono ?_
        rintro e w4 ⟨rfl, hb⟩
        rw [show sndE 2 16 0 = 8 by decide]
        have HB4 := Lib.hid (HB3.out.trans (hb.mono HB3.out.size))
        clear hb f1 f2 f3
        go_wp2_with fail
        go_roundw
        case rel => exact ⟨6, by omega, by rfl, Lib.hid (HL.out.next HB4.out)⟩
        case measure => simp [intOf]
      · obtain ⟨w1, hw1, d1, d2, d3, hB, hz1⟩ := box3 wr (.int .i64 2) (.int .i64 16) (.int .i64 1048577) 23
        have HW := Lib.hid hw1
        have HB := Lib.hid hB
        clear hw1 hB
        go_wp2_with fail
        rw [← HW.out]
        clear HW
        refine (write_any 2 16 1048577 _ (HV.out _ (HL.out.1.trans (HB.out.mono HL.out.1.size)))).mono ?_
        rintro e w2 ⟨A2, q2, rfl, _, hb⟩
        rw [show sndE 2 16 1048577 = 8 by decide]
        have HB2 := Lib.hid (HB.out.trans (hb.mono HB.out.size))
        have e1 := (hb.cell (p := ⟨wr.heap.size, 0, none⟩) hz1).trans d1
        have e2 := (hb.cell (p := ⟨wr.heap.size, 1, none⟩) hz1).trans d2
        have e3 := (hb.cell (p := ⟨wr.heap.size, 2, none⟩) hz1).trans d3
        have hz2 := Nat.lt_of_lt_of_le hz1 hb.size
        clear hb d1 d2 d3 c0 c1 c2
        go_wp2_with fail
        refine (wide_any 2 16 1048577 _).mono ?_
        rintro e w3 ⟨rfl, hb⟩
        rw [show sndE 2 16 1048577 = 8 by decide]
        have HB3 := Lib.hid (HB2.out.trans (hb.mono HB2.out.size))
        have f1 := (hb.cell (p := ⟨wr.heap.size, 0, none⟩) hz2).trans e1
        have f2 := (hb.cell (p := ⟨wr.heap.size, 1, none⟩) hz2).trans e2
        have f3 := (hb.cell (p := ⟨wr.heap.size, 2, none⟩) hz2).trans e3
        clear hb e1 e2 e3
        go_wp2_with fail
        refine (check_any 2 16 1048577 _).mono ?_
        rintro e w4 ⟨rfl, hb⟩
        rw [show sndE 2 16 1048577 = 8 by decide]
        have HB4 := Lib.hid (HB3.out.trans (hb.mono HB3.out.size))
        clear hb f1 f2 f3
        go_wp2_with fail
        go_roundw
        case rel => exact ⟨7, by omega, by rfl, Lib.hid (HL.out.next HB4.out)⟩
        case measure => simp [intOf]
      · obtain ⟨w1, hw1, d1, d2, d3, hB, hz1⟩ := box3 wr (.int .i64 2) (.int .i64 16) (.int .i64 (-1)) 23
        have HW := Lib.hid hw1
        have HB := Lib.hid hB
        clear hw1 hB
        go_wp2_with fail
        rw [← HW.out]
        clear HW
        refine (write_any 2 16 (-1) _ (HV.out _ (HL.out.1.trans (HB.out.mono HL.out.1.size)))).mono ?_
        rintro e w2 ⟨A2, q2, rfl, _, hb⟩
        rw [show sndE 2 16 (-1) = 8 by decide]
        have HB2 := Lib.hid (HB.out.trans (hb.mono HB.out.size))
        have e1 := (hb.cell (p := ⟨wr.heap.size, 0, none⟩) hz1).trans d1
        have e2 := (hb.cell (p := ⟨wr.heap.size, 1, none⟩) hz1).trans d2
        have e3 := (hb.cell (p := ⟨wr.heap.size, 2, none⟩) hz1).trans d3
        have hz2 := Nat.lt_of_lt_of_le hz1 hb.size
        clear hb d1 d2 d3 c0 c1 c2
        go_wp2_with fail
        refine (wide_any 2 16 (-1) _).mono ?_
        rintro e w3 ⟨rfl, hb⟩
        rw [show sndE 2 16 (-1) = 8 by decide]
        have HB3 := Lib.hid (HB2.out.trans (hb.mono HB2.out.size))
        have f1 := (hb.cell (p := ⟨wr.heap.size, 0, none⟩) hz2).trans e1
        have f2 := (hb.cell (p := ⟨wr.heap.size, 1, none⟩) hz2).trans e2
        have f3 := (hb.cell (p := ⟨wr.heap.size, 2, none⟩) hz2).trans e3
        clear hb e1 e2 e3
        go_wp2_with fail
        refine (check_any 2 16 (-1) _).mono ?_
        rintro e w4 ⟨rfl, hb⟩
        rw [show sndE 2 16 (-1) = 8 by decide]
        have HB4 := Lib.hid (HB3.out.trans (hb.mono HB3.out.size))
        clear hb f1 f2 f3
        go_wp2_with fail
        go_roundw
        case rel => exact ⟨8, by omega, by rfl, Lib.hid (HL.out.next HB4.out)⟩
        case measure => simp [intOf]
      · obtain ⟨w1, hw1, d1, d2, d3, hB, hz1⟩ := box3 wr (.int .i64 (-1)) (.int .i64 16) (.int .i64 44100) 23
        have HW := Lib.hid hw1
        have HB := Lib.hid hB
        clear hw1 hB
        go_wp2_with fail
        rw [← HW.out]
        clear HW
        refine (write_any (-1) 16 44100 _ (HV.out _ (HL.out.1.trans (HB.out.mono HL.out.1.size)))).mono ?_
        rintro e w2 ⟨A2, q2, rfl, _, hb⟩
        rw [show sndE (-1) 16 44100 = 8 by decide]
        have HB2 := Lib.hid (HB.out.trans (hb.mono HB.out.size))
        have e1 := (hb.cell (p := ⟨wr.heap.size, 0, none⟩) hz1).trans d1
        have e2 := (hb.cell (p := ⟨wr.heap.size, 1, none⟩) hz1).trans d2
        have e3 := (hb.cell (p := ⟨wr.heap.size, 2, none⟩) hz1).trans d3
        have hz2 := Nat.lt_of_lt_of_le hz1 hb.size
        clear hb d1 d2 d3 c0 c1 c2
        go_wp2_with fail
        refine (wide_any (-1) 16 44100 _).mono ?_
        rintro e w3 ⟨rfl, hb⟩
        rw [show sndE (-1) 16 44100 = 8 by decide]
        have HB3 := Lib.hid (HB2.out.trans (hb.mono HB2.out.size))
        have f1 := (hb.cell (p := ⟨wr.heap.size, 0, none⟩) hz2).trans e1
        have f2 := (hb.cell (p := ⟨wr.heap.size, 1, none⟩) hz2).trans e2
        have f3 := (hb.cell (p := ⟨wr.heap.size, 2, none⟩) hz2).trans e3
        clear hb e1 e2 e3
        go_wp2_with fail
        refine (check_any (-1) 16 44100 _).mono ?_
        rintro e w4 ⟨rfl, hb⟩
        rw [show sndE (-1) 16 44100 = 8 by decide]
        have HB4 := Lib.hid (HB3.out.trans (hb.mono HB3.out.size))
        clear hb f1 f2 f3
        go_wp2_with fail
        go_roundw
        case rel => exact ⟨9, by omega, by rfl, Lib.hid (HL.out.next HB4.out)⟩
        case measure => simp [intOf]
      · obtain ⟨w1, hw1, d1, d2, d3, hB, hz1⟩ := box3 wr (.int .i64 2) (.int .i64 (-8)) (.int .i64 44100) 23
        have HW := Lib.hid hw1
        have HB := Lib.hid hB
        clear hw1 hB
        go_wp2_with fail
        rw [← HW.out]
        clear HW
        refine (write_any 2 (-8) 44100 _ (HV.out _ (HL.out.1.trans (HB.out.mono HL.out.1.size)))).mono ?_
        rintro e w2 ⟨A2, q2, rfl, _, hb⟩
        rw [show sndE 2 (-8) 44100 = 8 by decide]
        have HB2 := Lib.hid (HB.out.trans (hb.mono HB.out.size))
        have e1 := (hb.cell (p := ⟨wr.heap.size, 0, none⟩) hz1).trans d1
        have e2 := (hb.cell (p := ⟨wr.heap.size, 1, none⟩) hz1).trans d2
        have e3 := (hb.cell (p := ⟨wr.heap.size, 2, none⟩) hz1).trans d3
        have hz2 := Nat.lt_of_lt_of_le hz1 hb.size
        clear hb d1 d2 d3 c0 c1 c2
        go_wp2_with fail
        refine (wide_any 2 (-8) 44100 _).mono ?_
        rintro e w3 ⟨rfl, hb⟩
        rw [show sndE 2 (-8) 44100 = 8 by decide]
        have HB3 := Lib.hid (HB2.out.trans (hb.mono HB2.out.size))
        have f1 := (hb.cell (p := ⟨wr.heap.size, 0, none⟩) hz2).trans e1
        have f2 := (hb.cell (p := ⟨wr.heap.size, 1, none⟩) hz2).trans e2
        have f3 := (hb.cell (p := ⟨wr.heap.size, 2, none⟩) hz2).trans e3
        clear hb e1 e2 e3
        go_wp2_with fail
        refine (check_any 2 (-8) 44100 _).mono ?_
        rintro e w4 ⟨rfl, hb⟩
        rw [show sndE 2 (-8) 44100 = 8 by decide]
        have HB4 := Lib.hid (HB3.out.trans (hb.mono HB3.out.size))
        clear hb f1 f2 f3
        go_wp2_with fail
        go_roundw
        case rel => exact ⟨10, by omega, by rfl, Lib.hid (HL.out.next HB4.out)⟩
        case measure => simp [intOf]
    · obtain rfl : k = 10 := by omega
      have c0 := HL.out.2.2.1
      have c1 := HL.out.2.2.2.1
      have c2 := HL.out.2.2.2.2
      go_wp2_with fail
      refine (write_any 2 16 44100 _ (HV.out _ HL.out.1)).mono ?_
      rintro e w1 ⟨A1, q1, rfl, ho, hb⟩
      rw [show wrN 2 16 44100 = 16 by decide] at ho ⊢
      rw [show sndE 2 16 44100 = 0 by decide]
      have HL1 := Lib.hid (HL.out.next hb)
      obtain ⟨gP, hgP, hgP1, hgP2⟩ := ho.where_ (by omega)
      subst hgP
      have HP1 := Lib.hid ho
      have HB01 := Lib.hid HL.out.1.size
      clear ho hb c0 c1 c2
      obtain ⟨w2, hw2, d1, d2, d3, hB, hz⟩ := box3 w1 (.int .i64 6) (.int .i64 24) (.int .i64 1048576) 23
      have HW := Lib.hid hw2
      have HB2 := Lib.hid (HL1.out.1.trans (hB.mono HL1.out.1.size))
      have HL2 := Lib.hid (HL1.out.next hB)
      have HP2 := Lib.hid (HP1.out.below hB)
      clear hw2 hB
      go_wp2_with fail
      rw [← HW.out]
      clear HW
      refine (write_any 6 24 1048576 _ (HV.out _ HB2.out)).mono ?_
      rintro e w3 ⟨A3, q3, rfl, ho, hb⟩
      rw [show wrN 6 24 1048576 = 40 by decide] at ho ⊢
      rw [show sndE 6 24 1048576 = 0 by decide]
      have HB3 := Lib.hid (HB2.out.trans (hb.mono HB2.out.size))
      have HL3 := Lib.hid (HL2.out.next hb)
      have HP3 := Lib.hid (HP2.out.below hb)
      obtain ⟨gQ, hgQ, hgQ1, hgQ2⟩ := ho.where_ (by omega)
      subst hgQ
      have hPQ : gP < gQ := by omega
      have HQ3 := Lib.hid ho
      have x1 := (hb.cell (p := ⟨w1.heap.size, 0, none⟩) hz).trans d1
      have x2 := (hb.cell (p := ⟨w1.heap.size, 1, none⟩) hz).trans d2
      have x3 := (hb.cell (p := ⟨w1.heap.size, 2, none⟩) hz).trans d3
      have HS3 : Hid (∀ w', Below w3.heap.size w3 w' → w'.cell? ⟨w1.heap.size, 0, none⟩ = some (.int .i64 6) ∧ w'.cell? ⟨w1.heap.size, 1, none⟩ = some (.int .i64 24) ∧ w'.cell? ⟨w1.heap.size, 2, none⟩ = some (.int .i64 1048576)) := Lib.hid (fun w' h => by
        have hz3 := Nat.lt_of_lt_of_le hz hb.size
        exact ⟨(h.cell (p := ⟨w1.heap.size, 0, none⟩) hz3).trans x1, (h.cell (p := ⟨w1.heap.size, 1, none⟩) hz3).trans x2, (h.cell (p := ⟨w1.heap.size, 2, none⟩) hz3).trans x3⟩)
      have HB03 := Lib.hid HB2.out.size
      clear ho hb x1 x2 x3 d1 d2 d3 hz HP2 HL2 HP1 HL1 HL
      go_wp2_with fail
      go_loopw [13] (fun i wx => ∃ k : Nat, k ≤ 40 ∧ i = .int .i64 k ∧ Hid (Below w3.heap.size w3 wx)) (fun i _ => 40 - (intOf i).toNat)
      case atStart => exact ⟨0, by omega, rfl, Lib.hid (Below.refl _ _)⟩
      case round =>
        obtain ⟨k, hk, rfl, HR⟩ := hrel
        rename World => wx
        by_cases hlt : k < 40
        · obtain ⟨hf1, hf2⟩ := fn40 k hlt
          by_cases h20 : 20 ≤ k ∧ k < 24
          · have HF := Lib.hid (hf1 h20)
            obtain ⟨h20a, h20b⟩ := h20
            clear hf1 hf2
            have HX := Lib.hid (HQ3.out.below HR.out)
            have HBx := Lib.hid (HB3.out.trans (HR.out.mono HB3.out.size))
            obtain ⟨x0, hx0⟩ : ∃ x0, x0 = (wrL 6 24 1048576).getD k 0 := ⟨_, rfl⟩
            obtain ⟨z, hz0⟩ : ∃ z, z = x0 ^^^ 1 := ⟨_, rfl⟩
            have hzx : bits .xor .u8 (x0.toNat : Int) 1 = (z.toNat : Int) := by rw [hz0]; exact u8_xor_byte _ 1
            have hxa : (wrL 6 24 1048576).set k z = xorAt (wrL 6 24 1048576) k := by rw [hz0, hx0]; rfl
            have HX0 := Lib.hid hx0
            have HXA := Lib.hid hxa
            clear hz0 hxa hx0
            go_upto_region 40 with (at_builtin; refine wpList_append_bytes rfl (.tmp 108) (.tmp 109) rfl wx.heap.size (.slice (some ⟨wx.heap.size, 0, none⟩) 0 0) [] rfl (Owns.lit0 _ _ (Nat.le_refl _)) (some ⟨gQ, 0, none⟩) 40 q3 (wrL 6 24 1048576) rfl (HX.out.arg.alloc _) _ (Nat.zero_add _) (by omega) (by simp) ?_; intro A4 c4 w4 hown hgr _; rw [List.nil_append] at hown; obtain ⟨g, hg, hg1, hg2⟩ := hown.where_ (by omega); subst hg; have hc := hown.cellAt (j := k) (by omega); rw [← HX0.out] at hc; have hf := hown.free k; have hst := hown.stored k z; rw [HXA.out] at hst; have HST := Lib.hid hst.1; have HG4 := Lib.hid (((Below.refl _ wx).alloc (Nat.le_refl _) _).grown hgr (by simp) (fun k hk => Nat.le_of_eq (Option.some.inj hk))); clear hown hgr hst)
            have hb5 : Below wx.heap.size wx (w4.setCell ⟨g, k, none⟩ (.int .u8 (z.toNat : Int))) := HG4.out.setCell (p := ⟨g, k, none⟩) hg1 _
            obtain ⟨w5, hw5⟩ : ∃ w5, w5 = w4.setCell ⟨g, k, none⟩ (.int .u8 (z.toNat : Int)) := ⟨_, rfl⟩
            rw [← hw5] at hb5 HST ⊢
            have HB5 := Lib.hid (HR.out.trans (hb5.mono HR.out.size))
            have HBw := Lib.hid (HB3.out.trans (HB5.out.mono HB3.out.size))
            clear hw5 hb5 hc hf hzx HG4 HXA
            obtain ⟨y1, y2, y3⟩ := HS3.out _ HB5.out
            go_wp2_with fail
            refine (reads_any _ _ _ _ _ _ _ _ HST.out.arg (HV.out _ HBw.out)).mono ?_
            rintro e w6 ⟨rfl, hb⟩
            rw [HF.out]
            have HB6 := Lib.hid (HB5.out.trans (hb.mono HB5.out.size))
            clear hb y1 y2 y3
            go_wp2_with fail
            go_roundw
            case rel => exact ⟨k + 1, by omega, by go_num, HB6⟩
            case measure => simp [intOf]; omega
          · have HF := Lib.hid (hf2 h20)
            clear hf1 hf2
            have HX := Lib.hid (HQ3.out.below HR.out)
            have HBx := Lib.hid (HB3.out.trans (HR.out.mono HB3.out.size))
            obtain ⟨x0, hx0⟩ : ∃ x0, x0 = (wrL 6 24 1048576).getD k 0 := ⟨_, rfl⟩
            obtain ⟨z, hz0⟩ : ∃ z, z = x0 ^^^ 1 := ⟨_, rfl⟩
            have hzx : bits .xor .u8 (x0.toNat : Int) 1 = (z.toNat : Int) := by rw [hz0]; exact u8_xor_byte _ 1
            have hxa : (wrL 6 24 1048576).set k z = xorAt (wrL 6 24 1048576) k := by rw [hz0, hx0]; rfl
            have HX0 := Lib.hid hx0
            have HXA := Lib.hid hxa
            clear hz0 hxa hx0
            go_upto_region 40 with (at_builtin; refine wpList_append_bytes rfl (.tmp 108) (.tmp 109) rfl wx.heap.size (.slice (some ⟨wx.heap.size, 0, none⟩) 0 0) [] rfl (Owns.lit0 _ _ (Nat.le_refl _)) (some ⟨gQ, 0, none⟩) 40 q3 (wrL 6 24 1048576) rfl (HX.out.arg.alloc _) _ (Nat.zero_add _) (by omega) (by simp) ?_; intro A4 c4 w4 hown hgr _; rw [List.nil_append] at hown; obtain ⟨g, hg, hg1, hg2⟩ := hown.where_ (by omega); subst hg; have hc := hown.cellAt (j := k) (by omega); rw [← HX0.out] at hc; have hf := hown.free k; have hst := hown.stored k z; rw [HXA.out] at hst; have HST := Lib.hid hst.1; have HG4 := Lib.hid (((Below.refl _ wx).alloc (Nat.le_refl _) _).grown hgr (by simp) (fun k hk => Nat.le_of_eq (Option.some.inj hk))); clear hown hgr hst)
            have hb5 : Below wx.heap.size wx (w4.setCell ⟨g, k, none⟩ (.int .u8 (z.toNat : Int))) := HG4.out.setCell (p := ⟨g, k, none⟩) hg1 _
            obtain ⟨w5, hw5⟩ : ∃ w5, w5 = w4.setCell ⟨g, k, none⟩ (.int .u8 (z.toNat : Int)) := ⟨_, rfl⟩
            rw [← hw5] at hb5 HST ⊢
            have HB5 := Lib.hid (HR.out.trans (hb5.mono HR.out.size))
            have HBw := Lib.hid (HB3.out.trans (HB5.out.mono HB3.out.size))
            clear hw5 hb5 hc hf hzx HG4 HXA
            have h20' : k < 20 ∨ 24 ≤ k := by omega
            clear h20
            rcases h20' with h20 | h20
            · go_wp2_with fail
              refine (none_any _ _ _ _ _ HST.out.arg (HV.out _ HBw.out)).mono ?_
              rintro e w6 ⟨rfl, hb⟩
              rw [HF.out]
              have HB6 := Lib.hid (HB5.out.trans (hb.mono HB5.out.size))
              clear hb
              go_wp2_with fail
              go_roundw
              case rel => exact ⟨k + 1, by omega, by go_num, HB6⟩
              case measure => simp [intOf]; omega
            · have h2a : 20 ≤ k := by omega
              have h2b : ¬ k < 24 := by omega
              go_wp2_with fail
              refine (none_any _ _ _ _ _ HST.out.arg (HV.out _ HBw.out)).mono ?_
              rintro e w6 ⟨rfl, hb⟩
              rw [HF.out]
              have HB6 := Lib.hid (HB5.out.trans (hb.mono HB5.out.size))
              clear hb
              go_wp2_with fail
              go_roundw
              case rel => exact ⟨k + 1, by omega, by go_num, HB6⟩
              case measure => simp [intOf]; omega
        · have hk40 : ¬ k < 40 := hlt
          go_wp2_with fail
          go_loopw [15] (fun i wx => ∃ k : Nat, k ≤ 16 ∧ i = .int .i64 k ∧ Hid (Below w3.heap.size w3 wx)) (fun i _ => 16 - (intOf i).toNat)
          case atStart => exact ⟨0, by omega, rfl, HR⟩
          case round =>
            clear hk hlt HR hk40
            obtain ⟨k, hk, rfl, HR⟩ := hrel
            rename World => wx
            by_cases hlt : k < 16
            · have HF := Lib.hid (fn16 k hlt)
              have HX := Lib.hid (HP3.out.below HR.out)
              have HBx := Lib.hid (HB3.out.trans (HR.out.mono HB3.out.size))
              obtain ⟨x0, hx0⟩ : ∃ x0, x0 = (wrL 2 16 44100).getD k 0 := ⟨_, rfl⟩
              obtain ⟨z, hz0⟩ : ∃ z, z = x0 ^^^ 1 := ⟨_, rfl⟩
              have hzx : bits .xor .u8 (x0.toNat : Int) 1 = (z.toNat : Int) := by rw [hz0]; exact u8_xor_byte _ 1
              have hxa : (wrL 2 16 44100).set k z = xorAt (wrL 2 16 44100) k := by rw [hz0, hx0]; rfl
              have HX0 := Lib.hid hx0
              have HXA := Lib.hid hxa
              clear hz0 hxa hx0
              go_upto_region 50 with (at_builtin; refine wpList_append_bytes rfl (.tmp 134) (.tmp 135) rfl wx.heap.size (.slice (some ⟨wx.heap.size, 0, none⟩) 0 0) [] rfl (Owns.lit0 _ _ (Nat.le_refl _)) (some ⟨gP, 0, none⟩) 16 q1 (wrL 2 16 44100) rfl (HX.out.arg.alloc _) _ (Nat.zero_add _) (by omega) (by simp) ?_; intro A4 c4 w4 hown hgr _; rw [List.nil_append] at hown; obtain ⟨g, hg, hg1, hg2⟩ := hown.where_ (by omega); subst hg; have hc := hown.cellAt (j := k) (by omega); rw [← HX0.out] at hc; have hf := hown.free k; have hst := hown.stored k z; rw [HXA.out] at hst; have HST := Lib.hid hst.1; have HG4 := Lib.hid (((Below.refl _ wx).alloc (Nat.le_refl _) _).grown hgr (by simp) (fun k hk => Nat.le_of_eq (Option.some.inj hk))); clear hown hgr hst)
              have hb5 : Below wx.heap.size wx (w4.setCell ⟨g, k, none⟩ (.int .u8 (z.toNat : Int))) := HG4.out.setCell (p := ⟨g, k, none⟩) hg1 _
              obtain ⟨w5, hw5⟩ : ∃ w5, w5 = w4.setCell ⟨g, k, none⟩ (.int .u8 (z.toNat : Int)) := ⟨_, rfl⟩
              rw [← hw5] at hb5 HST ⊢
              have HB5 := Lib.hid (HR.out.trans (hb5.mono HR.out.size))
              have HBw := Lib.hid (HB3.out.trans (HB5.out.mono HB3.out.size))
              clear hw5 hb5 hc hf hzx HG4 HXA
              go_wp2_with fail
              refine (none_any _ _ _ _ _ HST.out.arg (HV.out _ HBw.out)).mono ?_
              rintro e w6 ⟨rfl, hb⟩
              rw [HF.out]
              have HB6 := Lib.hid (HB5.out.trans (hb.mono HB5.out.size))
              clear hb
              go_wp2_with fail
              go_roundw
              case rel => exact ⟨k + 1, by omega, by go_num, HB6⟩
              case measure => simp [intOf]; omega
            · obtain rfl : k = 16 := by omega
              have HLx := Lib.hid (HL3.out.next HR.out)
              have HPx := Lib.hid (HP3.out.below HR.out)
              have HQx := Lib.hid (HQ3.out.below HR.out)
              have c0 := HLx.out.2.2.1
              have c1 := HLx.out.2.2.2.1
              have c2 := HLx.out.2.2.2.2
              go_wp2_with fail
              refine (wide_any 2 16 44100 _).mono ?_
              rintro e w6 ⟨rfl, hb⟩
              rw [show sndE 2 16 44100 = 0 by decide, show wideB 2 16 44100 = false by decide]
              have HL6 := Lib.hid (HLx.out.1.trans (hb.mono HLx.out.1.size))
              have HP6 := Lib.hid (HPx.out.below hb)
              have HQ6 := Lib.hid (HQx.out.below hb)
              clear hb c0 c1 c2
              go_wp2_with fail
              refine (wide_any 3 8 1 _).mono ?_
              rintro e w7 ⟨rfl, hb⟩
              rw [show sndE 3 8 1 = 0 by decide, show wideB 3 8 1 = true by decide]
              have HL7 := Lib.hid (HL6.out.trans (hb.mono HL6.out.size))
              have HP7 := Lib.hid (HP6.out.below hb)
              have HQ7 := Lib.hid (HQ6.out.below hb)
              clear hb
              go_wp2_with fail
              refine (alive32_any _ (HV.out _ HL7.out)).mono ?_
              rintro e w8 ⟨rfl, hb⟩
              have HL8 := Lib.hid (HL7.out.trans (hb.mono HL7.out.size))
              have HP8 := Lib.hid (HP7.out.below hb)
              have HQ8 := Lib.hid (HQ7.out.below hb)
              clear hb
              go_wp2_with fail
              refine (none_any none 0 0 [] _ (BArg.none_ _) (HV.out _ HL8.out)).mono ?_
              rintro e w9 ⟨rfl, hb⟩
              rw [fnN0]
              have HL9 := Lib.hid (HL8.out.trans (hb.mono HL8.out.size))
              have HP9 := Lib.hid (HP8.out.below hb)
              have HQ9 := Lib.hid (HQ8.out.below hb)
              have hq1 := HP9.out.arg.le
              have hq3 := HQ9.out.arg.le
              have hq1s := HP9.out.arg.small
              clear hb
              have g15 : 15 ≤ q1 := by omega
              go_wp2_with fail
              refine (none_any _ _ _ _ _ (HP9.out.arg.upto (k := 15) (by omega)) (HV.out _ HL9.out)).mono ?_
              rintro e w10 ⟨rfl, hb⟩
              rw [fnN1]
              have HL10 := Lib.hid (HL9.out.trans (hb.mono HL9.out.size))
              have HP10 := Lib.hid (HP9.out.below hb)
              have HQ10 := Lib.hid (HQ9.out.below hb)
              clear hb
              have hgP10 := (HP10.out.lt gP rfl).2
              have g16 : 16 ≤ q1 := by omega
              have LP := Lib.hid fnLP
              have LW := Lib.hid fnLW
              go_wp2_with (at_builtin; refine wpList_append_f_w (by rfl) (.tmp 169) (.tmp 170) rfl gP (wrL 2 16 44100) 16 LP.out rfl ((bcap HP10.out.arg).alloc _) _ 2 2 [0, 0] rfl (BArg.lit _ [0, 0] 2 rfl (by omega) _ _ _ rfl) (by omega) 18 (by rfl) (by omega) ?_; intro A11 c11 w11 hown hbb; have HO11 := Lib.hid hown; have HX11 := Lib.hid (((Below.refl _ w10).alloc (Nat.le_refl _) _).trans (hbb.mono (by simp))); clear hown hbb)
              have HB11 := Lib.hid (HL10.out.trans (HX11.out.mono HL10.out.size))
              have HQ11 := Lib.hid (HQ10.out.below HX11.out)
              refine (none_any _ _ _ _ _ HO11.out.arg (HV.out _ HB11.out)).mono ?_
              rintro e w12 ⟨rfl, hb⟩
              rw [fnN2]
              have HL12 := Lib.hid (HB11.out.trans (hb.mono HB11.out.size))
              have HQ12 := Lib.hid (HQ11.out.below hb)
              clear hb HO11 HX11 HB11
              have g39 : 39 ≤ q3 := by omega
              go_wp2_with fail
              refine (none_any _ _ _ _ _ (HQ12.out.arg.upto (k := 39) (by omega)) (HV.out _ HL12.out)).mono ?_
              rintro e w13 ⟨rfl, hb⟩
              rw [fnN3]
              have HL13 := Lib.hid (HL12.out.trans (hb.mono HL12.out.size))
              have HQ13 := Lib.hid (HQ12.out.below hb)
              clear hb
              have g16q : 16 ≤ q3 := by omega
              go_wp2_with fail
              refine (none_any _ _ _ _ _ (HQ13.out.arg.upto (k := 16) (by omega)) (HV.out _ HL13.out)).mono ?_
              rintro e w14 ⟨rfl, hb⟩
              rw [fnN4]
              have HL14 := Lib.hid (HL13.out.trans (hb.mono HL13.out.size))
              have HQ14 := Lib.hid (HQ13.out.below hb)
              have hgQs : gQ < w14.heap.size := (HQ14.out.lt gQ rfl).2
              clear hb
              go_wp2_with (at_builtin; refine wpList_append_f_w (by rfl) (.tmp 186) (.tmp 187) rfl gQ (wrL 6 24 1048576) 40 LW.out rfl ((bcap HQ14.out.arg).alloc _) _ 1 1 [0] rfl (BArg.lit _ [0] 1 rfl (by omega) _ _ _ rfl) (by omega) 41 (by rfl) (by omega) ?_; intro A15 c15 w15 hown hbb; have HO15 := Lib.hid hown; have HX15 := Lib.hid (((Below.refl _ w14).alloc (Nat.le_refl _) _).trans (hbb.mono (by simp))); clear hown hbb)
              have HB15 := Lib.hid (HL14.out.trans (HX15.out.mono HL14.out.size))
              have HQ15 := Lib.hid (HQ14.out.below HX15.out)
              refine (none_any _ _ _ _ _ HO15.out.arg (HV.out _ HB15.out)).mono ?_
              rintro e w16 ⟨rfl, hb⟩
              rw [fnN5]
              have HL16 := Lib.hid (HB15.out.trans (hb.mono HB15.out.size))
              have hcut := (HQ15.out.below hb).arg.cut (i := 20) (j := 24) (by omega) (by omega)
              rw [if_neg (by omega), fnN6] at hcut
              have tq : (convert 24 9 (.slice (some ⟨gQ, 20, none⟩) 4 (q3 - 20))).run Tryd.prog w16 = .ok (.string ⟨[63, 0, 0, 0].toArray⟩) w16 := hcut.text
              have g24 : 24 ≤ q3 := by omega
              have g20 : ¬ q3 = 20 := by omega
              clear hb hcut HX15 HO15
              go_wp2_with fail
              go_ret
              exact ⟨rfl, HL16.out⟩
end Go.Proofs.YtjcemacgiehklaaDoor
