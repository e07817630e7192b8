/- FmtchunkReads: the walk. -/
import Derived.Test.YtjcemacgiehklaaDoorFmtReadR
namespace Go.Proofs.YtjcemacgiehklaaDoor
open Go.RowKit
attribute [local go_sem ↓] Go.wp_at_zero Go.wp_at_succ

set_option maxRecDepth 100000 in
set_option maxHeartbeats 4000000 in
theorem fmtreads_calls (w : World) (hv : FVars w) (a : Option Addr) (len cap : Nat) (l : List UInt8) (ha : BArg w a len cap l) :
    Calls Tryd.prog 4 #[.slice a len cap] w fun e w' => e = .returned (.bool true) ∧ Below w.heap.size w w' := by
  have HA := Lib.hid ha
  have HV := Lib.hid hv
  have hl := ha.len_eq
  by_cases h100 : 100 < len
  · clear ha hv hl
    go_enter Tryd.func4, Tryd.ntmps4
    go_wp2_with fail
    go_ret
    exact ⟨rfl, Below.refl _ _⟩
  · have t0 := ha.text
    have hcv := run_text_bytes ⟨l.toArray⟩
    have C1 := Lib.hid (read_any a len cap l w ha hv)
    have C2 := Lib.hid (fun W b k h => rread_any b len k l W h)
    have hsz : (⟨l.toArray⟩ : ByteArray).size = len := by rw [← hl]; rfl
    clear ha hv hl
    go_enter Tryd.func4, Tryd.ntmps4
    go_wp2_with fail
    refine C1.out.mono ?_
    rintro e w1 ⟨rfl, hb1⟩
    have HB1 := Lib.hid hb1
    clear hb1
    cases hr : readB l with
    | false =>
      have e := readP_no hr
      rw [e]
      rw [e] at C2
      clear e hr
      go_wp2_with fail
      obtain ⟨W2, hW2⟩ : ∃ W2, W2 = w1.alloc (.cells #[.int .i64 0, .int .i64 0, .int .i64 0] 23) := ⟨_, rfl⟩
      rw [← hW2]
      have hs2 : W2.heap.size = w1.heap.size + 1 := by rw [hW2]; simp
      have x1 : W2.cell? ⟨w1.heap.size, 0, none⟩ = some (.int .i64 0) := by rw [hW2, World.cell?_alloc_at _ _ _ _ rfl]; rfl
      have x2 : W2.cell? ⟨w1.heap.size, 1, none⟩ = some (.int .i64 0) := by rw [hW2, World.cell?_alloc_at _ _ _ _ rfl]; rfl
      have x3 : W2.cell? ⟨w1.heap.size, 2, none⟩ = some (.int .i64 0) := by rw [hW2, World.cell?_alloc_at _ _ _ _ rfl]; rfl
      have HB2 : Hid (Below w.heap.size w W2) := Lib.hid (by rw [hW2]; exact HB1.out.alloc HB1.out.size _)
      have hbt := BArg.of_text W2 ⟨l.toArray⟩ (w1.heap.size + 1) hs2.symm (by rw [hsz]; omega)
      rw [hsz] at hbt
      have HBT := Lib.hid hbt
      have hlt : w1.heap.size < W2.heap.size := by omega
      have HTW := Lib.hid (below_tworld W2 ⟨l.toArray⟩)
      clear hW2 hbt hs2
      refine (C2.out _ _ _ HBT.out).mono ?_
      rintro e w4 ⟨rfl, hb4⟩
      have HW4 := Lib.hid (HTW.out.trans (hb4.mono HTW.out.size))
      have y1 := (HW4.out.cell (p := ⟨w1.heap.size, 0, none⟩) hlt).trans x1
      have y2 := (HW4.out.cell (p := ⟨w1.heap.size, 1, none⟩) hlt).trans x2
      have y3 := (HW4.out.cell (p := ⟨w1.heap.size, 2, none⟩) hlt).trans x3
      have hl4 : w1.heap.size < w4.heap.size := Nat.lt_of_lt_of_le hlt HW4.out.size
      have HB4 := Lib.hid (HB2.out.trans (HW4.out.mono HB2.out.size))
      have t4 := ((HA.out.below HB4.out).alloc (.cells #[.int .i64 0, .int .i64 0, .int .i64 0] 23)).text
      clear hb4 x1 x2 x3 t0
      go_wp2_with fail
      go_ret
      exact ⟨rfl, HB4.out.alloc HB4.out.size _⟩
    | true =>
      have e := readP_yes hr
      rw [e]
      rw [e] at C2
      clear e hr
      generalize rdN l 1 = n1 at *
      generalize rdN l 5 = n5 at *
      generalize rdN l 2 = n2 at *
      have q1 : ((n1 : Int) == (n1 : Int)) = true := by simp
      have q2 : ((n5 : Int) == (n5 : Int)) = true := by simp
      have q3 : ((n2 : Int) == (n2 : Int)) = true := by simp
      go_wp2_with fail
      obtain ⟨W2, hW2⟩ : ∃ W2, W2 = w1.alloc (.cells #[.int .i64 (n1 : Int), .int .i64 (n5 : Int), .int .i64 (n2 : Int)] 23) := ⟨_, rfl⟩
      rw [← hW2]
      have hs2 : W2.heap.size = w1.heap.size + 1 := by rw [hW2]; simp
      have x1 : W2.cell? ⟨w1.heap.size, 0, none⟩ = some (.int .i64 (n1 : Int)) := by rw [hW2, World.cell?_alloc_at _ _ _ _ rfl]; rfl
      have x2 : W2.cell? ⟨w1.heap.size, 1, none⟩ = some (.int .i64 (n5 : Int)) := by rw [hW2, World.cell?_alloc_at _ _ _ _ rfl]; rfl
      have x3 : W2.cell? ⟨w1.heap.size, 2, none⟩ = some (.int .i64 (n2 : Int)) := by rw [hW2, World.cell?_alloc_at _ _ _ _ rfl]; rfl
      have HB2 : Hid (Below w.heap.size w W2) := Lib.hid (by rw [hW2]; exact HB1.out.alloc HB1.out.size _)
      have hbt := BArg.of_text W2 ⟨l.toArray⟩ (w1.heap.size + 1) hs2.symm (by rw [hsz]; omega)
      rw [hsz] at hbt
      have HBT := Lib.hid hbt
      have hlt : w1.heap.size < W2.heap.size := by omega
      have HTW := Lib.hid (below_tworld W2 ⟨l.toArray⟩)
      clear hW2 hbt hs2
      refine (C2.out _ _ _ HBT.out).mono ?_
      rintro e w4 ⟨rfl, hb4⟩
      have HW4 := Lib.hid (HTW.out.trans (hb4.mono HTW.out.size))
      have y1 := (HW4.out.cell (p := ⟨w1.heap.size, 0, none⟩) hlt).trans x1
      have y2 := (HW4.out.cell (p := ⟨w1.heap.size, 1, none⟩) hlt).trans x2
      have y3 := (HW4.out.cell (p := ⟨w1.heap.size, 2, none⟩) hlt).trans x3
      have hl4 : w1.heap.size < w4.heap.size := Nat.lt_of_lt_of_le hlt HW4.out.size
      have HB4 := Lib.hid (HB2.out.trans (HW4.out.mono HB2.out.size))
      have t4 := ((HA.out.below HB4.out).alloc (.cells #[.int .i64 (n1 : Int), .int .i64 (n5 : Int), .int .i64 (n2 : Int)] 23)).text
      clear hb4 x1 x2 x3 t0
      go_wp2_with fail
      go_ret
      exact ⟨rfl, HB4.out.alloc HB4.out.size _⟩
end Go.Proofs.YtjcemacgiehklaaDoor
