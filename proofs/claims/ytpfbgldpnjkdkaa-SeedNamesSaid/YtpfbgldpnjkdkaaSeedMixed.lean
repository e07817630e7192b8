/- SeedMixed: the walk. -/
import Derived.Test.YtpfbgldpnjkdkaaSeedSmall
import Derived.Laws.Bits64
namespace Go.Proofs.Ytpfbgldpnjkdkaa
open Go.RowKit

theorem byteAt_xor (n m i : Nat) : byteAt (n ^^^ m) i = byteAt n i ^^^ byteAt m i := by
  unfold byteAt
  apply Nat.eq_of_testBit_eq
  intro j
  have e256 : (256 : Nat) = 2 ^ 8 := by decide
  rw [e256, Nat.testBit_xor, Nat.testBit_mod_two_pow, Nat.testBit_mod_two_pow, Nat.testBit_mod_two_pow, Nat.testBit_div_two_pow, Nat.testBit_div_two_pow, Nat.testBit_div_two_pow, Nat.testBit_xor]
  by_cases hj : j < 8 <;> simp [hj]

theorem tap_zero (n i : Nat) (h : tap n i = 0) : byteAt n i = 0 := by
  rw [tap_byte] at h
  have := byteAt_lt n i
  unfold sgn at h
  split at h <;> omega

/-- Tap i of sixteen. -/
def tp (n i : Nat) : Int := if i < 8 then tap n i else 0
theorem tp_bounds (n i : Nat) : -128 ≤ tp n i ∧ tp n i ≤ 127 := by
  unfold tp
  split
  · rw [tap_byte]; exact sgn_bounds _ (byteAt_lt n i)
  · omega
theorem tp_left (n m i : Nat) (h : tp n i = 0) : tp (n ^^^ m) i = tp m i := by
  unfold tp at h ⊢
  split at h
  · rename_i hi
    rw [if_pos hi, if_pos hi, tap_byte, byteAt_xor, tap_zero n i h, Nat.zero_xor, ← tap_byte]
  · rename_i hi
    rw [if_neg hi, if_neg hi]
theorem tp_right (n m i : Nat) (h : tp m i = 0) : tp (n ^^^ m) i = tp n i := by
  rw [Nat.xor_comm]; exact tp_left m n i h

theorem row3 (w : World) (Z : Obj) : (((w.alloc Z).alloc Z).alloc Z).heap[w.heap.size]? = some Z ∧ (((w.alloc Z).alloc Z).alloc Z).heap[w.heap.size + 1]? = some Z ∧ (((w.alloc Z).alloc Z).alloc Z).heap[w.heap.size + 2]? = some Z := by
  refine ⟨?_, ?_, ?_⟩ <;> show (((w.heap.push _).push _).push _)[_]? = _ <;> simp only [Array.getElem?_push, Array.size_push]
  · rw [if_neg (by omega), if_neg (by omega), if_pos trivial]
  · rw [if_neg (by omega), if_pos trivial]
  · rw [if_pos trivial]

set_option maxHeartbeats 1000000 in
theorem mixed_main (n m : Nat) (hn : n < 18446744073709551616) (hm : m < 18446744073709551616) (w : World) :
    Calls Try.prog 4 #[.int .u64 n, .int .u64 m] w fun e w' => e = .returned (.bool true) ∧ Below w.heap.size w w' := by
  go_enter Try.func4, Try.ntmps4
  go_wp2_with fail
  refine (alive_any _).mono ?_
  rintro e w1 ⟨rfl, hb1⟩
  go_wp2_with fail
  refine (of_any n hn _).mono ?_
  rintro e w2 ⟨rfl, hb2⟩
  go_wp2_with fail
  refine (of_any m hm _).mono ?_
  rintro e w3 ⟨rfl, hb3⟩
  go_wp2_with fail
  rw [bits_xor_u64_nat n m hn hm]
  refine (of_any (n ^^^ m) (Nat.xor_lt_two_pow (n := 64) hn hm) _).mono ?_
  rintro e w4 ⟨rfl, hb4⟩
  obtain ⟨r0, r1, r2⟩ := row3 w4 (.cells (ints .i32 z16) 24)
  rw [ints_zero16] at r0 r1 r2
  have R0 := Lib.hid r0
  have R1 := Lib.hid r1
  have R2 := Lib.hid r2
  clear r0 r1 r2
  go_wp2_with (first
    | (refine wpList_store_row rfl 24 (.tmp 6) (.tmp 12) rfl w4.heap.size _ rfl rfl 24 _ R0.out (info24 _ (tapsK_length _ _)) (by rw [ints_size, tapsK_length]; rfl) (ints_one _ _) ?_)
    | (refine wpList_store_row rfl 24 (.tmp 7) (.tmp 14) rfl (w4.heap.size + 1) _ rfl rfl 24 _ ((setRow_other _ _ _ _ (by omega)).trans R1.out) (info24 _ (tapsK_length _ _)) (by rw [ints_size, tapsK_length]; rfl) (ints_one _ _) ?_)
    | (refine wpList_store_row rfl 24 (.tmp 8) (.tmp 18) rfl (w4.heap.size + 2) _ rfl rfl 24 _ ((setRow_other _ _ _ _ (by omega)).trans ((setRow_other _ _ _ _ (by omega)).trans R2.out)) (info24 _ (tapsK_length _ _)) (by rw [ints_size, tapsK_length]; rfl) (ints_one _ _) ?_))
  obtain ⟨W, hW⟩ : ∃ W : World, W = (((((w4.alloc (.cells (ints .i32 z16) 24)).alloc (.cells (ints .i32 z16) 24)).alloc (.cells (ints .i32 z16) 24)).setRow w4.heap.size (ints .i32 (tapsK n 8))).setRow (w4.heap.size + 1) (ints .i32 (tapsK m 8))).setRow (w4.heap.size + 2) (ints .i32 (tapsK (n ^^^ m) 8)) := ⟨_, rfl⟩
  rw [ints_zero16] at hW
  rw [← hW]
  have hA : ∀ i, i < 16 → W.cell? ⟨w4.heap.size, i, none⟩ = some (.int .i32 (tp n i)) := fun i hi => by
    rw [hW, cell_setRow_other _ _ _ _ (by simp), cell_setRow_other _ _ _ _ (by simp), cell_setRow_same _ _ _ _ _ _ _ R0.out, taps_cell _ _ hi]
    rfl
  have hB : ∀ i, i < 16 → W.cell? ⟨w4.heap.size + 1, i, none⟩ = some (.int .i32 (tp m i)) := fun i hi => by
    rw [hW, cell_setRow_other _ _ _ _ (by simp), cell_setRow_same _ _ _ _ _ _ _ ((setRow_other _ _ _ _ (by omega)).trans R1.out), taps_cell _ _ hi]
    rfl
  have hC : ∀ i, i < 16 → W.cell? ⟨w4.heap.size + 1 + 1, i, none⟩ = some (.int .i32 (tp (n ^^^ m) i)) := fun i hi => by
    rw [hW]
    show World.cell? _ ⟨w4.heap.size + 2, i, none⟩ = _
    rw [cell_setRow_same _ _ _ _ _ _ _ ((setRow_other _ _ _ _ (by omega)).trans ((setRow_other _ _ _ _ (by omega)).trans R2.out)), taps_cell _ _ hi]
    rfl
  have hBel : Below w.heap.size w W := by
    rw [hW]
    have s1 := hb1.size
    have s2 := hb2.size
    have s3 := hb3.size
    have s4 := hb4.size
    refine below_setRow (below_setRow (below_setRow ?_ (by omega) _) (by omega) _) (by omega) _
    refine Below.alloc (Below.alloc (Below.alloc ?_ (by omega) _) (by simp; omega) _) (by simp; omega) _
    exact ((hb1.trans (hb2.mono (by omega))).trans (hb3.mono (by omega))).trans (hb4.mono (by omega))
  have HA := Lib.hid hA
  have HB := Lib.hid hB
  have HC := Lib.hid hC
  clear hA hB hC hW hb1 hb2 hb3 hb4 R0 R1 R2
  go_loopw [9] (fun i wr => ∃ k : Nat, k ≤ 16 ∧ i = .int .i64 k ∧ ∃ q, wr = W.drewN q) (fun i _ => 16 - (intOf i).toNat)
  case atStart => exact ⟨0, by omega, rfl, 0, rfl⟩
  case round =>
    obtain ⟨k, hk, rfl, q, rfl⟩ := hrel
    by_cases hlt : k < 16
    · have ha := HA.out k hlt
      have hb := HB.out k hlt
      have hc := HC.out k hlt
      obtain ⟨ba1, ba2⟩ := tp_bounds n k
      obtain ⟨bb1, bb2⟩ := tp_bounds m k
      have hl := tp_left n m k
      have hr := tp_right n m k
      have hcond : decide ((k : Int) < 16) = true := by simp; omega
      by_cases h1 : tp n k = 0
      · rw [hl h1] at hc
        rw [h1] at ha
        generalize tp m k = y at *
        have g1 : (y != y) = false := by simp
        clear hl hr h1 HA HB HC ba1 ba2
        go_wp2
        go_quiet (fail)
        go_wp2
        go_roundw
        case rel => exact ⟨k + 1, by omega, by go_num, _, rfl⟩
        case measure => simp [intOf]; omega
      · by_cases h2 : tp m k = 0
        · rw [hr h2] at hc
          rw [h2] at hb
          generalize tp n k = x at *
          have g1 : (x != x) = false := by simp
          have g2 : (x == 0) = false := by simp [h1]
          clear hl hr h1 h2 HA HB HC bb1 bb2
          go_wp2
          go_quiet (fail)
          go_wp2
          go_roundw
          case rel => exact ⟨k + 1, by omega, by go_num, _, rfl⟩
          case measure => simp [intOf]; omega
        · generalize tp n k = x at *
          generalize tp m k = y at *
          have g2 : (x == 0) = false := by simp [h1]
          have g3 : (y == 0) = false := by simp [h2]
          clear hl hr h1 h2 HA HB HC
          go_wp2
          go_quiet (fail)
          go_wp2
          go_roundw
          case rel => exact ⟨k + 1, by omega, by go_num, _, rfl⟩
          case measure => simp [intOf]; omega
    · obtain rfl : k = 16 := by omega
      go_wp2
      go_ret
      exact ⟨rfl, below_drewN hBel _⟩

theorem mixed_calls (a : Int) (ha : (Lit.int .u64 a).wf = true) (b : Int) (hb : (Lit.int .u64 b).wf = true) (w : World) :
    Calls Try.prog 4 #[.int .u64 a, .int .u64 b] w fun e w' => e = .returned (.bool true) ∧ Below w.heap.size w w' := by
  obtain ⟨n, rfl, hn⟩ := u64_of_wf ha
  obtain ⟨m, rfl, hm⟩ := u64_of_wf hb
  exact mixed_main n m hn hm w
end Go.Proofs.Ytpfbgldpnjkdkaa
