/- LeNames: the walk. -/
import Derived.Test.YtbffdafkgckcgaaLeLaws1
namespace Go.Proofs.Ytbffdafkgckcgaa
open Go.RowKit

theorem even_pow (k : Nat) (h1 : 1 ≤ k) : ∃ q, 256 ^ k = 2 * q ∧ 0 < q := ⟨128 * 256 ^ (k - 1), by
  obtain ⟨j, rfl⟩ : ∃ j, k = j + 1 := ⟨k - 1, by omega⟩
  rw [Nat.pow_succ, Nat.add_sub_cancel]; omega, by have := pow256_pos (k - 1); omega⟩
theorem ends_facts (k : Nat) (h1 : 1 ≤ k) : sgnW (256 ^ k - 1) k = -1 ∧ sgnW (256 ^ k / 2) k = -(((256 ^ k : Nat) : Int) / 2) ∧ inR (((256 ^ k : Nat) : Int) / 2) k = false ∧
    inR (-(((256 ^ k : Nat) : Int) / 2) - 1) k = false ∧ inR (-(((256 ^ k : Nat) : Int) / 2)) k = true ∧ (-(((256 ^ k : Nat) : Int) / 2)) % 256 ^ k = ((256 ^ k : Nat) : Int) / 2 := by
  obtain ⟨q, hq, hp⟩ := even_pow k h1
  have e : (256 : Int) ^ k = 2 * (q : Int) := by
    have : ((256 ^ k : Nat) : Int) = (256 : Int) ^ k := by simp
    rw [← this, hq]; simp
  unfold sgnW inR
  rw [e, hq]
  have e2 : ((2 * q : Nat) : Int) / 2 = (q : Int) := by omega
  have e4 : 2 * (q : Int) / 2 = (q : Int) := by omega
  have e3 : 2 * q / 2 = q := by omega
  rw [e2, e3, e4]
  refine ⟨?_, ?_, ?_, ?_, ?_, ?_⟩
  · rw [if_neg (by omega)]; omega
  · rw [if_neg (by omega)]; omega
  · rw [decide_eq_false_iff_not]; omega
  · rw [decide_eq_false_iff_not]; omega
  · rw [decide_eq_true_eq]; omega
  · rw [← Int.add_emod_right, Int.emod_eq_of_lt (by omega) (by omega)]; omega
theorem zero_fit (k : Nat) : 0 < 256 ^ k := pow256_pos k
theorem inR_zero (k : Nat) (h1 : 1 ≤ k) : inR 0 k = true := by
  obtain ⟨q, hq, hp⟩ := even_pow k h1
  have e : (256 : Int) ^ k = 2 * (q : Int) := by
    have : ((256 ^ k : Nat) : Int) = (256 : Int) ^ k := by simp
    rw [← this, hq]; simp
  unfold inR
  rw [e, decide_eq_true_eq]; omega

theorem mk20 (W : World) : (Instr.makeSlice 37 (.int .i64 20) (.int .i64 20)).run Try.prog W = .ok (.slice (some ⟨W.heap.size, 0, none⟩) 20 20) (W.alloc (.cells (zb 20) 5)) := run_make_bytes 20 (by omega) W
theorem mk9 (W : World) : (Instr.makeSlice 37 (.int .i64 9) (.int .i64 9)).run Try.prog W = .ok (.slice (some ⟨W.heap.size, 0, none⟩) 9 9) (W.alloc (.cells (zb 9) 5)) := run_make_bytes 9 (by omega) W
theorem mk3 (W : World) : (Instr.makeSlice 37 (.int .i64 3) (.int .i64 3)).run Try.prog W = .ok (.slice (some ⟨W.heap.size, 0, none⟩) 3 3) (W.alloc (.cells (zb 3) 5)) := run_make_bytes 3 (by omega) W

theorem v255 : valP [255, 255, 255, 255, 255, 255, 255, 255] = .tuple #[.int .u64 18446744073709551615, .int .i64 0] := by
  unfold valP
  rw [if_pos (by simp)]
  have : (Le.val [255, 255, 255, 255, 255, 255, 255, 255] : Int) = 18446744073709551615 := by decide +kernel
  rw [this]
theorem v9 : valP (List.replicate 9 0) = .tuple #[.int .u64 0, .int .i64 2] := by
  unfold valP; rw [if_neg (by simp)]
theorem v0 : valP [] = .tuple #[.int .u64 0, .int .i64 2] := by
  unfold valP; rw [if_neg (by simp)]
theorem v910 : (Le.val (([9, 1, 0] : List UInt8).take (1 + 2) |>.drop 1) : Int) = 1 := by decide +kernel
theorem sg8 : sgnW 9223372036854775808 8 = -9223372036854775808 := by decide +kernel
theorem un8 : (-9223372036854775808 : Int) % 256 ^ 8 = 9223372036854775808 := by decide +kernel

set_option maxRecDepth 100000 in
set_option maxHeartbeats 4000000 in
theorem lenames_calls (w : World) :
    Calls Try.prog 10 #[] w fun e w' => e = .returned (.bool true) ∧ Below w.heap.size w w' := by
  go_enter Try.func10, Try.ntmps10
  go_wp2
  go_loopw [1] (fun i wr => ∃ k : Int, -1 ≤ k ∧ k ≤ 10 ∧ i = .int .i64 k ∧ Hid (Below w.heap.size w wr)) (fun i _ => (10 - intOf i).toNat)
  case atStart => exact ⟨-1, by omega, by omega, rfl, Lib.hid (Below.refl _ _)⟩
  case round =>
    obtain ⟨k, hk1, hk2, rfl, HB⟩ := hrel
    rename_i wr
    by_cases hlt : k ≤ 9
    · have hm20 := mk20
      by_cases hbad : k < 1 ∨ 8 < k
      · have H := Lib.hid hbad
        have hbad' : (decide (k < 1) = true) ∨ (decide (k < 1) = false ∧ decide (8 < k) = true) := by simp; omega
        clear hbad
        go_wp2_with fail
        refine (bytes_arg 0 k H.out _).mono ?_
        rintro e w1 ⟨rfl, rfl⟩
        go_wp2_with fail
        refine (at_arg _ 20 20 0 k _ (by have := H.out; omega)).mono ?_
        rintro e w1 ⟨rfl, rfl⟩
        obtain ⟨w1, hw1⟩ : ∃ w1, w1 = wr.alloc (.cells (zb 20) 5) := ⟨_, rfl⟩
        rw [← hw1]
        have HB1 : Hid (Below w.heap.size w w1) := Lib.hid (by rw [hw1]; exact HB.out.alloc HB.out.size _)
        clear hw1 hm20
        go_wp2_with fail
        refine (signed_arg 0 k H.out _).mono ?_
        rintro e w2 ⟨rfl, rfl⟩
        go_wp2_with fail
        refine (unsigned_arg 0 k H.out _).mono ?_
        rintro e w2 ⟨rfl, rfl⟩
        rcases hbad' with b1 | ⟨b1, b2⟩
        · go_wp2_with fail
          go_roundw
          case rel => exact ⟨k + 1, by omega, by omega, rfl, HB1⟩
          case measure => simp [intOf]; omega
        · go_wp2_with fail
          go_roundw
          case rel => exact ⟨k + 1, by omega, by omega, rfl, HB1⟩
          case measure => simp [intOf]; omega
      · obtain ⟨k, rfl⟩ := Int.eq_ofNat_of_zero_le (show 0 ≤ k by omega)
        have h1 : 1 ≤ k := by omega
        have h8 : k ≤ 8 := by omega
        have b1 : decide ((k : Int) < 1) = false := by simp; omega
        have b2 : decide ((8 : Int) < (k : Int)) = false := by simp; omega
        clear hbad
        go_wp2_with fail
        refine (bytes_ok 0 k h1 h8 (zero_fit k) _).mono ?_
        rintro e w1 ⟨rfl, -, hb1⟩
        have HB1 := Lib.hid (HB.out.trans (hb1.mono HB.out.size))
        clear hb1 HB
        go_wp2_with fail
        refine (at_ok _ 20 20 (List.replicate 20 0) 0 k _ (Owns.made _ _ 20 (Nat.le_refl _) (by omega)).arg h1 h8 (by omega)).mono ?_
        rintro e w2 ⟨rfl, rfl⟩
        obtain ⟨w2, hw2⟩ : ∃ w2, w2 = w1.alloc (.cells (zb 20) 5) := ⟨_, rfl⟩
        rw [← hw2]
        have HB2 : Hid (Below w.heap.size w w2) := Lib.hid (by rw [hw2]; exact HB1.out.alloc HB1.out.size _)
        clear hw2 HB1 hm20
        generalize Le.val (((List.replicate 20 0).take (0 + k)).drop 0) = av
        go_wp2_with fail
        refine (signed_ok 0 k h1 h8 (zero_fit k) _).mono ?_
        rintro e w3 ⟨rfl, rfl⟩
        generalize sgnW 0 k = sv
        go_wp2_with fail
        refine (unsigned_ok 0 k h1 h8 (inR_zero k h1) _).mono ?_
        rintro e w3 ⟨rfl, rfl⟩
        generalize (0 : Int) % 256 ^ k = uv
        by_cases hk8 : k = 8
        · have b3 : ((k : Int) == 8) = true := by simp; omega
          clear hk8
          go_wp2_with fail
          go_roundw
          case rel => exact ⟨(k : Int) + 1, by omega, by omega, rfl, HB2⟩
          case measure => simp [intOf]; omega
        · have b3 : ((k : Int) == 8) = false := by simp; omega
          have h7 : k ≤ 7 := by omega
          clear hk8
          obtain ⟨f1, f2, f3, f4, f5, f6⟩ := ends_facts k h1
          obtain ⟨P, hP⟩ : ∃ P, P = 256 ^ k := ⟨_, rfl⟩
          rw [← hP] at f1 f2 f3 f4 f5 f6
          have hP0 : 0 < P := by rw [hP]; exact pow256_pos k
          have hPm : P ≤ 72057594037927936 := by
            have h : (256 : Nat) ^ k ≤ 256 ^ 7 := Nat.pow_le_pow_right (by decide) h7
            have e : (256 : Nat) ^ 7 = 72057594037927936 := by decide
            omega
          have C1 := Lib.hid (bytes_range P (by omega) k h1 h8 (by rw [← hP]; omega))
          have C2 := Lib.hid (bytes_ok (P - 1) k h1 h8 (by rw [← hP]; omega))
          have C3 := Lib.hid (signed_range P k (by omega) h1 h8 (by rw [← hP]; omega))
          have C4 := Lib.hid (signed_ok (P - 1) k h1 h8 (by rw [← hP]; omega))
          have C5 := Lib.hid (signed_ok (P / 2) k h1 h8 (by rw [← hP]; omega))
          have C6 := Lib.hid (unsigned_range ((P : Int) / 2) k h1 h8 f3)
          have C7 := Lib.hid (unsigned_range (-((P : Int) / 2) - 1) k h1 h8 f4)
          have C8 := Lib.hid (unsigned_ok (-((P : Int) / 2)) k h1 h8 f5)
          have e1 : ((P - 1 : Nat) : Int) = (P : Int) - 1 := by omega
          have e2 : ((P / 2 : Nat) : Int) = (P : Int) / 2 := by omega
          rw [e1] at C2 C4
          rw [f1] at C4
          rw [e2, f2] at C5
          rw [f6] at C8
          have HP := Lib.hid hP
          clear f1 f2 f3 f4 f5 f6 hP e1 e2
          go_wp2_with fail
          go_loop [11, 12] (fun p i => ∃ (j Q : Nat), j ≤ k ∧ i = .int .i64 j ∧ p = .int .u64 (Q : Int) ∧ Hid (Q = 256 ^ j)) (fun _ i => k - (intOf i).toNat)
          case atStart => exact ⟨0, 1, by omega, rfl, rfl, Lib.hid rfl⟩
          case round =>
            obtain ⟨j, Q, hj, rfl, rfl, HQ⟩ := hrel
            by_cases hjk : j < k
            · have hQ : Q * 256 ≤ 72057594037927936 := by
                have h : (256 : Nat) ^ (j + 1) ≤ 256 ^ 7 := Nat.pow_le_pow_right (by decide) (by omega)
                have e : (256 : Nat) ^ 7 = 72057594037927936 := by decide
                rw [Nat.pow_succ] at h
                rw [HQ.out]; omega
              go_wp2_with fail
              go_round
              case rel => exact ⟨j + 1, Q * 256, by omega, by go_num, by congr 1, Lib.hid (by rw [HQ.out, Nat.pow_succ])⟩
              case measure => simp [intOf]; omega
            · obtain rfl : j = k := by omega
              obtain rfl : Q = P := by rw [HQ.out, HP.out]
              go_wp2_with fail
              refine (C1.out _).mono ?_
              rintro e w3 ⟨rfl, rfl⟩
              go_wp2_with fail
              refine (C2.out _).mono ?_
              rintro e w3 ⟨rfl, -, hb3⟩
              have HB3 := Lib.hid (HB2.out.trans (hb3.mono HB2.out.size))
              clear hb3 HB2
              go_wp2_with fail
              refine (C3.out _).mono ?_
              rintro e w4 ⟨rfl, rfl⟩
              go_wp2_with fail
              refine (C4.out _).mono ?_
              rintro e w4 ⟨rfl, rfl⟩
              go_wp2_with fail
              refine (C5.out _).mono ?_
              rintro e w4 ⟨rfl, rfl⟩
              go_wp2_with fail
              refine (C6.out _).mono ?_
              rintro e w4 ⟨rfl, rfl⟩
              go_wp2_with fail
              refine (C7.out _).mono ?_
              rintro e w4 ⟨rfl, rfl⟩
              go_wp2_with fail
              refine (C8.out _).mono ?_
              rintro e w4 ⟨rfl, rfl⟩
              have g1 : (-((Q : Int) / 2) != -((Q : Int) / 2)) = false := by simp
              have g2 : ((Q : Int) / 2 != (Q : Int) / 2) = false := by simp
              go_wp2_with fail
              go_roundw
              case rel => exact ⟨(j : Int) + 1, by omega, by omega, rfl, HB3⟩
              case measure => simp [intOf]; omega
    · obtain rfl : k = 10 := by omega
      have hm9 := mk9
      have hm3 := mk3
      go_wp2_with fail
      refine (value_any none 0 0 [] _ (BArg.none_ _)).mono ?_
      rintro e w1 ⟨rfl, rfl⟩
      rw [v0]
      go_wp2_with fail
      refine (value_any _ 9 9 (List.replicate 9 0) _ (Owns.made _ _ 9 (Nat.le_refl _) (by omega)).arg).mono ?_
      rintro e w1 ⟨rfl, rfl⟩
      rw [v9]
      obtain ⟨w1, hw1⟩ : ∃ w1, w1 = wr.alloc (.cells (zb 9) 5) := ⟨_, rfl⟩
      rw [← hw1]
      have HB1 : Hid (Below w.heap.size w w1) := Lib.hid (by rw [hw1]; exact HB.out.alloc HB.out.size _)
      clear hw1 HB hm9
      go_wp2_with fail
      refine (value_any _ 8 8 [255, 255, 255, 255, 255, 255, 255, 255] (w1.alloc (.cells #[.int .u8 255, .int .u8 255, .int .u8 255, .int .u8 255, .int .u8 255, .int .u8 255, .int .u8 255, .int .u8 255] 5)) (BArg.lit _ _ 8 rfl (by omega) _ _ _ rfl)).mono ?_
      rintro e w2 ⟨rfl, rfl⟩
      rw [v255]
      obtain ⟨w2, hw2⟩ : ∃ w2, w2 = w1.alloc (.cells #[.int .u8 255, .int .u8 255, .int .u8 255, .int .u8 255, .int .u8 255, .int .u8 255, .int .u8 255, .int .u8 255] 5) := ⟨_, rfl⟩
      rw [← hw2]
      have HB2 : Hid (Below w.heap.size w w2) := Lib.hid (by rw [hw2]; exact HB1.out.alloc HB1.out.size _)
      clear hw2 HB1
      go_wp2_with fail
      refine (at_short _ 3 3 2 2 _ (by omega) (by omega) (by omega) (by omega) (by omega) (by omega)).mono ?_
      rintro e w3 ⟨rfl, rfl⟩
      obtain ⟨w3, hw3⟩ : ∃ w3, w3 = w2.alloc (.cells (zb 3) 5) := ⟨_, rfl⟩
      rw [← hw3]
      have HB3 : Hid (Below w.heap.size w w3) := Lib.hid (by rw [hw3]; exact HB2.out.alloc HB2.out.size _)
      clear hw3 HB2
      go_wp2_with fail
      refine (at_arg _ 3 3 (-1) 2 _ (by omega)).mono ?_
      rintro e w4 ⟨rfl, rfl⟩
      obtain ⟨w4, hw4⟩ : ∃ w4, w4 = w3.alloc (.cells (zb 3) 5) := ⟨_, rfl⟩
      rw [← hw4]
      have HB4 : Hid (Below w.heap.size w w4) := Lib.hid (by rw [hw4]; exact HB3.out.alloc HB3.out.size _)
      clear hw4 HB3
      go_wp2_with fail
      refine (at_short _ 3 3 9223372036854775807 8 _ (by omega) (by omega) (by omega) (by omega) (by omega) (by omega)).mono ?_
      rintro e w5 ⟨rfl, rfl⟩
      obtain ⟨w5, hw5⟩ : ∃ w5, w5 = w4.alloc (.cells (zb 3) 5) := ⟨_, rfl⟩
      rw [← hw5]
      have HB5 : Hid (Below w.heap.size w w5) := Lib.hid (by rw [hw5]; exact HB4.out.alloc HB4.out.size _)
      clear hw5 HB4 hm3
      go_wp2_with fail
      refine (at_ok _ 3 3 [9, 1, 0] 1 2 (w5.alloc (.cells #[.int .u8 9, .int .u8 1, .int .u8 0] 5)) (BArg.lit _ _ 3 rfl (by omega) _ _ _ rfl) (by omega) (by omega) (by omega)).mono ?_
      rintro e w6 ⟨rfl, rfl⟩
      rw [v910]
      obtain ⟨w6, hw6⟩ : ∃ w6, w6 = w5.alloc (.cells #[.int .u8 9, .int .u8 1, .int .u8 0] 5) := ⟨_, rfl⟩
      rw [← hw6]
      have HB6 : Hid (Below w.heap.size w w6) := Lib.hid (by rw [hw6]; exact HB5.out.alloc HB5.out.size _)
      clear hw6 HB5
      go_wp2_with fail
      refine (signed_ok 9223372036854775808 8 (by omega) (by omega) (by decide) _).mono ?_
      rintro e w7 ⟨rfl, rfl⟩
      rw [sg8]
      go_wp2_with fail
      refine (unsigned_ok (-9223372036854775808) 8 (by omega) (by omega) (by decide) _).mono ?_
      rintro e w7 ⟨rfl, rfl⟩
      rw [un8]
      go_wp2_with fail
      refine (lealive_any _).mono ?_
      rintro e w8 ⟨rfl, hb8⟩
      go_wp2_with fail
      go_ret
      exact ⟨rfl, HB6.out.trans (hb8.mono HB6.out.size)⟩
end Go.Proofs.Ytbffdafkgckcgaa
