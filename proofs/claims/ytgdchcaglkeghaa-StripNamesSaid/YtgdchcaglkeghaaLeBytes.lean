/- The walks of le.fits and le.Bytes. -/
import Derived.Test.YtgdchcaglkeghaaBytes
import Derived.Test.YtgdchcaglkeghaaLeMath
import Derived.Laws.BitsAllLaws
namespace Go.Proofs.Ytgdchcaglkeghaa
open Go.RowKit

theorem pow256_le (w : Nat) (h : w ≤ 8) : 256 ^ w ≤ 18446744073709551616 := by
  have : (256 : Nat) ^ w ≤ 256 ^ 8 := Nat.pow_le_pow_right (by decide) h
  have e : (256 : Nat) ^ 8 = 18446744073709551616 := by decide
  omega
theorem pow256_pos (w : Nat) : 0 < 256 ^ w := Nat.pow_pos (by decide)
/-- Does a number fit a width? -/
def fitB (n w : Nat) : Bool := decide (n < 256 ^ w)

set_option maxHeartbeats 400000 in
theorem fits_any (n : Nat) (hn : n < 18446744073709551616) (k : Nat) (h1 : 1 ≤ k) (h8 : k ≤ 8) (w : World) :
    Calls Try.prog 66 #[.int .u64 (n : Int), .int .i64 (k : Int)] w fun e w' => e = .returned (.bool (fitB n k)) ∧ w = w' := by
  have HN := Lib.hid hn
  clear hn
  by_cases hk : k = 8
  · subst hk
    have HF : Hid (fitB n 8 = true) := Lib.hid (by unfold fitB; rw [decide_eq_true_eq]; exact HN.out)
    go_enter Try.func66, Try.ntmps66
    go_wp2_with fail
    go_ret
    exact ⟨by rw [HF.out]; rfl, rfl⟩
  · have g1 : ((k : Int) == 8) = false := by simp; omega
    have HF : Hid (fitB n k = (((n : Int) / 2 ^ (8 * k)) == 0)) := Lib.hid (by
      unfold fitB
      rw [Le.pow256, Bool.eq_iff_iff]
      simp only [decide_eq_true_eq, beq_iff_eq]
      have e : (n : Int) / 2 ^ (8 * k) = ((n / 2 ^ (8 * k) : Nat) : Int) := by simp
      rw [e]
      have hp : 0 < 2 ^ (8 * k) := Nat.two_pow_pos _
      constructor
      · intro h; rw [Nat.div_eq_of_lt h]; rfl
      · intro h
        have h0 : n / 2 ^ (8 * k) = 0 := by omega
        exact (Nat.div_eq_zero_iff.1 h0).resolve_left (by omega))
    clear hk
    go_enter Try.func66, Try.ntmps66
    go_wp2_with fail
    go_ret
    exact ⟨by rw [HF.out]; rfl, rfl⟩

/-- The first k of the bytes of a number, then zeros. -/
def bsK (n w k : Nat) : List UInt8 := Le.bs n k ++ List.replicate (w - k) 0
theorem bsK_zero (n w : Nat) : bsK n w 0 = List.replicate w 0 := by simp [bsK, Le.bs]
theorem bsK_all (n w : Nat) : bsK n w w = Le.bs n w := by simp [bsK]
theorem bsK_set (n w k : Nat) (h : k < w) : (bsK n w k).set k (Le.byt n k) = bsK n w (k + 1) := by
  apply List.ext_getElem?
  intro i
  rw [List.getElem?_set]
  unfold bsK
  by_cases hk : k = i
  · subst hk
    rw [if_pos rfl, if_pos (by simp [Le.bs_length]; omega), List.getElem?_append_left (by rw [Le.bs_length]; omega), Le.bs_get _ _ _ (by omega)]
  · rw [if_neg hk]
    rcases Nat.lt_or_ge i k with h1 | h1
    · rw [List.getElem?_append_left (by rw [Le.bs_length]; exact h1), List.getElem?_append_left (by rw [Le.bs_length]; omega), Le.bs_get _ _ _ h1, Le.bs_get _ _ _ (by omega)]
    · rw [List.getElem?_append_right (by rw [Le.bs_length]; exact h1), List.getElem?_append_right (by rw [Le.bs_length]; omega)]
      simp only [Le.bs_length, List.getElem?_replicate]
      by_cases h2 : i < w
      · rw [if_pos (by omega), if_pos (by omega)]
      · rw [if_neg (by omega), if_neg (by omega)]
theorem byt_int (n k : Nat) : (n : Int) / 2 ^ (8 * k) % 256 = ((Le.byt n k).toNat : Int) := by
  unfold Le.byt
  rw [UInt8.toNat_ofNat', Le.pow256]
  simp

set_option maxHeartbeats 400000 in
theorem bytes_ok (n k : Nat) (h1 : 1 ≤ k) (h8 : k ≤ 8) (hf : n < 256 ^ k) (w : World) :
    Calls Try.prog 58 #[.int .u64 (n : Int), .int .i64 (k : Int)] w fun e w' => e = .returned (.tuple #[.slice (some ⟨w.heap.size, 0, none⟩) k k, .int .i64 0]) ∧ Owns w' w.heap.size (.slice (some ⟨w.heap.size, 0, none⟩) k k) (Le.bs n k) ∧ Below w.heap.size w w' := by
  have hn : n < 18446744073709551616 := Nat.lt_of_lt_of_le hf (pow256_le k h8)
  have HN := Lib.hid hn
  have HF : Hid (fitB n k = true) := Lib.hid (by unfold fitB; rw [decide_eq_true_eq]; exact hf)
  have hmk := run_make_bytes k (by omega)
  clear hn hf
  go_enter Try.func58, Try.ntmps58
  go_wp2_with fail
  refine (fits_any n HN.out k h1 h8 _).mono ?_
  rintro e w1 ⟨rfl, rfl⟩
  rw [HF.out]
  go_wp2_with fail
  clear hmk
  go_loopw [22] (fun i wr => ∃ j : Nat, j ≤ k ∧ i = .int .i64 j ∧ Hid (Owns wr w.heap.size (.slice (some ⟨w.heap.size, 0, none⟩) k k) (bsK n k j)) ∧ Hid (Below w.heap.size w wr)) (fun i _ => k - (intOf i).toNat)
  case atStart => exact ⟨0, by omega, rfl, Lib.hid (by rw [bsK_zero]; exact Owns.made w _ k (Nat.le_refl _) (by omega)), Lib.hid ((Below.refl _ _).alloc (Nat.le_refl _) _)⟩
  case round =>
    obtain ⟨j, hj, rfl, HO, HB⟩ := hrel
    by_cases hlt : j < k
    · have c1 := HO.out.cellAt hlt
      have c2 := HO.out.free j
      have HS := Lib.hid (HO.out.stored j (Le.byt n j))
      go_wp2
      go_roundw
      case rel =>
        refine ⟨j + 1, by omega, by go_num, Lib.hid ?_, Lib.hid ?_⟩
        · rw [← bsK_set n k j hlt, byt_int]; exact HS.out.1
        · rw [byt_int]; exact HB.out.grown HS.out.2 HB.out.size (fun i hi => by cases hi; exact Nat.le_refl _)
      case measure => simp [intOf]; omega
    · obtain rfl : j = k := by omega
      rw [bsK_all] at HO
      go_wp2
      go_ret2
      exact ⟨rfl, HO.out, HB.out⟩

set_option maxHeartbeats 400000 in
theorem bytes_arg (n : Nat) (k : Int) (h : k < 1 ∨ 8 < k) (w : World) :
    Calls Try.prog 58 #[.int .u64 (n : Int), .int .i64 k] w fun e w' => e = .returned (.tuple #[.slice none 0 0, .int .i64 2]) ∧ w = w' := by
  rcases h with h | h
  · go_enter Try.func58, Try.ntmps58
    go_wp2_with fail
    go_ret2
    exact ⟨rfl, rfl⟩
  · go_enter Try.func58, Try.ntmps58
    go_wp2_with fail
    go_ret2
    exact ⟨rfl, rfl⟩

set_option maxHeartbeats 400000 in
theorem bytes_range (n : Nat) (hn : n < 18446744073709551616) (k : Nat) (h1 : 1 ≤ k) (h8 : k ≤ 8) (hf : ¬ n < 256 ^ k) (w : World) :
    Calls Try.prog 58 #[.int .u64 (n : Int), .int .i64 (k : Int)] w fun e w' => e = .returned (.tuple #[.slice none 0 0, .int .i64 16]) ∧ w = w' := by
  have HN := Lib.hid hn
  have HF : Hid (fitB n k = false) := Lib.hid (by unfold fitB; rw [decide_eq_false_iff_not]; exact hf)
  clear hn hf
  go_enter Try.func58, Try.ntmps58
  go_wp2_with fail
  refine (fits_any n HN.out k h1 h8 _).mono ?_
  rintro e w1 ⟨rfl, rfl⟩
  rw [HF.out]
  go_wp2_with fail
  go_ret2
  exact ⟨rfl, rfl⟩
end Go.Proofs.Ytgdchcaglkeghaa
