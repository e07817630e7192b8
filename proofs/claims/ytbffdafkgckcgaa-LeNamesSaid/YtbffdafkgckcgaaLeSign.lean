/- The walks of le.Signed and le.Unsigned. -/
import Derived.Test.YtbffdafkgckcgaaLeBytes
namespace Go.Proofs.Ytbffdafkgckcgaa
open Go.RowKit

/-- The signed number with a two's complement. -/
def sgnW (n k : Nat) : Int := if n < 256 ^ k / 2 then n else (n : Int) - 256 ^ k
/-- Does a signed number fit a width? -/
def inR (x : Int) (k : Nat) : Bool := decide (-(256 ^ k / 2) ≤ x ∧ x < 256 ^ k / 2)

theorem width_cases {k : Nat} (h1 : 1 ≤ k) (h8 : k ≤ 8) : k = 1 ∨ k = 2 ∨ k = 3 ∨ k = 4 ∨ k = 5 ∨ k = 6 ∨ k = 7 ∨ k = 8 := by omega
theorem sgn_eq (n k : Nat) (h1 : 1 ≤ k) (h8 : k ≤ 8) (hf : n < 256 ^ k) : wrap64 (IntKind.u64.wrap ((n : Int) * 2 ^ (64 - 8 * k))) / 2 ^ (64 - 8 * k) = sgnW n k := by
  unfold wrap64 sgnW
  rw [IntKind.wrap_u64]
  rcases width_cases h1 h8 with h | h | h | h | h | h | h | h <;> subst h <;> simp only [Nat.reduceMul, Nat.reduceSub, Nat.reducePow, Nat.reduceDiv, Int.reducePow] at hf ⊢ <;> split <;> omega
theorem uns_test (x : Int) (k : Nat) (h1 : 1 ≤ k) (h8 : k ≤ 8) : (wrap64 (x * 2 ^ (64 - 8 * k)) / 2 ^ (64 - 8 * k) != x) = !(inR x k) := by
  unfold wrap64 inR
  rw [Bool.eq_iff_iff]
  simp only [bne_iff_ne, Bool.not_eq_true', decide_eq_false_iff_not, ne_eq]
  rcases width_cases h1 h8 with h | h | h | h | h | h | h | h <;> subst h <;> simp only [Nat.reduceMul, Nat.reduceSub, Int.reducePow] <;> omega
theorem uns_eq (x : Int) (k : Nat) (h1 : 1 ≤ k) (h8 : k ≤ 8) : IntKind.u64.wrap (IntKind.u64.wrap x * 2 ^ (64 - 8 * k)) / 2 ^ (64 - 8 * k) = x % 256 ^ k := by
  rw [IntKind.wrap_u64, IntKind.wrap_u64]
  rcases width_cases h1 h8 with h | h | h | h | h | h | h | h <;> subst h <;> simp only [Nat.reduceMul, Nat.reduceSub, Int.reducePow] <;> omega

set_option maxHeartbeats 400000 in
theorem signed_ok (n k : Nat) (h1 : 1 ≤ k) (h8 : k ≤ 8) (hf : n < 256 ^ k) (w : World) :
    Calls Try.prog 15 #[.int .u64 (n : Int), .int .i64 (k : Int)] w fun e w' => e = .returned (.tuple #[.int .i64 (sgnW n k), .int .i64 0]) ∧ w = w' := by
  have hn : n < 18446744073709551616 := Nat.lt_of_lt_of_le hf (pow256_le k h8)
  have HN := Lib.hid hn
  have HF : Hid (fitB n k = true) := Lib.hid (by unfold fitB; rw [decide_eq_true_eq]; exact hf)
  have HE := Lib.hid (sgn_eq n k h1 h8 hf)
  clear hn hf
  go_enter Try.func15, Try.ntmps15
  go_wp2_with fail
  refine (fits_any n HN.out k h1 h8 _).mono ?_
  rintro e w1 ⟨rfl, rfl⟩
  rw [HF.out]
  go_wp2_with fail
  go_ret2
  exact ⟨by rw [← HE.out]; rfl, rfl⟩

set_option maxHeartbeats 400000 in
theorem signed_range (n k : Nat) (hn : n < 18446744073709551616) (h1 : 1 ≤ k) (h8 : k ≤ 8) (hf : ¬ n < 256 ^ k) (w : World) :
    Calls Try.prog 15 #[.int .u64 (n : Int), .int .i64 (k : Int)] w fun e w' => e = .returned (.tuple #[.int .i64 0, .int .i64 16]) ∧ w = w' := by
  have HN := Lib.hid hn
  have HF : Hid (fitB n k = false) := Lib.hid (by unfold fitB; rw [decide_eq_false_iff_not]; exact hf)
  clear hn hf
  go_enter Try.func15, Try.ntmps15
  go_wp2_with fail
  refine (fits_any n HN.out k h1 h8 _).mono ?_
  rintro e w1 ⟨rfl, rfl⟩
  rw [HF.out]
  go_wp2_with fail
  go_ret2
  exact ⟨rfl, rfl⟩

set_option maxHeartbeats 400000 in
theorem signed_arg (n : Nat) (k : Int) (h : k < 1 ∨ 8 < k) (w : World) :
    Calls Try.prog 15 #[.int .u64 (n : Int), .int .i64 k] w fun e w' => e = .returned (.tuple #[.int .i64 0, .int .i64 2]) ∧ w = w' := by
  rcases h with h | h
  · go_enter Try.func15, Try.ntmps15
    go_wp2_with fail
    go_ret2
    exact ⟨rfl, rfl⟩
  · go_enter Try.func15, Try.ntmps15
    go_wp2_with fail
    go_ret2
    exact ⟨rfl, rfl⟩

set_option maxHeartbeats 400000 in
theorem unsigned_ok (x : Int) (k : Nat) (h1 : 1 ≤ k) (h8 : k ≤ 8) (hr : inR x k = true) (w : World) :
    Calls Try.prog 17 #[.int .i64 x, .int .i64 (k : Int)] w fun e w' => e = .returned (.tuple #[.int .u64 (x % 256 ^ k), .int .i64 0]) ∧ w = w' := by
  have g := uns_test x k h1 h8
  rw [hr] at g
  have HE := Lib.hid (uns_eq x k h1 h8)
  clear hr
  go_enter Try.func17, Try.ntmps17
  go_wp2_with fail
  go_ret2
  exact ⟨by rw [← HE.out]; rfl, rfl⟩

set_option maxHeartbeats 400000 in
theorem unsigned_range (x : Int) (k : Nat) (h1 : 1 ≤ k) (h8 : k ≤ 8) (hr : inR x k = false) (w : World) :
    Calls Try.prog 17 #[.int .i64 x, .int .i64 (k : Int)] w fun e w' => e = .returned (.tuple #[.int .u64 0, .int .i64 16]) ∧ w = w' := by
  have g := uns_test x k h1 h8
  rw [hr] at g
  clear hr
  go_enter Try.func17, Try.ntmps17
  go_wp2_with fail
  go_ret2
  exact ⟨rfl, rfl⟩

set_option maxHeartbeats 400000 in
theorem unsigned_arg (x : Int) (k : Int) (h : k < 1 ∨ 8 < k) (w : World) :
    Calls Try.prog 17 #[.int .i64 x, .int .i64 k] w fun e w' => e = .returned (.tuple #[.int .u64 0, .int .i64 2]) ∧ w = w' := by
  rcases h with h | h
  · go_enter Try.func17, Try.ntmps17
    go_wp2_with fail
    go_ret2
    exact ⟨rfl, rfl⟩
  · go_enter Try.func17, Try.ntmps17
    go_wp2_with fail
    go_ret2
    exact ⟨rfl, rfl⟩

/-- What le.Signed and le.Unsigned answer. -/
def sgnP (n : Nat) (k : Int) : Int × Int := if k < 1 ∨ 8 < k then (0, 2) else if n < 256 ^ k.toNat then (sgnW n k.toNat, 0) else (0, 16)
def unsP (x k : Int) : Int × Int := if k < 1 ∨ 8 < k then (0, 2) else if inR x k.toNat = true then (x % 256 ^ k.toNat, 0) else (0, 16)

theorem signed_any (n : Nat) (hn : n < 18446744073709551616) (k : Int) (w : World) :
    Calls Try.prog 15 #[.int .u64 (n : Int), .int .i64 k] w fun e w' => e = .returned (.tuple #[.int .i64 (sgnP n k).1, .int .i64 (sgnP n k).2]) ∧ w = w' := by
  unfold sgnP
  by_cases h : k < 1 ∨ 8 < k
  · rw [if_pos h]; exact signed_arg n k h w
  · rw [if_neg h]
    obtain ⟨k, rfl⟩ := Int.eq_ofNat_of_zero_le (show 0 ≤ k by omega)
    rw [Int.toNat_natCast]
    by_cases hf : n < 256 ^ k
    · rw [if_pos hf]; exact signed_ok n k (by omega) (by omega) hf w
    · rw [if_neg hf]; exact signed_range n k hn (by omega) (by omega) hf w

theorem unsigned_any (x k : Int) (w : World) :
    Calls Try.prog 17 #[.int .i64 x, .int .i64 k] w fun e w' => e = .returned (.tuple #[.int .u64 (unsP x k).1, .int .i64 (unsP x k).2]) ∧ w = w' := by
  unfold unsP
  by_cases h : k < 1 ∨ 8 < k
  · rw [if_pos h]; exact unsigned_arg x k h w
  · rw [if_neg h]
    obtain ⟨k, rfl⟩ := Int.eq_ofNat_of_zero_le (show 0 ≤ k by omega)
    rw [Int.toNat_natCast]
    by_cases hr : inR x k = true
    · rw [if_pos hr]; exact unsigned_ok x k (by omega) (by omega) hr w
    · rw [if_neg hr]; exact unsigned_range x k (by omega) (by omega) (by simpa using hr) w
end Go.Proofs.Ytbffdafkgckcgaa
