/- Plain facts on the taps of numbers. -/
import Derived.Test.YtpfbgldpnjkdkaaSeedOf
import Derived.Laws.BitsAllLaws
namespace Go.Proofs.Ytpfbgldpnjkdkaa
open Go.RowKit

/-- Byte i of a number. -/
def byteAt (n i : Nat) : Nat := n / 2 ^ (8 * i) % 256
/-- A byte as a signed number. -/
def sgn (b : Nat) : Int := if b < 128 then b else (b : Int) - 256

theorem tap_byte (n i : Nat) : tap n i = sgn (byteAt n i) := by
  unfold tap sgn byteAt
  rw [i8_eq]
  split <;> omega
theorem byteAt_lt (n i : Nat) : byteAt n i < 256 := Nat.mod_lt _ (by decide)
theorem sgn_bounds (b : Nat) (h : b < 256) : -128 ≤ sgn b ∧ sgn b ≤ 127 := by unfold sgn; split <;> omega
theorem sgn_inj (a b : Nat) (ha : a < 256) (hb : b < 256) (h : sgn a = sgn b) : a = b := by
  unfold sgn at h; split at h <;> split at h <;> omega

/-- A number with another byte. -/
def setb (n a b : Nat) : Nat := (n &&& (18446744073709551615 - 255 * 2 ^ (8 * a))) ||| (b * 2 ^ (8 * a))

theorem pow8_le (a : Nat) (ha : a ≤ 7) : 2 ^ (8 * a) ≤ 2 ^ 56 := Nat.pow_le_pow_right (by decide) (by omega)

theorem setb_eq (n a b : Nat) (hn : n < 18446744073709551616) (ha : a ≤ 7) (hb : b < 256) :
    bits .or .u64 (bits .andNot .u64 (n : Int) (IntKind.u64.wrap (255 * 2 ^ (8 * a)))) (IntKind.u64.wrap ((b : Int) * 2 ^ (8 * a))) = ((setb n a b : Nat) : Int) := by
  have hp := pow8_le a ha
  have h1 : 255 * 2 ^ (8 * a) < 18446744073709551616 := by omega
  have h2 : b * 2 ^ (8 * a) < 18446744073709551616 := by
    have : b * 2 ^ (8 * a) ≤ 255 * 2 ^ (8 * a) := Nat.mul_le_mul_right _ (by omega)
    omega
  have e1 : IntKind.u64.wrap (255 * 2 ^ (8 * a)) = ((255 * 2 ^ (8 * a) : Nat) : Int) := by
    rw [IntKind.wrap_u64]
    have : ((255 * 2 ^ (8 * a) : Nat) : Int) = 255 * 2 ^ (8 * a) := by simp
    rw [← this]
    omega
  have e2 : IntKind.u64.wrap ((b : Int) * 2 ^ (8 * a)) = ((b * 2 ^ (8 * a) : Nat) : Int) := by
    rw [IntKind.wrap_u64]
    have : ((b * 2 ^ (8 * a) : Nat) : Int) = (b : Int) * 2 ^ (8 * a) := by simp
    rw [← this]
    omega
  rw [e1, e2, u64_andNot_nat _ _ hn h1, u64_or_nat]
  · rfl
  · exact Nat.lt_of_le_of_lt (Nat.and_le_left) hn
  · exact h2

theorem setb_lt (n a b : Nat) (hn : n < 18446744073709551616) (ha : a ≤ 7) (hb : b < 256) : setb n a b < 18446744073709551616 := by
  have hp := pow8_le a ha
  have h2 : b * 2 ^ (8 * a) < 2 ^ 64 := by
    have : b * 2 ^ (8 * a) ≤ 255 * 2 ^ (8 * a) := Nat.mul_le_mul_right _ (by omega)
    omega
  exact Nat.or_lt_two_pow (n := 64) (Nat.lt_of_le_of_lt Nat.and_le_left hn) h2

theorem byteAt_setb (n a b i : Nat) (ha : a ≤ 7) (hi : i ≤ 7) (hb : b < 256) : byteAt (setb n a b) i = if i = a then b else byteAt n i := by
  have hp := pow8_le a ha
  have hm : 18446744073709551615 - 255 * 2 ^ (8 * a) = 2 ^ 64 - (255 * 2 ^ (8 * a) + 1) := by omega
  apply Nat.eq_of_testBit_eq
  intro j
  unfold byteAt setb
  have e256 : (256 : Nat) = 2 ^ 8 := by decide
  rw [e256, Nat.testBit_mod_two_pow, Nat.testBit_div_two_pow, Nat.testBit_or, Nat.testBit_and, hm, Nat.testBit_two_pow_sub_succ (by omega), Nat.testBit_mul_two_pow, Nat.testBit_mul_two_pow]
  have e255 : (255 : Nat) = 2 ^ 8 - 1 := by decide
  rw [e255, Nat.testBit_two_pow_sub_one]
  have hbit : ∀ m, 8 ≤ m → b.testBit m = false := fun m hm => Nat.testBit_lt_two_pow (Nat.lt_of_lt_of_le hb (by rw [e256]; exact Nat.pow_le_pow_right (by decide) hm))
  by_cases hj : j < 8
  · by_cases hia : i = a
    · subst hia
      rw [if_pos rfl]
      have q1 : j + 8 * i - 8 * i = j := by omega
      have q2 : 8 * i ≤ j + 8 * i := by omega
      simp [hj, q1, q2]
    · rw [if_neg hia, Nat.testBit_mod_two_pow, Nat.testBit_div_two_pow]
      have q0 : j + 8 * i < 64 := by omega
      by_cases hlt : i < a
      · have q1 : ¬ 8 * a ≤ j + 8 * i := by omega
        simp [hj, q0, q1]
      · have q1 : ¬ (j + 8 * i - 8 * a < 8) := by omega
        have q2 := hbit (j + 8 * i - 8 * a) (by omega)
        simp [hj, q0, q1, q2]
  · have q : ∀ x : Nat, x < 2 ^ 8 → x.testBit j = false := fun x hx => Nat.testBit_lt_two_pow (Nat.lt_of_lt_of_le hx (Nat.pow_le_pow_right (by decide) (by omega)))
    have q2 : (if i = a then b else n / 2 ^ (8 * i) % 2 ^ 8).testBit j = false := by
      split
      · exact q _ hb
      · exact q _ (Nat.mod_lt _ (by decide))
    rw [q2]
    simp [hj]
end Go.Proofs.Ytpfbgldpnjkdkaa
