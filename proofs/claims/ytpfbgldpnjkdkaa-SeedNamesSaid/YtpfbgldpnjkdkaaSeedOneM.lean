/- Plain facts: taps and numbers are one for each. -/
import Derived.Test.YtpfbgldpnjkdkaaSeedDig
namespace Go.Proofs.Ytpfbgldpnjkdkaa
open Go.RowKit

theorem sgn_mod (b : Nat) (h : b < 256) : (sgn b % 256).toNat = b := by unfold sgn; split <;> omega
theorem sgn_of (x : Int) (h1 : -128 ≤ x) (h2 : x ≤ 127) : sgn (x % 256).toNat = x := by unfold sgn; split <;> omega
theorem tapsK_getD (n i : Nat) (h : i < 16) : (tapsK n 8).getD i 0 = tp n i := by
  simp only [List.getD, tapsK_get n 8 i h, Option.getD_some, tp]
theorem good_taps (n : Nat) : good (tapsK n 8) := fun i hi => by
  have hb := tp_bounds n i
  unfold okAt
  rw [tapsK_getD n i hi]
  exact ⟨fun h => by unfold tp; rw [if_neg (by omega)], hb.1, hb.2⟩
theorem pow8_succ (k : Nat) : 2 ^ (8 * (k + 1)) = 2 ^ (8 * k) * 256 := by rw [Nat.mul_add, Nat.pow_add]
theorem dg_taps (n k : Nat) (hk : k ≤ 8) : dg (tapsK n 8) k = n % 2 ^ (8 * k) := by
  induction k with
  | zero => simp [dg, Nat.mod_one]
  | succ k ih =>
    simp only [dg]
    rw [if_pos (by omega), ih (by omega), tapsK_getD n k (by omega), pow8_succ, Nat.mod_mul]
    have : tp n k = sgn (byteAt n k) := by unfold tp; rw [if_pos (by omega), tap_byte]
    rw [this, sgn_mod _ (byteAt_lt n k)]
    unfold byteAt
    rw [Nat.mul_comm (n / 2 ^ (8 * k) % 256)]
theorem dg_of (n : Nat) (hn : n < 18446744073709551616) : dg (tapsK n 8) 8 = n := by
  rw [dg_taps n 8 (by omega)]; exact Nat.mod_eq_of_lt hn
theorem byteAt_dg (l : List Int) (k i : Nat) (hk : k ≤ 8) (hi : i < k) : byteAt (dg l k) i = (l.getD i 0 % 256).toNat := by
  induction k with
  | zero => omega
  | succ k ih =>
    have hlt := dg_lt l k (by omega)
    simp only [dg]
    rw [if_pos (by omega)]
    generalize hb : (l.getD k 0 % 256).toNat = b
    have hb8 : b < 256 := by omega
    have hp : 0 < 2 ^ (8 * k) := Nat.two_pow_pos _
    rcases Nat.lt_or_ge i k with h | h
    · rw [← ih (by omega) h]
      unfold byteAt
      obtain ⟨d, hd⟩ : ∃ d, k = i + 1 + d := ⟨k - (i + 1), by omega⟩
      have e : b * 2 ^ (8 * k) = 2 ^ (8 * i) * (256 * (b * 2 ^ (8 * d))) := by
        rw [hd, Nat.mul_add, Nat.pow_add, pow8_succ]
        ac_rfl
      rw [e, Nat.add_mul_div_left _ _ (Nat.two_pow_pos _), Nat.add_mul_mod_self_left]
    · obtain rfl : i = k := by omega
      rw [hb]
      unfold byteAt
      rw [Nat.add_mul_div_right _ _ hp, Nat.div_eq_of_lt hlt, Nat.zero_add, Nat.mod_eq_of_lt hb8]
theorem taps_dg (l : List Int) (hl : l.length = 16) (hg : good l) : tapsK (dg l 8) 8 = l := by
  apply List.ext_getElem?
  intro i
  rcases Nat.lt_or_ge i 16 with hi | hi
  · obtain ⟨g1, g2, g3⟩ := hg i hi
    rw [tapsK_get _ _ _ hi]
    have e : l[i]? = some (l.getD i 0) := by simp [List.getD, List.getElem?_eq_getElem (show i < l.length by omega)]
    rw [e]
    by_cases h8 : i < 8
    · rw [if_pos h8, tap_byte, byteAt_dg l 8 i (by omega) h8, sgn_of _ g2 g3]
    · rw [if_neg h8, g1 (by omega)]
  · rw [List.getElem?_eq_none (by rw [tapsK_length]; omega), List.getElem?_eq_none (by omega)]
theorem taps_inj (n m : Nat) (hn : n < 18446744073709551616) (hm : m < 18446744073709551616) : (tapsK n 8 == tapsK m 8) = (n == m) := by
  rw [Bool.eq_iff_iff]
  simp only [beq_iff_eq]
  constructor
  · intro h; rw [← dg_of n hn, ← dg_of m hm, h]
  · intro h; rw [h]
end Go.Proofs.Ytpfbgldpnjkdkaa
