/- Bursts: what the change of some bits does to bytes; plain. -/
import Derived.Test.YtpfbgldpnjkdkaaCrcAlive
namespace Go.Proofs.Ytpfbgldpnjkdkaa
open Go.RowKit

/-- Bit p of some bytes is changed. -/
def flip1 (l : List UInt8) (p : Nat) : List UInt8 := l.set (p / 8) (l.getD (p / 8) 0 ^^^ UInt8.ofNat (2 ^ (7 - p % 8)))
/-- Bit k of a number. -/
def dl (c : Nat) (k : Nat) : Nat := c / 2 ^ k % 2
/-- The bits from p on are changed as the bits of c say, k of them. -/
def flp (l : List UInt8) (p c : Nat) : Nat → List UInt8
  | 0 => l
  | k + 1 => if dl c k = 1 then flip1 (flp l p c k) (p + k) else flp l p c k
/-- Is one of the first k bits of c not 0? -/
def dif (c : Nat) : Nat → Bool
  | 0 => false
  | k + 1 => dif c k || decide (dl c k = 1)
theorem flip1_length (l : List UInt8) (p : Nat) : (flip1 l p).length = l.length := by simp [flip1]
theorem flp_length (l : List UInt8) (p c k : Nat) : (flp l p c k).length = l.length := by
  induction k with
  | zero => rfl
  | succ k ih => simp only [flp]; split <;> simp [flip1_length, ih]
theorem dl_le (c k : Nat) : dl c k ≤ 1 := by unfold dl; omega
theorem dif_false (c k : Nat) : dif c k = false ↔ ∀ i, i < k → dl c i = 0 := by
  induction k with
  | zero => simp [dif]
  | succ k ih =>
    have hk := dl_le c k
    simp only [dif, Bool.or_eq_false_iff, ih, decide_eq_false_iff_not]
    constructor
    · rintro ⟨h1, h2⟩ i hi
      rcases Nat.lt_or_ge i k with h | h
      · exact h1 i h
      · obtain rfl : i = k := by omega
        omega
    · intro h
      exact ⟨fun i hi => h i (by omega), by have := h k (by omega); omega⟩

theorem bit_test (l : List Nat) (j : Nat) : Crc.bit l j = ((l.getD (j / 8) 0).testBit (7 - j % 8)).toNat := by
  unfold Crc.bit
  rw [Nat.testBit_eq_decide_div_mod_eq]
  generalize l.getD (j / 8) 0 / 2 ^ (7 - j % 8) = y
  have : y % 2 = 0 ∨ y % 2 = 1 := by omega
  rcases this with h | h <;> rw [h] <;> rfl

theorem bn_getD (l : List UInt8) (i : Nat) : (bn l).getD i 0 = (l.getD i 0).toNat := by
  unfold bn
  simp only [List.getD, List.getElem?_map]
  cases l[i]? <;> rfl

theorem flip1_bit (l : List UInt8) (p j : Nat) (hp : p < 8 * l.length) : Crc.bit (bn (flip1 l p)) j = if j = p then Crc.bit (bn l) j ^^^ 1 else Crc.bit (bn l) j := by
  rw [bit_test, bit_test, bn_getD, bn_getD]
  unfold flip1
  have hq : p / 8 < l.length := by omega
  by_cases hjq : j / 8 = p / 8
  · have e : (l.set (p / 8) (l.getD (p / 8) 0 ^^^ UInt8.ofNat (2 ^ (7 - p % 8)))).getD (j / 8) 0 = l.getD (j / 8) 0 ^^^ UInt8.ofNat (2 ^ (7 - p % 8)) := by
      rw [hjq]
      simp [List.getD, hq]
    rw [e, UInt8.toNat_xor, Nat.testBit_xor]
    have hb : (UInt8.ofNat (2 ^ (7 - p % 8))).toNat = 2 ^ (7 - p % 8) := by
      rw [UInt8.toNat_ofNat']
      exact Nat.mod_eq_of_lt (Nat.lt_of_le_of_lt (Nat.pow_le_pow_right (n := 2) (by decide) (show 7 - p % 8 ≤ 7 by omega)) (by decide))
    rw [hb, Nat.testBit_two_pow]
    by_cases hjp : j = p
    · subst hjp
      cases hb2 : (l.getD (j / 8) 0).toNat.testBit (7 - j % 8) <;> simp
    · have : ¬ (7 - p % 8 = 7 - j % 8) := by omega
      simp [hjp, this]
  · have hjp : j ≠ p := fun h => hjq (by rw [h])
    rw [if_neg hjp]
    have e : (l.set (p / 8) (l.getD (p / 8) 0 ^^^ UInt8.ofNat (2 ^ (7 - p % 8)))).getD (j / 8) 0 = l.getD (j / 8) 0 := by
      simp only [List.getD, List.getElem?_set]
      rw [if_neg (fun h => hjq h.symm)]
    rw [e]

theorem flp_bit (l : List UInt8) (p c k j : Nat) (hk : p + k ≤ 8 * l.length) : Crc.bit (bn (flp l p c k)) j = if p ≤ j ∧ j < p + k then Crc.bit (bn l) j ^^^ dl c (j - p) else Crc.bit (bn l) j := by
  induction k with
  | zero => rw [if_neg (by omega)]; rfl
  | succ k ih =>
    have ih := ih (by omega)
    have hd := dl_le c k
    simp only [flp]
    by_cases h1 : dl c k = 1
    · rw [if_pos h1, flip1_bit _ _ _ (by rw [flp_length]; omega), ih]
      by_cases hj : j = p + k
      · subst hj
        rw [if_pos rfl, if_neg (by omega), if_pos (by omega)]
        have : p + k - p = k := by omega
        rw [this, h1]
      · rw [if_neg hj]
        by_cases h2 : p ≤ j ∧ j < p + k
        · rw [if_pos h2, if_pos (by omega)]
        · rw [if_neg h2, if_neg (by omega)]
    · rw [if_neg h1, ih]
      by_cases h2 : p ≤ j ∧ j < p + k
      · rw [if_pos h2, if_pos (by omega)]
      · rw [if_neg h2]
        by_cases hj : p ≤ j ∧ j < p + (k + 1)
        · rw [if_pos hj]
          have : j - p = k := by omega
          have h0 : dl c k = 0 := by omega
          rw [this, h0, Nat.xor_zero]
        · rw [if_neg hj]

theorem bn_lt (l : List UInt8) : ∀ x ∈ bn l, x < 256 := by
  intro x hx
  obtain ⟨c, _, rfl⟩ := List.mem_map.1 hx
  exact c.toNat_lt

/-- The sums differ just if a bit does. -/
theorem flp_sum (l : List UInt8) (p c k : Nat) (hk : p + k ≤ 8 * l.length) (h64 : k ≤ 64) : (((Crc.run 0#64 (bn l)).toNat : Int) != ((Crc.run 0#64 (bn (flp l p c k))).toNat : Int)) = dif c k := by
  have hb := Crc.burst (bn (flp l p c k)) (bn l) (by simp [bn, flp_length]) (bn_lt _) (bn_lt _) p k (dl c) (dl_le c) h64 (by simp [bn, flp_length]; omega)
    (fun j hj => by rw [flp_bit l p c k j hk, if_neg (by omega)])
    (fun i hi => by rw [flp_bit l p c k _ hk, if_pos (by omega), Nat.add_sub_cancel_left])
    (fun j h1 h2 => by rw [flp_bit l p c k j hk, if_neg (by omega)])
  have hd := dif_false c k
  cases h : dif c k with
  | false =>
    have := hb.2 (hd.1 h)
    rw [this]; simp
  | true =>
    rw [bne_iff_ne]
    intro he
    have he' : (Crc.run 0#64 (bn l)).toNat = (Crc.run 0#64 (bn (flp l p c k))).toNat := by omega
    have := hd.2 (hb.1 (BitVec.eq_of_toNat_eq he').symm)
    rw [h] at this
    cases this
end Go.Proofs.Ytpfbgldpnjkdkaa
