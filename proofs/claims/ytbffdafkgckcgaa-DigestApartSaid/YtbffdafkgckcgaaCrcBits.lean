/- Bits of bytes, and bytes that differ within eight bytes alone; plain. -/
import Derived.Test.YtbffdafkgckcgaaCrc
namespace Go.Proofs.Ytbffdafkgckcgaa
open Go.RowKit

theorem bit_test' (l : List Nat) (j : Nat) : Crc.bit l j = ((l.getD (j / 8) 0).testBit (7 - j % 8)).toNat := by
  unfold Crc.bit
  rw [Nat.testBit_eq_decide_div_mod_eq]
  generalize l.getD (j / 8) 0 / 2 ^ (7 - j % 8) = y
  have : y % 2 = 0 ∨ y % 2 = 1 := by omega
  rcases this with h | h <;> rw [h] <;> rfl
theorem bn_getD' (l : List UInt8) (i : Nat) : (bn l).getD i 0 = (l.getD i 0).toNat := by
  unfold bn
  simp only [List.getD, List.getElem?_map]
  cases l[i]? <;> rfl
theorem bn_lt' (l : List UInt8) : ∀ x ∈ bn l, x < 256 := by
  intro x hx
  obtain ⟨c, _, rfl⟩ := List.mem_map.1 hx
  exact c.toNat_lt
theorem xor_xor' (a b : Nat) (ha : a ≤ 1) (hb : b ≤ 1) : a = b ^^^ (a ^^^ b) := by
  have : a = 0 ∨ a = 1 := by omega
  have : b = 0 ∨ b = 1 := by omega
  rcases ‹a = 0 ∨ a = 1› with rfl | rfl <;> rcases ‹b = 0 ∨ b = 1› with rfl | rfl <;> decide
theorem bit_le' (l : List Nat) (j : Nat) : Crc.bit l j ≤ 1 := by unfold Crc.bit; omega
theorem xor_le' (a b : Nat) (ha : a ≤ 1) (hb : b ≤ 1) : a ^^^ b ≤ 1 := by
  have : a = 0 ∨ a = 1 := by omega
  have : b = 0 ∨ b = 1 := by omega
  rcases ‹a = 0 ∨ a = 1› with rfl | rfl <;> rcases ‹b = 0 ∨ b = 1› with rfl | rfl <;> decide
/-- Bytes whose bits are the same are the same. -/
theorem bits_eq' (a b : List UInt8) (h : a.length = b.length) (hb : ∀ j, j < 8 * a.length → Crc.bit (bn a) j = Crc.bit (bn b) j) : a = b := by
  apply List.ext_getElem?
  intro i
  rcases Nat.lt_or_ge i a.length with hi | hi
  · have e1 : a[i]? = some (a.getD i 0) := by simp [List.getD, List.getElem?_eq_getElem hi]
    have e2 : b[i]? = some (b.getD i 0) := by simp [List.getD, List.getElem?_eq_getElem (show i < b.length by omega)]
    rw [e1, e2]
    congr 1
    apply UInt8.toNat_inj.1
    apply Nat.eq_of_testBit_eq
    intro k
    by_cases hk : k < 8
    · have := hb (8 * i + (7 - k)) (by omega)
      rw [bit_test', bit_test', bn_getD', bn_getD'] at this
      have q1 : (8 * i + (7 - k)) / 8 = i := by omega
      have q2 : 7 - (8 * i + (7 - k)) % 8 = k := by omega
      rw [q1, q2] at this
      generalize (a.getD i 0).toNat.testBit k = u at this ⊢
      generalize (b.getD i 0).toNat.testBit k = v at this ⊢
      cases u <;> cases v <;> first | rfl | exact absurd this (by decide)
    · rw [Nat.testBit_lt_two_pow, Nat.testBit_lt_two_pow]
      · exact Nat.lt_of_lt_of_le (b.getD i 0).toNat_lt (Nat.pow_le_pow_right (n := 2) (by decide) (show 8 ≤ k by omega))
      · exact Nat.lt_of_lt_of_le (a.getD i 0).toNat_lt (Nat.pow_le_pow_right (n := 2) (by decide) (show 8 ≤ k by omega))
  · rw [List.getElem?_eq_none hi, List.getElem?_eq_none (by omega)]
/-- Two strings that differ within eight bytes alone have the same sum just if they are the same. -/
theorem window (a b : List UInt8) (h : a.length = b.length) (p k : Nat) (hk : k ≤ 8) (hp : p + k ≤ a.length) (ho : ∀ i, i < p ∨ p + k ≤ i → a.getD i 0 = b.getD i 0) :
    Crc.run 0#64 (bn a) = Crc.run 0#64 (bn b) ↔ a = b := by
  have hout : ∀ j, j < 8 * p ∨ 8 * p + 8 * k ≤ j → Crc.bit (bn a) j = Crc.bit (bn b) j := fun j hj => by
    rw [bit_test', bit_test', bn_getD', bn_getD', ho (j / 8) (by omega)]
  have hb := Crc.burst (bn a) (bn b) (by simp [bn, h]) (bn_lt' _) (bn_lt' _) (8 * p) (8 * k) (fun i => Crc.bit (bn a) (8 * p + i) ^^^ Crc.bit (bn b) (8 * p + i)) (fun i => xor_le' _ _ (bit_le' _ _) (bit_le' _ _)) (by omega) (by simp [bn]; omega)
    (fun j hj => hout j (by omega))
    (fun i _ => xor_xor' _ _ (bit_le' _ _) (bit_le' _ _))
    (fun j h1 _ => hout j (by omega))
  constructor
  · intro hs
    have hz := hb.1 hs
    refine bits_eq' a b h fun j hj => ?_
    by_cases hj2 : j < 8 * p ∨ 8 * p + 8 * k ≤ j
    · exact hout j hj2
    · have hx := hz (j - 8 * p) (by omega)
      have e : 8 * p + (j - 8 * p) = j := by omega
      simp only [e] at hx
      have := xor_xor' (Crc.bit (bn a) j) (Crc.bit (bn b) j) (bit_le' _ _) (bit_le' _ _)
      rw [hx, Nat.xor_zero] at this
      exact this
  · intro hab; rw [hab]
end Go.Proofs.Ytbffdafkgckcgaa
