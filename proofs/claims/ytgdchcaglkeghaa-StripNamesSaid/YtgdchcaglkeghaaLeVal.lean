/- The walks of le.Value and le.At. -/
import Derived.Test.YtgdchcaglkeghaaLeBytes
namespace Go.Proofs.Ytgdchcaglkeghaa
open Go.RowKit

/-- What le.Value answers. -/
def valP (l : List UInt8) : Value :=
  if 1 ≤ l.length ∧ l.length ≤ 8 then .tuple #[.int .u64 (Le.val l : Int), .int .i64 0] else .tuple #[.int .u64 0, .int .i64 2]
theorem val_step (l : List UInt8) (k : Nat) (c : UInt8) (hk : k < 8) (hc : l[k]? = some c) :
    bits .or .u64 (Le.val (l.take k) : Int) (IntKind.u64.wrap ((c.toNat : Int) * 2 ^ (8 * k))) = (Le.val (l.take (k + 1)) : Int) := by
  obtain ⟨hl, rfl⟩ := List.getElem?_eq_some_iff.1 hc
  have h0 := Le.val_lt (l.take k)
  have hlen : (l.take k).length = k := by simp; omega
  rw [hlen, Le.pow256] at h0
  have hp : 2 ^ (8 * k) ≤ 2 ^ 56 := Nat.pow_le_pow_right (by decide) (by omega)
  have hc8 := l[k].toNat_lt
  have h2 : l[k].toNat * 2 ^ (8 * k) ≤ 255 * 2 ^ (8 * k) := Nat.mul_le_mul_right _ (by omega)
  have e : IntKind.u64.wrap ((l[k].toNat : Int) * 2 ^ (8 * k)) = ((l[k].toNat * 2 ^ (8 * k) : Nat) : Int) := by
    rw [IntKind.wrap_u64]
    have : ((l[k].toNat * 2 ^ (8 * k) : Nat) : Int) = (l[k].toNat : Int) * 2 ^ (8 * k) := by simp
    rw [← this]
    omega
  rw [e, u64_or_nat _ _ (by omega) (by omega), Le.or_shift _ _ _ h0, List.take_succ_eq_append_getElem hl, Le.val_snoc, hlen, Le.pow256]

set_option maxHeartbeats 400000 in
theorem value_any (a : Option Addr) (len cap : Nat) (l : List UInt8) (w : World) (ha : BArg w a len cap l) :
    Calls Try.prog 68 #[.slice a len cap] w fun e w' => e = .returned (valP l) ∧ w = w' := by
  have hll := ha.len_eq
  have HA := Lib.hid ha
  clear ha
  by_cases h : 1 ≤ len ∧ len ≤ 8
  · obtain ⟨h1, h8⟩ := h
    have HP : Hid (valP l = .tuple #[.int .u64 (Le.val l : Int), .int .i64 0]) := Lib.hid (by unfold valP; rw [if_pos (by omega)])
    have HL := Lib.hid hll
    clear hll
    go_enter Try.func68, Try.ntmps68
    go_wp2
    go_loop [4, 17] (fun s i => ∃ k : Nat, k ≤ len ∧ i = .int .i64 k ∧ s = .int .u64 (Le.val (l.take k) : Int)) (fun _ i => len - (intOf i).toNat)
    case atStart => exact ⟨0, by omega, rfl, rfl⟩
    case round =>
      obtain ⟨k, hk, rfl, rfl⟩ := hrel
      by_cases hlt : k < len
      · obtain ⟨ad, c, rfl, hs, hblk, hcl, hcell⟩ := HA.out.at_ hlt
        have HS := Lib.hid (val_step l k c (by omega) hcl)
        have hc8 := c.toNat_lt
        generalize Le.val (l.take k) = y at HS ⊢
        clear hcl hblk hs
        go_wp2
        go_round
        case rel => exact ⟨k + 1, by omega, by go_num, by rw [HS.out]⟩
        case measure => simp [intOf]; omega
      · obtain rfl : k = len := by omega
        go_wp2
        go_ret2
        exact ⟨by rw [HP.out, List.take_of_length_le (by rw [HL.out]; omega)]; rfl, rfl⟩
  · have HP : Hid (valP l = .tuple #[.int .u64 0, .int .i64 2]) := Lib.hid (by unfold valP; rw [if_neg (by omega)])
    have h' : len < 1 ∨ 8 < len := by omega
    clear h hll
    rcases h' with h' | h'
    · go_enter Try.func68, Try.ntmps68
      go_wp2_with fail
      go_ret2
      exact ⟨by rw [HP.out]; rfl, rfl⟩
    · go_enter Try.func68, Try.ntmps68
      go_wp2_with fail
      go_ret2
      exact ⟨by rw [HP.out]; rfl, rfl⟩

/-- What le.At answers. -/
def atP (l : List UInt8) (p k : Int) : Value :=
  if k < 1 ∨ 8 < k ∨ p < 0 then .tuple #[.int .u64 0, .int .i64 2]
  else if (l.length : Int) < p + k then .tuple #[.int .u64 0, .int .i64 24]
  else .tuple #[.int .u64 (Le.val ((l.take (p + k).toNat).drop p.toNat) : Int), .int .i64 0]

set_option maxHeartbeats 400000 in
theorem at_ok (a : Option Addr) (len cap : Nat) (l : List UInt8) (p k : Nat) (w : World) (ha : BArg w a len cap l) (h1 : 1 ≤ k) (h8 : k ≤ 8) (hp : p + k ≤ len) :
    Calls Try.prog 61 #[.slice a len cap, .int .i64 (p : Int), .int .i64 (k : Int)] w fun e w' => e = .returned (.tuple #[.int .u64 (Le.val ((l.take (p + k)).drop p) : Int), .int .i64 0]) ∧ w = w' := by
  have hll := ha.len_eq
  have hlc := ha.le
  have hcs := ha.small
  have HV : Hid (valP ((l.take (p + k)).drop p) = .tuple #[.int .u64 (Le.val ((l.take (p + k)).drop p) : Int), .int .i64 0]) := Lib.hid (by unfold valP; rw [if_pos (by simp; omega)])
  have hcut := ha.cut (i := p) (j := p + k) (by omega) hp
  have hne : ¬ cap = p := by omega
  rw [Nat.add_sub_cancel_left, if_neg hne] at hcut
  have HC := Lib.hid hcut
  clear hcut hll ha
  go_enter Try.func61, Try.ntmps61
  go_wp2_with fail
  refine (value_any _ k (cap - p) _ _ HC.out).mono ?_
  rintro e w1 ⟨rfl, rfl⟩
  rw [HV.out]
  go_wp2_with fail
  go_ret2
  exact ⟨rfl, rfl⟩

set_option maxHeartbeats 400000 in
theorem at_arg (a : Option Addr) (len cap : Nat) (p k : Int) (w : World) (h : k < 1 ∨ 8 < k ∨ p < 0) :
    Calls Try.prog 61 #[.slice a len cap, .int .i64 p, .int .i64 k] w fun e w' => e = .returned (.tuple #[.int .u64 0, .int .i64 2]) ∧ w = w' := by
  by_cases h1 : k < 1
  · go_enter Try.func61, Try.ntmps61
    go_wp2_with fail
    go_ret2
    exact ⟨rfl, rfl⟩
  · by_cases h2 : 8 < k
    · go_enter Try.func61, Try.ntmps61
      go_wp2_with fail
      go_ret2
      exact ⟨rfl, rfl⟩
    · have h3 : p < 0 := by omega
      clear h
      go_enter Try.func61, Try.ntmps61
      go_wp2_with fail
      go_ret2
      exact ⟨rfl, rfl⟩

set_option maxHeartbeats 400000 in
theorem at_short (a : Option Addr) (len cap : Nat) (p k : Int) (w : World) (hlc : len ≤ cap) (hcs : cap ≤ 9223372036854775807) (h1 : 1 ≤ k) (h8 : k ≤ 8) (h0 : 0 ≤ p) (hp : (len : Int) < p + k) :
    Calls Try.prog 61 #[.slice a len cap, .int .i64 p, .int .i64 k] w fun e w' => e = .returned (.tuple #[.int .u64 0, .int .i64 24]) ∧ w = w' := by
  have h : (len : Int) - k < p := by omega
  clear hp
  go_enter Try.func61, Try.ntmps61
  go_wp2_with fail
  go_ret2
  exact ⟨rfl, rfl⟩

theorem at_any (a : Option Addr) (len cap : Nat) (l : List UInt8) (p k : Int) (w : World) (ha : BArg w a len cap l) :
    Calls Try.prog 61 #[.slice a len cap, .int .i64 p, .int .i64 k] w fun e w' => e = .returned (atP l p k) ∧ w = w' := by
  have hll := ha.len_eq
  unfold atP
  by_cases h1 : k < 1 ∨ 8 < k ∨ p < 0
  · rw [if_pos h1]
    exact at_arg a len cap p k w h1
  · rw [if_neg h1]
    by_cases h2 : (l.length : Int) < p + k
    · rw [if_pos h2]
      exact at_short a len cap p k w ha.le ha.small (by omega) (by omega) (by omega) (by omega)
    · rw [if_neg h2]
      obtain ⟨p, rfl⟩ := Int.eq_ofNat_of_zero_le (show 0 ≤ p by omega)
      obtain ⟨k, rfl⟩ := Int.eq_ofNat_of_zero_le (show 0 ≤ k by omega)
      have e : ((p : Int) + (k : Int)).toNat = p + k := by omega
      rw [e, Int.toNat_natCast]
      exact at_ok a len cap l p k w ha (by omega) (by omega) (by omega)
end Go.Proofs.Ytgdchcaglkeghaa
