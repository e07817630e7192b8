/- The walks of the reference of CRC-64: steps, bytes, strings. -/
import Derived.Test.YtbffdafkgckcgaaCrc
namespace Go.Proofs.Ytbffdafkgckcgaa
open Go.RowKit

theorem st_yes (x : BitVec 64) (h : 9223372036854775808 ≤ x.toNat) : ((Crc.st x).toNat : Int) = bits .xor .u64 (IntKind.u64.wrap ((x.toNat : Int) * 2)) 4823603603198064275 := by
  have hx := x.isLt
  rw [← st_int]
  have : (x.toNat : Int) / 9223372036854775808 = 1 := by omega
  rw [this]; rfl
theorem wrap_lt (y : Int) : 0 ≤ IntKind.u64.wrap y ∧ IntKind.u64.wrap y < 18446744073709551616 := by
  rw [IntKind.wrap_u64]; omega
theorem st_no (x : BitVec 64) (h : x.toNat < 9223372036854775808) : ((Crc.st x).toNat : Int) = IntKind.u64.wrap ((x.toNat : Int) * 2) := by
  rw [← st_int]
  have : (x.toNat : Int) / 9223372036854775808 = 0 := by omega
  rw [this]
  have hw := wrap_lt ((x.toNat : Int) * 2)
  obtain ⟨n, hn⟩ := Int.eq_ofNat_of_zero_le hw.1
  rw [hn] at hw ⊢
  have := bits_xor_u64_nat n 0 (by omega) (by omega)
  simpa using this
theorem high_st : Crc.st (BitVec.ofNat 64 (1 * 2 ^ 63)) = Crc.poly := by decide
theorem poly_nat : (Crc.poly.toNat : Int) = 4823603603198064275 := by decide
theorem st_flip (x : BitVec 64) : Crc.st (x ^^^ BitVec.ofNat 64 (1 * 2 ^ 63)) = Crc.st x ^^^ Crc.poly := by rw [Crc.st_xor, high_st]
theorem st_flip_no (x : BitVec 64) (h : x.toNat < 9223372036854775808) : ((Crc.st (x ^^^ BitVec.ofNat 64 (1 * 2 ^ 63))).toNat : Int) = bits .xor .u64 (IntKind.u64.wrap ((x.toNat : Int) * 2)) 4823603603198064275 := by
  rw [st_flip, BitVec.toNat_xor, ← bits_xor_u64_nat _ _ (BitVec.isLt _) (BitVec.isLt _), st_no x h, poly_nat]
theorem st_flip_yes (x : BitVec 64) (h : 9223372036854775808 ≤ x.toNat) : ((Crc.st (x ^^^ BitVec.ofNat 64 (1 * 2 ^ 63))).toNat : Int) = IntKind.u64.wrap ((x.toNat : Int) * 2) := by
  have hx := x.isLt
  have e1 : IntKind.u64.wrap ((x.toNat : Int) * 2) = ((x.toNat * 2 % 18446744073709551616 : Nat) : Int) := by
    rw [← wrap_u64_nat]; rfl
  rw [st_flip, e1]
  congr 1
  unfold Crc.st
  have hm : x.msb = true := by
    rw [BitVec.msb_eq_decide]; simp; omega
  rw [hm, if_pos rfl, BitVec.xor_assoc, BitVec.xor_self, BitVec.xor_zero, BitVec.toNat_shiftLeft, Nat.shiftLeft_eq]

/-- A step with a bit. -/
def stp (x : BitVec 64) (b : Nat) : BitVec 64 := Crc.st (x ^^^ BitVec.ofNat 64 (b * 2 ^ 63))

set_option maxRecDepth 10000 in
set_option maxHeartbeats 400000 in
theorem step_any (x : BitVec 64) (b : Nat) (hb : b < 2) (w : World) :
    Calls Try.prog 51 #[.int .u64 (x.toNat : Int), .int .i64 (b : Int)] w fun e w' => e = .returned (.int .u64 ((stp x b).toNat : Int)) ∧ w = w' := by
  by_cases h0 : b = 0
  · subst h0
    have e0 : stp x 0 = Crc.st x := by simp [stp]
    by_cases hh : 9223372036854775808 ≤ x.toNat
    · have HE := Lib.hid (st_yes x hh)
      have hg : decide ((9223372036854775808 : Int) ≤ (x.toNat : Int)) = true := by simp; omega
      clear hh
      rw [e0]
      clear e0
      go_enter Try.func51, Try.ntmps51
      go_wp2
      go_ret
      exact ⟨by rw [HE.out]; rfl, rfl⟩
    · have HE := Lib.hid (st_no x (by omega))
      have hg : decide ((9223372036854775808 : Int) ≤ (x.toNat : Int)) = false := by simp; omega
      clear hh
      rw [e0]
      clear e0
      go_enter Try.func51, Try.ntmps51
      go_wp2
      go_ret
      exact ⟨by rw [HE.out]; rfl, rfl⟩
  · obtain rfl : b = 1 := by omega
    clear h0
    by_cases hh : 9223372036854775808 ≤ x.toNat
    · have HE := Lib.hid (st_flip_yes x hh)
      have hg : decide ((9223372036854775808 : Int) ≤ (x.toNat : Int)) = true := by simp; omega
      clear hh
      unfold stp
      go_enter Try.func51, Try.ntmps51
      go_wp2
      go_ret
      exact ⟨by rw [HE.out]; rfl, rfl⟩
    · have HE := Lib.hid (st_flip_no x (by omega))
      have hg : decide ((9223372036854775808 : Int) ≤ (x.toNat : Int)) = false := by simp; omega
      clear hh
      unfold stp
      go_enter Try.func51, Try.ntmps51
      go_wp2
      go_ret
      exact ⟨by rw [HE.out]; rfl, rfl⟩

theorem pow_div (j : Nat) (hj : j < 8) : 128 / 2 ^ j = 2 ^ (7 - j) := by
  have : j = 0 ∨ j = 1 ∨ j = 2 ∨ j = 3 ∨ j = 4 ∨ j = 5 ∨ j = 6 ∨ j = 7 := by omega
  rcases this with h | h | h | h | h | h | h | h <;> subst h <;> rfl
theorem div_succ (j : Nat) : 128 / 2 ^ (j + 1) = 128 / 2 ^ j / 2 := by rw [Nat.pow_succ, Nat.div_div_eq_div_mul]
theorem part_step (x : BitVec 64) (c j : Nat) (hj : j < 8) : Crc.part x c (j + 1) = stp (Crc.part x c j) (c / (128 / 2 ^ j) % 2) := by
  rw [pow_div j hj]; rfl
theorem div_pos (j : Nat) (hj : j < 8) : 1 ≤ 128 / 2 ^ j ∧ 128 / 2 ^ j ≤ 128 := by
  rw [pow_div j hj]
  exact ⟨Nat.two_pow_pos _, Nat.pow_le_pow_right (n := 2) (by decide) (show 7 - j ≤ 7 by omega)⟩

set_option maxRecDepth 10000 in
set_option maxHeartbeats 400000 in
theorem byte_any (x : BitVec 64) (c : Nat) (hc : c < 256) (w : World) :
    Calls Try.prog 50 #[.int .u64 (x.toNat : Int), .int .u8 (c : Int)] w fun e w' => e = .returned (.int .u64 ((Crc.next x c).toNat : Int)) ∧ w = w' := by
  have HP := Lib.hid (Crc.part_next x c hc)
  go_enter Try.func50, Try.ntmps50
  go_wp2
  go_loop [0, 5] (fun s i => ∃ j d : Nat, j ≤ 8 ∧ Hid (d = 128 / 2 ^ j) ∧ i = .int .i64 (d : Int) ∧ s = .int .u64 ((Crc.part x c j).toNat : Int)) (fun _ i => (intOf i).toNat)
  case atStart => exact ⟨0, 128, by omega, rfl, rfl, rfl⟩
  case round =>
    obtain ⟨j, d, hj, hd, rfl, rfl⟩ := hrel
    by_cases hlt : j < 8
    · obtain ⟨h1, h2⟩ := div_pos j hlt
      rw [← hd.out] at h1 h2
      have HS := Lib.hid (part_step x c j hlt)
      generalize Crc.part x c j = y at HS ⊢
      have q1 : 0 ≤ (c : Int) / (d : Int) := Int.ediv_nonneg (by omega) (by omega)
      have q2 : (c : Int) / (d : Int) ≤ 255 := Int.le_trans (Int.ediv_le_self _ (by omega)) (by omega)
      go_wp2_with fail
      rw [show ((c : Int) / (d : Int) % 2) = ((c / d % 2 : Nat) : Int) from by simp]
      refine (step_any y (c / d % 2) (by omega) _).mono ?_
      rintro e w1 ⟨rfl, rfl⟩
      go_wp2
      go_round
      case rel => exact ⟨j + 1, d / 2, by omega, Lib.hid (by rw [div_succ, ← hd.out]), by simp, by rw [HS.out, hd.out]⟩
      case measure => simp [intOf]; omega
    · obtain rfl : j = 8 := by omega
      obtain rfl : d = 0 := hd.out
      rw [HP.out]
      go_wp2
      go_ret
      exact ⟨rfl, rfl⟩

set_option maxRecDepth 10000 in
set_option maxHeartbeats 400000 in
theorem rbehind_any (x : BitVec 64) (a : Option Addr) (len cap : Nat) (l : List UInt8) (w : World) (ha : BArg w a len cap l) :
    Calls Try.prog 47 #[.int .u64 (x.toNat : Int), .slice a len cap] w fun e w' => e = .returned (.int .u64 ((Crc.run x (bn l)).toNat : Int)) ∧ w = w' := by
  have hlen := ha.le
  have hcap := ha.small
  have HA := Lib.hid ha
  clear ha
  go_enter Try.func47, Try.ntmps47
  go_wp2
  go_loop [0, 5] (fun s i => ∃ k : Nat, k ≤ len ∧ i = .int .i64 k ∧ s = .int .u64 ((Crc.run x (bn (l.take k))).toNat : Int)) (fun _ i => len - (intOf i).toNat)
  case atStart => exact ⟨0, by omega, rfl, rfl⟩
  case round =>
    obtain ⟨k, hk, rfl, rfl⟩ := hrel
    by_cases hlt : k < len
    · obtain ⟨ad, c, rfl, hs, hblk, hcl, hcell⟩ := HA.out.at_ hlt
      generalize hx : Crc.run x (bn (l.take k)) = y
      have HX := Lib.hid hx
      have hc8 := c.toNat_lt
      have HCL := Lib.hid hcl
      clear hx hcl hblk hs
      go_wp2_with fail
      refine (byte_any y c.toNat hc8 _).mono ?_
      rintro e w1 ⟨rfl, rfl⟩
      go_wp2
      go_round
      case rel =>
        refine ⟨k + 1, by omega, by go_num, ?_⟩
        rw [← HX.out, bn_snoc l k c HCL.out, Crc.run_append]
        rfl
      case measure => simp [intOf]; omega
    · obtain rfl : k = len := by omega
      go_wp2
      go_ret
      exact ⟨by rw [List.take_of_length_le (by have := HA.out.len_eq; omega)]; rfl, rfl⟩
end Go.Proofs.Ytbffdafkgckcgaa
