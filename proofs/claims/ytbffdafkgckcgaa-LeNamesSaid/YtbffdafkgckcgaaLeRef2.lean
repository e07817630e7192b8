/- The walks of the reference of layer 1: Width, Bytes, Value, At, Signed, Unsigned. -/
import Derived.Test.YtbffdafkgckcgaaLeRef
import Derived.Test.YtbffdafkgckcgaaLeVal
import Derived.Test.YtbffdafkgckcgaaLeSign
namespace Go.Proofs.Ytbffdafkgckcgaa
open Go.RowKit

set_option maxHeartbeats 400000 in
theorem width_yes (k : Int) (h1 : 1 ≤ k) (h8 : k ≤ 8) (w : World) :
    Calls Try.prog 19 #[.int .i64 k] w fun e w' => e = .returned (.bool true) ∧ w = w' := by
  have g1 : decide (1 ≤ k) = true := by simp; omega
  have g2 : decide (k ≤ 8) = true := by simp; omega
  clear h1 h8
  go_enter Try.func19, Try.ntmps19
  go_wp2_with fail
  go_ret
  exact ⟨rfl, rfl⟩
set_option maxHeartbeats 400000 in
theorem width_no (k : Int) (h : k < 1 ∨ 8 < k) (w : World) :
    Calls Try.prog 19 #[.int .i64 k] w fun e w' => e = .returned (.bool false) ∧ w = w' := by
  by_cases h1 : k < 1
  · have g1 : decide (1 ≤ k) = false := by simp; omega
    clear h h1
    go_enter Try.func19, Try.ntmps19
    go_wp2_with fail
    go_ret
    exact ⟨rfl, rfl⟩
  · have g1 : decide (1 ≤ k) = true := by simp; omega
    have g2 : decide (k ≤ 8) = false := by simp; omega
    clear h h1
    go_enter Try.func19, Try.ntmps19
    go_wp2_with fail
    go_ret
    exact ⟨rfl, rfl⟩

theorem fit_top (n k : Nat) : ¬ topN k < n ↔ n < 256 ^ k := by
  have := pow256_pos k
  unfold topN; omega

set_option maxHeartbeats 400000 in
theorem rbytes_ok (n k : Nat) (h1 : 1 ≤ k) (h8 : k ≤ 8) (hf : n < 256 ^ k) (w : World) :
    Calls Try.prog 23 #[.int .u64 (n : Int), .int .i64 (k : Int)] w fun e w' => ∃ A cap, e = .returned (.tuple #[.slice A k cap, .int .i64 0]) ∧ Owns w' w.heap.size (.slice A k cap) (Le.bs n k) ∧ Below w.heap.size w w' := by
  have HN : Hid (n < 18446744073709551616) := Lib.hid (Nat.lt_of_lt_of_le hf (pow256_le k h8))
  have g : decide (topN k < n) = false := by have := (fit_top n k).2 hf; simp; omega
  clear hf
  go_enter Try.func23, Try.ntmps23
  go_wp2_with fail
  refine (width_yes (k : Int) (by omega) (by omega) _).mono ?_
  rintro e w1 ⟨rfl, rfl⟩
  go_wp2_with fail
  refine (top_any k h8 _).mono ?_
  rintro e w1 ⟨rfl, rfl⟩
  go_wp2_with fail
  refine (written_any n k HN.out h8 _).mono ?_
  rintro e w1 ⟨A, cap, rfl, hown, hb⟩
  have HO := Lib.hid hown
  have HB := Lib.hid hb
  clear hown hb
  go_wp2_with fail
  go_ret2
  exact ⟨A, cap, rfl, HO.out, HB.out⟩
set_option maxHeartbeats 400000 in
theorem rbytes_range (n k : Nat) (h1 : 1 ≤ k) (h8 : k ≤ 8) (hf : ¬ n < 256 ^ k) (w : World) :
    Calls Try.prog 23 #[.int .u64 (n : Int), .int .i64 (k : Int)] w fun e w' => e = .returned (.tuple #[.slice none 0 0, .int .i64 16]) ∧ w = w' := by
  have g : decide (topN k < n) = true := decide_eq_true (Decidable.byContradiction (fun h => hf ((fit_top n k).1 h)))
  clear hf
  go_enter Try.func23, Try.ntmps23
  go_wp2_with fail
  refine (width_yes (k : Int) (by omega) (by omega) _).mono ?_
  rintro e w1 ⟨rfl, rfl⟩
  go_wp2_with fail
  refine (top_any k h8 _).mono ?_
  rintro e w1 ⟨rfl, rfl⟩
  go_wp2_with fail
  go_ret2
  exact ⟨rfl, rfl⟩
set_option maxHeartbeats 400000 in
theorem rbytes_arg (n : Nat) (k : Int) (h : k < 1 ∨ 8 < k) (w : World) :
    Calls Try.prog 23 #[.int .u64 (n : Int), .int .i64 k] w fun e w' => e = .returned (.tuple #[.slice none 0 0, .int .i64 2]) ∧ w = w' := by
  have H := Lib.hid h
  clear h
  go_enter Try.func23, Try.ntmps23
  go_wp2_with fail
  refine (width_no k H.out _).mono ?_
  rintro e w1 ⟨rfl, rfl⟩
  go_wp2_with fail
  go_ret2
  exact ⟨rfl, rfl⟩

set_option maxHeartbeats 400000 in
theorem rvalue_any (a : Option Addr) (len cap : Nat) (l : List UInt8) (w : World) (ha : BArg w a len cap l) :
    Calls Try.prog 25 #[.slice a len cap] w fun e w' => e = .returned (valP l) ∧ w = w' := by
  have hll := ha.len_eq
  have HA := Lib.hid ha
  clear ha
  by_cases h : 1 ≤ len ∧ len ≤ 8
  · obtain ⟨h1, h8⟩ := h
    have HP : Hid (valP l = .tuple #[.int .u64 (Le.val l : Int), .int .i64 0]) := Lib.hid (by unfold valP; rw [if_pos (by omega)])
    clear hll
    go_enter Try.func25, Try.ntmps25
    go_wp2_with fail
    refine (width_yes (len : Int) (by omega) (by omega) _).mono ?_
    rintro e w1 ⟨rfl, rfl⟩
    go_wp2_with fail
    refine (of_le_any a len cap l _ HA.out h8).mono ?_
    rintro e w1 ⟨rfl, rfl⟩
    go_wp2_with fail
    go_ret2
    exact ⟨by rw [HP.out]; rfl, rfl⟩
  · have HP : Hid (valP l = .tuple #[.int .u64 0, .int .i64 2]) := Lib.hid (by unfold valP; rw [if_neg (by omega)])
    have H : Hid ((len : Int) < 1 ∨ 8 < (len : Int)) := Lib.hid (by omega)
    clear h hll
    go_enter Try.func25, Try.ntmps25
    go_wp2_with fail
    refine (width_no (len : Int) H.out _).mono ?_
    rintro e w1 ⟨rfl, rfl⟩
    go_wp2_with fail
    go_ret2
    exact ⟨by rw [HP.out]; rfl, rfl⟩

set_option maxHeartbeats 400000 in
theorem rat_ok (a : Option Addr) (len cap : Nat) (l : List UInt8) (p k : Nat) (w : World) (ha : BArg w a len cap l) (h1 : 1 ≤ k) (h8 : k ≤ 8) (hp : p + k ≤ len) :
    Calls Try.prog 27 #[.slice a len cap, .int .i64 (p : Int), .int .i64 (k : Int)] w fun e w' => e = .returned (.tuple #[.int .u64 (Le.val ((l.take (p + k)).drop p) : Int), .int .i64 0]) ∧ w = w' := by
  have hlc := ha.le
  have hcs := ha.small
  have hcut := ha.cut (i := p) (j := p + k) (by omega) hp
  have hne : ¬ cap = p := by omega
  rw [Nat.add_sub_cancel_left, if_neg hne] at hcut
  have HC := Lib.hid hcut
  clear hcut ha
  have g1 : decide ((p : Int) < 0) = false := by simp
  have g2 : decide ((len : Int) < (p : Int)) = false := by simp; omega
  have g3 : decide ((len : Int) - (p : Int) < (k : Int)) = false := by simp; omega
  go_enter Try.func27, Try.ntmps27
  go_wp2_with fail
  refine (width_yes (k : Int) (by omega) (by omega) _).mono ?_
  rintro e w1 ⟨rfl, rfl⟩
  go_wp2_with fail
  refine (of_le_any _ k (cap - p) _ _ HC.out h8).mono ?_
  rintro e w1 ⟨rfl, rfl⟩
  go_wp2_with fail
  go_ret2
  exact ⟨rfl, rfl⟩
set_option maxHeartbeats 400000 in
theorem rat_arg (a : Option Addr) (len cap : Nat) (p k : Int) (w : World) (h : k < 1 ∨ 8 < k ∨ p < 0) :
    Calls Try.prog 27 #[.slice a len cap, .int .i64 p, .int .i64 k] w fun e w' => e = .returned (.tuple #[.int .u64 0, .int .i64 2]) ∧ w = w' := by
  by_cases h1 : k < 1 ∨ 8 < k
  · have H := Lib.hid h1
    clear h h1
    go_enter Try.func27, Try.ntmps27
    go_wp2_with fail
    refine (width_no k H.out _).mono ?_
    rintro e w1 ⟨rfl, rfl⟩
    go_wp2_with fail
    go_ret2
    exact ⟨rfl, rfl⟩
  · have h2 : p < 0 := by omega
    have g1 : decide (p < 0) = true := by simpa using h2
    have q1 : 1 ≤ k := by omega
    have q2 : k ≤ 8 := by omega
    clear h h1 h2
    go_enter Try.func27, Try.ntmps27
    go_wp2_with fail
    refine (width_yes k q1 q2 _).mono ?_
    rintro e w1 ⟨rfl, rfl⟩
    go_wp2_with fail
    go_ret2
    exact ⟨rfl, rfl⟩
set_option maxHeartbeats 400000 in
theorem rat_short (a : Option Addr) (len cap : Nat) (p k : Int) (w : World) (_hlc : len ≤ cap) (_hcs : cap ≤ 9223372036854775807) (h1 : 1 ≤ k) (h8 : k ≤ 8) (h0 : 0 ≤ p) (hp : (len : Int) < p + k) :
    Calls Try.prog 27 #[.slice a len cap, .int .i64 p, .int .i64 k] w fun e w' => e = .returned (.tuple #[.int .u64 0, .int .i64 24]) ∧ w = w' := by
  have g1 : decide (p < 0) = false := by simp; omega
  by_cases h2 : (len : Int) < p
  · have g2 : decide ((len : Int) < p) = true := by simpa using h2
    go_enter Try.func27, Try.ntmps27
    go_wp2_with fail
    refine (width_yes k h1 h8 _).mono ?_
    rintro e w1 ⟨rfl, rfl⟩
    go_wp2_with fail
    go_ret2
    exact ⟨rfl, rfl⟩
  · have g2 : decide ((len : Int) < p) = false := by simpa using h2
    have g3 : decide ((len : Int) - p < k) = true := by simp; omega
    go_enter Try.func27, Try.ntmps27
    go_wp2_with fail
    refine (width_yes k h1 h8 _).mono ?_
    rintro e w1 ⟨rfl, rfl⟩
    go_wp2_with fail
    go_ret2
    exact ⟨rfl, rfl⟩
theorem rat_any (a : Option Addr) (len cap : Nat) (l : List UInt8) (p k : Int) (w : World) (ha : BArg w a len cap l) :
    Calls Try.prog 27 #[.slice a len cap, .int .i64 p, .int .i64 k] w fun e w' => e = .returned (atP l p k) ∧ w = w' := by
  have hll := ha.len_eq
  unfold atP
  by_cases h1 : k < 1 ∨ 8 < k ∨ p < 0
  · rw [if_pos h1]
    exact rat_arg a len cap p k w h1
  · rw [if_neg h1]
    by_cases h2 : (l.length : Int) < p + k
    · rw [if_pos h2]
      exact rat_short a len cap p k w ha.le ha.small (by omega) (by omega) (by omega) (by omega)
    · rw [if_neg h2]
      obtain ⟨p, rfl⟩ := Int.eq_ofNat_of_zero_le (show 0 ≤ p by omega)
      obtain ⟨k, rfl⟩ := Int.eq_ofNat_of_zero_le (show 0 ≤ k by omega)
      have e : ((p : Int) + (k : Int)).toNat = p + k := by omega
      rw [e, Int.toNat_natCast]
      exact rat_ok a len cap l p k w ha (by omega) (by omega) (by omega)

/-- Is a number the two's complement of a negative one? -/
def minB (n k : Nat) : Bool := decide (topN k / 2 < n)
set_option maxHeartbeats 400000 in
theorem minus_any (n k : Nat) (h8 : k ≤ 8) (w : World) :
    Calls Try.prog 39 #[.int .u64 (n : Int), .int .i64 (k : Int)] w fun e w' => e = .returned (.bool (minB n k)) ∧ w = w' := by
  have HM : Hid (minB n k = decide ((topN k : Int) / 2 < (n : Int))) := Lib.hid (by unfold minB; rw [decide_eq_decide]; omega)
  have hb := topN_lt k h8
  go_enter Try.func39, Try.ntmps39
  go_wp2_with fail
  refine (top_any k h8 _).mono ?_
  rintro e w1 ⟨rfl, rfl⟩
  generalize topN k = t at *
  go_wp2_with fail
  go_ret
  exact ⟨by rw [HM.out]; rfl, rfl⟩

theorem half_top (n k : Nat) (h1 : 1 ≤ k) : n < 256 ^ k / 2 ↔ ¬ topN k / 2 < n := by
  have : ∃ q, 256 ^ k = 2 * q ∧ 0 < q := ⟨128 * 256 ^ (k - 1), by
    obtain ⟨j, rfl⟩ : ∃ j, k = j + 1 := ⟨k - 1, by omega⟩
    rw [Nat.pow_succ, Nat.add_sub_cancel]; omega, by have := pow256_pos (k - 1); omega⟩
  obtain ⟨q, hq, hp⟩ := this
  unfold topN
  rw [hq]
  omega

set_option maxHeartbeats 400000 in
theorem rsigned_any (n : Nat) (k : Int) (w : World) :
    Calls Try.prog 16 #[.int .u64 (n : Int), .int .i64 k] w fun e w' => e = .returned (.tuple #[.int .i64 (sgnP n k).1, .int .i64 (sgnP n k).2]) ∧ w = w' := by
  unfold sgnP
  by_cases h : k < 1 ∨ 8 < k
  · rw [if_pos h]
    have H := Lib.hid h
    clear h
    go_enter Try.func16, Try.ntmps16
    go_wp2_with fail
    refine (width_no k H.out _).mono ?_
    rintro e w1 ⟨rfl, rfl⟩
    go_wp2_with fail
    go_ret2
    exact ⟨rfl, rfl⟩
  · rw [if_neg h]
    obtain ⟨k, rfl⟩ := Int.eq_ofNat_of_zero_le (show 0 ≤ k by omega)
    rw [Int.toNat_natCast]
    have h1 : 1 ≤ k := by omega
    have h8 : k ≤ 8 := by omega
    by_cases hf : n < 256 ^ k
    · rw [if_pos hf]
      have g : decide (topN k < n) = false := by have := (fit_top n k).2 hf; simp; omega
      have hle : n ≤ topN k := by have := (fit_top n k).2 hf; omega
      have htl := topN_lt k h8
      have HT : Hid ((256 : Int) ^ k = (topN k : Int) + 1) := Lib.hid (by
        have := pow256_pos k
        have e : ((256 ^ k : Nat) : Int) = (256 : Int) ^ k := by simp
        rw [← e]; unfold topN; omega)
      by_cases hh : n < 256 ^ k / 2
      · have HS : Hid (sgnW n k = (n : Int)) := Lib.hid (by unfold sgnW; rw [if_pos hh])
        have hm := (half_top n k h1).1 hh
        have HM : Hid (minB n k = false) := Lib.hid (by unfold minB; rw [decide_eq_false_iff_not]; exact hm)
        rw [HS.out]
        clear hf hh h
        go_enter Try.func16, Try.ntmps16
        go_wp2_with fail
        refine (width_yes (k : Int) (by omega) (by omega) _).mono ?_
        rintro e w1 ⟨rfl, rfl⟩
        go_wp2_with fail
        refine (top_any k h8 _).mono ?_
        rintro e w1 ⟨rfl, rfl⟩
        go_wp2_with fail
        refine (minus_any n k h8 _).mono ?_
        rintro e w1 ⟨rfl, rfl⟩
        rw [HM.out]
        go_wp2_with fail
        go_ret2
        exact ⟨rfl, rfl⟩
      · have HS : Hid (sgnW n k = -((topN k : Int) - (n : Int)) - 1) := Lib.hid (by unfold sgnW; rw [if_neg hh, HT.out]; omega)
        have hm2 : topN k / 2 < n := Decidable.byContradiction (fun hx => hh ((half_top n k h1).2 hx))
        have HM : Hid (minB n k = true) := Lib.hid (by unfold minB; rw [decide_eq_true_eq]; exact hm2)
        clear hf hh h
        go_enter Try.func16, Try.ntmps16
        go_wp2_with fail
        refine (width_yes (k : Int) (by omega) (by omega) _).mono ?_
        rintro e w1 ⟨rfl, rfl⟩
        go_wp2_with fail
        refine (top_any k h8 _).mono ?_
        rintro e w1 ⟨rfl, rfl⟩
        go_wp2_with fail
        refine (minus_any n k h8 _).mono ?_
        rintro e w1 ⟨rfl, rfl⟩
        rw [HM.out]
        go_wp2_with fail
        refine (top_any k h8 _).mono ?_
        rintro e w1 ⟨rfl, rfl⟩
        generalize topN k = t at *
        go_wp2_with fail
        go_ret2
        exact ⟨by rw [HS.out]; rfl, rfl⟩
    · rw [if_neg hf]
      have g : decide (topN k < n) = true := decide_eq_true (Decidable.byContradiction (fun h => hf ((fit_top n k).1 h)))
      clear hf h
      go_enter Try.func16, Try.ntmps16
      go_wp2_with fail
      refine (width_yes (k : Int) (by omega) (by omega) _).mono ?_
      rintro e w1 ⟨rfl, rfl⟩
      go_wp2_with fail
      refine (top_any k h8 _).mono ?_
      rintro e w1 ⟨rfl, rfl⟩
      go_wp2_with fail
      go_ret2
      exact ⟨rfl, rfl⟩

theorem inR_nonneg (x : Int) (k : Nat) (h1 : 1 ≤ k) (h0 : 0 ≤ x) : inR x k = !decide ((topN k : Int) / 2 < x) := by
  obtain ⟨n, rfl⟩ := Int.eq_ofNat_of_zero_le h0
  have h := half_top n k h1
  unfold inR
  rw [Bool.eq_iff_iff]
  simp only [decide_eq_true_eq, Bool.not_eq_true', decide_eq_false_iff_not]
  have e : (256 : Int) ^ k = ((256 ^ k : Nat) : Int) := by simp
  rw [e]
  omega
theorem inR_neg (x : Int) (k : Nat) (h1 : 1 ≤ k) (h0 : x < 0) : inR x k = !decide ((topN k : Int) / 2 < -(x + 1)) := by
  obtain ⟨n, hn⟩ := Int.eq_ofNat_of_zero_le (show 0 ≤ -(x + 1) by omega)
  have h := half_top n k h1
  unfold inR
  rw [Bool.eq_iff_iff]
  simp only [decide_eq_true_eq, Bool.not_eq_true', decide_eq_false_iff_not]
  have e : (256 : Int) ^ k = ((256 ^ k : Nat) : Int) := by simp
  rw [e, hn]
  omega

set_option maxHeartbeats 400000 in
theorem runsigned_any (x k : Int) (hx1 : -9223372036854775808 ≤ x) (hx2 : x ≤ 9223372036854775807) (w : World) :
    Calls Try.prog 18 #[.int .i64 x, .int .i64 k] w fun e w' => e = .returned (.tuple #[.int .u64 (unsP x k).1, .int .i64 (unsP x k).2]) ∧ w = w' := by
  unfold unsP
  by_cases h : k < 1 ∨ 8 < k
  · rw [if_pos h]
    have H := Lib.hid h
    clear h
    go_enter Try.func18, Try.ntmps18
    go_wp2_with fail
    refine (width_no k H.out _).mono ?_
    rintro e w1 ⟨rfl, rfl⟩
    go_wp2_with fail
    go_ret2
    exact ⟨rfl, rfl⟩
  · rw [if_neg h]
    obtain ⟨k, rfl⟩ := Int.eq_ofNat_of_zero_le (show 0 ≤ k by omega)
    rw [Int.toNat_natCast]
    have h1 : 1 ≤ k := by omega
    have h8 : k ≤ 8 := by omega
    have htl := topN_lt k h8
    have HT : Hid ((256 : Int) ^ k = (topN k : Int) + 1) := Lib.hid (by
      have := pow256_pos k
      have e : ((256 ^ k : Nat) : Int) = (256 : Int) ^ k := by simp
      rw [← e]; unfold topN; omega)
    clear h
    by_cases h0 : 0 ≤ x
    · have e := inR_nonneg x k h1 h0
      by_cases hh : (topN k : Int) / 2 < x
      · have g : decide ((topN k : Int) / 2 < x) = true := by simpa using hh
        rw [g] at e
        rw [if_neg (by rw [e]; simp)]
        clear e hh
        go_enter Try.func18, Try.ntmps18
        go_wp2_with fail
        refine (width_yes (k : Int) (by omega) (by omega) _).mono ?_
        rintro e w1 ⟨rfl, rfl⟩
        go_wp2_with fail
        refine (top_any k h8 _).mono ?_
        rintro e w1 ⟨rfl, rfl⟩
        generalize topN k = t at *
        go_wp2_with fail
        go_ret2
        exact ⟨rfl, rfl⟩
      · have g : decide ((topN k : Int) / 2 < x) = false := by simpa using hh
        rw [g] at e
        rw [if_pos (by rw [e]; rfl)]
        have HE : Hid (x % 256 ^ k = x) := Lib.hid (by rw [HT.out]; exact Int.emod_eq_of_lt h0 (by omega))
        clear e hh
        go_enter Try.func18, Try.ntmps18
        go_wp2_with fail
        refine (width_yes (k : Int) (by omega) (by omega) _).mono ?_
        rintro e w1 ⟨rfl, rfl⟩
        go_wp2_with fail
        refine (top_any k h8 _).mono ?_
        rintro e w1 ⟨rfl, rfl⟩
        generalize topN k = t at *
        go_wp2_with fail
        go_ret2
        exact ⟨by rw [HE.out]; rfl, rfl⟩
    · have e := inR_neg x k h1 (by omega)
      have h0' : x < 0 := by omega
      by_cases hh : (topN k : Int) / 2 < -(x + 1)
      · have g : decide ((topN k : Int) / 2 < -(x + 1)) = true := by simpa using hh
        rw [g] at e
        rw [if_neg (by rw [e]; simp)]
        clear e h0
        go_enter Try.func18, Try.ntmps18
        go_wp2_with fail
        refine (width_yes (k : Int) (by omega) (by omega) _).mono ?_
        rintro e w1 ⟨rfl, rfl⟩
        go_wp2_with fail
        refine (top_any k h8 _).mono ?_
        rintro e w1 ⟨rfl, rfl⟩
        generalize topN k = t at *
        go_wp2_with fail
        go_ret2
        exact ⟨rfl, rfl⟩
      · have g : decide ((topN k : Int) / 2 < -(x + 1)) = false := by simpa using hh
        rw [g] at e
        rw [if_pos (by rw [e]; rfl)]
        have HE : Hid (x % 256 ^ k = (topN k : Int) + (x + 1)) := Lib.hid (by
          rw [HT.out, ← Int.add_emod_right, Int.emod_eq_of_lt (by omega) (by omega)]; omega)
        clear e h0
        go_enter Try.func18, Try.ntmps18
        go_wp2_with fail
        refine (width_yes (k : Int) (by omega) (by omega) _).mono ?_
        rintro e w1 ⟨rfl, rfl⟩
        go_wp2_with fail
        refine (top_any k h8 _).mono ?_
        rintro e w1 ⟨rfl, rfl⟩
        go_wp2_with fail
        refine (top_any k h8 _).mono ?_
        rintro e w1 ⟨rfl, rfl⟩
        generalize topN k = t at *
        go_wp2_with fail
        go_ret2
        exact ⟨by rw [HE.out]; rfl, rfl⟩
end Go.Proofs.Ytbffdafkgckcgaa
