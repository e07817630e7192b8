/- LeTwos: the walk. -/
import Derived.Test.YtbffdafkgckcgaaLeLaws1
namespace Go.Proofs.Ytbffdafkgckcgaa
open Go.RowKit

/-- A number that fits, as a signed one, fits, and goes back. -/
theorem twos_back (n k : Nat) (h1 : 1 ≤ k) (h8 : k ≤ 8) (hf : n < 256 ^ k) : inR (sgnW n k) k = true ∧ sgnW n k % 256 ^ k = n ∧ decide (sgnW n k < 0) = decide (topN k / 2 < n) := by
  have hh := half_top n k h1
  have hev : ∃ q, 256 ^ k = 2 * q ∧ 0 < q := ⟨128 * 256 ^ (k - 1), by
    obtain ⟨j, rfl⟩ : ∃ j, k = j + 1 := ⟨k - 1, by omega⟩
    rw [Nat.pow_succ, Nat.add_sub_cancel]; omega, by have := pow256_pos (k - 1); omega⟩
  obtain ⟨q, hq, hp⟩ := hev
  have e : (256 : Int) ^ k = 2 * (q : Int) := by
    have : ((256 ^ k : Nat) : Int) = (256 : Int) ^ k := by simp
    rw [← this, hq]; simp
  rw [hq] at hf hh
  unfold inR sgnW
  rw [e, hq]
  have e2 : 2 * (q : Int) / 2 = (q : Int) := by omega
  have e3 : 2 * q / 2 = q := by omega
  rw [e2, e3]
  rw [e3] at hh
  by_cases h : n < q
  · rw [if_pos h]
    refine ⟨by simp only [decide_eq_true_eq]; omega, Int.emod_eq_of_lt (by omega) (by omega), ?_⟩
    rw [decide_eq_decide]
    have := hh.1 h
    omega
  · rw [if_neg h]
    refine ⟨by simp only [decide_eq_true_eq]; omega, ?_, ?_⟩
    · rw [← Int.add_emod_right, Int.emod_eq_of_lt (by omega) (by omega)]; omega
    · rw [decide_eq_decide]
      have : topN k / 2 < n := Decidable.byContradiction (fun hx => h (hh.2 hx))
      omega
/-- A signed number that fits goes there and back. -/
theorem twos_forth (x : Int) (k : Nat) (h1 : 1 ≤ k) (hr : inR x k = true) : 0 ≤ x % 256 ^ k ∧ (x % 256 ^ k).toNat < 256 ^ k ∧ sgnW (x % 256 ^ k).toNat k = x := by
  have hev : ∃ q, 256 ^ k = 2 * q ∧ 0 < q := ⟨128 * 256 ^ (k - 1), by
    obtain ⟨j, rfl⟩ : ∃ j, k = j + 1 := ⟨k - 1, by omega⟩
    rw [Nat.pow_succ, Nat.add_sub_cancel]; omega, by have := pow256_pos (k - 1); omega⟩
  obtain ⟨q, hq, hp⟩ := hev
  have e : (256 : Int) ^ k = 2 * (q : Int) := by
    have : ((256 ^ k : Nat) : Int) = (256 : Int) ^ k := by simp
    rw [← this, hq]; simp
  unfold inR at hr
  unfold sgnW
  rw [e] at hr ⊢
  rw [hq]
  have e2 : 2 * (q : Int) / 2 = (q : Int) := by omega
  have e3 : 2 * q / 2 = q := by omega
  rw [e2, decide_eq_true_eq] at hr
  rw [e3]
  by_cases h : 0 ≤ x
  · rw [Int.emod_eq_of_lt h (by omega)]
    refine ⟨h, by omega, ?_⟩
    rw [if_pos (by omega)]; omega
  · have : x % (2 * (q : Int)) = x + 2 * q := by rw [← Int.add_emod_right, Int.emod_eq_of_lt (by omega) (by omega)]
    rw [this]
    refine ⟨by omega, by omega, ?_⟩
    rw [if_neg (by omega)]; omega

theorem inR_half (x : Int) (k : Nat) (h1 : 1 ≤ k) : inR x k = (decide (x ≤ (topN k : Int) / 2) && decide (-((topN k : Int) / 2) - 1 ≤ x)) := by
  have hev : ∃ q, 256 ^ k = 2 * q ∧ 0 < q := ⟨128 * 256 ^ (k - 1), by
    obtain ⟨j, rfl⟩ : ∃ j, k = j + 1 := ⟨k - 1, by omega⟩
    rw [Nat.pow_succ, Nat.add_sub_cancel]; omega, by have := pow256_pos (k - 1); omega⟩
  obtain ⟨q, hq, hp⟩ := hev
  have e : (256 : Int) ^ k = 2 * (q : Int) := by
    have : ((256 ^ k : Nat) : Int) = (256 : Int) ^ k := by simp
    rw [← this, hq]; simp
  have et : topN k = 2 * q - 1 := by unfold topN; rw [hq]
  unfold inR
  rw [e, et, Bool.eq_iff_iff]
  simp only [Bool.and_eq_true, decide_eq_true_eq]
  omega

/-- What is told of x: it fits and goes there and back, or it does not fit. -/
inductive XCase (x : Int) (k : Nat) : Prop
  | yes (u : Nat) (hv : ∀ w, Calls Try.prog 17 #[.int .i64 x, .int .i64 (k : Int)] w fun e w' => e = .returned (.tuple #[.int .u64 (u : Int), .int .i64 0]) ∧ w = w')
      (ht : ∀ w, Calls Try.prog 15 #[.int .u64 (u : Int), .int .i64 (k : Int)] w fun e w' => e = .returned (.tuple #[.int .i64 x, .int .i64 0]) ∧ w = w')
      (hp : 0 ≤ x → (u : Int) = IntKind.u64.wrap x) (i1 : decide (x ≤ (topN k : Int) / 2) = true) (i2 : decide (-((topN k : Int) / 2) - 1 ≤ x) = true)
  | no1 (hv : ∀ w, Calls Try.prog 17 #[.int .i64 x, .int .i64 (k : Int)] w fun e w' => e = .returned (.tuple #[.int .u64 0, .int .i64 16]) ∧ w = w') (i1 : decide (x ≤ (topN k : Int) / 2) = false)
  | no2 (hv : ∀ w, Calls Try.prog 17 #[.int .i64 x, .int .i64 (k : Int)] w fun e w' => e = .returned (.tuple #[.int .u64 0, .int .i64 16]) ∧ w = w') (i1 : decide (x ≤ (topN k : Int) / 2) = true) (i2 : decide (-((topN k : Int) / 2) - 1 ≤ x) = false)
theorem xcase (x : Int) (hx1 : -9223372036854775808 ≤ x) (hx2 : x ≤ 9223372036854775807) (k : Nat) (h1 : 1 ≤ k) (h8 : k ≤ 8) : XCase x k := by
  have hi := inR_half x k h1
  cases hr : inR x k with
  | true =>
    obtain ⟨c1, c2, c3⟩ := twos_forth x k h1 hr
    have hv := unsigned_ok x k h1 h8 hr
    obtain ⟨u, hu⟩ := Int.eq_ofNat_of_zero_le c1
    rw [hu, Int.toNat_natCast] at c2 c3
    rw [hu] at hv
    have ht := signed_ok u k h1 h8 c2
    rw [c3] at ht
    rw [hr] at hi
    have i1 : decide (x ≤ (topN k : Int) / 2) = true := by
      cases h : decide (x ≤ (topN k : Int) / 2) with
      | true => rfl
      | false => rw [h] at hi; simp at hi
    have i2 : decide (-((topN k : Int) / 2) - 1 ≤ x) = true := by
      rw [i1] at hi; simpa using hi.symm
    refine .yes u hv ht (fun h => ?_) i1 i2
    simp only [decide_eq_true_eq] at i1
    have e : (256 : Int) ^ k = (topN k : Int) + 1 := by
      have := pow256_pos k
      have e : ((256 ^ k : Nat) : Int) = (256 : Int) ^ k := by simp
      rw [← e]; unfold topN; omega
    rw [← hu, IntKind.wrap_u64, e, Int.emod_eq_of_lt h (show x < (topN k : Int) + 1 by omega), Int.emod_eq_of_lt h (show x < 18446744073709551616 by omega)]
  | false =>
    have hv := unsigned_range x k h1 h8 hr
    rw [hr] at hi
    cases h : decide (x ≤ (topN k : Int) / 2) with
    | false => exact .no1 hv h
    | true =>
      rw [h] at hi
      exact .no2 hv h (by simpa using hi.symm)

set_option maxRecDepth 10000 in
set_option maxHeartbeats 2000000 in
theorem twos_fit (n : Nat) (x : Int) (hx1 : -9223372036854775808 ≤ x) (hx2 : x ≤ 9223372036854775807) (k : Nat) (h1 : 1 ≤ k) (h8 : k ≤ 8) (hf : n < 256 ^ k) (w : World) :
    Calls Try.prog 7 #[.int .u64 (n : Int), .int .i64 x, .int .i64 (k : Int)] w fun e w' => e = .returned (.bool true) ∧ Below w.heap.size w w' := by
  have HX := Lib.hid (And.intro hx1 hx2)
  have htl := topN_lt k h8
  have hxc := xcase x hx1 hx2 k h1 h8
  obtain ⟨b1, b2, b3⟩ := twos_back n k h1 h8 hf
  have HS := Lib.hid (signed_ok n k h1 h8 hf)
  have HU := Lib.hid (unsigned_ok (sgnW n k) k h1 h8 b1)
  rw [b2] at HU
  have t1 : decide (n ≤ topN k) = true := by have := (fit_top n k).2 hf; simp; omega
  have t2 : decide ((topN k : Int) / 2 < (n : Int)) = decide (topN k / 2 < n) := by rw [decide_eq_decide]; omega
  have g1 : ((n : Int) != (n : Int)) = false := by simp
  generalize sgnW n k = s at *
  clear b1 b2 hf hx1 hx2
  rcases hxc with ⟨u, hv, ht, hp, i1, i2⟩ | ⟨hv, i1⟩ | ⟨hv, i1, i2⟩
  · have HV := Lib.hid hv
    have HT := Lib.hid ht
    have HP := Lib.hid hp
    clear hv ht hp
    go_enter Try.func7, Try.ntmps7
    go_wp2_with fail
    refine (width_yes (k : Int) (by omega) (by omega) _).mono ?_
    rintro e w1 ⟨rfl, rfl⟩
    go_wp2_with fail
    refine (HS.out _).mono ?_
    rintro e w1 ⟨rfl, rfl⟩
    go_wp2_with fail
    refine (top_any k h8 _).mono ?_
    rintro e w1 ⟨rfl, rfl⟩
    go_wp2_with fail
    refine (HU.out _).mono ?_
    rintro e w1 ⟨rfl, rfl⟩
    go_wp2_with fail
    refine (top_any k h8 _).mono ?_
    rintro e w1 ⟨rfl, rfl⟩
    go_wp2_with fail
    refine (HV.out _).mono ?_
    rintro e w1 ⟨rfl, rfl⟩
    go_wp2_with fail
    refine (top_any k h8 _).mono ?_
    rintro e w1 ⟨rfl, rfl⟩
    go_wp2_with fail
    refine (HT.out _).mono ?_
    rintro e w1 ⟨rfl, rfl⟩
    have g9 : (x == x) = true := by simp
    by_cases hs0 : x < 0
    · have g8 : decide (x < 0) = true := by simpa using hs0
      clear hs0
      go_wp2_with fail
      refine (lealive_any _).mono ?_
      rintro e w2 ⟨rfl, hb2⟩
      go_wp2_with fail
      go_ret
      exact ⟨rfl, hb2⟩
    · have g8 : decide (x < 0) = false := by simpa using hs0
      have g7 : ((u : Int) == IntKind.u64.wrap x) = true := by rw [HP.out (by omega)]; simp
      have g7' : ((u : Int) == x) = true := by have := HP.out (by omega); have h2 := HX.out; rw [this, IntKind.wrap_u64, Int.emod_eq_of_lt (by omega) (by omega)]; simp
      clear hs0
      go_wp2_with fail
      refine (lealive_any _).mono ?_
      rintro e w2 ⟨rfl, hb2⟩
      go_wp2_with fail
      go_ret
      exact ⟨rfl, hb2⟩
  · have HV := Lib.hid hv
    clear hv
    go_enter Try.func7, Try.ntmps7
    go_wp2_with fail
    refine (width_yes (k : Int) (by omega) (by omega) _).mono ?_
    rintro e w1 ⟨rfl, rfl⟩
    go_wp2_with fail
    refine (HS.out _).mono ?_
    rintro e w1 ⟨rfl, rfl⟩
    go_wp2_with fail
    refine (top_any k h8 _).mono ?_
    rintro e w1 ⟨rfl, rfl⟩
    go_wp2_with fail
    refine (HU.out _).mono ?_
    rintro e w1 ⟨rfl, rfl⟩
    go_wp2_with fail
    refine (top_any k h8 _).mono ?_
    rintro e w1 ⟨rfl, rfl⟩
    go_wp2_with fail
    refine (HV.out _).mono ?_
    rintro e w1 ⟨rfl, rfl⟩
    go_wp2_with fail
    refine (top_any k h8 _).mono ?_
    rintro e w1 ⟨rfl, rfl⟩
    go_wp2_with fail
    refine (lealive_any _).mono ?_
    rintro e w2 ⟨rfl, hb2⟩
    go_wp2_with fail
    go_ret
    exact ⟨rfl, hb2⟩
  · have HV := Lib.hid hv
    clear hv
    go_enter Try.func7, Try.ntmps7
    go_wp2_with fail
    refine (width_yes (k : Int) (by omega) (by omega) _).mono ?_
    rintro e w1 ⟨rfl, rfl⟩
    go_wp2_with fail
    refine (HS.out _).mono ?_
    rintro e w1 ⟨rfl, rfl⟩
    go_wp2_with fail
    refine (top_any k h8 _).mono ?_
    rintro e w1 ⟨rfl, rfl⟩
    go_wp2_with fail
    refine (HU.out _).mono ?_
    rintro e w1 ⟨rfl, rfl⟩
    go_wp2_with fail
    refine (top_any k h8 _).mono ?_
    rintro e w1 ⟨rfl, rfl⟩
    go_wp2_with fail
    refine (HV.out _).mono ?_
    rintro e w1 ⟨rfl, rfl⟩
    go_wp2_with fail
    refine (top_any k h8 _).mono ?_
    rintro e w1 ⟨rfl, rfl⟩
    go_wp2_with fail
    refine (lealive_any _).mono ?_
    rintro e w2 ⟨rfl, hb2⟩
    go_wp2_with fail
    go_ret
    exact ⟨rfl, hb2⟩

set_option maxRecDepth 10000 in
set_option maxHeartbeats 2000000 in
theorem twos_unfit (n : Nat) (hn : n < 18446744073709551616) (x : Int) (hx1 : -9223372036854775808 ≤ x) (hx2 : x ≤ 9223372036854775807) (k : Nat) (h1 : 1 ≤ k) (h8 : k ≤ 8) (hf : ¬ n < 256 ^ k) (w : World) :
    Calls Try.prog 7 #[.int .u64 (n : Int), .int .i64 x, .int .i64 (k : Int)] w fun e w' => e = .returned (.bool true) ∧ Below w.heap.size w w' := by
  have HX := Lib.hid (And.intro hx1 hx2)
  have htl := topN_lt k h8
  have hxc := xcase x hx1 hx2 k h1 h8
  have HS := Lib.hid (signed_range n k hn h1 h8 hf)
  have t1 : decide (n ≤ topN k) = false := by
    have : topN k < n := Decidable.byContradiction (fun h => hf ((fit_top n k).1 h))
    simp; omega
  clear hf hx1 hx2 hn
  rcases hxc with ⟨u, hv, ht, hp, i1, i2⟩ | ⟨hv, i1⟩ | ⟨hv, i1, i2⟩
  · have HV := Lib.hid hv
    have HT := Lib.hid ht
    have HP := Lib.hid hp
    clear hv ht hp
    go_enter Try.func7, Try.ntmps7
    go_wp2_with fail
    refine (width_yes (k : Int) (by omega) (by omega) _).mono ?_
    rintro e w1 ⟨rfl, rfl⟩
    go_wp2_with fail
    refine (HS.out _).mono ?_
    rintro e w1 ⟨rfl, rfl⟩
    go_wp2_with fail
    refine (top_any k h8 _).mono ?_
    rintro e w1 ⟨rfl, rfl⟩
    go_wp2_with fail
    refine (HV.out _).mono ?_
    rintro e w1 ⟨rfl, rfl⟩
    go_wp2_with fail
    refine (top_any k h8 _).mono ?_
    rintro e w1 ⟨rfl, rfl⟩
    go_wp2_with fail
    refine (HT.out _).mono ?_
    rintro e w1 ⟨rfl, rfl⟩
    have g9 : (x == x) = true := by simp
    by_cases hs0 : x < 0
    · have g8 : decide (x < 0) = true := by simpa using hs0
      clear hs0
      go_wp2_with fail
      refine (lealive_any _).mono ?_
      rintro e w2 ⟨rfl, hb2⟩
      go_wp2_with fail
      go_ret
      exact ⟨rfl, hb2⟩
    · have g8 : decide (x < 0) = false := by simpa using hs0
      have g7 : ((u : Int) == IntKind.u64.wrap x) = true := by rw [HP.out (by omega)]; simp
      have g7' : ((u : Int) == x) = true := by have := HP.out (by omega); have h2 := HX.out; rw [this, IntKind.wrap_u64, Int.emod_eq_of_lt (by omega) (by omega)]; simp
      clear hs0
      go_wp2_with fail
      refine (lealive_any _).mono ?_
      rintro e w2 ⟨rfl, hb2⟩
      go_wp2_with fail
      go_ret
      exact ⟨rfl, hb2⟩
  · have HV := Lib.hid hv
    clear hv
    go_enter Try.func7, Try.ntmps7
    go_wp2_with fail
    refine (width_yes (k : Int) (by omega) (by omega) _).mono ?_
    rintro e w1 ⟨rfl, rfl⟩
    go_wp2_with fail
    refine (HS.out _).mono ?_
    rintro e w1 ⟨rfl, rfl⟩
    go_wp2_with fail
    refine (top_any k h8 _).mono ?_
    rintro e w1 ⟨rfl, rfl⟩
    go_wp2_with fail
    refine (HV.out _).mono ?_
    rintro e w1 ⟨rfl, rfl⟩
    go_wp2_with fail
    refine (top_any k h8 _).mono ?_
    rintro e w1 ⟨rfl, rfl⟩
    go_wp2_with fail
    refine (lealive_any _).mono ?_
    rintro e w2 ⟨rfl, hb2⟩
    go_wp2_with fail
    go_ret
    exact ⟨rfl, hb2⟩
  · have HV := Lib.hid hv
    clear hv
    go_enter Try.func7, Try.ntmps7
    go_wp2_with fail
    refine (width_yes (k : Int) (by omega) (by omega) _).mono ?_
    rintro e w1 ⟨rfl, rfl⟩
    go_wp2_with fail
    refine (HS.out _).mono ?_
    rintro e w1 ⟨rfl, rfl⟩
    go_wp2_with fail
    refine (top_any k h8 _).mono ?_
    rintro e w1 ⟨rfl, rfl⟩
    go_wp2_with fail
    refine (HV.out _).mono ?_
    rintro e w1 ⟨rfl, rfl⟩
    go_wp2_with fail
    refine (top_any k h8 _).mono ?_
    rintro e w1 ⟨rfl, rfl⟩
    go_wp2_with fail
    refine (lealive_any _).mono ?_
    rintro e w2 ⟨rfl, hb2⟩
    go_wp2_with fail
    go_ret
    exact ⟨rfl, hb2⟩

set_option maxHeartbeats 400000 in
theorem twos_calls (n : Int) (hn : (Lit.int .u64 n).wf = true) (x : Int) (hx : (Lit.int .i64 x).wf = true) (k : Int) (_hk : (Lit.int .i64 k).wf = true) (w : World) :
    Calls Try.prog 7 #[.int .u64 n, .int .i64 x, .int .i64 k] w fun e w' => e = .returned (.bool true) ∧ Below w.heap.size w w' := by
  obtain ⟨n, rfl, hn'⟩ := u64w hn
  by_cases h : k < 1 ∨ 8 < k
  · have H := Lib.hid h
    clear h hn hx _hk hn'
    go_enter Try.func7, Try.ntmps7
    go_wp2_with fail
    refine (width_no k H.out _).mono ?_
    rintro e w1 ⟨rfl, rfl⟩
    go_wp2_with fail
    refine (lealive_any _).mono ?_
    rintro e w2 ⟨rfl, hb2⟩
    go_wp2_with fail
    go_ret
    exact ⟨rfl, hb2⟩
  · obtain ⟨k, rfl⟩ := Int.eq_ofNat_of_zero_le (show 0 ≤ k by omega)
    have hb := i64w hx
    by_cases hf : n < 256 ^ k
    · exact twos_fit n x hb.1 hb.2 k (by omega) (by omega) hf w
    · exact twos_unfit n hn' x hb.1 hb.2 k (by omega) (by omega) hf w
end Go.Proofs.Ytbffdafkgckcgaa
