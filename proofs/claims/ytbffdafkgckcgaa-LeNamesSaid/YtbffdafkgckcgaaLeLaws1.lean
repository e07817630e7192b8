/- LeSigns, LeSums, LeTwos, LeReads: the walks. -/
import Derived.Test.YtbffdafkgckcgaaLeRef2
namespace Go.Proofs.Ytbffdafkgckcgaa
open Go.RowKit

set_option maxHeartbeats 400000 in
theorem signs_calls (a : Int) (ha : (Lit.int .u64 a).wf = true) (x : Int) (hx : (Lit.int .i64 x).wf = true) (k : Int) (_hk : (Lit.int .i64 k).wf = true) (w : World) :
    Calls Try.prog 3 #[.int .u64 a, .int .i64 x, .int .i64 k] w fun e w' => e = .returned (.bool true) ∧ Below w.heap.size w w' := by
  obtain ⟨n, rfl, hn⟩ := u64w ha
  have HX := Lib.hid (i64w hx)
  have HN := Lib.hid hn
  clear ha hx _hk hn
  go_enter Try.func3, Try.ntmps3
  go_wp2_with fail
  refine (signed_any n HN.out k _).mono ?_
  rintro e w1 ⟨rfl, rfl⟩
  go_wp2_with fail
  refine (rsigned_any n k _).mono ?_
  rintro e w1 ⟨rfl, rfl⟩
  go_wp2_with fail
  refine (unsigned_any x k _).mono ?_
  rintro e w1 ⟨rfl, rfl⟩
  go_wp2_with fail
  refine (runsigned_any x k HX.out.1 HX.out.2 _).mono ?_
  rintro e w1 ⟨rfl, rfl⟩
  generalize (sgnP n k).1 = s1
  generalize (sgnP n k).2 = s2
  generalize (unsP x k).1 = u1
  generalize (unsP x k).2 = u2
  have g1 : (s1 == s1) = true := by simp
  have g2 : (s2 == s2) = true := by simp
  have g3 : (u1 == u1) = true := by simp
  have g4 : (u2 == u2) = true := by simp
  go_wp2_with fail
  go_ret
  exact ⟨rfl, Below.refl _ _⟩

theorem bs_258_2 : Le.bs 258 2 = [2, 1] := by decide
theorem bs_258_3 : Le.bs 258 3 = [2, 1, 0] := by decide
set_option maxHeartbeats 400000 in
theorem lealive_any (w : World) :
    Calls Try.prog 20 #[] w fun e w' => e = .returned (.bool true) ∧ Below w.heap.size w w' := by
  go_enter Try.func20, Try.ntmps20
  go_wp2_with fail
  refine (bytes_ok 258 2 (by omega) (by omega) (by decide) _).mono ?_
  rintro e w1 ⟨rfl, ho1, hb1⟩
  rw [bs_258_2] at ho1
  have HO1 := Lib.hid ho1
  have HB1 := Lib.hid hb1
  clear ho1 hb1
  go_wp2_with fail
  refine (bytes_ok 258 3 (by omega) (by omega) (by decide) _).mono ?_
  rintro e w2 ⟨rfl, ho2, hb2⟩
  rw [bs_258_3] at ho2
  have HO2 := Lib.hid ho2
  have HO1' := Lib.hid (HO1.out.below hb2)
  have HB2 := Lib.hid (HB1.out.trans (hb2.mono HB1.out.size))
  clear ho2 hb2 HO1 HB1
  go_wp2_with fail
  refine (unsigned_ok (-2) 1 (by omega) (by omega) (by decide) _).mono ?_
  rintro e w3 ⟨rfl, rfl⟩
  go_wp2_with fail
  refine (unsigned_ok (-2) 3 (by omega) (by omega) (by decide) _).mono ?_
  rintro e w3 ⟨rfl, rfl⟩
  have t1 := HO1'.out.arg.text
  have t2 := HO2.out.arg.text
  go_wp2_with fail
  go_ret
  exact ⟨rfl, HB2.out⟩

theorem sums_eq (x y : Int) (k : Nat) (h1 : 1 ≤ k) (h7 : k ≤ 7) (hx1 : -9223372036854775808 ≤ x) (hx2 : x ≤ 9223372036854775807) (hx : inR x k = true) (hy : inR y k = true) :
    (x % 256 ^ k + y % 256 ^ k) % 256 ^ k = (x + y) % 256 ^ k ∧ wrap64 (x + y) = x + y ∧ 0 ≤ x % 256 ^ k ∧ x % 256 ^ k < 72057594037927936 ∧ 0 ≤ y % 256 ^ k ∧ y % 256 ^ k < 72057594037927936 := by
  unfold inR at hx hy
  simp only [decide_eq_true_eq] at hx hy
  refine ⟨(Int.add_emod x y _).symm, ?_⟩
  have hk : k = 1 ∨ k = 2 ∨ k = 3 ∨ k = 4 ∨ k = 5 ∨ k = 6 ∨ k = 7 := by omega
  rcases hk with h | h | h | h | h | h | h <;> subst h <;> simp only [Int.reducePow] at hx hy ⊢ <;> unfold wrap64 <;> refine ⟨?_, ?_, ?_, ?_, ?_⟩ <;> omega

set_option maxHeartbeats 1000000 in
theorem lesums_main (x y : Int) (k : Nat) (h1 : 1 ≤ k) (h7 : k ≤ 7) (hx1 : -9223372036854775808 ≤ x) (hx2 : x ≤ 9223372036854775807) (w : World) :
    Calls Try.prog 4 #[.int .i64 x, .int .i64 y, .int .i64 (k : Int)] w fun e w' => e = .returned (.bool true) ∧ Below w.heap.size w w' := by
  have g8 : ((k : Int) == 8) = false := by simp; omega
  by_cases hx : inR x k = true
  · by_cases hy : inR y k = true
    · obtain ⟨e1, e2, b1, b2, b3, b4⟩ := sums_eq x y k h1 h7 hx1 hx2 hx hy
      by_cases hz : inR (x + y) k = true
      · have HX := Lib.hid hx
        have HY := Lib.hid hy
        have HZ := Lib.hid hz
        have HE2 := Lib.hid e2
        have HT : Hid ((256 : Int) ^ k = (topN k : Int) + 1) := Lib.hid (by
          have := pow256_pos k
          have e : ((256 ^ k : Nat) : Int) = (256 : Int) ^ k := by simp
          rw [← e]; unfold topN; omega)
        have htl : topN k < 72057594037927936 := by
          have h : (256 : Nat) ^ k ≤ 256 ^ 7 := Nat.pow_le_pow_right (by decide) h7
          have e : (256 : Nat) ^ 7 = 72057594037927936 := by decide
          have := pow256_pos k
          unfold topN; omega
        have HU1 := Lib.hid (unsigned_ok x k h1 (by omega) hx)
        have HU2 := Lib.hid (unsigned_ok y k h1 (by omega) hy)
        have HU3 := Lib.hid (unsigned_ok (x + y) k h1 (by omega) hz)
        rw [HT.out] at e1 b1 b2 b3 b4
        rw [HT.out] at HU1 HU2 HU3
        generalize hu : x % ((topN k : Int) + 1) = u at *
        generalize hv : y % ((topN k : Int) + 1) = v at *
        generalize hs : (x + y) % ((topN k : Int) + 1) = s at *
        clear hx hy hz e2 hu hv hs
        have HE1 := Lib.hid e1
        clear e1
        go_enter Try.func4, Try.ntmps4
        go_wp2_with fail
        refine (width_yes (k : Int) (by omega) (by omega) _).mono ?_
        rintro e w1 ⟨rfl, rfl⟩
        go_wp2_with fail
        refine (HU1.out _).mono ?_
        rintro e w1 ⟨rfl, rfl⟩
        go_wp2_with fail
        refine (HU2.out _).mono ?_
        rintro e w1 ⟨rfl, rfl⟩
        go_wp2_with fail
        rw [HE2.out]
        refine (HU3.out _).mono ?_
        rintro e w1 ⟨rfl, rfl⟩
        go_wp2_with fail
        refine (top_any k (by omega) _).mono ?_
        rintro e w1 ⟨rfl, rfl⟩
        generalize topN k = t at *
        have g5 : ((u + v) % ((t : Int) + 1) == s) = true := by rw [HE1.out]; simp
        go_wp2_with fail
        refine (lealive_any _).mono ?_
        rintro e w2 ⟨rfl, hb2⟩
        go_wp2_with fail
        go_ret
        exact ⟨rfl, hb2⟩
      · have HZ := Lib.hid (unsigned_range (x + y) k h1 (by omega) (by simpa using hz))
        have HU1 := Lib.hid (unsigned_ok x k h1 (by omega) hx)
        have HU2 := Lib.hid (unsigned_ok y k h1 (by omega) hy)
        have HE2 := Lib.hid e2
        clear hx hy hz e1 e2 b1 b2 b3 b4
        go_enter Try.func4, Try.ntmps4
        go_wp2_with fail
        refine (width_yes (k : Int) (by omega) (by omega) _).mono ?_
        rintro e w1 ⟨rfl, rfl⟩
        go_wp2_with fail
        refine (HU1.out _).mono ?_
        rintro e w1 ⟨rfl, rfl⟩
        go_wp2_with fail
        refine (HU2.out _).mono ?_
        rintro e w1 ⟨rfl, rfl⟩
        go_wp2_with fail
        rw [HE2.out]
        refine (HZ.out _).mono ?_
        rintro e w1 ⟨rfl, rfl⟩
        go_wp2_with fail
        refine (lealive_any _).mono ?_
        rintro e w2 ⟨rfl, hb2⟩
        go_wp2_with fail
        go_ret
        exact ⟨rfl, hb2⟩
    · have HU1 := Lib.hid (unsigned_ok x k h1 (by omega) hx)
      have HU2 := Lib.hid (unsigned_range y k h1 (by omega) (by simpa using hy))
      clear hx hy
      go_enter Try.func4, Try.ntmps4
      go_wp2_with fail
      refine (width_yes (k : Int) (by omega) (by omega) _).mono ?_
      rintro e w1 ⟨rfl, rfl⟩
      go_wp2_with fail
      refine (HU1.out _).mono ?_
      rintro e w1 ⟨rfl, rfl⟩
      go_wp2_with fail
      refine (HU2.out _).mono ?_
      rintro e w1 ⟨rfl, rfl⟩
      go_wp2_with fail
      refine (unsigned_any _ (k : Int) _).mono ?_
      rintro e w1 ⟨rfl, rfl⟩
      go_wp2_with fail
      refine (lealive_any _).mono ?_
      rintro e w2 ⟨rfl, hb2⟩
      go_wp2_with fail
      go_ret
      exact ⟨rfl, hb2⟩
  · have HU1 := Lib.hid (unsigned_range x k h1 (by omega) (by simpa using hx))
    clear hx
    go_enter Try.func4, Try.ntmps4
    go_wp2_with fail
    refine (width_yes (k : Int) (by omega) (by omega) _).mono ?_
    rintro e w1 ⟨rfl, rfl⟩
    go_wp2_with fail
    refine (HU1.out _).mono ?_
    rintro e w1 ⟨rfl, rfl⟩
    go_wp2_with fail
    refine (unsigned_any y (k : Int) _).mono ?_
    rintro e w1 ⟨rfl, rfl⟩
    go_wp2_with fail
    refine (unsigned_any _ (k : Int) _).mono ?_
    rintro e w1 ⟨rfl, rfl⟩
    go_wp2_with fail
    refine (lealive_any _).mono ?_
    rintro e w2 ⟨rfl, hb2⟩
    go_wp2_with fail
    go_ret
    exact ⟨rfl, hb2⟩

set_option maxHeartbeats 400000 in
theorem lesums_calls (x : Int) (hx : (Lit.int .i64 x).wf = true) (y : Int) (_hy : (Lit.int .i64 y).wf = true) (k : Int) (_hk : (Lit.int .i64 k).wf = true) (w : World) :
    Calls Try.prog 4 #[.int .i64 x, .int .i64 y, .int .i64 k] w fun e w' => e = .returned (.bool true) ∧ Below w.heap.size w w' := by
  by_cases h : k < 1 ∨ 8 < k
  · have H := Lib.hid h
    clear h hx _hy _hk
    go_enter Try.func4, Try.ntmps4
    go_wp2_with fail
    refine (width_no k H.out _).mono ?_
    rintro e w1 ⟨rfl, rfl⟩
    go_wp2_with fail
    refine (lealive_any _).mono ?_
    rintro e w2 ⟨rfl, hb2⟩
    go_wp2_with fail
    go_ret
    exact ⟨rfl, hb2⟩
  · by_cases h8 : k = 8
    · subst h8
      clear h hx _hy _hk
      go_enter Try.func4, Try.ntmps4
      go_wp2_with fail
      refine (width_yes 8 (by omega) (by omega) _).mono ?_
      rintro e w1 ⟨rfl, rfl⟩
      go_wp2_with fail
      refine (lealive_any _).mono ?_
      rintro e w2 ⟨rfl, hb2⟩
      go_wp2_with fail
      go_ret
      exact ⟨rfl, hb2⟩
    · obtain ⟨k, rfl⟩ := Int.eq_ofNat_of_zero_le (show 0 ≤ k by omega)
      have := i64w hx
      exact lesums_main x y k (by omega) (by omega) this.1 this.2 w
end Go.Proofs.Ytbffdafkgckcgaa
