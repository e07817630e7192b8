/- LeReads, LeBack: the walks. -/
import Derived.Test.YtbffdafkgckcgaaLeLaws1
namespace Go.Proofs.Ytbffdafkgckcgaa
open Go.RowKit

/-- What le.Bytes and its reference answer: the error, and the bytes. -/
def lbE (n : Nat) (k : Int) : Int := if k < 1 ∨ 8 < k then 2 else if n < 256 ^ k.toNat then 0 else 16
def lbL (n : Nat) (k : Int) : List UInt8 := if k < 1 ∨ 8 < k then [] else if n < 256 ^ k.toNat then Le.bs n k.toNat else []
theorem bytes_any (n : Nat) (hn : n < 18446744073709551616) (k : Int) (w : World) :
    Calls Try.prog 22 #[.int .u64 (n : Int), .int .i64 k] w fun e w' => ∃ A len cap, e = .returned (.tuple #[.slice A len cap, .int .i64 (lbE n k)]) ∧
      Owns w' w.heap.size (.slice A len cap) (lbL n k) ∧ Below w.heap.size w w' := by
  unfold lbE lbL
  by_cases h : k < 1 ∨ 8 < k
  · simp only [if_pos h]
    exact (bytes_arg n k h w).mono fun _ _ ⟨he, hw⟩ => ⟨none, 0, 0, he, Owns.nil _ _, hw ▸ Below.refl _ _⟩
  · simp only [if_neg h]
    obtain ⟨k, rfl⟩ := Int.eq_ofNat_of_zero_le (show 0 ≤ k by omega)
    rw [Int.toNat_natCast]
    by_cases hf : n < 256 ^ k
    · simp only [if_pos hf]
      exact (bytes_ok n k (by omega) (by omega) hf w).mono fun _ _ ⟨he, ho, hb⟩ => ⟨_, k, k, he, ho, hb⟩
    · simp only [if_neg hf]
      exact (bytes_range n hn k (by omega) (by omega) hf w).mono fun _ _ ⟨he, hw⟩ => ⟨none, 0, 0, he, Owns.nil _ _, hw ▸ Below.refl _ _⟩
theorem rbytes_any (n : Nat) (k : Int) (w : World) :
    Calls Try.prog 23 #[.int .u64 (n : Int), .int .i64 k] w fun e w' => ∃ A len cap, e = .returned (.tuple #[.slice A len cap, .int .i64 (lbE n k)]) ∧
      Owns w' w.heap.size (.slice A len cap) (lbL n k) ∧ Below w.heap.size w w' := by
  unfold lbE lbL
  by_cases h : k < 1 ∨ 8 < k
  · simp only [if_pos h]
    exact (rbytes_arg n k h w).mono fun _ _ ⟨he, hw⟩ => ⟨none, 0, 0, he, Owns.nil _ _, hw ▸ Below.refl _ _⟩
  · simp only [if_neg h]
    obtain ⟨k, rfl⟩ := Int.eq_ofNat_of_zero_le (show 0 ≤ k by omega)
    rw [Int.toNat_natCast]
    by_cases hf : n < 256 ^ k
    · simp only [if_pos hf]
      exact (rbytes_ok n k (by omega) (by omega) hf w).mono fun _ _ ⟨A, cap, he, ho, hb⟩ => ⟨A, k, cap, he, ho, hb⟩
    · simp only [if_neg hf]
      exact (rbytes_range n k (by omega) (by omega) hf w).mono fun _ _ ⟨he, hw⟩ => ⟨none, 0, 0, he, Owns.nil _ _, hw ▸ Below.refl _ _⟩
theorem atP_form (l : List UInt8) (p k : Int) : ∃ v e, atP l p k = .tuple #[.int .u64 v, .int .i64 e] := by
  unfold atP
  split
  · exact ⟨_, _, rfl⟩
  · split <;> exact ⟨_, _, rfl⟩
theorem valP_form (l : List UInt8) : ∃ v e, valP l = .tuple #[.int .u64 v, .int .i64 e] := by
  unfold valP
  split <;> exact ⟨_, _, rfl⟩

set_option maxHeartbeats 1000000 in
theorem reads_calls (n : Int) (hn : (Lit.int .u64 n).wf = true) (k : Int) (_hk : (Lit.int .i64 k).wf = true) (a : Option Addr) (len cap : Nat) (l : List UInt8) (w : World) (ha : BArg w a len cap l) (p : Int) (_hp : (Lit.int .i64 p).wf = true) :
    Calls Try.prog 5 #[.int .u64 n, .int .i64 k, .slice a len cap, .int .i64 p] w fun e w' => e = .returned (.bool true) ∧ Below w.heap.size w w' := by
  obtain ⟨n, rfl, hn'⟩ := u64w hn
  have HA := Lib.hid ha
  have HN := Lib.hid hn'
  clear hn _hk _hp ha hn'
  by_cases h100 : len ≤ 100
  · obtain ⟨av, ae, hav⟩ := atP_form l p k
    obtain ⟨vv, ve, hvv⟩ := valP_form l
    have HAV := Lib.hid hav
    have HVV := Lib.hid hvv
    clear hav hvv
    go_enter Try.func5, Try.ntmps5
    go_wp2_with fail
    refine (bytes_any n HN.out k _).mono ?_
    rintro e w1 ⟨A1, len1, cap1, rfl, ho1, hb1⟩
    have HO1 := Lib.hid ho1
    have HB1 := Lib.hid hb1
    clear ho1 hb1
    go_wp2_with fail
    refine (rbytes_any n k _).mono ?_
    rintro e w2 ⟨A2, len2, cap2, rfl, ho2, hb2⟩
    generalize lbE n k = be at *
    generalize lbL n k = bl at *
    have HO1' := Lib.hid (HO1.out.below hb2)
    have HO2 := Lib.hid ho2
    have HB2 := Lib.hid (HB1.out.trans (hb2.mono HB1.out.size))
    clear ho2 hb2 HO1 HB1
    go_wp2_with fail
    refine (value_any a len cap l _ (HA.out.below HB2.out)).mono ?_
    rintro e w3 ⟨rfl, rfl⟩
    rw [HVV.out]
    go_wp2_with fail
    refine (rvalue_any a len cap l _ (HA.out.below HB2.out)).mono ?_
    rintro e w3 ⟨rfl, rfl⟩
    rw [HVV.out]
    go_wp2_with fail
    refine (at_any a len cap l p k _ (HA.out.below HB2.out)).mono ?_
    rintro e w3 ⟨rfl, rfl⟩
    rw [HAV.out]
    go_wp2_with fail
    refine (rat_any a len cap l p k _ (HA.out.below HB2.out)).mono ?_
    rintro e w3 ⟨rfl, rfl⟩
    rw [HAV.out]
    have t1 := HO1'.out.arg.text
    have t2 := HO2.out.arg.text
    have g1 : (be == be) = true := by simp
    have g2 : (vv == vv) = true := by simp
    have g3 : (ve == ve) = true := by simp
    have g4 : (av == av) = true := by simp
    have g5 : (ae == ae) = true := by simp
    go_wp2_with fail
    go_ret
    exact ⟨rfl, HB2.out⟩
  · go_enter Try.func5, Try.ntmps5
    go_wp2_with fail
    go_ret
    exact ⟨rfl, Below.refl _ _⟩

set_option maxHeartbeats 1000000 in
theorem back_main (n m k : Nat) (h1 : 1 ≤ k) (h8 : k ≤ 8) (hn : n < 256 ^ k) (hm : m < 256 ^ k) (a : Option Addr) (len cap : Nat) (l : List UInt8) (b : Option Addr) (len2 cap2 : Nat) (r : List UInt8) (w : World) (ha : BArg w a len cap l) (hb : BArg w b len2 cap2 r) (h50 : len ≤ 50) (h51 : len2 ≤ 50) :
    Calls Try.prog 8 #[.int .u64 (n : Int), .int .u64 (m : Int), .int .i64 (k : Int), .slice a len cap, .slice b len2 cap2] w fun e w' => e = .returned (.bool true) ∧ Below w.heap.size w w' := by
  have HL := Lib.hid ha.len_eq
  have HR := Lib.hid hb.len_eq
  have HA := Lib.hid ha
  have HB := Lib.hid hb
  have HN := Lib.hid hn
  have HM := Lib.hid hm
  have g1 : decide (topN k < n) = false := by have := (fit_top n k).2 hn; simp; omega
  have g2 : decide (topN k < m) = false := by have := (fit_top m k).2 hm; simp; omega
  have g3 : decide ((50 : Int) < (len : Int)) = false := by simp; omega
  have g4 : decide ((50 : Int) < (len2 : Int)) = false := by simp; omega
  have HV : Hid (valP (Le.bs n k) = .tuple #[.int .u64 (n : Int), .int .i64 0]) := Lib.hid (by
    unfold valP; rw [if_pos (by rw [Le.bs_length]; omega), Le.val_bs n k hn])
  have HW : Hid (Le.val ((((l ++ Le.bs n k) ++ r).take (len + k)).drop len) = n) := Lib.hid (by
    have e : (((l ++ Le.bs n k) ++ r).take (len + k)).drop len = Le.bs n k := by
      rw [List.take_append_of_le_length (by simp [Le.bs_length, HL.out]), List.take_of_length_le (by simp [Le.bs_length, HL.out]), List.drop_append_of_le_length (by rw [HL.out]; omega), List.drop_of_length_le (by rw [HL.out]; omega), List.nil_append]
    rw [e, Le.val_bs n k hn])
  have HE : Hid ((Le.bs n k == Le.bs m k) = ((n : Int) == (m : Int))) := Lib.hid (by
    rw [Bool.eq_iff_iff]; simp only [beq_iff_eq]
    exact ⟨fun h => by rw [Le.bs_inj n m k hn hm h], fun h => by rw [show n = m by omega]⟩)
  clear ha hb hn hm
  go_enter Try.func8, Try.ntmps8
  go_wp2_with fail
  refine (width_yes (k : Int) (by omega) (by omega) _).mono ?_
  rintro e w1 ⟨rfl, rfl⟩
  go_wp2_with fail
  refine (top_any k h8 _).mono ?_
  rintro e w1 ⟨rfl, rfl⟩
  go_wp2_with fail
  refine (top_any k h8 _).mono ?_
  rintro e w1 ⟨rfl, rfl⟩
  go_wp2_with fail
  refine (bytes_ok n k h1 h8 HN.out _).mono ?_
  rintro e w1 ⟨rfl, ho1, hb1⟩
  have HO1 := Lib.hid ho1
  have HB1 := Lib.hid hb1
  clear ho1 hb1
  go_wp2_with fail
  refine (bytes_ok m k h1 h8 HM.out _).mono ?_
  rintro e w2 ⟨rfl, ho2, hb2⟩
  have HO2 := Lib.hid ho2
  have HO1' := Lib.hid (HO1.out.below hb2)
  have HB2 := Lib.hid (HB1.out.trans (hb2.mono HB1.out.size))
  clear ho2 hb2 HO1 HB1
  go_wp2_with fail
  refine (value_any _ k k (Le.bs n k) _ HO1'.out.arg).mono ?_
  rintro e w3 ⟨rfl, rfl⟩
  rw [HV.out]
  have HP0 := Lib.hid (Owns.lit0 w2 w2.heap.size (Nat.le_refl _))
  have HC0 : Hid (Below w2.heap.size w2 (w2.alloc (.cells #[] 5))) := Lib.hid ((Below.refl _ _).alloc (Nat.le_refl _) _)
  go_wp2_with (first
    | (at_builtin; refine wpList_append_bytes rfl (.tmp 63) (.tmp 64) rfl w2.heap.size _ [] rfl HP0.out a len cap l rfl ((HA.out.below HB2.out).below HC0.out) len (by simp) (by omega) HC0.out.size ?_; intro A1 c1 w3 hown1 hgr1 hat; clear hat; have HC1 := Lib.hid (below_append HC0.out HP0.out (Nat.le_refl _) hgr1); have HP1 := Lib.hid hown1; clear hown1 hgr1)
    | (at_builtin; refine wpList_append_bytes rfl (.tmp 65) (.tmp 66) rfl w2.heap.size _ ([] ++ l) rfl HP1.out _ k k (Le.bs n k) rfl (HO1'.out.arg.below HC1.out) (len + k) (by rw [HP1.out.len]) (by omega) HC1.out.size ?_; intro A2 c2 w4 hown2 hgr2 hat; clear hat; have HC2 := Lib.hid (below_append HC1.out HP1.out (Nat.le_refl _) hgr2); have HP2 := Lib.hid hown2; clear hown2 hgr2)
    | (at_builtin; refine wpList_append_bytes rfl (.tmp 67) (.tmp 68) rfl w2.heap.size _ (([] ++ l) ++ Le.bs n k) rfl HP2.out b len2 cap2 r rfl ((HB.out.below HB2.out).below HC2.out) (len + k + len2) (by rw [HP2.out.len]) (by omega) HC2.out.size ?_; intro A3 c3 w5 hown3 hgr3 hat; clear hat; have HC3 := Lib.hid (below_append HC2.out HP2.out (Nat.le_refl _) hgr3); have HP3 := Lib.hid hown3; clear hown3 hgr3))
  refine (at_ok A3 (len + k + len2) c3 ((l ++ Le.bs n k) ++ r) len k _ (by have := HP3.out.arg; simpa using this) h1 h8 (by omega)).mono ?_
  rintro e w6 ⟨rfl, rfl⟩
  rw [HW.out]
  have t1 := (HO1'.out.below HC3.out).arg.text
  have t2 := (HO2.out.below HC3.out).arg.text
  have HB5 := Lib.hid (HB2.out.trans (HC3.out.mono HB2.out.size))
  have g5 : ((k : Int) == (k : Int)) = true := by simp
  have g6 : ((n : Int) == (n : Int)) = true := by simp
  have g7 := HE.out
  go_wp2_with fail
  refine (lealive_any _).mono ?_
  rintro e w6 ⟨rfl, hb6⟩
  go_wp2_with fail
  go_ret
  exact ⟨rfl, HB5.out.trans (hb6.mono HB5.out.size)⟩

set_option maxHeartbeats 1000000 in
theorem back_calls (n : Int) (hn : (Lit.int .u64 n).wf = true) (m : Int) (hm : (Lit.int .u64 m).wf = true) (k : Int) (_hk : (Lit.int .i64 k).wf = true) (a : Option Addr) (len cap : Nat) (l : List UInt8) (w : World) (ha : BArg w a len cap l) (b : Option Addr) (len2 cap2 : Nat) (r : List UInt8) (hb : BArg w b len2 cap2 r) :
    Calls Try.prog 8 #[.int .u64 n, .int .u64 m, .int .i64 k, .slice a len cap, .slice b len2 cap2] w fun e w' => e = .returned (.bool true) ∧ Below w.heap.size w w' := by
  obtain ⟨n, rfl, hn'⟩ := u64w hn
  obtain ⟨m, rfl, hm'⟩ := u64w hm
  by_cases h : k < 1 ∨ 8 < k
  · have H := Lib.hid h
    clear hn hm hn' hm' ha hb h _hk
    go_enter Try.func8, Try.ntmps8
    go_wp2_with fail
    refine (width_no k H.out _).mono ?_
    rintro e w1 ⟨rfl, rfl⟩
    go_wp2_with fail
    refine (lealive_any _).mono ?_
    rintro e w2 ⟨rfl, hb2⟩
    go_wp2_with fail
    go_ret
    exact ⟨rfl, hb2⟩
  · obtain ⟨k, rfl⟩ := Int.eq_ofNat_of_zero_le (show 0 ≤ k by omega)
    have h1 : 1 ≤ k := by omega
    have h8 : k ≤ 8 := by omega
    by_cases hf : n < 256 ^ k
    · have g1 : decide (topN k < n) = false := by have := (fit_top n k).2 hf; simp; omega
      by_cases hg : m < 256 ^ k
      · have g2 : decide (topN k < m) = false := by have := (fit_top m k).2 hg; simp; omega
        by_cases h3 : len ≤ 50
        · by_cases h4 : len2 ≤ 50
          · exact back_main n m k h1 h8 hf hg a len cap l b len2 cap2 r w ha hb h3 h4
          · have g3 : decide ((50 : Int) < (len : Int)) = false := by simp; omega
            have g4 : decide ((50 : Int) < (len2 : Int)) = true := by simp; omega
            clear hn hm hn' hm' ha hb h _hk hf hg h3 h4
            go_enter Try.func8, Try.ntmps8
            go_wp2_with fail
            refine (width_yes (k : Int) (by omega) (by omega) _).mono ?_
            rintro e w1 ⟨rfl, rfl⟩
            go_wp2_with fail
            refine (top_any k h8 _).mono ?_
            rintro e w1 ⟨rfl, rfl⟩
            go_wp2_with fail
            refine (top_any k h8 _).mono ?_
            rintro e w1 ⟨rfl, rfl⟩
            go_wp2_with fail
            refine (lealive_any _).mono ?_
            rintro e w2 ⟨rfl, hb2⟩
            go_wp2_with fail
            go_ret
            exact ⟨rfl, hb2⟩
        · have g3 : decide ((50 : Int) < (len : Int)) = true := by simp; omega
          clear hn hm hn' hm' ha hb h _hk hf hg h3
          go_enter Try.func8, Try.ntmps8
          go_wp2_with fail
          refine (width_yes (k : Int) (by omega) (by omega) _).mono ?_
          rintro e w1 ⟨rfl, rfl⟩
          go_wp2_with fail
          refine (top_any k h8 _).mono ?_
          rintro e w1 ⟨rfl, rfl⟩
          go_wp2_with fail
          refine (top_any k h8 _).mono ?_
          rintro e w1 ⟨rfl, rfl⟩
          go_wp2_with fail
          refine (lealive_any _).mono ?_
          rintro e w2 ⟨rfl, hb2⟩
          go_wp2_with fail
          go_ret
          exact ⟨rfl, hb2⟩
      · have g2 : decide (topN k < m) = true := decide_eq_true (Decidable.byContradiction (fun h => hg ((fit_top m k).1 h)))
        clear hn hm hn' hm' ha hb h _hk hf hg
        go_enter Try.func8, Try.ntmps8
        go_wp2_with fail
        refine (width_yes (k : Int) (by omega) (by omega) _).mono ?_
        rintro e w1 ⟨rfl, rfl⟩
        go_wp2_with fail
        refine (top_any k h8 _).mono ?_
        rintro e w1 ⟨rfl, rfl⟩
        go_wp2_with fail
        refine (top_any k h8 _).mono ?_
        rintro e w1 ⟨rfl, rfl⟩
        go_wp2_with fail
        refine (lealive_any _).mono ?_
        rintro e w2 ⟨rfl, hb2⟩
        go_wp2_with fail
        go_ret
        exact ⟨rfl, hb2⟩
    · have g1 : decide (topN k < n) = true := decide_eq_true (Decidable.byContradiction (fun h => hf ((fit_top n k).1 h)))
      clear hn hm hn' hm' ha hb h _hk hf
      go_enter Try.func8, Try.ntmps8
      go_wp2_with fail
      refine (width_yes (k : Int) (by omega) (by omega) _).mono ?_
      rintro e w1 ⟨rfl, rfl⟩
      go_wp2_with fail
      refine (top_any k h8 _).mono ?_
      rintro e w1 ⟨rfl, rfl⟩
      go_wp2_with fail
      refine (lealive_any _).mono ?_
      rintro e w2 ⟨rfl, hb2⟩
      go_wp2_with fail
      go_ret
      exact ⟨rfl, hb2⟩
end Go.Proofs.Ytbffdafkgckcgaa
