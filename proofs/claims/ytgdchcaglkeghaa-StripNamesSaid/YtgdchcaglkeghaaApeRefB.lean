/- The walks of the reference of layer 29: told, Tag, Write. -/
import Derived.Test.YtgdchcaglkeghaaApeRef
namespace Go.Proofs.Ytgdchcaglkeghaa
open Go.RowKit

set_option maxHeartbeats 1000000 in
theorem told_any (a : Option Addr) (cap : Nat) (l : List UInt8) (w : World) (ha : BArg w a 32 cap l) :
    Calls Try.prog 52 #[.slice a 32 cap] w fun e w' => e = .returned (.tuple #[.int .i64 (tN l : Int), .int .i64 (tC l : Int), .bool (tellB l)]) ∧ w = w' := by
  have hlc := ha.le
  have hll := ha.len_eq
  obtain ⟨ad, _, hae, _, _, _, _⟩ := ha.at_ (k := 0) (by omega)
  subst hae
  have hc1 := ha.cut (i := 12) (j := 16) (by omega) (by omega)
  rw [if_neg (by omega)] at hc1
  simp only [Option.map_some] at hc1
  have hc2 := ha.cut (i := 16) (j := 20) (by omega) (by omega)
  rw [if_neg (by omega)] at hc2
  simp only [Option.map_some] at hc2
  have C1 := Lib.hid (of_le_any _ _ _ _ w hc1 (by omega))
  have C2 := Lib.hid (of_le_any _ _ _ _ w hc2 (by omega))
  have j1 : ¬ cap = 12 := by omega
  have j2 : ¬ cap = 16 := by omega
  have j3 : 16 ≤ cap := by omega
  have j4 : 20 ≤ cap := by omega
  have e1 : Le.val ((l.take 16).drop 12) = tellV l := rfl
  have e2 : Le.val ((l.take 20).drop 16) = tellC l := rfl
  rw [e1] at C1
  rw [e2] at C2
  cases ht : tellB l with
  | false =>
    have HN : Hid (tN l = 0) := Lib.hid (by unfold tN; rw [ht]; rfl)
    have HC : Hid (tC l = 0) := Lib.hid (by unfold tC; rw [ht]; rfl)
    have h3 : tellV l < 32 ∨ (32 ≤ tellV l ∧ 3032 < tellV l) ∨ (32 ≤ tellV l ∧ tellV l ≤ 3032 ∧ 1000 < tellC l) := by
      unfold tellB at ht
      simp only [decide_eq_false_iff_not] at ht
      omega
    have v1 := tellV_lt l
    have v2 := tellC_lt l
    clear e1 e2 ht hc1 hc2 ha hll
    generalize tellV l = V at *
    generalize tellC l = C at *
    rcases h3 with h3 | ⟨h3, h4⟩ | ⟨h3, h4, h5⟩
    all_goals
      go_enter Try.func52, Try.ntmps52
      go_wp2_with fail
      refine C1.out.mono ?_
      rintro e w1 ⟨rfl, rfl⟩
      go_wp2_with fail
      refine C2.out.mono ?_
      rintro e w1 ⟨rfl, rfl⟩
      go_wp2_with fail
      go_ret3
      exact ⟨by rw [HN.out, HC.out]; rfl, rfl⟩
  | true =>
    have HN : Hid (((tN l : Nat) : Int) = (tellV l : Int) - 32) := Lib.hid (by
      unfold tN; rw [ht, if_pos rfl]
      unfold tellB at ht
      simp only [decide_eq_true_eq] at ht
      omega)
    have HC : Hid (tC l = tellC l) := Lib.hid (by unfold tC; rw [ht]; rfl)
    have h3 : 32 ≤ tellV l ∧ tellV l ≤ 3032 ∧ tellC l ≤ 1000 := by
      unfold tellB at ht
      simpa only [decide_eq_true_eq] using ht
    clear e1 e2 ht hc1 hc2 ha hll
    generalize tellV l = V at *
    generalize tellC l = C at *
    obtain ⟨h3, h4, h5⟩ := h3
    go_enter Try.func52, Try.ntmps52
    go_wp2_with fail
    refine C1.out.mono ?_
    rintro e w1 ⟨rfl, rfl⟩
    go_wp2_with fail
    refine C2.out.mono ?_
    rintro e w1 ⟨rfl, rfl⟩
    go_wp2_with fail
    go_ret3
    exact ⟨by rw [HN.out, HC.out]; rfl, rfl⟩

set_option maxHeartbeats 2000000 in
theorem rtag_any (a : Option Addr) (len cap : Nat) (l : List UInt8) (c : Nat) (h : Bool) (w : World) (ha : BArg w a len cap l) (h1 : len ≤ 3000) (h3 : c ≤ 1000) :
    Calls Try.prog 47 #[.agg #[.slice a len cap, .int .i64 (c : Int), .bool h]] w fun e w' => ∃ A k, e = .returned (.slice A (awN len c h) k) ∧ Owns w' w.heap.size (.slice A (awN len c h) k) (tagL l c h) ∧ Below w.heap.size w w' := by
  obtain ⟨w1, hw1, d1, d2, d3, hB, hz⟩ := box3 w (.slice a len cap) (.int .i64 (c : Int)) (.bool h) 30
  have HW := Lib.hid hw1
  have HB := Lib.hid hB
  have HA := Lib.hid (ha.below hB)
  have HLL := Lib.hid ha.len_eq
  have he : apeE len c = 0 := by unfold apeE; rw [if_pos (by omega)]
  have C2 := Lib.hid (fun W => rfoot_any len c h h1 h3 W)
  have C1 := Lib.hid (fun W => rhead_any len c h1 h3 W)
  clear hw1 hB
  cases h with
  | true =>
    have HN : Hid (awN len c true = len + 64) := Lib.hid (by unfold awN; rw [he]; rfl)
    have HT : Hid (tagL l c true = endL len c 2684354560 ++ l ++ endL len c (flN true)) := Lib.hid (by unfold tagL; rw [ha.len_eq]; rfl)
    have hl1 := Lib.hid (endL_length len c 2684354560)
    generalize endL len c 2684354560 = E1 at *
    generalize endL len c (flN true) = E2 at *
    clear he ha
    go_enter Try.func47, Try.ntmps47
    go_wp2_with fail
    rw [← HW.out]
    refine (C1.out _).mono ?_
    rintro e w3 ⟨A0, k0, rfl, ho, hb3⟩
    have HO3 := Lib.hid ho
    have HB3 := Lib.hid hb3
    have HA3 := Lib.hid (HA.out.below hb3)
    clear ho hb3
    have e1 := (HB3.out.cell (p := ⟨w.heap.size, 0, none⟩) hz).trans d1
    have e2 := (HB3.out.cell (p := ⟨w.heap.size, 1, none⟩) hz).trans d2
    have e3 := (HB3.out.cell (p := ⟨w.heap.size, 2, none⟩) hz).trans d3
    go_wp2_with (at_builtin; refine wpList_append_bytes rfl (.tmp 12) (.tmp 14) rfl w1.heap.size _ E1 rfl HO3.out a len cap l rfl HA3.out (len + 32) (by rw [hl1.out]; omega) (by omega) HB3.out.size ?_; intro A4 k4 w4 hown hgr _; have HO4 := Lib.hid hown; have HB4 := Lib.hid (below_append HB3.out HO3.out (Nat.le_refl _) hgr); clear hown hgr HO3 HA3 HB3 e1 e2 e3; have e1 := (HB4.out.cell (p := ⟨w.heap.size, 0, none⟩) hz).trans d1; have e2 := (HB4.out.cell (p := ⟨w.heap.size, 1, none⟩) hz).trans d2; have e3 := (HB4.out.cell (p := ⟨w.heap.size, 2, none⟩) hz).trans d3)
    refine (C2.out _).mono ?_
    rintro e w5 ⟨A5, k5, rfl, ho, hb5⟩
    have HO5 := Lib.hid (HO4.out.below hb5)
    have HP5 := Lib.hid ho
    have HB5 := Lib.hid (HB4.out.trans (hb5.mono HB4.out.size))
    clear ho hb5 e1 e2 e3 HO4 HB4
    go_wp2_with (at_builtin; refine wpList_append_bytes rfl (.tmp 16) (.tmp 24) rfl w1.heap.size _ (E1 ++ l) rfl HO5.out A5 32 k5 E2 rfl HP5.out.arg (len + 64) (by rw [List.length_append, hl1.out, HLL.out]; omega) (by omega) HB5.out.size ?_; intro A6 k6 w6 hown hgr _; have HO6 := Lib.hid hown; have HB6 := Lib.hid (below_append HB5.out HO5.out (Nat.le_refl _) hgr); clear hown hgr)
    go_ret
    exact ⟨A6, k6, by rw [HN.out]; rfl, by rw [HT.out, HN.out]; exact HO6.out.mono HB.out.size, HB.out.trans (HB6.out.mono HB.out.size)⟩
  | false =>
    have HN : Hid (awN len c false = len + 32) := Lib.hid (by unfold awN; rw [he]; rfl)
    have HT : Hid (tagL l c false = l ++ endL len c (flN false)) := Lib.hid (by unfold tagL; rw [ha.len_eq]; rfl)
    generalize endL len c (flN false) = E2 at *
    clear he ha C1
    go_enter Try.func47, Try.ntmps47
    go_upto_region 4 with fail
    rw [← HW.out]
    have HA3 := HA
    have HB3 : Hid (Below w1.heap.size w1 w1) := Lib.hid (Below.refl _ _)
    go_wp2_with (at_builtin; refine wpList_append_bytes rfl (.tmp 12) (.tmp 14) rfl w1.heap.size _ [] rfl (Owns.nil _ _) a len cap l rfl HA3.out len (by simp) (by omega) HB3.out.size ?_; intro A4 k4 w4 hown hgr _; have HO4 := Lib.hid hown; have HB4 := Lib.hid (below_append HB3.out (Owns.nil _ w1.heap.size) (Nat.le_refl _) hgr); clear hown hgr HA3 HB3; have e1 := (HB4.out.cell (p := ⟨w.heap.size, 0, none⟩) hz).trans d1; have e2 := (HB4.out.cell (p := ⟨w.heap.size, 1, none⟩) hz).trans d2; have e3 := (HB4.out.cell (p := ⟨w.heap.size, 2, none⟩) hz).trans d3)
    refine (C2.out _).mono ?_
    rintro e w5 ⟨A5, k5, rfl, ho, hb5⟩
    have HO5 := Lib.hid (HO4.out.below hb5)
    have HP5 := Lib.hid ho
    have HB5 := Lib.hid (HB4.out.trans (hb5.mono HB4.out.size))
    clear ho hb5 e1 e2 e3 HO4 HB4
    go_wp2_with (at_builtin; refine wpList_append_bytes rfl (.tmp 16) (.tmp 24) rfl w1.heap.size _ ([] ++ l) rfl HO5.out A5 32 k5 E2 rfl HP5.out.arg (len + 32) (by rw [List.nil_append, HLL.out]) (by omega) HB5.out.size ?_; intro A6 k6 w6 hown hgr _; have HO6 := Lib.hid hown; have HB6 := Lib.hid (below_append HB5.out HO5.out (Nat.le_refl _) hgr); clear hown hgr)
    go_ret
    exact ⟨A6, k6, by rw [HN.out]; rfl, by rw [HT.out, HN.out]; exact HO6.out.mono HB.out.size, HB.out.trans (HB6.out.mono HB.out.size)⟩

set_option maxHeartbeats 1000000 in
theorem rawrite_any (a : Option Addr) (len cap : Nat) (l : List UInt8) (c : Int) (h : Bool) (w : World) (ha : BArg w a len cap l) :
    Calls Try.prog 21 #[.agg #[.slice a len cap, .int .i64 c, .bool h]] w fun e w' => ∃ A k, e = .returned (.tuple #[.slice A (awN len c h) k, .int .i64 (apeE len c)]) ∧ Owns w' w.heap.size (.slice A (awN len c h) k) (awL l c h) ∧ Below w.heap.size w w' := by
  obtain ⟨w1, hw1, d1, d2, d3, hB, hz⟩ := box3 w (.slice a len cap) (.int .i64 c) (.bool h) 30
  have HW := Lib.hid hw1
  have HB := Lib.hid hB
  have HA := Lib.hid (ha.below hB)
  clear hw1 hB
  rcases ape_cases len c with ⟨he, _⟩ | ⟨he, h1, h2, h3⟩
  · have HE := Lib.hid he
    have HN : Hid (awN len c h = 0) := Lib.hid (by unfold awN; rw [he]; rfl)
    have HL : Hid (awL l c h = []) := Lib.hid (by unfold awL; rw [ha.len_eq, he]; rfl)
    clear he ha
    go_enter Try.func21, Try.ntmps21
    go_wp2_with fail
    rw [← HW.out]
    refine (racheck_any a len cap c h _).mono ?_
    rintro e w2 ⟨rfl, hb2⟩
    have HB2 := Lib.hid (HB.out.trans (hb2.mono HB.out.size))
    rw [HE.out]
    clear hb2 d1 d2 d3 hz
    go_wp2_with fail
    go_ret2
    exact ⟨none, 0, by rw [HE.out, HN.out]; rfl, by rw [HL.out, HN.out]; exact Owns.nil _ _, HB2.out⟩
  · obtain ⟨c, rfl⟩ := Int.eq_ofNat_of_zero_le h2
    have h3' : c ≤ 1000 := by omega
    have HE := Lib.hid he
    have HL : Hid (awL l c h = tagL l c h) := Lib.hid (by unfold awL; rw [ha.len_eq, he]; rfl)
    clear he ha h2 h3
    go_enter Try.func21, Try.ntmps21
    go_wp2_with fail
    rw [← HW.out]
    refine (racheck_any a len cap c h _).mono ?_
    rintro e w2 ⟨rfl, hb2⟩
    have HB2 := Lib.hid (HB.out.trans (hb2.mono HB.out.size))
    have HA2 := Lib.hid (HA.out.below hb2)
    have e1 := (hb2.cell (p := ⟨w.heap.size, 0, none⟩) hz).trans d1
    have e2 := (hb2.cell (p := ⟨w.heap.size, 1, none⟩) hz).trans d2
    have e3 := (hb2.cell (p := ⟨w.heap.size, 2, none⟩) hz).trans d3
    rw [HE.out]
    clear hb2
    go_wp2_with fail
    refine (rtag_any a len cap l c h _ HA2.out h1 h3').mono ?_
    rintro e w3 ⟨A, k, rfl, ho, hb3⟩
    have HO := Lib.hid ho
    have HB3 := Lib.hid (HB2.out.trans (hb3.mono HB2.out.size))
    clear ho hb3 e1 e2 e3
    go_wp2_with fail
    go_ret2
    exact ⟨A, k, by rw [HE.out]; rfl, by rw [HL.out]; exact HO.out.mono HB2.out.size, HB3.out⟩
end Go.Proofs.Ytgdchcaglkeghaa
