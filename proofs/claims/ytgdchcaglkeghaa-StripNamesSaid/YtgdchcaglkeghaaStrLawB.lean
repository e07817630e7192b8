/- The walks of the laws' front, fails, behind and alive (layer 30). -/
import Derived.Test.YtgdchcaglkeghaaStrLaw
namespace Go.Proofs.Ytgdchcaglkeghaa
open Go.RowKit
attribute [local go_sem ↓] Go.wp_at_zero Go.wp_at_succ

/-- Have the tags in front these sizes, this error; are bytes so many tags? -/
def frQ (l : List UInt8) (want : List Int) : Bool := ptsE l == 0 && ptsL l == want
def faQ (l : List UInt8) (x : Int) : Bool := ptsE l == x && ((frtP l).1 == 0 && (ptsL l).length == 0)
def bhQ (l : List UInt8) (x : Int) : Bool := if x < 0 then (bhP l).1 == 0 && (bhP l).2 == 38 else (bhP l).1 == x && (bhP l).2 == 0
def sumV (L : List Int) : Int := L.foldl (fun s x => wrap64 (s + x)) 0
theorem sumV_snoc (L : List Int) (x : Int) : sumV (L ++ [x]) = wrap64 (sumV L + x) := by simp [sumV]
theorem sumV_pts (l : List UInt8) : sumV (ptsL l) = sumL (ptsL l) := by
  obtain ⟨h, _⟩ := pts_small l
  have key : ∀ k, k ≤ (ptsL l).length → sumV ((ptsL l).take k) = sumL ((ptsL l).take k) := by
    intro k
    induction k with
    | zero => intro _; simp [sumV, sumL]
    | succ k ih =>
      intro hk
      have h1 := h (k + 1)
      rw [List.take_succ_eq_append_getElem (by omega), sumL_snoc] at h1
      rw [List.take_succ_eq_append_getElem (by omega), sumV_snoc, sumL_snoc, ih (by omega)]
      exact IntWalk.wrap64_in _ (by omega)
  have := key (ptsL l).length (Nat.le_refl _)
  rwa [List.take_of_length_le (Nat.le_refl _)] at this

set_option maxRecDepth 100000 in
set_option maxHeartbeats 2000000 in
theorem lfr_any (a : Option Addr) (len cap : Nat) (l : List UInt8) (B : Option Addr) (m d : Nat) (want : List Int) (w : World) (ha : BArg w a len cap l) (hw : NArg w B m want) :
    Calls Try.prog 26 #[.slice a len cap, .slice B m d] w fun e w' => e = .returned (.bool (frQ l want)) ∧ Below w.heap.size w w' := by
  have HA := Lib.hid ha
  have HW := Lib.hid hw
  have C1 := Lib.hid (sparts_any a len cap l w ha)
  have C2 := Lib.hid (sfront_any a len cap l)
  have HF : Hid (frtP l = (sumL (ptsL l), ptsE l)) := Lib.hid rfl
  have HSV := Lib.hid (sumV_pts l)
  have HQ : Hid (frQ l want = (ptsE l == 0 && ptsL l == want)) := Lib.hid rfl
  obtain ⟨hwl, hm9, hwc⟩ := hw
  have HWL := Lib.hid hwl
  have HWC := Lib.hid hwc
  rw [HF.out] at C2
  generalize frQ l want = Q at *
  generalize ptsL l = L at *
  generalize ptsE l = E at *
  clear ha hwl hwc HF
  go_enter Try.func26, Try.ntmps26
  go_wp2_with fail
  refine C1.out.mono ?_
  rintro e w1 ⟨v, rfl, ho, hb⟩
  obtain ⟨A1, c1, rfl, ha1⟩ := ho.form
  have HB1 := Lib.hid hb
  have HO1 := Lib.hid ha1
  have HA1 := Lib.hid (HA.out.below hb)
  have HW1 := Lib.hid (HW.out.below hb)
  clear ho hb ha1
  go_wp2_with fail
  refine (C2.out _ HA1.out).mono ?_
  rintro e w2 ⟨rfl, hb⟩
  have HB2 := Lib.hid (HB1.out.trans (hb.mono HB1.out.size))
  have HO2 := Lib.hid (HO1.out.below hb)
  have HW2 := Lib.hid (HW1.out.below hb)
  clear hb
  go_wp2_with fail
  go_loop [9, 10] (fun s i => ∃ k : Nat, k ≤ m ∧ i = .int .i64 k ∧ s = .int .i64 (sumV (want.take k))) (fun _ i => m - (intOf i).toNat)
  case atStart => exact ⟨0, by omega, rfl, by simp [sumV]⟩
  case round =>
    obtain ⟨k, hk, rfl, rfl⟩ := hrel
    by_cases hlt : k < m
    · obtain ⟨g, o, rfl, hg, hcell⟩ := HW2.out.2.2 (by omega)
      have c1 := hcell k hlt
      have hst : sumV (want.take (k + 1)) = wrap64 (sumV (want.take k) + want.getD k 0) := by
        have hkl : k < want.length := by rw [HWL.out]; exact hlt
        rw [List.take_succ_eq_append_getElem hkl, sumV_snoc]
        simp [List.getD, List.getElem?_eq_getElem hkl]
      have HST := Lib.hid hst
      generalize sumV (want.take k) = x at *
      generalize want.getD k 0 = y at *
      clear hcell hst
      go_wp2_with fail
      go_round
      case rel => exact ⟨k + 1, by omega, by go_num, by rw [HST.out]⟩
      case measure => simp [intOf]; omega
    · obtain rfl : k = m := by omega
      have hfull : want.take k = want := List.take_of_length_le (by rw [HWL.out]; omega)
      rw [hfull]
      clear hfull
      by_cases hE : E = 0
      · subst hE
        by_cases hS : sumL L = sumV want
        · have g1 : (sumL L == sumV want) = true := by simpa using hS
          have HQ2 : Hid (Q = (L == want)) := Lib.hid (by rw [HQ.out]; simp)
          clear hS
          generalize sumL L = S at *
          generalize sumV want = V at *
          go_wp2_with fail
          refine (sameints_any _ _ _ L _ _ _ want _ HO2.out HW2.out).mono ?_
          rintro e w3 ⟨rfl, hb⟩
          rw [← HQ2.out]
          have HB3 := Lib.hid (HB2.out.trans (hb.mono HB2.out.size))
          clear hb
          go_wp2_with fail
          go_ret
          exact ⟨rfl, HB3.out⟩
        · have g1 : (sumL L == sumV want) = false := beq_eq_false_iff_ne.2 hS
          have HQ2 : Hid (Q = false) := Lib.hid (by
            rw [HQ.out]
            have : (L == want) = false := by
              rw [beq_eq_false_iff_ne]
              intro h
              subst h
              exact hS HSV.out.symm
            rw [this, Bool.and_false])
          clear hS
          generalize sumL L = S at *
          generalize sumV want = V at *
          go_wp2_with fail
          go_ret
          exact ⟨by rw [HQ2.out]; rfl, HB2.out⟩
      · have g1 : (E == 0) = false := beq_eq_false_iff_ne.2 hE
        have HQ2 : Hid (Q = false) := Lib.hid (by rw [HQ.out, g1, Bool.false_and])
        clear hE
        go_wp2_with fail
        go_ret
        exact ⟨by rw [HQ2.out]; rfl, HB2.out⟩

set_option maxRecDepth 100000 in
set_option maxHeartbeats 2000000 in
theorem lfa_any (a : Option Addr) (len cap : Nat) (l : List UInt8) (x : Int) (w : World) (ha : BArg w a len cap l) :
    Calls Try.prog 42 #[.slice a len cap, .int .i64 x] w fun e w' => e = .returned (.bool (faQ l x)) ∧ Below w.heap.size w w' := by
  have HA := Lib.hid ha
  have C1 := Lib.hid (sparts_any a len cap l w ha)
  have C2 := Lib.hid (sfront_any a len cap l)
  have HF2 : Hid ((frtP l).2 = ptsE l) := Lib.hid rfl
  have HQ : Hid (faQ l x = (ptsE l == x && ((frtP l).1 == 0 && (ptsL l).length == 0))) := Lib.hid rfl
  rw [HF2.out] at C2
  generalize faQ l x = Q at *
  generalize (frtP l).1 = S at *
  generalize ptsL l = L at *
  generalize ptsE l = E at *
  clear ha HF2
  go_enter Try.func42, Try.ntmps42
  go_wp2_with fail
  refine C1.out.mono ?_
  rintro e w1 ⟨v, rfl, ho, hb⟩
  obtain ⟨A1, c1, rfl, ha1⟩ := ho.form
  have HB1 := Lib.hid hb
  have HA1 := Lib.hid (HA.out.below hb)
  clear ho hb ha1
  go_wp2_with fail
  refine (C2.out _ HA1.out).mono ?_
  rintro e w2 ⟨rfl, hb⟩
  have HB2 := Lib.hid (HB1.out.trans (hb.mono HB1.out.size))
  clear hb
  cases h1 : E == x with
  | false =>
    have HQ2 : Hid (Q = false) := Lib.hid (by rw [HQ.out, h1, Bool.false_and])
    go_wp2_with fail
    go_ret
    exact ⟨by rw [HQ2.out]; rfl, HB2.out⟩
  | true =>
    cases h2 : S == 0 with
    | false =>
      have HQ2 : Hid (Q = false) := Lib.hid (by rw [HQ.out, h2, Bool.false_and, Bool.and_false])
      go_wp2_with fail
      go_ret
      exact ⟨by rw [HQ2.out]; rfl, HB2.out⟩
    | true =>
      obtain ⟨N, hN⟩ : ∃ N, N = L.length := ⟨_, rfl⟩
      rw [← hN] at HQ ⊢
      clear hN
      by_cases h3 : N = 0
      · subst h3
        have HQ2 : Hid (Q = true) := Lib.hid (by rw [HQ.out, h1, h2]; rfl)
        go_wp2_with fail
        go_ret
        exact ⟨by rw [HQ2.out]; rfl, HB2.out⟩
      · have b3 : ((N : Int) == 0) = false := beq_eq_false_iff_ne.2 (by omega)
        have b4 : (N == 0) = false := beq_eq_false_iff_ne.2 h3
        have HQ2 : Hid (Q = false) := Lib.hid (by rw [HQ.out, b4, Bool.and_false, Bool.and_false])
        clear h3
        go_wp2_with fail
        go_ret
        exact ⟨by rw [HQ2.out]; rfl, HB2.out⟩

set_option maxRecDepth 100000 in
set_option maxHeartbeats 2000000 in
theorem lbh_any (a : Option Addr) (len cap : Nat) (l : List UInt8) (x : Int) (w : World) (ha : BArg w a len cap l) :
    Calls Try.prog 28 #[.slice a len cap, .int .i64 x] w fun e w' => e = .returned (.bool (bhQ l x)) ∧ Below w.heap.size w w' := by
  have C1 := Lib.hid (behind_any a len cap l w ha)
  have HQ : Hid (bhQ l x = if x < 0 then (bhP l).1 == 0 && (bhP l).2 == 38 else (bhP l).1 == x && (bhP l).2 == 0) := Lib.hid rfl
  generalize bhQ l x = Q at *
  generalize (bhP l).1 = S at *
  generalize (bhP l).2 = E at *
  clear ha
  by_cases hx : x < 0
  · rw [if_pos hx] at HQ
    cases h1 : S == 0 with
    | false =>
      have HQ2 : Hid (Q = false) := Lib.hid (by rw [HQ.out, h1, Bool.false_and])
      go_enter Try.func28, Try.ntmps28
      go_wp2_with fail
      refine C1.out.mono ?_
      rintro e w2 ⟨rfl, hb⟩
      have HB2 := Lib.hid hb
      clear hb
      go_wp2_with fail
      go_ret
      exact ⟨by rw [HQ2.out]; rfl, HB2.out⟩
    | true =>
      have HQ2 : Hid (Q = (E == 38)) := Lib.hid (by rw [HQ.out, h1, Bool.true_and])
      go_enter Try.func28, Try.ntmps28
      go_wp2_with fail
      refine C1.out.mono ?_
      rintro e w2 ⟨rfl, hb⟩
      have HB2 := Lib.hid hb
      clear hb
      go_wp2_with fail
      go_ret
      exact ⟨by rw [HQ2.out]; rfl, HB2.out⟩
  · rw [if_neg hx] at HQ
    cases h1 : S == x with
    | false =>
      have HQ2 : Hid (Q = false) := Lib.hid (by rw [HQ.out, h1, Bool.false_and])
      go_enter Try.func28, Try.ntmps28
      go_wp2_with fail
      refine C1.out.mono ?_
      rintro e w2 ⟨rfl, hb⟩
      have HB2 := Lib.hid hb
      clear hb
      go_wp2_with fail
      go_ret
      exact ⟨by rw [HQ2.out]; rfl, HB2.out⟩
    | true =>
      have HQ2 : Hid (Q = (E == 0)) := Lib.hid (by rw [HQ.out, h1, Bool.true_and])
      go_enter Try.func28, Try.ntmps28
      go_wp2_with fail
      refine C1.out.mono ?_
      rintro e w2 ⟨rfl, hb⟩
      have HB2 := Lib.hid hb
      clear hb
      go_wp2_with fail
      go_ret
      exact ⟨by rw [HQ2.out]; rfl, HB2.out⟩
end Go.Proofs.Ytgdchcaglkeghaa
