/- StripFronts: the walks of the reference's Front and of the law. -/
import Derived.Test.YtgdchcaglkeghaaStrRef
import Derived.Test.YtgdchcaglkeghaaStrBehindL
namespace Go.Proofs.Ytgdchcaglkeghaa
open Go.RowKit
attribute [local go_sem ↓] Go.wp_at_zero Go.wp_at_succ

/-- The sums of the numbers' beginnings stay small. -/
theorem pts_small (bs : List UInt8) : (∀ k, 0 ≤ sumL ((ptsL bs).take k) ∧ sumL ((ptsL bs).take k) ≤ 4000) ∧ (ptsL bs).length ≤ 4001 := by
  have hl := sq_len bs bs.length 0 (by omega) (by omega) (by omega)
  unfold ptsL
  by_cases he : sqE (sq bs 0) = 0
  · rw [if_pos he]
    obtain ⟨m, hm, _, hm4, hz, _⟩ := sq_sum bs bs.length 0 (by omega) (by omega) (by omega) he
    have nn : ∀ M : List (Int × Int), (∀ x ∈ M, 0 ≤ x.1) → 0 ≤ sumL (M.map (·.1)) := by
      intro M
      induction M with
      | nil => intro _; simp [sumL]
      | cons y M ihM => intro hy; rw [List.map_cons, sumL_cons]; have := hy y (by simp); have := ihM (fun z hz => hy z (by simp [hz])); omega
    refine ⟨fun k => ?_, by simp; omega⟩
    have h1 := nn ((sq bs 0).take k) (fun x hx => by have := (hz x (List.mem_of_mem_take hx)).2; omega)
    have h2 := nn ((sq bs 0).drop k) (fun x hx => by have := (hz x (List.mem_of_mem_drop hx)).2; omega)
    have h3 : sumL ((sq bs 0).map (·.1)) = sumL (((sq bs 0).take k).map (·.1)) + sumL (((sq bs 0).drop k).map (·.1)) := by
      rw [← sumL_append, ← List.map_append, List.take_append_drop]
    rw [← List.map_take]
    omega
  · rw [if_neg he]
    refine ⟨fun k => ?_, by simp⟩
    simp [sumL]

set_option maxRecDepth 100000 in
set_option maxHeartbeats 2000000 in
theorem rfrontS_any (a : Option Addr) (len cap : Nat) (bs : List UInt8) (w : World) (ha : BArg w a len cap bs) :
    Calls Try.prog 40 #[.slice a len cap] w fun e W' => e = .returned (.tuple #[.int .i64 (frtP bs).1, .int .i64 (frtP bs).2]) ∧ Below w.heap.size w W' := by
  have C1 := Lib.hid (rparts_any a len cap bs w ha)
  obtain ⟨hs, hn⟩ := pts_small bs
  have HS := Lib.hid hs
  have HF : Hid (frtP bs = (sumL (ptsL bs), ptsE bs)) := Lib.hid rfl
  generalize ptsL bs = L at *
  generalize ptsE bs = E at *
  clear ha hs
  go_enter Try.func40, Try.ntmps40
  go_wp2_with fail
  refine C1.out.mono ?_
  rintro e w1 ⟨v, rfl, ho, hb⟩
  obtain ⟨A, c, rfl, ha⟩ := ho.form
  have HB := Lib.hid hb
  obtain ⟨N, hN⟩ : ∃ N, N = L.length := ⟨_, rfl⟩
  rw [← hN] at ha hn ⊢
  obtain ⟨_, _, hc⟩ := ha
  have HC := Lib.hid hc
  have HN := Lib.hid hN
  clear ho hb hc hN
  go_wp2_with fail
  go_loop [6, 7] (fun s i => ∃ k : Nat, k ≤ N ∧ i = .int .i64 k ∧ s = .int .i64 (sumL (L.take k))) (fun _ i => N - (intOf i).toNat)
  case atStart => exact ⟨0, by omega, rfl, by simp [sumL]⟩
  case round =>
    obtain ⟨k, hk, rfl, rfl⟩ := hrel
    by_cases hlt : k < N
    · obtain ⟨g, o, rfl, hg, hcell⟩ := HC.out (by omega)
      have c1 := hcell k hlt
      have hst : sumL (L.take (k + 1)) = sumL (L.take k) + L.getD k 0 := by
        have hkl : k < L.length := by rw [← HN.out]; exact hlt
        rw [List.take_succ_eq_append_getElem hkl, sumL_snoc]
        simp [List.getD, List.getElem?_eq_getElem hkl]
      have HST := Lib.hid hst
      have s1 := HS.out k
      have s2 := HS.out (k + 1)
      rw [hst] at s2
      obtain ⟨l1, l2⟩ := s1
      obtain ⟨m1, m2⟩ := s2
      generalize sumL (L.take k) = x at *
      generalize L.getD k 0 = y at *
      clear hcell hst
      go_wp2_with fail
      go_round
      case rel => exact ⟨k + 1, by omega, by go_num, by rw [HST.out]⟩
      case measure => simp [intOf]; omega
    · obtain rfl : k = N := by omega
      go_wp2_with fail
      go_ret2
      exact ⟨by rw [HF.out, List.take_of_length_le (by rw [← HN.out]; omega)]; rfl, HB.out⟩

set_option maxRecDepth 100000 in
set_option maxHeartbeats 2000000 in
theorem stripfronts_calls (a : Option Addr) (len cap : Nat) (l : List UInt8) (w : World) (ha : BArg w a len cap l) :
    Calls Try.prog 12 #[.slice a len cap] w fun e w' => e = .returned (.bool true) ∧ Below w.heap.size w w' := by
  have HA := Lib.hid ha
  have hs9 : len ≤ 9223372036854775807 := Nat.le_trans ha.le ha.small
  have CL := Lib.hid (longS_any a len cap hs9)
  cases hl : longS len with
  | true =>
    rw [hl] at CL
    clear hl ha
    go_enter Try.func12, Try.ntmps12
    go_wp2_with fail
    refine (CL.out _).mono ?_
    rintro e w2 ⟨rfl, rfl⟩
    go_wp2_with fail
    go_ret
    exact ⟨rfl, Below.refl _ _⟩
  | false =>
    rw [hl] at CL
    have t0 := HA.out.text
    have C1 := Lib.hid (sparts_any a len cap l)
    have C2 := Lib.hid (rparts_any a len cap l)
    have C3 := Lib.hid (sfront_any a len cap l)
    have C4 := Lib.hid (rfrontS_any a len cap l)
    generalize (frtP l).1 = F1 at *
    generalize (frtP l).2 = F2 at *
    generalize ptsE l = E at *
    generalize ptsL l = L at *
    clear hl ha
    go_enter Try.func12, Try.ntmps12
    go_wp2_with fail
    refine (CL.out _).mono ?_
    rintro e w2 ⟨rfl, rfl⟩
    go_wp2_with fail
    refine (C1.out _ HA.out).mono ?_
    rintro e w1 ⟨v1, rfl, ho1, hb⟩
    obtain ⟨A1, c1, rfl, ha1⟩ := ho1.form
    have HB1 := Lib.hid hb
    have HA1 := Lib.hid (HA.out.below hb)
    have HO1 := Lib.hid ha1
    clear hb t0 ho1 ha1
    go_wp2_with fail
    refine (C2.out _ HA1.out).mono ?_
    rintro e w2 ⟨v2, rfl, ho2, hb⟩
    obtain ⟨A2, c2, rfl, ha2⟩ := ho2.form
    have HB2 := Lib.hid (HB1.out.trans (hb.mono HB1.out.size))
    have HA2 := Lib.hid (HA1.out.below hb)
    have HO12 := Lib.hid (HO1.out.below hb)
    have HO2 := Lib.hid ha2
    clear hb ho2 ha2
    go_wp2_with fail
    refine (C3.out _ HA2.out).mono ?_
    rintro e w3 ⟨rfl, hb⟩
    have HB3 := Lib.hid (HB2.out.trans (hb.mono HB2.out.size))
    have HA3 := Lib.hid (HA2.out.below hb)
    have HO13 := Lib.hid (HO12.out.below hb)
    have HO23 := Lib.hid (HO2.out.below hb)
    clear hb
    go_wp2_with fail
    refine (C4.out _ HA3.out).mono ?_
    rintro e w4 ⟨rfl, hb⟩
    have HB4 := Lib.hid (HB3.out.trans (hb.mono HB3.out.size))
    have HA4 := Lib.hid (HA3.out.below hb)
    have HO14 := Lib.hid (HO13.out.below hb)
    have HO24 := Lib.hid (HO23.out.below hb)
    clear hb
    go_wp2_with fail
    refine (sameints_any _ _ _ L _ _ _ L _ HO14.out HO24.out).mono ?_
    rintro e w5 ⟨rfl, hb⟩
    rw [show (L == L) = true by simp]
    have HB5 := Lib.hid (HB4.out.trans (hb.mono HB4.out.size))
    have t5 := (HA4.out.below hb).text
    clear hb
    have g1 : (E == E) = true := by simp
    have g2 : (F1 == F1) = true := by simp
    have g3 : (F2 == F2) = true := by simp
    go_wp2_with fail
    go_ret
    exact ⟨rfl, HB5.out⟩
end Go.Proofs.Ytgdchcaglkeghaa
