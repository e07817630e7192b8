/- ApeCut: the walk. -/
import Derived.Test.YtgdchcaglkeghaaApeLaws
import Derived.Test.YtgdchcaglkeghaaApeWritesL
import Derived.Test.YtgdchcaglkeghaaApeAlive
namespace Go.Proofs.Ytgdchcaglkeghaa
open Go.RowKit

set_option maxRecDepth 100000 in
set_option maxHeartbeats 4000000 in
theorem apecut_calls (w : World) (a : Option Addr) (len cap : Nat) (l : List UInt8) (c : Int) (h : Bool) (ha : BArg w a len cap l) (_hc : (Lit.int .i64 c).wf = true) (p : Int) (hp0 : (Lit.int .i64 p).wf = true) :
    Calls Try.prog 10 #[.agg #[.slice a len cap, .int .i64 c, .bool h], .int .i64 p] w fun e w' => e = .returned (.bool true) ∧ Below w.heap.size w w' := by
  obtain ⟨w1, hw1, d1, d2, d3, hB, hz⟩ := box3 w (.slice a len cap) (.int .i64 c) (.bool h) 30
  obtain ⟨hp1, hp2⟩ := i64w hp0
  have HW := Lib.hid hw1
  have HB := Lib.hid hB
  have HA := Lib.hid (ha.below hB)
  have hs9 : len ≤ 9223372036854775807 := Nat.le_trans ha.le ha.small
  have CL := Lib.hid (longa_any a len cap hs9)
  have HLL := Lib.hid ha.len_eq
  clear hw1 hB ha _hc hp0
  cases hl : longA len with
  | true =>
    rw [hl] at CL
    clear hl
    go_enter Try.func10, Try.ntmps10
    go_wp2_with fail
    rw [← HW.out]
    refine (alive29_any _).mono ?_
    rintro e w2 ⟨rfl, hb2⟩
    have HB2 := Lib.hid hb2
    clear hb2
    have e1 := (HB2.out.cell (p := ⟨w.heap.size, 0, none⟩) hz).trans d1
    go_wp2_with fail
    refine (CL.out _).mono ?_
    rintro e w3 ⟨rfl, rfl⟩
    go_wp2_with fail
    go_ret
    exact ⟨rfl, HB.out.trans (HB2.out.mono HB.out.size)⟩
  | false =>
    rw [hl] at CL
    clear hl
    go_enter Try.func10, Try.ntmps10
    go_wp2_with fail
    rw [← HW.out]
    refine (alive29_any _).mono ?_
    rintro e w2 ⟨rfl, hb2⟩
    have HB2 := Lib.hid hb2
    clear hb2
    have e1 := (HB2.out.cell (p := ⟨w.heap.size, 0, none⟩) hz).trans d1
    have e2 := (HB2.out.cell (p := ⟨w.heap.size, 1, none⟩) hz).trans d2
    have e3 := (HB2.out.cell (p := ⟨w.heap.size, 2, none⟩) hz).trans d3
    go_wp2_with fail
    refine (CL.out _).mono ?_
    rintro e w3 ⟨rfl, rfl⟩
    go_wp2_with fail
    refine (awrite_any a len cap l c h _ (HA.out.below HB2.out)).mono ?_
    rintro e w3 ⟨A3, k3, rfl, ho, hb3⟩
    have HO3 := Lib.hid ho
    have HB3 := Lib.hid (HB2.out.trans (hb3.mono HB2.out.size))
    clear ho hb3 e1 e2 e3 HB2
    have e3 := (HB3.out.cell (p := ⟨w.heap.size, 2, none⟩) hz).trans d3
    rcases ape_cases len c with ⟨he, _⟩ | ⟨he, h1, h2, h3⟩
    · rw [he]
      clear he
      go_wp2_with fail
      go_ret
      exact ⟨rfl, HB.out.trans (HB3.out.mono HB.out.size)⟩
    · obtain ⟨c, rfl⟩ := Int.eq_ofNat_of_zero_le h2
      have HLa : awL l (c : Int) h = tagL l c h := by unfold awL; rw [HLL.out, he]; rfl
      rw [HLa] at HO3
      have htl := tagL_length l c h
      rw [HLL.out] at htl
      have hN : awN len c h = (tagL l c h).length := by
        rw [htl]; unfold awN; rw [he]; rfl
      rw [he]
      have hl9 : (tagL l c h).length ≤ 3064 := by rw [htl]; cases h <;> simp <;> omega
      have hl0 : 0 < (tagL l c h).length := by rw [htl]; cases h <;> simp
      have hBC := back_cut l c h (by rw [HLL.out]; exact h1) (by omega)
      have hFC : h = true → ∀ q, q < (tagL l c h).length → frontP ((tagL l c h).take q) = if q < 8 then (0, 6) else (0, 24) := fun hh q hq => by
        subst hh
        exact front_cut l c (by rw [HLL.out]; exact h1) (by omega) q hq
      have HBC := Lib.hid hBC
      have HFC := Lib.hid hFC
      rw [hN] at HO3 ⊢
      clear hBC hFC HLa htl hN he
      have hTN : (tagL l c h).length = (tagL l c h).length := rfl
      obtain ⟨N, hNN⟩ : ∃ N, N = (tagL l c h).length := ⟨_, rfl⟩
      have HTL : Hid ((tagL l c h).length = N) := Lib.hid hNN.symm
      rw [← hNN] at HO3 hl9 hl0 HBC HFC ⊢
      clear hTN hNN
      generalize tagL l c h = TL at *
      by_cases hq1 : p ≤ 0
      · go_wp2_with fail
        go_ret
        exact ⟨rfl, HB.out.trans (HB3.out.mono HB.out.size)⟩
      by_cases hq2 : (N : Int) ≤ p
      · go_wp2_with fail
        go_ret
        exact ⟨rfl, HB.out.trans (HB3.out.mono HB.out.size)⟩
      obtain ⟨q, rfl⟩ := Int.eq_ofNat_of_zero_le (show 0 ≤ p by omega)
      have hq3 : 0 < q := by omega
      have hq4 : q < N := by omega
      obtain ⟨ad, _, hae, _, _, _, _⟩ := HO3.out.arg.at_ (k := 0) hl0
      subst hae
      have hcap := HO3.out.arg.le
      have hcut := HO3.out.arg.cut (i := q) (j := N) (by omega) (by omega)
      rw [if_neg (by omega), List.take_of_length_le (by rw [HTL.out]; omega)] at hcut
      simp only [Option.map_some] at hcut
      have HU := Lib.hid hcut
      have HV := Lib.hid (HO3.out.arg.upto (k := q) (by omega))
      have j1 : ¬ k3 = q := by omega
      have j2 : q ≤ k3 := by omega
      clear hcut
      have key : ∃ v : Int, backP (TL.drop q) = (0, v) ∧ (v = 24 ∨ v = 6) := by
        rcases HBC.out q hq3 hq4 with h | h
        · exact ⟨24, h, .inl rfl⟩
        · exact ⟨6, h, .inr rfl⟩
      obtain ⟨v, hv, hv6⟩ := key
      have CB := Lib.hid (back_any _ _ _ _ w3 HU.out)
      rw [hv] at CB
      cases h with
      | false =>
        rcases hv6 with rfl | rfl
        all_goals
          clear hv
          go_wp2_with fail
          refine CB.out.mono ?_
          rintro e w4 ⟨rfl, hb4⟩
          have HB4 := Lib.hid (HB3.out.trans (hb4.mono HB3.out.size))
          have f3 := (hb4.cell (p := ⟨w.heap.size, 2, none⟩) (Nat.lt_of_lt_of_le hz HB3.out.size)).trans e3
          clear hb4 e3
          go_wp2_with fail
          go_ret
          exact ⟨rfl, HB.out.trans (HB4.out.mono HB.out.size)⟩
      | true =>
        have hf := HFC.out rfl q hq4
        by_cases h8 : q < 8
        · rw [if_pos h8] at hf
          have g8 : decide ((8 : Int) ≤ (q : Int)) = false := by simp; omega
          have g9 : decide ((q : Int) < 8) = true := by simp; omega
          rcases hv6 with rfl | rfl
          all_goals
            clear hv
            go_wp2_with fail
            refine CB.out.mono ?_
            rintro e w4 ⟨rfl, hb4⟩
            have HB4 := Lib.hid (HB3.out.trans (hb4.mono HB3.out.size))
            have f3 := (hb4.cell (p := ⟨w.heap.size, 2, none⟩) (Nat.lt_of_lt_of_le hz HB3.out.size)).trans e3
            have CF := Lib.hid (front_any _ _ _ _ w4 (HV.out.below hb4))
            rw [hf] at CF
            clear hb4 e3 hf
            go_wp2_with fail
            refine CF.out.mono ?_
            rintro e w5 ⟨rfl, hb5⟩
            have HB5 := Lib.hid (HB4.out.trans (hb5.mono HB4.out.size))
            clear hb5 f3
            go_wp2_with fail
            go_ret
            exact ⟨rfl, HB.out.trans (HB5.out.mono HB.out.size)⟩
        · rw [if_neg h8] at hf
          have g8 : decide ((8 : Int) ≤ (q : Int)) = true := by simp; omega
          have g9 : decide ((q : Int) < 8) = false := by simp; omega
          rcases hv6 with rfl | rfl
          all_goals
            clear hv
            go_wp2_with fail
            refine CB.out.mono ?_
            rintro e w4 ⟨rfl, hb4⟩
            have HB4 := Lib.hid (HB3.out.trans (hb4.mono HB3.out.size))
            have f3 := (hb4.cell (p := ⟨w.heap.size, 2, none⟩) (Nat.lt_of_lt_of_le hz HB3.out.size)).trans e3
            have CF := Lib.hid (front_any _ _ _ _ w4 (HV.out.below hb4))
            rw [hf] at CF
            clear hb4 e3 hf
            go_wp2_with fail
            refine CF.out.mono ?_
            rintro e w5 ⟨rfl, hb5⟩
            have HB5 := Lib.hid (HB4.out.trans (hb5.mono HB4.out.size))
            clear hb5 f3
            go_wp2_with fail
            go_ret
            exact ⟨rfl, HB.out.trans (HB5.out.mono HB.out.size)⟩
end Go.Proofs.Ytgdchcaglkeghaa
