/- StripLeft: the walks of begins and of the law. -/
import Derived.Test.YtgdchcaglkeghaaStrJoinL
namespace Go.Proofs.Ytgdchcaglkeghaa
open Go.RowKit
attribute [local go_sem ↓] Go.wp_at_zero Go.wp_at_succ

set_option maxHeartbeats 1000000 in
theorem begins_any (a : Option Addr) (len cap : Nat) (l : List UInt8) (w : World) (ha : BArg w a len cap l) :
    Calls Try.prog 43 #[.slice a len cap] w fun e w' => e = .returned (.bool (begB l)) ∧ w = w' := by
  have hll := ha.len_eq
  have hlc := ha.le
  have hcs := ha.small
  have HQ : Hid (begB l = (hp l id3 || hp l apeM)) := Lib.hid rfl
  by_cases h3 : len < 3
  · have HB : Hid (begB l = false) := Lib.hid (by
      rw [HQ.out]
      unfold hp
      rw [decide_eq_false (show ¬ id3.length ≤ l.length by show ¬ 3 ≤ l.length; omega), decide_eq_false (show ¬ apeM.length ≤ l.length by show ¬ 8 ≤ l.length; omega)]
      rfl)
    have d1 : decide ((3 : Int) ≤ (len : Int)) = false := by simp; omega
    have d2 : decide ((8 : Int) ≤ (len : Int)) = false := by simp; omega
    clear ha hll h3
    go_enter Try.func43, Try.ntmps43
    go_wp2_with fail
    go_ret
    exact ⟨by rw [HB.out]; rfl, rfl⟩
  · have e3 := hp3 l (by omega)
    have d1 : decide ((3 : Int) ≤ (len : Int)) = true := by simp; omega
    have hc3 : 3 ≤ cap := by omega
    have t3 := (ha.upto (k := 3) (by omega)).text
    cases hT : (l.take 3 == [73, 68, 51]) with
    | true =>
      have HB : Hid (begB l = true) := Lib.hid (by rw [HQ.out, e3, hT]; rfl)
      clear ha hll h3 e3 HQ
      generalize l.take 3 = T3 at *
      go_enter Try.func43, Try.ntmps43
      go_wp2_with fail
      go_ret
      exact ⟨by rw [HB.out]; rfl, rfl⟩
    | false =>
      by_cases h8 : len < 8
      · have HB : Hid (begB l = false) := Lib.hid (by
          rw [HQ.out, e3, hT, Bool.false_or]
          exact hp8_short l (by omega))
        have d2 : decide ((8 : Int) ≤ (len : Int)) = false := by simp; omega
        clear ha hll h3 h8 e3 HQ
        generalize l.take 3 = T3 at *
        go_enter Try.func43, Try.ntmps43
        go_wp2_with fail
        go_ret
        exact ⟨by rw [HB.out]; rfl, rfl⟩
      · have e8 := hp8 l (by omega)
        have d2 : decide ((8 : Int) ≤ (len : Int)) = true := by simp; omega
        have hc8 : 8 ≤ cap := by omega
        have t8 := (ha.upto (k := 8) (by omega)).text
        have HB : Hid (begB l = (l.take 8 == [65, 80, 69, 84, 65, 71, 69, 88])) := Lib.hid (by rw [HQ.out, e3, hT, Bool.false_or, e8])
        clear ha hll h3 h8 e3 e8 HQ
        generalize l.take 3 = T3 at *
        generalize l.take 8 = T8 at *
        go_enter Try.func43, Try.ntmps43
        go_wp2_with fail
        go_ret
        exact ⟨by rw [HB.out]; rfl, rfl⟩

set_option maxRecDepth 100000 in
set_option maxHeartbeats 3000000 in
theorem stripleft_calls (w : World) (a : Option Addr) (len cap : Nat) (l : List UInt8) (ha : BArg w a len cap l) (a2 : Option Addr) (len2 cap2 : Nat) (r : List UInt8) (ha2 : BArg w a2 len2 cap2 r) :
    Calls Try.prog 14 #[.slice a len cap, .slice a2 len2 cap2] w fun e w' => e = .returned (.bool true) ∧ Below w.heap.size w w' := by
  have hlc := ha.le
  have hcs := ha.small
  have HA := Lib.hid ha
  have HA2 := Lib.hid ha2
  have hs9 : len ≤ 9223372036854775807 := Nat.le_trans ha.le ha.small
  have hs8 : len2 ≤ 9223372036854775807 := Nat.le_trans ha2.le ha2.small
  have CL := Lib.hid (longS_any a len cap hs9)
  have CL2 := Lib.hid (longS_any a2 len2 cap2 hs8)
  have HLL := Lib.hid ha.len_eq
  have HLR := Lib.hid ha2.len_eq
  clear ha ha2
  cases hl : longS len with
  | true =>
    rw [hl] at CL
    clear hl
    go_enter Try.func14, Try.ntmps14
    go_wp2_with fail
    refine (alive30_any _).mono ?_
    rintro e w1 ⟨rfl, hb⟩
    have HB1 := Lib.hid hb
    clear hb
    go_wp2_with fail
    refine (CL.out _).mono ?_
    rintro e w2 ⟨rfl, rfl⟩
    go_wp2_with fail
    go_ret
    exact ⟨rfl, HB1.out⟩
  | false =>
    have h81 := longS_le len hl
    rw [hl] at CL
    clear hl
    cases hl2 : longS len2 with
    | true =>
      rw [hl2] at CL2
      clear hl2
      go_enter Try.func14, Try.ntmps14
      go_wp2_with fail
      refine (alive30_any _).mono ?_
      rintro e w1 ⟨rfl, hb⟩
      have HB1 := Lib.hid hb
      clear hb
      go_wp2_with fail
      refine (CL.out _).mono ?_
      rintro e w2 ⟨rfl, rfl⟩
      go_wp2_with fail
      refine (CL2.out _).mono ?_
      rintro e w2 ⟨rfl, rfl⟩
      go_wp2_with fail
      go_ret
      exact ⟨rfl, HB1.out⟩
    | false =>
      have h82 := longS_le len2 hl2
      rw [hl2] at CL2
      clear hl2
      have CP := Lib.hid (sparts_any a len cap l)
      have CF := Lib.hid (sfront_any a len cap l)
      have HE1 : Hid ((frtP l).2 = ptsE l) := Lib.hid rfl
      have HS1 : Hid ((frtP l).1 = sumV (ptsL l)) := Lib.hid (sumV_pts l).symm
      rw [HE1.out] at CF
      by_cases hE : ptsE l = 0
      case neg =>
        have g1 : (ptsE l != 0) = true := by simpa using hE
        have g2 : (ptsE l == ptsE l) = true := by simp
        generalize ptsE l = E at *
        generalize ptsL l = L at *
        generalize (frtP l).1 = X at *
        clear hE HE1 HS1
        go_enter Try.func14, Try.ntmps14
        go_wp2_with fail
        refine (alive30_any _).mono ?_
        rintro e w1 ⟨rfl, hb⟩
        have HB1 := Lib.hid hb
        clear hb
        go_wp2_with fail
        refine (CL.out _).mono ?_
        rintro e w2 ⟨rfl, rfl⟩
        go_wp2_with fail
        refine (CL2.out _).mono ?_
        rintro e w2 ⟨rfl, rfl⟩
        go_wp2_with fail
        refine (CP.out _ (HA.out.below HB1.out)).mono ?_
        rintro e w2 ⟨v, rfl, ho, hb⟩
        obtain ⟨A2, c2, rfl, _⟩ := ho.form
        have HB2 := Lib.hid (HB1.out.trans (hb.mono HB1.out.size))
        clear ho hb
        go_wp2_with fail
        refine (CF.out _ (HA.out.below HB2.out)).mono ?_
        rintro e w3 ⟨rfl, hb⟩
        have HB3 := Lib.hid (HB2.out.trans (hb.mono HB2.out.size))
        clear hb
        go_wp2_with fail
        go_ret
        exact ⟨rfl, HB3.out⟩
      case pos =>
        obtain ⟨x1, x2⟩ := frt_small l
        obtain ⟨n, hn⟩ := Int.eq_ofNat_of_zero_le x1
        obtain ⟨r1, r2, r3, r4, r5, r6⟩ := frt_rest l n hE hn
        have hlft : begB r = false → frtP (l.take n ++ r) = ((n : Int), 0) := fun h => frt_left l r n hE hn h
        have HFL := Lib.hid hlft
        have hfq : frQ (l.drop n) [] = true := by unfold frQ; rw [r5, r4]; rfl
        have HFQ := Lib.hid hfq
        have HBG := Lib.hid r3
        have H10 := Lib.hid r6
        rw [HLL.out] at r1
        rw [hE] at CP CF
        rw [hn] at HS1 CF
        have CB3 := Lib.hid (fun A m c => sfront_any A m c (l.take n ++ r))
        have hlt : (l.take n).length = n := by rw [List.length_take, HLL.out]; omega
        have HLT := Lib.hid hlt
        generalize ptsL l = L at *
        clear hE HE1 hfq r3 r4 r5 r6 hlft hlt x1 x2 hn
        generalize frtP (l.take n ++ r) = F3 at *
        have j1 : n ≤ cap := by omega
        by_cases hcp : cap = n
        case' pos =>
          have HD : Hid (∀ w', Below w.heap.size w w' → BArg w' a 0 0 (l.drop n)) := Lib.hid (fun w' hb => by
            have := (HA.out.below hb).from_ r1
            rwa [if_pos hcp, show len - n = 0 by omega, show cap - n = 0 by omega] at this)
          obtain rfl : n = len := by omega
          obtain rfl : n = cap := hcp.symm
        case' neg =>
          have hne : a ≠ none := by
            intro h
            have := HA.out.nil h
            omega
          obtain ⟨ad, rfl⟩ : ∃ ad, a = some ad := by
            cases a with
            | none => exact absurd rfl hne
            | some ad => exact ⟨ad, rfl⟩
          have HD : Hid (∀ w', Below w.heap.size w w' → BArg w' (some (ad.add n)) (len - n) (cap - n) (l.drop n)) := Lib.hid (fun w' hb => by
            have := (HA.out.below hb).from_ r1
            rwa [if_neg hcp] at this)
          clear hne
        all_goals
          go_enter Try.func14, Try.ntmps14
          go_wp2_with fail
          refine (alive30_any _).mono ?_
          rintro e w1 ⟨rfl, hb⟩
          have HB1 := Lib.hid hb
          clear hb
          go_wp2_with fail
          refine (CL.out _).mono ?_
          rintro e w2 ⟨rfl, rfl⟩
          go_wp2_with fail
          refine (CL2.out _).mono ?_
          rintro e w2 ⟨rfl, rfl⟩
          go_wp2_with fail
          refine (CP.out _ (HA.out.below HB1.out)).mono ?_
          rintro e w2 ⟨v, rfl, ho, hb⟩
          obtain ⟨A2, c2, rfl, ha2⟩ := ho.form
          have HB2 := Lib.hid (HB1.out.trans (hb.mono HB1.out.size))
          have HN2 := Lib.hid ha2
          clear ho hb ha2
          go_wp2_with fail
          refine (CF.out _ (HA.out.below HB2.out)).mono ?_
          rintro e w3 ⟨rfl, hb⟩
          have HB3 := Lib.hid (HB2.out.trans (hb.mono HB2.out.size))
          have HN3 := Lib.hid (HN2.out.below hb)
          clear hb HN2
          obtain ⟨N, hN⟩ : ∃ N, N = L.length := ⟨_, rfl⟩
          rw [← hN] at HN3 ⊢
          have HNL := Lib.hid hN
          have hN9 := HN3.out.2.1
          clear hN
          go_wp2_with fail
          go_loop [10, 11] (fun s i => ∃ k : Nat, k ≤ N ∧ i = .int .i64 k ∧ s = .int .i64 (sumV (L.take k))) (fun _ i => N - (intOf i).toNat)
          case atStart => exact ⟨0, by omega, rfl, by simp [sumV]⟩
          case round =>
            obtain ⟨k, hk, rfl, rfl⟩ := hrel
            by_cases hlt : k < N
            · obtain ⟨g, o, rfl, hg, hcell⟩ := HN3.out.2.2 (by omega)
              have c1 := hcell k hlt
              have hkl : k < L.length := by rw [← HNL.out]; exact hlt
              have hst : sumV (L.take (k + 1)) = wrap64 (sumV (L.take k) + L.getD k 0) := by
                rw [List.take_succ_eq_append_getElem hkl, sumV_snoc]
                simp [List.getD, List.getElem?_eq_getElem hkl]
              have h10 : 10 ≤ L.getD k 0 := by
                have := H10.out (L[k]) (List.getElem_mem hkl)
                simpa [List.getD, List.getElem?_eq_getElem hkl] using this
              have d10 : decide (L.getD k 0 < 10) = false := decide_eq_false (by omega)
              have HST := Lib.hid hst
              generalize sumV (L.take k) = x at *
              generalize L.getD k 0 = y at *
              clear hcell hst h10 hkl
              go_wp2_with fail
              go_round
              case rel => exact ⟨k + 1, by omega, by go_num, by rw [HST.out]⟩
              case measure => simp [intOf]; omega
            · obtain rfl : k = N := by omega
              have hfull : sumV (L.take k) = (n : Int) := by rw [List.take_of_length_le (by rw [← HNL.out]; omega), HS1.out]
              rw [hfull]
              have g3 : ((n : Int) != (n : Int)) = false := by simp
              clear hfull hlt
              go_wp2_with fail
              refine (begins_any _ _ _ (l.drop n) _ (HD.out _ HB3.out)).mono ?_
              rintro e w4 ⟨rfl, rfl⟩
              rw [HBG.out]
              go_wp2_with fail
              refine (lfr_any _ _ _ (l.drop n) none 0 0 [] _ (HD.out _ HB3.out) (NArg.nil _)).mono ?_
              rintro e w4 ⟨rfl, hb⟩
              rw [HFQ.out]
              have HB4 := Lib.hid (HB3.out.trans (hb.mono HB3.out.size))
              clear hb
              go_wp2_with fail
              refine (begins_any _ _ _ r _ (HA2.out.below HB4.out)).mono ?_
              rintro e w5 ⟨rfl, rfl⟩
              cases hbr : begB r with
              | true =>
                go_wp2_with fail
                go_ret
                exact ⟨rfl, HB4.out⟩
              | false =>
                have HF := Lib.hid (HFL.out hbr)
                have HU := Lib.hid ((HA.out.below HB4.out).upto (k := n) r1)
                clear hbr
                go_wp2_with (first
                  | (at_builtin; refine wpList_append_bytes rfl (.tmp 95) (.tmp 98) rfl w4.heap.size (.slice (some ⟨w4.heap.size, 0, none⟩) 0 0) [] rfl (Owns.lit0 _ _ (Nat.le_refl _)) _ _ _ (l.take n) rfl (HU.out.alloc _) _ (Nat.zero_add _) (by omega) (by simp) ?_; intro A5 c5 w5 hown hgr _; rw [List.nil_append] at hown; have HO5 := Lib.hid hown; have HB5 := Lib.hid ((HB4.out.alloc HB4.out.size _).grown hgr (Nat.le_trans HB4.out.size (by simp)) (fun k hk => Nat.le_trans HB4.out.size (Nat.le_of_eq (Option.some.inj hk)))); have HL5 := Lib.hid (Nat.le_trans (show w4.heap.size ≤ (w4.alloc (.cells #[] 5)).heap.size by simp) hgr.size); clear hown hgr)
                  | (at_builtin; refine wpList_append_bytes rfl (.tmp 99) (.tmp 100) rfl w4.heap.size _ (l.take n) rfl HO5.out a2 len2 cap2 r rfl (HA2.out.below HB5.out) _ (add_len HLT.out) (by omega) HL5.out ?_; intro A6 c6 w6 hown hgr _; have HO6 := Lib.hid hown; have HB6 := Lib.hid (HB5.out.grown hgr HB5.out.size (fun k hk => Nat.le_trans HB4.out.size (HO5.out.lt k hk).1)); clear hown hgr HO5))
                refine (CB3.out _ _ _ _ HO6.out.arg).mono ?_
                rintro e w7 ⟨rfl, hb⟩
                rw [HF.out]
                have HB7 := Lib.hid (HB6.out.trans (hb.mono HB6.out.size))
                have g4 : ((n : Int) == (n : Int)) = true := by simp
                clear hb HO6
                go_wp2_with fail
                go_ret
                exact ⟨rfl, HB7.out⟩
end Go.Proofs.Ytgdchcaglkeghaa
