/- StripJoin: the walk of the law. -/
import Derived.Test.YtgdchcaglkeghaaStrAlive
namespace Go.Proofs.Ytgdchcaglkeghaa
open Go.RowKit
attribute [local go_sem ↓] Go.wp_at_zero Go.wp_at_succ

theorem add_len {a b : Nat} (h : a = b) {c : Nat} : a + c = b + c := by rw [h]
theorem bh_le : ∀ (k : Nat) (l : List UInt8) (n : Nat), l.length ≤ k → bh l = some n → n * 32 ≤ l.length := by
  intro k
  induction k with
  | zero =>
    intro l n hk h
    obtain rfl : l = [] := List.length_eq_zero_iff.1 (by omega)
    rw [bh_nil] at h
    injection h with h
    omega
  | succ k ih =>
    intro l n hk h
    by_cases h0 : l.length = 0
    · obtain rfl : l = [] := List.length_eq_zero_iff.1 h0
      rw [bh_nil] at h
      injection h with h
      omega
    · rcases back_cases l with ⟨q, e, h1, h2⟩ | ⟨e, he, _⟩
      · rw [bh_step l q (by rw [e]) h1 h2] at h
        cases hc : bh (l.take (l.length - q)) with
        | none => rw [hc] at h; cases h
        | some c =>
          rw [hc] at h
          have hn : c + 1 = n := by simpa using h
          have := ih (l.take (l.length - q)) c (by simp; omega) hc
          simp at this
          omega
      · rw [bh_none l h0 (by rw [he])] at h
        cases h
theorem bh_forms (l : List UInt8) : (∃ n : Nat, bhP l = ((n : Int), 0) ∧ bh l = some n ∧ n ≤ 4000) ∨ bhP l = (0, 38) := by
  by_cases h : 4000 < l.length
  · exact .inr (bhP_long l h)
  · cases hb : bh l with
    | none => exact .inr (bhP_none l hb)
    | some n =>
      have := bh_le l.length l n (Nat.le_refl _) hb
      exact .inl ⟨n, bhP_some l h n hb, rfl, by omega⟩
theorem frt_small (l : List UInt8) : 0 ≤ (frtP l).1 ∧ (frtP l).1 ≤ 4000 := by
  obtain ⟨h, _⟩ := pts_small l
  have := h (ptsL l).length
  rw [List.take_of_length_le (Nat.le_refl _)] at this
  exact this
theorem longS_le (n : Nat) (h : longS n = false) : n ≤ 8100 := by
  unfold longS at h
  simp only [Bool.or_eq_false_iff, Bool.and_eq_false_iff, decide_eq_false_iff_not] at h
  omega

set_option maxRecDepth 100000 in
set_option maxHeartbeats 8000000 in
theorem stripjoin_calls (w : World) (a : Option Addr) (len cap : Nat) (l : List UInt8) (ha : BArg w a len cap l) (a2 : Option Addr) (len2 cap2 : Nat) (r : List UInt8) (ha2 : BArg w a2 len2 cap2 r) :
    Calls Try.prog 3 #[.slice a len cap, .slice a2 len2 cap2] w fun e w' => e = .returned (.bool true) ∧ Below w.heap.size w w' := by
  have HA := Lib.hid ha
  have HA2 := Lib.hid ha2
  have hs9 : len ≤ 9223372036854775807 := Nat.le_trans ha.le ha.small
  have hs8 : len2 ≤ 9223372036854775807 := Nat.le_trans ha2.le ha2.small
  have CL := Lib.hid (longS_any a len cap hs9)
  have CL2 := Lib.hid (longS_any a2 len2 cap2 hs8)
  have HLL := Lib.hid ha.len_eq
  have HLR := Lib.hid ha2.len_eq
  clear ha ha2
  cases hl : longS len with
  | true =>
    rw [hl] at CL
    clear hl
    go_enter Try.func3, Try.ntmps3
    go_wp2_with fail
    refine (alive30_any _).mono ?_
    rintro e w1 ⟨rfl, hb⟩
    have HB1 := Lib.hid hb
    clear hb
    go_wp2_with fail
    refine (CL.out _).mono ?_
    rintro e w2 ⟨rfl, rfl⟩
    go_wp2_with fail
    go_ret
    exact ⟨rfl, HB1.out⟩
  | false =>
    have h81 := longS_le len hl
    rw [hl] at CL
    clear hl
    cases hl2 : longS len2 with
    | true =>
      rw [hl2] at CL2
      clear hl2
      go_enter Try.func3, Try.ntmps3
      go_wp2_with fail
      refine (alive30_any _).mono ?_
      rintro e w1 ⟨rfl, hb⟩
      have HB1 := Lib.hid hb
      clear hb
      go_wp2_with fail
      refine (CL.out _).mono ?_
      rintro e w2 ⟨rfl, rfl⟩
      go_wp2_with fail
      refine (CL2.out _).mono ?_
      rintro e w2 ⟨rfl, rfl⟩
      go_wp2_with fail
      go_ret
      exact ⟨rfl, HB1.out⟩
    | false =>
      have h82 := longS_le len2 hl2
      rw [hl2] at CL2
      clear hl2
      have CB1 := Lib.hid (behind_any a len cap l)
      have CB2 := Lib.hid (behind_any a2 len2 cap2 r)
      have CB3 := Lib.hid (fun A n c => behind_any A n c (l ++ r))
      have CF1 := Lib.hid (sfront_any a len cap l)
      have CF2 := Lib.hid (sfront_any a2 len2 cap2 r)
      have CF3 := Lib.hid (fun A n c => sfront_any A n c (l ++ r))
      have FJ := Lib.hid (fun h1 h2 h3 => frt_join l r h1 h2 h3)
      have HE1 : Hid ((frtP l).2 = ptsE l) := Lib.hid rfl
      have HE2 : Hid ((frtP r).2 = ptsE r) := Lib.hid rfl
      rw [HE1.out] at CF1
      rw [HE2.out] at CF2
      rw [HLL.out] at FJ
      obtain ⟨x1, x2⟩ := frt_small l
      obtain ⟨y1, y2⟩ := frt_small r
      have h3 : (bhP (l ++ r) = (0, 38) ∧ 4000 < len + len2) ∨ ((∀ n m : Nat, bhP l = ((n : Int), 0) → bhP r = ((m : Int), 0) → bhP (l ++ r) = ((n : Int) + (m : Int), 0)) ∧ len + len2 ≤ 4000) := by
        have hlr : (l ++ r).length = len + len2 := by rw [List.length_append, HLL.out, HLR.out]
        by_cases h4 : 4000 < len + len2
        · exact .inl ⟨bhP_long _ (by rw [hlr]; exact h4), h4⟩
        · refine .inr ⟨fun n m h1 h2 => ?_, by omega⟩
          have e1 : bh l = some n := by
            rcases bh_forms l with ⟨n', e, e', _⟩ | e
            · rw [e] at h1; injection h1 with h1 _; rw [e']; congr 1; omega
            · rw [e] at h1; injection h1 with _ h1; exact absurd h1 (by decide)
          have e2 : bh r = some m := by
            rcases bh_forms r with ⟨n', e, e', _⟩ | e
            · rw [e] at h2; injection h2 with h2 _; rw [e']; congr 1; omega
            · rw [e] at h2; injection h2 with _ h2; exact absurd h2 (by decide)
          rw [bhP_some _ (by rw [hlr]; exact h4) (n + m) (bh_append l n e1 r.length r m (Nat.le_refl _) e2)]
          simp
      have bl : (∃ n : Nat, bhP l = ((n : Int), 0) ∧ n ≤ 4000) ∨ bhP l = (0, 38) := by
        rcases bh_forms l with ⟨n, e, _, h⟩ | e
        · exact .inl ⟨n, e, h⟩
        · exact .inr e
      have br : (∃ n : Nat, bhP r = ((n : Int), 0) ∧ n ≤ 4000) ∨ bhP r = (0, 38) := by
        rcases bh_forms r with ⟨n, e, _, h⟩ | e
        · exact .inl ⟨n, e, h⟩
        · exact .inr e
      generalize (frtP l).1 = X at *
      generalize (frtP r).1 = Y at *
      generalize ptsE l = E1 at *
      generalize ptsE r = E2 at *
      generalize (frtP (l ++ r)) = F3 at *
      generalize bhP l = P1 at *
      generalize bhP r = P2 at *
      generalize bhP (l ++ r) = P3 at *
      clear HE1 HE2
      have main : ∀ (q1 q2 q3 : Int × Int), P1 = q1 → P2 = q2 → P3 = q3 → ((q1.2 = 0 ∧ q2.2 = 0 ∧ len + len2 ≤ 4000 ∧ q3.2 = 0 ∧ q3.1 = q1.1 + q2.1 ∧ 0 ≤ q1.1 ∧ q1.1 ≤ 4000 ∧ 0 ≤ q2.1 ∧ q2.1 ≤ 4000) ∨ (q1.2 = 0 ∧ q2.2 = 0 ∧ 4000 < len + len2 ∧ q3.2 = 38) ∨ (q1.2 = 0 ∧ q2.2 = 38) ∨ q1.2 = 38) →
          Calls Try.prog 3 #[.slice a len cap, .slice a2 len2 cap2] w fun e w' => e = .returned (.bool true) ∧ Below w.heap.size w w' := by
        rintro ⟨u1, v1⟩ ⟨u2, v2⟩ ⟨u3, v3⟩ rfl rfl rfl hq
        clear bl br h3
        dsimp only at hq CB1 CB2 CB3
        rcases hq with ⟨rfl, rfl, hlen, rfl, rfl, k1, k2, k3, k4⟩ | ⟨rfl, rfl, hlen, rfl⟩ | ⟨rfl, rfl⟩ | rfl
        all_goals
          go_enter Try.func3, Try.ntmps3
          go_wp2_with fail
          refine (alive30_any _).mono ?_
          rintro e w1 ⟨rfl, hb⟩
          have HB1 := Lib.hid hb
          clear hb
          go_wp2_with fail
          refine (CL.out _).mono ?_
          rintro e w2 ⟨rfl, rfl⟩
          go_wp2_with fail
          refine (CL2.out _).mono ?_
          rintro e w2 ⟨rfl, rfl⟩
          have HA1 := Lib.hid (HA.out.below HB1.out)
          go_wp2_with (first
            | (at_builtin; refine wpList_append_bytes rfl (.tmp 28) (.tmp 29) rfl w1.heap.size (.slice (some ⟨w1.heap.size, 0, none⟩) 0 0) [] rfl (Owns.lit0 _ _ (Nat.le_refl _)) a len cap l rfl (HA1.out.alloc _) _ (Nat.zero_add _) (by omega) (by simp) ?_; intro A3 c3 w3 hown hgr _; rw [List.nil_append] at hown; have HO3 := Lib.hid hown; have HB3 := Lib.hid ((HB1.out.alloc HB1.out.size _).grown hgr (Nat.le_trans HB1.out.size (by simp)) (fun k hk => Nat.le_trans HB1.out.size (Nat.le_of_eq (Option.some.inj hk)))); have HL3 := Lib.hid (Nat.le_trans (show w1.heap.size ≤ (w1.alloc (.cells #[] 5)).heap.size by simp) hgr.size); clear hown hgr)
            | (at_builtin; refine wpList_append_bytes rfl (.tmp 30) (.tmp 31) rfl w1.heap.size _ l rfl HO3.out a2 len2 cap2 r rfl (HA2.out.below HB3.out) _ (add_len HLL.out) (by omega) HL3.out ?_; intro A4 c4 w4 hown hgr _; have HO4 := Lib.hid hown; have HB4 := Lib.hid (HB3.out.grown hgr HB3.out.size (fun k hk => Nat.le_trans HB1.out.size (HO3.out.lt k hk).1)); clear hown hgr HO3))
          refine (CB1.out _ (HA.out.below HB4.out)).mono ?_
          rintro e w5 ⟨rfl, hb⟩
          have HB5 := Lib.hid (HB4.out.trans (hb.mono HB4.out.size))
          have HO5 := Lib.hid (HO4.out.below hb)
          clear hb HO4
          go_wp2_with fail
          refine (CB2.out _ (HA2.out.below HB5.out)).mono ?_
          rintro e w6 ⟨rfl, hb⟩
          have HB6 := Lib.hid (HB5.out.trans (hb.mono HB5.out.size))
          have HO6 := Lib.hid (HO5.out.below hb)
          clear hb HO5
          go_wp2_with fail
          refine (CB3.out _ _ _ _ HO6.out.arg).mono ?_
          rintro e w7 ⟨rfl, hb⟩
          have HB7 := Lib.hid (HB6.out.trans (hb.mono HB6.out.size))
          have HO7 := Lib.hid (HO6.out.below hb)
          clear hb HO6
          go_wp2_with fail
          refine (CF1.out _ (HA.out.below HB7.out)).mono ?_
          rintro e w8 ⟨rfl, hb⟩
          have HB8 := Lib.hid (HB7.out.trans (hb.mono HB7.out.size))
          have HO8 := Lib.hid (HO7.out.below hb)
          clear hb HO7
          go_wp2_with fail
          refine (CF2.out _ (HA2.out.below HB8.out)).mono ?_
          rintro e w9 ⟨rfl, hb⟩
          have HB9 := Lib.hid (HB8.out.trans (hb.mono HB8.out.size))
          have HO9 := Lib.hid (HO8.out.below hb)
          clear hb HO8
          go_wp2_with fail
          refine (CF3.out _ _ _ _ HO9.out.arg).mono ?_
          rintro e w10 ⟨rfl, hb⟩
          have HB10 := Lib.hid (HB9.out.trans (hb.mono HB9.out.size))
          clear hb HO9
          by_cases e1 : E1 = 0
          case neg =>
            have g1 : (E1 != 0) = true := by simpa using e1
            clear e1
            go_wp2_with fail
            go_ret
            exact ⟨rfl, HB10.out⟩
          subst e1
          by_cases e2 : E2 = 0
          case neg =>
            have g1 : (E2 != 0) = true := by simpa using e2
            clear e2
            go_wp2_with fail
            go_ret
            exact ⟨rfl, HB10.out⟩
          subst e2
          by_cases e3 : X = (len : Int)
          case neg =>
            have g1 : (X != (len : Int)) = true := by simpa using e3
            clear e3
            go_wp2_with fail
            go_ret
            exact ⟨rfl, HB10.out⟩
          have HJ := Lib.hid (FJ.out rfl rfl e3)
          have g3 : (X != (len : Int)) = false := by simpa using e3
          clear e3
          by_cases e4 : 4000 < X + Y
          · have HJ4 := Lib.hid (HJ.out.2 e4)
            rw [HJ4.out]
            go_wp2_with fail
            go_ret
            exact ⟨rfl, HB10.out⟩
          · have HJ4 := Lib.hid (HJ.out.1 (by omega))
            rw [HJ4.out]
            have g4 : (X + Y == X + Y) = true := by simp
            go_wp2_with fail
            go_ret
            exact ⟨rfl, HB10.out⟩
      rcases bl with ⟨n, hn, hn4⟩ | hn
      · rcases br with ⟨m, hm, hm4⟩ | hm
        · rcases h3 with ⟨h3, h4⟩ | ⟨h3, h4⟩
          · exact main _ _ _ hn hm h3 (.inr (.inl ⟨rfl, rfl, h4, rfl⟩))
          · exact main _ _ _ hn hm (h3 n m hn hm) (.inl ⟨rfl, rfl, h4, rfl, rfl, by simp, by show (n : Int) ≤ 4000; omega, by simp, by show (m : Int) ≤ 4000; omega⟩)
        · exact main _ _ _ hn hm rfl (.inr (.inr (.inl ⟨rfl, rfl⟩)))
      · exact main _ _ _ hn rfl rfl (.inr (.inr (.inr rfl)))
end Go.Proofs.Ytgdchcaglkeghaa
