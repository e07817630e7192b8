/- IdthreeBack: the walk of the law. -/
import Derived.Test.YtncmebhgnpeblaaIdLawB
namespace Go.Proofs.Ytncmebhgnpeblaa
open Go.RowKit
attribute [local go_sem ↓] Go.wp_at_zero Go.wp_at_succ

theorem add_len {a b : Nat} (h : a = b) {c : Nat} : a + c = b + c := by rw [h]

set_option maxRecDepth 100000 in
set_option maxHeartbeats 4000000 in
theorem idback_calls (w : World) (a : Option Addr) (len cap : Nat) (l : List UInt8) (ha : BArg w a len cap l) (a2 : Option Addr) (len2 cap2 : Nat) (l2 : List UInt8) (ha2 : BArg w a2 len2 cap2 l2) (f : Bool) (p : Int) (hp : (Lit.int .i64 p).wf = true) :
    Calls Try.prog 6 #[.slice a len cap, .slice a2 len2 cap2, .bool f, .int .i64 p] w fun e w' => e = .returned (.bool true) ∧ Below w.heap.size w w' := by
  obtain ⟨p1, p2⟩ := i64w hp
  have HA := Lib.hid ha
  have HA2 := Lib.hid ha2
  have hs9 : len ≤ 9223372036854775807 := Nat.le_trans ha.le ha.small
  have hs8 : len2 ≤ 9223372036854775807 := Nat.le_trans ha2.le ha2.small
  have CL := Lib.hid (longI_any a len cap hs9)
  have CL2 := Lib.hid (longI_any a2 len2 cap2 hs8)
  have HLL := Lib.hid ha.len_eq
  clear ha ha2 hp
  cases hl : longI len with
  | true =>
    rw [hl] at CL
    clear hl
    go_enter Try.func6, Try.ntmps6
    go_wp2_with fail
    refine (alive28_any _).mono ?_
    rintro e w1 ⟨rfl, hb⟩
    have HB1 := Lib.hid hb
    clear hb
    go_wp2_with fail
    refine (CL.out _).mono ?_
    rintro e w2 ⟨rfl, rfl⟩
    go_wp2_with fail
    go_ret
    exact ⟨rfl, HB1.out⟩
  | false =>
    have h50 := longI_le len hl
    rw [hl] at CL
    clear hl
    cases hl2 : longI len2 with
    | true =>
      rw [hl2] at CL2
      clear hl2
      go_enter Try.func6, Try.ntmps6
      go_wp2_with fail
      refine (alive28_any _).mono ?_
      rintro e w1 ⟨rfl, hb⟩
      have HB1 := Lib.hid hb
      clear hb
      go_wp2_with fail
      refine (CL.out _).mono ?_
      rintro e w2 ⟨rfl, rfl⟩
      go_wp2_with fail
      refine (CL2.out _).mono ?_
      rintro e w2 ⟨rfl, rfl⟩
      go_wp2_with fail
      go_ret
      exact ⟨rfl, HB1.out⟩
    | false =>
      have h52 := longI_le len2 hl2
      rw [hl2] at CL2
      clear hl2
      have hNv : (f = false ∧ idN len f = len + 10) ∨ (f = true ∧ idN len f = len + 20) := by
        cases f
        · exact .inl ⟨rfl, rfl⟩
        · exact .inr ⟨rfl, rfl⟩
      have hE : (idE len f = 0 ∧ idN len f ≤ 4000) ∨ (idE len f = 4 ∧ 4000 < idN len f) := by
        unfold idE
        split
        · exact .inr ⟨rfl, by assumption⟩
        · exact .inl ⟨rfl, by omega⟩
      have HST := Lib.hid (fun h => siz_tag l l2 f (by rw [HLL.out]; exact h))
      have HSC := Lib.hid (fun h => siz_cut l f (by rw [HLL.out]; exact h))
      have HTL := Lib.hid (idTag_length l f)
      rw [HLL.out] at HST HSC HTL
      have C3 := Lib.hid (idwrite_any a len cap l f)
      generalize idTag l f = T at *
      rcases hNv with ⟨rfl, hN⟩ | ⟨rfl, hN⟩
      all_goals
        rw [hN] at hE HST HSC HTL
        go_enter Try.func6, Try.ntmps6
        go_wp2_with fail
        refine (alive28_any _).mono ?_
        rintro e w1 ⟨rfl, hb⟩
        have HB1 := Lib.hid hb
        clear hb
        go_wp2_with fail
        refine (CL.out _).mono ?_
        rintro e w2 ⟨rfl, rfl⟩
        go_wp2_with fail
        refine (CL2.out _).mono ?_
        rintro e w2 ⟨rfl, rfl⟩
        go_wp2_with fail
        refine (C3.out _ (HA.out.below HB1.out) h50).mono ?_
        rintro e w2 ⟨A2, n2, k2, rfl, hb, h2a, h2⟩
        have HB2 := Lib.hid (HB1.out.trans (hb.mono HB1.out.size))
        have HB12 := Lib.hid HB1.out.size
        have H2 := Lib.hid h2
        have H2a := Lib.hid h2a
        clear hb h2 h2a
        rcases hE with ⟨hE, h4⟩ | ⟨hE, h4⟩
        · obtain ⟨hn2, hr2⟩ := H2.out hE
          rw [hN] at hn2 hr2
          subst hn2
          rw [hE]
          have HS := Lib.hid (HST.out h4)
          have HC := Lib.hid (HSC.out h4)
          have HR := Lib.hid hr2.1
          have HN := Lib.hid hN
          clear hE hr2 H2 H2a HST HSC hN C3
          have hcapk := HR.out.le
          go_wp2_with (first
            | (at_builtin; refine wpList_append_bytes rfl (.tmp 66) (.tmp 67) rfl w2.heap.size (.slice (some ⟨w2.heap.size, 0, none⟩) 0 0) [] rfl (Owns.lit0 _ _ (Nat.le_refl _)) A2 _ k2 T rfl (HR.out.alloc _) _ (Nat.zero_add _) (by omega) (by simp) ?_; intro A3 c3 w3 hown hgr _; rw [List.nil_append] at hown; have HO3 := Lib.hid hown; have HB3 := Lib.hid ((HB2.out.alloc HB2.out.size _).grown hgr (Nat.le_trans HB2.out.size (by simp)) (fun k hk => Nat.le_trans HB2.out.size (Nat.le_of_eq (Option.some.inj hk)))); have HB23 := Lib.hid (((Below.refl _ w2).alloc (Nat.le_refl _) _).grown hgr (by simp) (fun k hk => Nat.le_of_eq (Option.some.inj hk))); have HL3 := Lib.hid (Nat.le_trans (show w2.heap.size ≤ (w2.alloc (.cells #[] 5)).heap.size by simp) hgr.size); clear hown hgr)
            | (at_builtin; refine wpList_append_bytes rfl (.tmp 68) (.tmp 69) rfl w2.heap.size _ T rfl HO3.out a2 len2 cap2 l2 rfl (HA2.out.below HB3.out) _ (add_len HTL.out) (by omega) HL3.out ?_; intro A4 c4 w4 hown hgr _; have HO4 := Lib.hid hown; have HB4 := Lib.hid (HB3.out.grown hgr HB3.out.size (fun k hk => Nat.le_trans HB2.out.size (HO3.out.lt k hk).1)); have HB24 := Lib.hid (HB23.out.grown hgr HB23.out.size (fun k hk => (HO3.out.lt k hk).1)); clear hown hgr HO3 HB23))
          refine (idsize_any _ _ _ _ _ HO4.out.arg).mono ?_
          rintro e w5 ⟨rfl, hb⟩
          rw [HS.out]
          have HB5 := Lib.hid (HB4.out.trans (hb.mono HB4.out.size))
          have HR5 := Lib.hid (HR.out.below (HB24.out.trans (hb.mono HB24.out.size)))
          clear hb HO4 HB24
          by_cases hp0 : p < 0
          · go_wp2_with fail
            go_ret
            exact ⟨rfl, HB5.out⟩
          obtain ⟨q, rfl⟩ := Int.eq_ofNat_of_zero_le (show 0 ≤ p by omega)
          by_cases hq : T.length ≤ q
          · rw [HTL.out] at hq
            have g1 : ¬ ((q : Int) < 0) := by omega
            first
              | (have g2 : (len : Int) + 10 ≤ (q : Int) := by omega
                 go_wp2_with fail
                 go_ret
                 exact ⟨rfl, HB5.out⟩)
              | (have g2 : (len : Int) + 20 ≤ (q : Int) := by omega
                 go_wp2_with fail
                 go_ret
                 exact ⟨rfl, HB5.out⟩)
          · rw [HTL.out] at hq
            have HQ := Lib.hid (HC.out q (by omega))
            have HU := Lib.hid (HR5.out.upto (k := q) (by omega))
            have j1 : q ≤ k2 := by omega
            have g1 : ¬ ((q : Int) < 0) := by omega
            clear HR5
            by_cases h3 : q < 3
            · rw [if_pos h3] at HQ
              have d1 : decide ((q : Int) < 3) = true := by simp; omega
              have d2 : decide ((3 : Int) ≤ (q : Int)) = false := by simp; omega
              clear h3
              go_wp2_with fail
              refine (idsize_any _ _ _ _ _ HU.out).mono ?_
              rintro e w6 ⟨rfl, hb⟩
              rw [HQ.out]
              have HB6 := Lib.hid (HB5.out.trans (hb.mono HB5.out.size))
              clear hb
              go_wp2_with fail
              go_ret
              exact ⟨rfl, HB6.out⟩
            · rw [if_neg h3] at HQ
              have d1 : decide ((q : Int) < 3) = false := by simp; omega
              have d2 : decide ((3 : Int) ≤ (q : Int)) = true := by simp; omega
              clear h3
              go_wp2_with fail
              refine (idsize_any _ _ _ _ _ HU.out).mono ?_
              rintro e w6 ⟨rfl, hb⟩
              rw [HQ.out]
              have HB6 := Lib.hid (HB5.out.trans (hb.mono HB5.out.size))
              clear hb
              go_wp2_with fail
              go_ret
              exact ⟨rfl, HB6.out⟩
        · obtain ⟨rfl, rfl, rfl⟩ := H2a.out hE
          rw [hE]
          clear hE H2 H2a HST HSC hN C3
          go_wp2_with fail
          go_ret
          exact ⟨rfl, HB2.out⟩
end Go.Proofs.Ytncmebhgnpeblaa
