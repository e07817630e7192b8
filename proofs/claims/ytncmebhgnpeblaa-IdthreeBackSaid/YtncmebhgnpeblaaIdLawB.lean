/- IdthreeBody, IdthreeBack: the walks of the laws. -/
import Derived.Test.YtncmebhgnpeblaaIdLawA
import Derived.Test.YtncmebhgnpeblaaIdLaws
namespace Go.Proofs.Ytncmebhgnpeblaa
open Go.RowKit
attribute [local go_sem ↓] Go.wp_at_zero Go.wp_at_succ

/-- A byte of a new row is stored. -/
theorem FRow.stored {w : World} {base n k g : Nat} {l : List UInt8} (h : FRow w base (some ⟨g, 0, none⟩) n k l) (j : Nat) (hj : j < n) (z : UInt8) :
    BArg (w.setCell ⟨g, j, none⟩ (.int .u8 (z.toNat : Int))) (some ⟨g, 0, none⟩) n k (l.set j z) := by
  obtain ⟨ha, g', he, hg1, hg2, hc, hf⟩ := h
  obtain rfl : g = g' := by injection he with he; injection he
  have hs : (w.setCell ⟨g, j, none⟩ (.int .u8 (z.toNat : Int))).heap.size = w.heap.size := by simp
  refine ⟨by rw [List.length_set]; exact ha.len_eq, ha.le, ha.small, ⟨by rw [vb_length, List.length_set]; exact ha.len_eq, fun _ => ⟨⟨g, 0, none⟩, rfl, rfl, by rw [hs]; exact hg2, fun i u hu => ?_⟩⟩, fun h => by cases h⟩
  rw [vb_get] at hu
  have hi : i < n := by
    by_cases hx : i < n
    · exact hx
    · rw [List.getElem?_eq_none (by rw [List.length_set, ha.len_eq]; omega)] at hu; cases hu
  rw [show (⟨g, 0, none⟩ : Addr).add i = ⟨g, i, none⟩ by cases i <;> simp [Addr.add]]
  have hl := ha.len_eq
  by_cases hij : j = i
  · subst hij
    rw [List.getElem?_set_self (by omega)] at hu
    injection hu with hu
    subst hu
    exact World.cell?_setCell_same' _ _ _ (by rw [hc j hj]; rfl)
  · rw [List.getElem?_set_ne hij, List.getElem?_eq_getElem (by omega)] at hu
    injection hu with hu
    subst hu
    rw [World.cell?_setCell_other (h := fun e => hij (by injection e)), hc i hi]
    simp [List.getD, List.getElem?_eq_getElem (show i < l.length by omega)]

set_option maxRecDepth 100000 in
set_option maxHeartbeats 4000000 in
theorem idbody_calls (w : World) (a : Option Addr) (len cap : Nat) (l : List UInt8) (ha : BArg w a len cap l) (a2 : Option Addr) (len2 cap2 : Nat) (l2 : List UInt8) (ha2 : BArg w a2 len2 cap2 l2) (f : Bool) (v : Int) (hv : (Lit.int .u8 v).wf = true) :
    Calls Try.prog 8 #[.slice a len cap, .slice a2 len2 cap2, .bool f, .int .u8 v] w fun e w' => e = .returned (.bool true) ∧ Below w.heap.size w w' := by
  obtain ⟨v, rfl, hv8⟩ := u8w hv
  have HA := Lib.hid ha
  have HA2 := Lib.hid ha2
  have hs9 : len ≤ 9223372036854775807 := Nat.le_trans ha.le ha.small
  have CL := Lib.hid (longI_any a len cap hs9)
  have HLL := Lib.hid ha.len_eq
  have HLL2 := Lib.hid ha2.len_eq
  clear ha ha2 hv
  cases hl : longI len with
  | true =>
    rw [hl] at CL
    clear hl
    go_enter Try.func8, Try.ntmps8
    go_wp2_with fail
    refine (alive28_any _).mono ?_
    rintro e w1 ⟨rfl, hb⟩
    have HB1 := Lib.hid hb
    clear hb
    go_wp2_with fail
    refine (CL.out _).mono ?_
    rintro e w2 ⟨rfl, rfl⟩
    go_wp2_with fail
    go_ret
    exact ⟨rfl, HB1.out⟩
  | false =>
    have h50 := longI_le len hl
    rw [hl] at CL
    clear hl
    by_cases hne : len = len2
    case neg =>
      have b1 : ((len : Int) != (len2 : Int)) = true := by simp; omega
      have b2 : (len != len2) = true := by simp; omega
      clear hne
      go_enter Try.func8, Try.ntmps8
      go_wp2_with fail
      refine (alive28_any _).mono ?_
      rintro e w1 ⟨rfl, hb⟩
      have HB1 := Lib.hid hb
      clear hb
      go_wp2_with fail
      refine (CL.out _).mono ?_
      rintro e w2 ⟨rfl, rfl⟩
      go_wp2_with fail
      go_ret
      exact ⟨rfl, HB1.out⟩
    case pos =>
      subst hne
      have b1 : ((len : Int) != (len : Int)) = false := by simp
      have hE : idE len f = 0 ∨ idE len f = 4 := by unfold idE; split; exact .inr rfl; exact .inl rfl
      go_enter Try.func8, Try.ntmps8
      go_wp2_with fail
      refine (alive28_any _).mono ?_
      rintro e w1 ⟨rfl, hb⟩
      have HB1 := Lib.hid hb
      clear hb
      go_wp2_with fail
      refine (CL.out _).mono ?_
      rintro e w2 ⟨rfl, rfl⟩
      go_wp2_with fail
      refine (idwrite_any a len cap l f _ (HA.out.below HB1.out) h50).mono ?_
      rintro e w2 ⟨A2, n2, k2, rfl, hb, _, h2⟩
      have HB2 := Lib.hid (HB1.out.trans (hb.mono HB1.out.size))
      have HB12 := Lib.hid HB1.out.size
      have H2 := Lib.hid h2
      clear hb h2
      go_wp2_with fail
      refine (idwrite_any a2 len cap2 l2 f _ (HA2.out.below HB2.out) h50).mono ?_
      rintro e w3 ⟨A3, n3, k3, rfl, hb, _, h3⟩
      have HB3 := Lib.hid (HB2.out.trans (hb.mono HB2.out.size))
      have HB23 := Lib.hid hb
      have H3 := Lib.hid h3
      clear hb h3
      rcases hE with hE | hE
      · obtain ⟨rfl, hr2⟩ := H2.out hE
        obtain ⟨rfl, hr3⟩ := H3.out hE
        have h4000 : idN len f ≤ 4000 := by unfold idE at hE; split at hE <;> omega
        have h10 : 10 ≤ idN len f := by unfold idN; split <;> omega
        have S2 := Lib.hid (siz_tag0 l f (by rw [HLL.out]; exact h4000))
        have S3 := Lib.hid (siz_tag0 l2 f (by rw [HLL2.out]; exact h4000))
        rw [HLL.out] at S2
        rw [HLL2.out] at S3
        have SV : Hid (f = false → ∀ z : UInt8, 2 ≤ z.toNat → z.toNat ≤ 4 → sizP ((idTag l f).set 3 z) = ((idN len f : Int), 0)) := Lib.hid (fun hf z h2 h4 => by
          subst hf
          have := siz_ver l z (by rw [HLL.out]; exact h4000) h2 h4
          rwa [HLL.out] at this)
        have r2 : FRow w3 w1.heap.size A2 (idN len f) k2 (idTag l f) := by
          obtain ⟨x1, g, x2, x3, x4, x5, x6⟩ := hr2
          exact ⟨x1.below HB23.out, g, x2, x3, Nat.lt_of_lt_of_le x4 HB23.out.size, fun i hi => (HB23.out.cell (p := ⟨g, i, none⟩) x4).trans (x5 i hi), fun i hi => (HB23.out.frozen (p := ⟨g, i, none⟩) x4).trans (x6 i hi)⟩
        have HR2 := Lib.hid r2
        have HR3 := Lib.hid hr3.1
        rw [hE]
        clear hE hr2 hr3 r2 H2 H3
        generalize idTag l f = T2 at *
        generalize idTag l2 f = T3 at *
        generalize idN len f = N at *
        go_wp2_with fail
        refine (idsize_any _ _ _ _ _ HR2.out.1).mono ?_
        rintro e w4 ⟨rfl, hb⟩
        rw [S2.out]
        have HB4 := Lib.hid (HB3.out.trans (hb.mono HB3.out.size))
        have HB34 := Lib.hid hb
        clear hb
        go_wp2_with fail
        refine (idsize_any _ _ _ _ _ (HR3.out.below HB34.out)).mono ?_
        rintro e w5 ⟨rfl, hb⟩
        rw [S3.out]
        have HB5 := Lib.hid (HB4.out.trans (hb.mono HB4.out.size))
        have HB35 := Lib.hid (HB34.out.trans (hb.mono HB34.out.size))
        clear hb
        have g1 : ((N : Int) != (N : Int)) = false := by simp
        have g2 : ((N : Int) == (N : Int)) = true := by simp
        cases f with
        | true =>
          go_wp2_with fail
          go_ret
          exact ⟨rfl, HB5.out⟩
        | false =>
          by_cases hv2 : v < 2
          · have c1 : decide ((v : Int) < 2) = true := by simp; omega
            go_wp2_with fail
            go_ret
            exact ⟨rfl, HB5.out⟩
          by_cases hv4 : 4 < v
          · have c1 : decide ((v : Int) < 2) = false := by simp; omega
            have c2 : decide (4 < (v : Int)) = true := by simp; omega
            clear hv2 hv4
            go_wp2_with fail
            go_ret
            exact ⟨rfl, HB5.out⟩
          have c1 : decide ((v : Int) < 2) = false := by simp; omega
          have c2 : decide (4 < (v : Int)) = false := by simp; omega
          obtain ⟨z, hz⟩ : ∃ z : UInt8, z.toNat = v := ⟨UInt8.ofNat v, by rw [UInt8.toNat_ofNat']; omega⟩
          subst hz
          have r5 : FRow w5 w1.heap.size A2 N k2 T2 := by
            obtain ⟨x1, g, x2, x3, x4, x5, x6⟩ := HR2.out
            exact ⟨x1.below HB35.out, g, x2, x3, Nat.lt_of_lt_of_le x4 HB35.out.size, fun i hi => (HB35.out.cell (p := ⟨g, i, none⟩) x4).trans (x5 i hi), fun i hi => (HB35.out.frozen (p := ⟨g, i, none⟩) x4).trans (x6 i hi)⟩
          obtain ⟨g, hg, hgb, hgs, hgc, hgf⟩ := r5.2
          subst hg
          have HS := Lib.hid (r5.stored 3 (by omega) z)
          have cc := hgc 3 (by omega)
          have cf := hgf 3 (by omega)
          have SVz := Lib.hid (SV.out rfl z (by omega) (by omega))
          have HBs := Lib.hid (HB5.out.setCell (p := ⟨g, 3, none⟩) (Nat.le_trans HB12.out hgb) (.int .u8 (z.toNat : Int)))
          have k3 : (3 : Int) < (N : Int) := by omega
          clear r5 hgc hgf hv2 hv4 SV HR2 HR3
          go_wp2_with fail
          refine (idsize_any _ _ _ _ _ HS.out).mono ?_
          rintro e w6 ⟨rfl, hb⟩
          rw [SVz.out]
          have HB6 := Lib.hid (HBs.out.trans (hb.mono HBs.out.size))
          clear hb cc cf
          go_wp2_with fail
          go_ret
          exact ⟨rfl, HB6.out⟩
      · rw [hE]
        clear hE H2 H3
        go_wp2_with fail
        go_ret
        exact ⟨rfl, HB3.out⟩
end Go.Proofs.Ytncmebhgnpeblaa
