/- ApeBack: the walk. -/
import Derived.Test.YtgdchcaglkeghaaApeLaws
import Derived.Test.YtgdchcaglkeghaaApeWritesL
import Derived.Test.YtgdchcaglkeghaaApeAlive
import Derived.Test.YtgdchcaglkeghaaAppW
namespace Go.Proofs.Ytgdchcaglkeghaa
open Go.RowKit

set_option maxRecDepth 100000 in
set_option maxHeartbeats 4000000 in
theorem apeback_calls (w : World) (a : Option Addr) (len cap : Nat) (l : List UInt8) (c : Int) (h : Bool) (ha : BArg w a len cap l) (_hc : (Lit.int .i64 c).wf = true) (b : Option Addr) (len2 cap2 : Nat) (r : List UInt8) (hb : BArg w b len2 cap2 r) :
    Calls Try.prog 9 #[.agg #[.slice a len cap, .int .i64 c, .bool h], .slice b len2 cap2] w fun e w' => e = .returned (.bool true) ∧ Below w.heap.size w w' := by
  obtain ⟨w1, hw1, d1, d2, d3, hB, hz⟩ := box3 w (.slice a len cap) (.int .i64 c) (.bool h) 30
  have HW := Lib.hid hw1
  have HB := Lib.hid hB
  have HA := Lib.hid (ha.below hB)
  have HR := Lib.hid (hb.below hB)
  have hs9 : len ≤ 9223372036854775807 := Nat.le_trans ha.le ha.small
  have hs8 : len2 ≤ 9223372036854775807 := Nat.le_trans hb.le hb.small
  have CL := Lib.hid (longa_any a len cap hs9)
  have CL2 := Lib.hid (longa_any b len2 cap2 hs8)
  have HLL := Lib.hid ha.len_eq
  have HLR := Lib.hid hb.len_eq
  clear hw1 hB ha hb _hc
  cases hl : longA len with
  | true =>
    rw [hl] at CL
    clear hl
    go_enter Try.func9, Try.ntmps9
    go_wp2_with fail
    rw [← HW.out]
    refine (alive29_any _).mono ?_
    rintro e w2 ⟨rfl, hb2⟩
    have HB2 := Lib.hid hb2
    clear hb2
    have e1 := (HB2.out.cell (p := ⟨w.heap.size, 0, none⟩) hz).trans d1
    go_wp2_with fail
    refine (CL.out _).mono ?_
    rintro e w3 ⟨rfl, rfl⟩
    go_wp2_with fail
    go_ret
    exact ⟨rfl, HB.out.trans (HB2.out.mono HB.out.size)⟩
  | false =>
    rw [hl] at CL
    clear hl
    cases hl2 : longA len2 with
    | true =>
      rw [hl2] at CL2
      clear hl2
      go_enter Try.func9, Try.ntmps9
      go_wp2_with fail
      rw [← HW.out]
      refine (alive29_any _).mono ?_
      rintro e w2 ⟨rfl, hb2⟩
      have HB2 := Lib.hid hb2
      clear hb2
      have e1 := (HB2.out.cell (p := ⟨w.heap.size, 0, none⟩) hz).trans d1
      go_wp2_with fail
      refine (CL.out _).mono ?_
      rintro e w3 ⟨rfl, rfl⟩
      go_wp2_with fail
      refine (CL2.out _).mono ?_
      rintro e w3 ⟨rfl, rfl⟩
      go_wp2_with fail
      go_ret
      exact ⟨rfl, HB.out.trans (HB2.out.mono HB.out.size)⟩
    | false =>
      rw [hl2] at CL2
      have hlen2 : len2 ≤ 3200 := by
        unfold longA at hl2
        simp only [Bool.or_eq_false_iff, decide_eq_false_iff_not] at hl2
        omega
      clear hl2
      go_enter Try.func9, Try.ntmps9
      go_wp2_with fail
      rw [← HW.out]
      refine (alive29_any _).mono ?_
      rintro e w2 ⟨rfl, hb2⟩
      have HB2 := Lib.hid hb2
      clear hb2
      have e1 := (HB2.out.cell (p := ⟨w.heap.size, 0, none⟩) hz).trans d1
      have e2 := (HB2.out.cell (p := ⟨w.heap.size, 1, none⟩) hz).trans d2
      have e3 := (HB2.out.cell (p := ⟨w.heap.size, 2, none⟩) hz).trans d3
      go_wp2_with fail
      refine (CL.out _).mono ?_
      rintro e w3 ⟨rfl, rfl⟩
      go_wp2_with fail
      refine (CL2.out _).mono ?_
      rintro e w3 ⟨rfl, rfl⟩
      go_wp2_with fail
      refine (awrite_any a len cap l c h _ (HA.out.below HB2.out)).mono ?_
      rintro e w3 ⟨A3, k3, rfl, ho, hb3⟩
      have HO3 := Lib.hid ho
      have HB3 := Lib.hid (HB2.out.trans (hb3.mono HB2.out.size))
      clear ho hb3 e1 e2 e3 HB2
      have e1 := (HB3.out.cell (p := ⟨w.heap.size, 0, none⟩) hz).trans d1
      have e2 := (HB3.out.cell (p := ⟨w.heap.size, 1, none⟩) hz).trans d2
      have e3 := (HB3.out.cell (p := ⟨w.heap.size, 2, none⟩) hz).trans d3
      rcases ape_cases len c with ⟨he, _⟩ | ⟨he, h1, h2, h3⟩
      · have HN : awN len c h = 0 := by unfold awN; rw [he]; rfl
        have HE := Lib.hid he
        rw [HN, he]
        rw [HN] at HO3
        clear he HN
        go_wp2_with fail
        refine (acheck_any a len cap c h _).mono ?_
        rintro e w4 ⟨rfl, hb4⟩
        have HB4 := Lib.hid (HB3.out.trans (hb4.mono HB3.out.size))
        rw [HE.out]
        clear hb4
        go_wp2_with fail
        go_ret
        exact ⟨rfl, HB.out.trans (HB4.out.mono HB.out.size)⟩
      · obtain ⟨c, rfl⟩ := Int.eq_ofNat_of_zero_le h2
        have HLa : awL l (c : Int) h = tagL l c h := by unfold awL; rw [HLL.out, he]; rfl
        rw [HLa] at HO3
        rw [he]
        have HE := Lib.hid he
        have back1 := back_tag r l c h (by rw [HLL.out]; exact h1) (by omega)
        have htl := tagL_length l c h
        rw [HLL.out] at htl
        cases h with
        | true =>
          have HN : awN len c true = len + 64 := by unfold awN; rw [he]; rfl
          rw [HN] at HO3 ⊢
          have front1 := front_tag l r c (by rw [HLL.out]; exact h1) (by omega)
          rw [if_pos rfl] at htl
          have BK : bkB (r ++ tagL l c true) ((len : Int) + 64) 0 = true := by
            unfold bkB; rw [back1, htl]; simp
          have FR : frB (tagL l c true ++ r) ((len : Int) + 64) 0 = true := by
            unfold frB; rw [front1, htl]; simp
          generalize tagL l c true = TL at *
          have HBK := Lib.hid BK
          have HFR := Lib.hid FR
          have HTL := Lib.hid htl
          have HTa := Lib.hid HO3.out.arg
          have HRa := Lib.hid (HR.out.below HB3.out)
          have hx : (len : Int) + 32 + 32 = (len : Int) + 64 := by omega
          clear BK htl back1 HLa HN he FR front1
          have hsNa : r.length + (len + 64) = len2 + (len + 64) := by rw [HLR.out]
          have hsSa : len2 + (len + 64) ≤ 140737488355328 := by omega
          have tok : True := trivial
          go_wp2_with (at_builtin; first | (have tk := tok; clear tk; refine wpList_append_bytes_w (by rfl) (.tmp 54) (.tmp 55) rfl w3.heap.size (.slice (some ⟨w3.heap.size, 0, none⟩) 0 0) [] rfl (Owns.lit0 _ _ (Nat.le_refl _)) b len2 cap2 r rfl (HRa.out.alloc _) (len2) (by simp) (by omega) (by simp) ?_; intro A5a k5a w5a hown hgr hat; clear hat; rw [List.nil_append] at hown; have HO5a : Hid (Owns w5a w3.heap.size (.slice A5a (len2) k5a) r) := Lib.hid hown; have HB5a := Lib.hid (below_append ((Below.refl _ _).alloc (Nat.le_refl _) _) (Owns.lit0 w3 _ (Nat.le_refl _)) (Nat.le_refl _) hgr); have HX5a := Lib.hid (HTa.out.below HB5a.out); clear hown hgr tok) | (refine wpList_append_bytes_w (by rfl) (.tmp 56) (.tmp 57) rfl w3.heap.size (.slice A5a (len2) k5a) r rfl HO5a.out A3 (len + 64) k3 TL rfl HX5a.out (len2 + (len + 64)) hsNa hsSa HB5a.out.size ?_; intro A6a k6a w6a hown hgr hat; clear hat; have HO6a : Hid (Owns w6a w3.heap.size (.slice A6a (len2 + (len + 64)) k6a) (r ++ TL)) := Lib.hid hown; have HB6a := Lib.hid (below_append HB5a.out HO5a.out (Nat.le_refl _) hgr); clear hown hgr))
          refine (lback_any _ _ _ (r ++ TL) _ _ _ HO6a.out.arg).mono ?_
          rintro e w7 ⟨rfl, hb7⟩
          rw [HBK.out]
          have HB7 := Lib.hid (HB3.out.trans ((HB6a.out.trans (hb7.mono HB6a.out.size)).mono HB3.out.size))
          have HX7 := Lib.hid (HB6a.out.trans (hb7.mono HB6a.out.size))
          clear hb7 e1 e2 e3
          have e1 := (HB7.out.cell (p := ⟨w.heap.size, 0, none⟩) hz).trans d1
          have e2 := (HB7.out.cell (p := ⟨w.heap.size, 1, none⟩) hz).trans d2
          have e3 := (HB7.out.cell (p := ⟨w.heap.size, 2, none⟩) hz).trans d3
          have HTb := Lib.hid (HTa.out.below HX7.out)
          have HRb := Lib.hid (HRa.out.below HX7.out)
          have hsNb : TL.length + (len2) = len + 64 + (len2) := by rw [HTL.out]
          have hsSb : len + 64 + (len2) ≤ 140737488355328 := by omega
          have tok : True := trivial
          go_wp2_with (at_builtin; first | (have tk := tok; clear tk; refine wpList_append_bytes_w (by rfl) (.tmp 69) (.tmp 70) rfl w7.heap.size (.slice (some ⟨w7.heap.size, 0, none⟩) 0 0) [] rfl (Owns.lit0 _ _ (Nat.le_refl _)) A3 (len + 64) k3 TL rfl (HTb.out.alloc _) (len + 64) (by simp) (by omega) (by simp) ?_; intro A5b k5b w5b hown hgr hat; clear hat; rw [List.nil_append] at hown; have HO5b : Hid (Owns w5b w7.heap.size (.slice A5b (len + 64) k5b) TL) := Lib.hid hown; have HB5b := Lib.hid (below_append ((Below.refl _ _).alloc (Nat.le_refl _) _) (Owns.lit0 w7 _ (Nat.le_refl _)) (Nat.le_refl _) hgr); have HX5b := Lib.hid (HRb.out.below HB5b.out); clear hown hgr tok) | (refine wpList_append_bytes_w (by rfl) (.tmp 71) (.tmp 72) rfl w7.heap.size (.slice A5b (len + 64) k5b) TL rfl HO5b.out b len2 cap2 r rfl HX5b.out (len + 64 + (len2)) hsNb hsSb HB5b.out.size ?_; intro A6b k6b w6b hown hgr hat; clear hat; have HO6b : Hid (Owns w6b w7.heap.size (.slice A6b (len + 64 + (len2)) k6b) (TL ++ r)) := Lib.hid hown; have HB6b := Lib.hid (below_append HB5b.out HO5b.out (Nat.le_refl _) hgr); clear hown hgr))
          refine (lfront_any _ _ _ (TL ++ r) _ _ _ HO6b.out.arg).mono ?_
          rintro e w8 ⟨rfl, hb8⟩
          rw [HFR.out]
          have HB8 := Lib.hid (HB7.out.trans ((HB6b.out.trans (hb8.mono HB6b.out.size)).mono HB7.out.size))
          clear hb8
          go_wp2_with fail
          go_ret
          exact ⟨rfl, HB.out.trans (HB8.out.mono HB.out.size)⟩
        | false =>
          have HN : awN len c false = len + 32 := by unfold awN; rw [he]; rfl
          rw [HN] at HO3 ⊢
          rw [if_neg (by decide)] at htl
          have BK : bkB (r ++ tagL l c false) ((len : Int) + 32) 0 = true := by
            unfold bkB; rw [back1, htl]; simp
          generalize tagL l c false = TL at *
          have HBK := Lib.hid BK
          have HTL := Lib.hid htl
          have HTa := Lib.hid HO3.out.arg
          have HRa := Lib.hid (HR.out.below HB3.out)
          clear BK htl back1 HLa HN he
          have hsNa : r.length + (len + 32) = len2 + (len + 32) := by rw [HLR.out]
          have hsSa : len2 + (len + 32) ≤ 140737488355328 := by omega
          have tok : True := trivial
          go_wp2_with (at_builtin; first | (have tk := tok; clear tk; refine wpList_append_bytes_w (by rfl) (.tmp 54) (.tmp 55) rfl w3.heap.size (.slice (some ⟨w3.heap.size, 0, none⟩) 0 0) [] rfl (Owns.lit0 _ _ (Nat.le_refl _)) b len2 cap2 r rfl (HRa.out.alloc _) (len2) (by simp) (by omega) (by simp) ?_; intro A5a k5a w5a hown hgr hat; clear hat; rw [List.nil_append] at hown; have HO5a : Hid (Owns w5a w3.heap.size (.slice A5a (len2) k5a) r) := Lib.hid hown; have HB5a := Lib.hid (below_append ((Below.refl _ _).alloc (Nat.le_refl _) _) (Owns.lit0 w3 _ (Nat.le_refl _)) (Nat.le_refl _) hgr); have HX5a := Lib.hid (HTa.out.below HB5a.out); clear hown hgr tok) | (refine wpList_append_bytes_w (by rfl) (.tmp 56) (.tmp 57) rfl w3.heap.size (.slice A5a (len2) k5a) r rfl HO5a.out A3 (len + 32) k3 TL rfl HX5a.out (len2 + (len + 32)) hsNa hsSa HB5a.out.size ?_; intro A6a k6a w6a hown hgr hat; clear hat; have HO6a : Hid (Owns w6a w3.heap.size (.slice A6a (len2 + (len + 32)) k6a) (r ++ TL)) := Lib.hid hown; have HB6a := Lib.hid (below_append HB5a.out HO5a.out (Nat.le_refl _) hgr); clear hown hgr))
          refine (lback_any _ _ _ (r ++ TL) _ _ _ HO6a.out.arg).mono ?_
          rintro e w7 ⟨rfl, hb7⟩
          rw [HBK.out]
          have HB7 := Lib.hid (HB3.out.trans ((HB6a.out.trans (hb7.mono HB6a.out.size)).mono HB3.out.size))
          have HX7 := Lib.hid (HB6a.out.trans (hb7.mono HB6a.out.size))
          clear hb7 e1 e2 e3
          have e1 := (HB7.out.cell (p := ⟨w.heap.size, 0, none⟩) hz).trans d1
          have e2 := (HB7.out.cell (p := ⟨w.heap.size, 1, none⟩) hz).trans d2
          have e3 := (HB7.out.cell (p := ⟨w.heap.size, 2, none⟩) hz).trans d3
          go_wp2_with fail
          go_ret
          exact ⟨rfl, HB.out.trans (HB7.out.mono HB.out.size)⟩
end Go.Proofs.Ytgdchcaglkeghaa
