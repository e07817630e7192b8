/- The walk of the reference's Read (layer 32). -/
import Derived.Test.YtjcemacgiehklaaDoorFmtRead
import Derived.Test.YtjcemacgiehklaaDoorFmtRefD
import Derived.Deep.DeepCutAuto
namespace Go.Proofs.YtjcemacgiehklaaDoor
open Go.RowKit
attribute [local go_sem ↓] Go.wp_at_zero Go.wp_at_succ

/-- What bytes of 16, of 40 tell. -/
theorem readB_16 (l : List UInt8) (h : l.length = 16) : readB l = (sndB (rdN l 1) (rdN l 5) (rdN l 2) && l == firstL (rdN l 1) (rdN l 5) (rdN l 2) 1) := by
  unfold readB
  cases hs : sndB (rdN l 1) (rdN l 5) (rdN l 2) with
  | false => rfl
  | true =>
    rw [Bool.true_and, Bool.true_and]
    cases ht : ((rdN l 0 : Int) == 65534) with
    | false => rw [formL_plain]
    | true =>
      have e1 : (l == formL (rdN l 1) (rdN l 5) (rdN l 2) true (rdN l 8)) = false := by
        rw [beq_eq_false_iff_ne]
        intro e
        have := congrArg List.length e
        rw [formL_length, h] at this
        exact absurd this (by decide)
      have e2 : (l == firstL (rdN l 1) (rdN l 5) (rdN l 2) 1) = false := by
        rw [beq_eq_false_iff_ne]
        intro e
        have hv : rdN l 0 = 1 := by
          rw [rdN_yes l 0 (by rw [h]; decide)]
          have ht2 : (l.take (wsum 1)).drop (wsum 0) = Le.bs 1 2 := by
            rw [show wsum 0 = 0 from rfl, List.drop_zero, show wsum 1 = 2 from rfl, e]
            unfold firstL
            simp only [List.append_assoc]
            rw [List.take_append_of_le_length (by rw [Le.bs_length]; omega), List.take_of_length_le (by rw [Le.bs_length]; omega)]
          rw [ht2]
          decide
        rw [hv] at ht
        exact absurd ht (by decide)
      rw [e1, e2]
theorem readB_40 (l : List UInt8) (h : l.length = 40) : readB l = (sndB (rdN l 1) (rdN l 5) (rdN l 2) && l == formL (rdN l 1) (rdN l 5) (rdN l 2) true (rdN l 8)) := by
  unfold readB
  cases hs : sndB (rdN l 1) (rdN l 5) (rdN l 2) with
  | false => rfl
  | true =>
    rw [Bool.true_and, Bool.true_and]
    cases ht : ((rdN l 0 : Int) == 65534) with
    | true => rfl
    | false =>
      have e1 : (l == formL (rdN l 1) (rdN l 5) (rdN l 2) false (rdN l 8)) = false := by
        rw [beq_eq_false_iff_ne]
        intro e
        have := congrArg List.length e
        rw [formL_length, h] at this
        exact absurd this (by decide)
      have e2 : (l == formL (rdN l 1) (rdN l 5) (rdN l 2) true (rdN l 8)) = false := by
        rw [beq_eq_false_iff_ne]
        intro e
        have hv : rdN l 0 = 65534 := by
          rw [rdN_yes l 0 (by rw [h]; decide)]
          have ht2 : (l.take (wsum 1)).drop (wsum 0) = Le.bs 65534 2 := by
            rw [show wsum 0 = 0 from rfl, List.drop_zero, show wsum 1 = 2 from rfl, e, formL_wide]
            unfold firstL
            simp only [List.append_assoc]
            rw [List.take_append_of_le_length (by rw [Le.bs_length]; omega), List.take_of_length_le (by rw [Le.bs_length]; omega)]
          rw [ht2]
          decide
        rw [hv] at ht
        exact absurd ht (by decide)
      rw [e1, e2]
theorem readB_no (l : List UInt8) (h : l.length ≠ 16) (h2 : l.length ≠ 40) : readB l = false := by
  unfold readB
  have e : ∀ t m, (l == formL (rdN l 1) (rdN l 5) (rdN l 2) t m) = false := fun t m => by
    rw [beq_eq_false_iff_ne]
    intro e
    have := congrArg List.length e
    rw [formL_length] at this
    cases t
    · exact h this
    · exact h2 this
  rw [e, Bool.and_false]
theorem readP_no {l : List UInt8} (h : readB l = false) : readP l = .tuple #[.agg #[.int .i64 0, .int .i64 0, .int .i64 0], .int .i64 12] := by unfold readP; rw [h]; rfl
theorem readP_yes {l : List UInt8} (h : readB l = true) : readP l = .tuple #[.agg #[.int .i64 (rdN l 1 : Int), .int .i64 (rdN l 5 : Int), .int .i64 (rdN l 2 : Int)], .int .i64 0] := by unfold readP; rw [h]; rfl

set_option maxRecDepth 100000 in
set_option maxHeartbeats 4000000 in
theorem rread_any (a : Option Addr) (len cap : Nat) (l : List UInt8) (w : World) (ha : BArg w a len cap l) :
    Calls Tryd.prog 16 #[.slice a len cap] w fun e w' => e = .returned (readP l) ∧ Below w.heap.size w w' := by
  have hlc := ha.le
  have hcs := ha.small
  have HA := Lib.hid ha
  have HL := Lib.hid ha.len_eq
  by_cases hno : len ≠ 16 ∧ len ≠ 40
  · obtain ⟨n16, n40⟩ := hno
    have HP : Hid (readP l = .tuple #[.agg #[.int .i64 0, .int .i64 0, .int .i64 0], .int .i64 12]) := Lib.hid (readP_no (readB_no l (by rw [ha.len_eq]; exact n16) (by rw [ha.len_eq]; exact n40)))
    have g1 : ((len : Int) != 16) = true := by simp; omega
    have g2 : ((len : Int) != 40) = true := by simp; omega
    clear ha n16 n40
    go_enter Tryd.func16, Tryd.ntmps16
    go_wp2_with fail
    exact bodyPost_ret (v := .tuple #[.agg #[.int .i64 0, .int .i64 0, .int .i64 0], .int .i64 12]) (by simp [results, Tryd.results16, go_sem]) rfl ⟨by rw [HP.out], (Below.refl _ _).alloc (Nat.le_refl _) _⟩
  · have hl : len = 16 ∨ len = 40 := by omega
    clear hno
    obtain ⟨ad, _, hae, _, _, _, _⟩ := ha.at_ (k := 0) (by omega)
    subst hae
    rcases hl with rfl | rfl
    · -- 16
      obtain ⟨W, hW⟩ : ∃ W, W = w.alloc (.cells #[.int .i64 0, .int .i64 0, .int .i64 0] 23) := ⟨_, rfl⟩
      have HB : Hid (Below w.heap.size w W) := Lib.hid (by rw [hW]; exact (Below.refl _ _).alloc (Nat.le_refl _) _)
      have HAW := Lib.hid (HA.out.below HB.out)
      have hz : w.heap.size < W.heap.size := by rw [hW]; simp
      have u0 : W.cell? ⟨w.heap.size, 0, none⟩ = some (.int .i64 0) := by rw [hW, World.cell?_alloc_at _ _ _ _ rfl]; rfl
      have u1 : W.cell? ⟨w.heap.size, 1, none⟩ = some (.int .i64 0) := by rw [hW, World.cell?_alloc_at _ _ _ _ rfl]; rfl
      have u2 : W.cell? ⟨w.heap.size, 2, none⟩ = some (.int .i64 0) := by rw [hW, World.cell?_alloc_at _ _ _ _ rfl]; rfl
      have v0 : W.frozen? ⟨w.heap.size, 0, none⟩ = false := by rw [hW]; go_simp
      have v1 : W.frozen? ⟨w.heap.size, 1, none⟩ = false := by rw [hW]; go_simp
      have v2 : W.frozen? ⟨w.heap.size, 2, none⟩ = false := by rw [hW]; go_simp
      have HW := Lib.hid hW
      have k1 := HAW.out.cut (i := 2) (j := 4) (by omega) (by omega)
      rw [if_neg (by omega)] at k1
      replace k1 : BArg W (some ⟨ad.block, ad.off + 2, none⟩) 2 (cap - 2) ((l.take 4).drop 2) := k1
      have k2 := HAW.out.cut (i := 4) (j := 8) (by omega) (by omega)
      rw [if_neg (by omega)] at k2
      replace k2 : BArg W (some ⟨ad.block, ad.off + 4, none⟩) 4 (cap - 4) ((l.take 8).drop 4) := k2
      have k5 := HAW.out.cut (i := 14) (j := 16) (by omega) (by omega)
      rw [if_neg (by omega)] at k5
      replace k5 : BArg W (some ⟨ad.block, ad.off + 14, none⟩) 2 (cap - 14) ((l.take 16).drop 14) := k5
      have r1 : rdN l 1 = Le.val ((l.take 4).drop 2) := rdN_yes l 1 (by rw [HL.out]; decide)
      have r2 : rdN l 2 = Le.val ((l.take 8).drop 4) := rdN_yes l 2 (by rw [HL.out]; decide)
      have r5 : rdN l 5 = Le.val ((l.take 16).drop 14) := rdN_yes l 5 (by rw [HL.out]; decide)
      have b1 := rdN_lt l 1 (by decide)
      have b2 := rdN_lt l 2 (by decide)
      have b5 := rdN_lt l 5 (by decide)
      have hw1 : IntKind.i64.wrap (rdN l 1 : Int) = (rdN l 1 : Int) := by rw [IntKind.wrap_i64]; omega
      have hw2 : IntKind.i64.wrap (rdN l 2 : Int) = (rdN l 2 : Int) := by rw [IntKind.wrap_i64]; omega
      have hw5 : IntKind.i64.wrap (rdN l 5 : Int) = (rdN l 5 : Int) := by rw [IntKind.wrap_i64]; omega
      have C1 := Lib.hid (fun W' (h : Below W.heap.size W W') => of_le_any _ _ _ _ W' (k1.below h) (by omega))
      have C2 := Lib.hid (fun W' (h : Below W.heap.size W W') => of_le_any _ _ _ _ W' (k2.below h) (by omega))
      have C5 := Lib.hid (fun W' (h : Below W.heap.size W W') => of_le_any _ _ _ _ W' (k5.below h) (by omega))
      rw [← r1] at C1
      rw [← r2] at C2
      rw [← r5] at C5
      have m1 : ¬ cap = 2 := by omega
      have m2 : ¬ cap = 4 := by omega
      have m3 : ¬ cap = 14 := by omega
      have m4 : 4 ≤ cap := by omega
      have m5 : 8 ≤ cap := by omega
      have m6 : 16 ≤ cap := by omega
      have i4 : (4 : Int) ≤ (cap : Int) := by omega
      have i8 : (8 : Int) ≤ (cap : Int) := by omega
      have i16 : (16 : Int) ≤ (cap : Int) := by omega
      have hRB := readB_16 l HL.out
      have hPN := @readP_no l
      have hPY := @readP_yes l
      clear hW k1 k2 k5 r1 r2 r5 ha
      generalize rdN l 1 = n1 at *
      generalize rdN l 2 = n2 at *
      generalize rdN l 5 = n5 at *
      go_enter Tryd.func16, Tryd.ntmps16
      go_upto_region 3 with fail
      rw [← HW.out]
      go_cut [4] (fun s4 wx => s4 = .pointer (some ⟨W.heap.size, 0, none⟩) ∧ wx.cell? ⟨W.heap.size, 0, none⟩ = some (.int .i64 (n1 : Int)) ∧ wx.cell? ⟨W.heap.size, 1, none⟩ = some (.int .i64 (n5 : Int)) ∧ wx.cell? ⟨W.heap.size, 2, none⟩ = some (.int .i64 (n2 : Int)) ∧ Below W.heap.size W wx ∧ W.heap.size < wx.heap.size)
      case first =>
        go_region_held3 (fun w' => Below W.heap.size W w') (first | exact (Below.refl _ _).drew | assumption | exact ((Below.refl _ _).alloc (Nat.le_refl _) _).drew) ((first | (go_at_call 27; ((with_reducible refine (C1.out _ ‹Below W.heap.size W _›).mono ?_); rintro e w9 ⟨rfl, rfl⟩)) | (go_at_call 27; ((with_reducible refine (C2.out _ ‹Below W.heap.size W _›).mono ?_); rintro e w9 ⟨rfl, rfl⟩)) | (go_at_call 27; ((with_reducible refine (C5.out _ ‹Below W.heap.size W _›).mono ?_); rintro e w9 ⟨rfl, rfl⟩))))
        all_goals go_wp2_with fail
        all_goals go_meet
        all_goals exact ⟨rfl, by go_simp, by go_simp, by go_simp, ((Below.refl _ _).alloc (Nat.le_refl _) _).drew, by simp⟩
      case rest =>
        obtain ⟨rfl, x1, x5, x2, hbx, hx9⟩ := hcut
        have HBx := Lib.hid hbx
        clear hbx
        go_wp2_with fail
        refine (rcheck_any (n1 : Int) (n5 : Int) (n2 : Int) _).mono ?_
        rintro e w2 ⟨rfl, hb2⟩
        have HB2 := Lib.hid (HBx.out.trans (hb2.mono HBx.out.size))
        have y1 := (hb2.cell (p := ⟨W.heap.size, 0, none⟩) hx9).trans x1
        have y5 := (hb2.cell (p := ⟨W.heap.size, 1, none⟩) hx9).trans x5
        have y2 := (hb2.cell (p := ⟨W.heap.size, 2, none⟩) hx9).trans x2
        have hx2 : W.heap.size < w2.heap.size := Nat.lt_of_lt_of_le hx9 hb2.size
        have q0 := (HB2.out.cell (p := ⟨w.heap.size, 0, none⟩) hz).trans u0
        have q1 := (HB2.out.cell (p := ⟨w.heap.size, 1, none⟩) hz).trans u1
        have q2 := (HB2.out.cell (p := ⟨w.heap.size, 2, none⟩) hz).trans u2
        have p0 := (HB2.out.frozen (p := ⟨w.heap.size, 0, none⟩) hz).trans v0
        have p1 := (HB2.out.frozen (p := ⟨w.heap.size, 1, none⟩) hz).trans v1
        have p2 := (HB2.out.frozen (p := ⟨w.heap.size, 2, none⟩) hz).trans v2
        clear hb2 x1 x5 x2
        cases hs : sndB (n1 : Int) (n5 : Int) (n2 : Int) with
        | false =>
          have hE : sndE (n1 : Int) (n5 : Int) (n2 : Int) = 8 := by unfold sndE; rw [hs]; rfl
          have HR0 := Lib.hid (hPN (by rw [hRB, hs]; rfl))
          rw [hE]
          clear hs hE hRB hPN hPY y1 y5 y2
          go_wp2_with fail
          refine bodyPost_ret (v := .tuple #[.agg #[.int .i64 0, .int .i64 0, .int .i64 0], .int .i64 12]) (by simp [results, Tryd.results16, go_sem, q0, q1, q2]) rfl ⟨by rw [HR0.out], ?_⟩
          exact (((HB.out.trans (HB2.out.mono HB.out.size)).setCell (p := ⟨w.heap.size, 0, none⟩) (Nat.le_refl _) _).setCell (p := ⟨w.heap.size, 1, none⟩) (Nat.le_refl _) _).setCell (p := ⟨w.heap.size, 2, none⟩) (Nat.le_refl _) _
        | true =>
          have hE : sndE (n1 : Int) (n5 : Int) (n2 : Int) = 0 := by unfold sndE; rw [hs]; rfl
          have hr : n1 ≤ 6 ∧ n5 ≤ 24 ∧ n2 ≤ 1048576 := by unfold sndB at hs; simp only [decide_eq_true_eq] at hs; omega
          obtain ⟨hr1, hr2, hr3⟩ := hr
          rw [hE]
          rw [hs, Bool.true_and] at hRB
          have HRB := Lib.hid hRB
          have HPN := Lib.hid hPN
          have HPY := Lib.hid hPY
          clear hs hE hRB hPN hPY
          go_wp2_with fail
          refine (plain_any n1 n5 n2 hr1 hr2 hr3 _).mono ?_
          rintro e w3 ⟨A3, c3, rfl, ho, hb3⟩
          have HO3 := Lib.hid ho
          have HB3 := Lib.hid (HB2.out.trans (hb3.mono HB2.out.size))
          have s1 := (hb3.cell (p := ⟨W.heap.size, 0, none⟩) hx2).trans y1
          have s5 := (hb3.cell (p := ⟨W.heap.size, 1, none⟩) hx2).trans y5
          have s2 := (hb3.cell (p := ⟨W.heap.size, 2, none⟩) hx2).trans y2
          have hx3 : W.heap.size < w3.heap.size := Nat.lt_of_lt_of_le hx2 hb3.size
          clear ho hb3 y1 y5 y2 q0 q1 q2 p0 p1 p2
          have q0 := (HB3.out.cell (p := ⟨w.heap.size, 0, none⟩) hz).trans u0
          have q1 := (HB3.out.cell (p := ⟨w.heap.size, 1, none⟩) hz).trans u1
          have q2 := (HB3.out.cell (p := ⟨w.heap.size, 2, none⟩) hz).trans u2
          have p0 := (HB3.out.frozen (p := ⟨w.heap.size, 0, none⟩) hz).trans v0
          have p1 := (HB3.out.frozen (p := ⟨w.heap.size, 1, none⟩) hz).trans v1
          have p2 := (HB3.out.frozen (p := ⟨w.heap.size, 2, none⟩) hz).trans v2
          have t1 := (HAW.out.below HB3.out).text
          have t2 := HO3.out.arg.text
          generalize firstL n1 n5 n2 1 = FL at *
          cases hq : l == FL with
          | false =>
            have HR0 := Lib.hid (HPN.out (by rw [HRB.out, hq]))
            have hq2 : (FL == l) = false := by rw [beq_eq_false_iff_ne] at hq ⊢; exact fun e => hq e.symm
            clear hq
            go_wp2_with fail
            refine bodyPost_ret (v := .tuple #[.agg #[.int .i64 0, .int .i64 0, .int .i64 0], .int .i64 12]) (by simp [results, Tryd.results16, go_sem, q0, q1, q2]) rfl ⟨by rw [HR0.out], ?_⟩
            exact (((HB.out.trans (HB3.out.mono HB.out.size)).setCell (p := ⟨w.heap.size, 0, none⟩) (Nat.le_refl _) _).setCell (p := ⟨w.heap.size, 1, none⟩) (Nat.le_refl _) _).setCell (p := ⟨w.heap.size, 2, none⟩) (Nat.le_refl _) _
          | true =>
            have HR0 := Lib.hid (HPY.out (by rw [HRB.out, hq]))
            have hq2 : (FL == l) = true := by rw [beq_iff_eq] at hq ⊢; exact hq.symm
            clear hq
            go_wp2_with fail
            refine bodyPost_ret (v := .tuple #[.agg #[.int .i64 (n1 : Int), .int .i64 (n5 : Int), .int .i64 (n2 : Int)], .int .i64 0]) (by simp [results, Tryd.results16, go_sem, q0, q1, q2]) rfl ⟨by rw [HR0.out], ?_⟩
            exact (((HB.out.trans (HB3.out.mono HB.out.size)).setCell (p := ⟨w.heap.size, 0, none⟩) (Nat.le_refl _) _).setCell (p := ⟨w.heap.size, 1, none⟩) (Nat.le_refl _) _).setCell (p := ⟨w.heap.size, 2, none⟩) (Nat.le_refl _) _
    · -- 40
      obtain ⟨W, hW⟩ : ∃ W, W = w.alloc (.cells #[.int .i64 0, .int .i64 0, .int .i64 0] 23) := ⟨_, rfl⟩
      have HB : Hid (Below w.heap.size w W) := Lib.hid (by rw [hW]; exact (Below.refl _ _).alloc (Nat.le_refl _) _)
      have HAW := Lib.hid (HA.out.below HB.out)
      have hz : w.heap.size < W.heap.size := by rw [hW]; simp
      have u0 : W.cell? ⟨w.heap.size, 0, none⟩ = some (.int .i64 0) := by rw [hW, World.cell?_alloc_at _ _ _ _ rfl]; rfl
      have u1 : W.cell? ⟨w.heap.size, 1, none⟩ = some (.int .i64 0) := by rw [hW, World.cell?_alloc_at _ _ _ _ rfl]; rfl
      have u2 : W.cell? ⟨w.heap.size, 2, none⟩ = some (.int .i64 0) := by rw [hW, World.cell?_alloc_at _ _ _ _ rfl]; rfl
      have v0 : W.frozen? ⟨w.heap.size, 0, none⟩ = false := by rw [hW]; go_simp
      have v1 : W.frozen? ⟨w.heap.size, 1, none⟩ = false := by rw [hW]; go_simp
      have v2 : W.frozen? ⟨w.heap.size, 2, none⟩ = false := by rw [hW]; go_simp
      have HW := Lib.hid hW
      have k1 := HAW.out.cut (i := 2) (j := 4) (by omega) (by omega)
      rw [if_neg (by omega)] at k1
      replace k1 : BArg W (some ⟨ad.block, ad.off + 2, none⟩) 2 (cap - 2) ((l.take 4).drop 2) := k1
      have k2 := HAW.out.cut (i := 4) (j := 8) (by omega) (by omega)
      rw [if_neg (by omega)] at k2
      replace k2 : BArg W (some ⟨ad.block, ad.off + 4, none⟩) 4 (cap - 4) ((l.take 8).drop 4) := k2
      have k5 := HAW.out.cut (i := 14) (j := 16) (by omega) (by omega)
      rw [if_neg (by omega)] at k5
      replace k5 : BArg W (some ⟨ad.block, ad.off + 14, none⟩) 2 (cap - 14) ((l.take 16).drop 14) := k5
      have r1 : rdN l 1 = Le.val ((l.take 4).drop 2) := rdN_yes l 1 (by rw [HL.out]; decide)
      have r2 : rdN l 2 = Le.val ((l.take 8).drop 4) := rdN_yes l 2 (by rw [HL.out]; decide)
      have r5 : rdN l 5 = Le.val ((l.take 16).drop 14) := rdN_yes l 5 (by rw [HL.out]; decide)
      have b1 := rdN_lt l 1 (by decide)
      have b2 := rdN_lt l 2 (by decide)
      have b5 := rdN_lt l 5 (by decide)
      have hw1 : IntKind.i64.wrap (rdN l 1 : Int) = (rdN l 1 : Int) := by rw [IntKind.wrap_i64]; omega
      have hw2 : IntKind.i64.wrap (rdN l 2 : Int) = (rdN l 2 : Int) := by rw [IntKind.wrap_i64]; omega
      have hw5 : IntKind.i64.wrap (rdN l 5 : Int) = (rdN l 5 : Int) := by rw [IntKind.wrap_i64]; omega
      have C1 := Lib.hid (fun W' (h : Below W.heap.size W W') => of_le_any _ _ _ _ W' (k1.below h) (by omega))
      have C2 := Lib.hid (fun W' (h : Below W.heap.size W W') => of_le_any _ _ _ _ W' (k2.below h) (by omega))
      have C5 := Lib.hid (fun W' (h : Below W.heap.size W W') => of_le_any _ _ _ _ W' (k5.below h) (by omega))
      rw [← r1] at C1
      rw [← r2] at C2
      rw [← r5] at C5
      have m1 : ¬ cap = 2 := by omega
      have m2 : ¬ cap = 4 := by omega
      have m3 : ¬ cap = 14 := by omega
      have m4 : 4 ≤ cap := by omega
      have m5 : 8 ≤ cap := by omega
      have m6 : 16 ≤ cap := by omega
      have i4 : (4 : Int) ≤ (cap : Int) := by omega
      have i8 : (8 : Int) ≤ (cap : Int) := by omega
      have i16 : (16 : Int) ≤ (cap : Int) := by omega
      have k8 := HAW.out.cut (i := 20) (j := 24) (by omega) (by omega)
      rw [if_neg (by omega)] at k8
      replace k8 : BArg W (some ⟨ad.block, ad.off + 20, none⟩) 4 (cap - 20) ((l.take 24).drop 20) := k8
      have r8 : rdN l 8 = Le.val ((l.take 24).drop 20) := rdN_yes l 8 (by rw [HL.out]; decide)
      have b8 := rdN_lt l 8 (by decide)
      have C8 := Lib.hid (fun W' (h : Below W.heap.size W W') => of_le_any _ _ _ _ W' (k8.below h) (by omega))
      rw [← r8] at C8
      have hRB := readB_40 l HL.out
      have hPN := @readP_no l
      have hPY := @readP_yes l
      have m7 : ¬ cap = 20 := by omega
      have m8 : 24 ≤ cap := by omega
      have i24 : (24 : Int) ≤ (cap : Int) := by omega
      clear k8 r8
      generalize rdN l 8 = n8 at *
      clear hW k1 k2 k5 r1 r2 r5 ha
      generalize rdN l 1 = n1 at *
      generalize rdN l 2 = n2 at *
      generalize rdN l 5 = n5 at *
      go_enter Tryd.func16, Tryd.ntmps16
      go_upto_region 3 with fail
      rw [← HW.out]
      go_cut [4] (fun s4 wx => s4 = .pointer (some ⟨W.heap.size, 0, none⟩) ∧ wx.cell? ⟨W.heap.size, 0, none⟩ = some (.int .i64 (n1 : Int)) ∧ wx.cell? ⟨W.heap.size, 1, none⟩ = some (.int .i64 (n5 : Int)) ∧ wx.cell? ⟨W.heap.size, 2, none⟩ = some (.int .i64 (n2 : Int)) ∧ Below W.heap.size W wx ∧ W.heap.size < wx.heap.size)
      case first =>
        go_region_held3 (fun w' => Below W.heap.size W w') (first | exact (Below.refl _ _).drew | assumption | exact ((Below.refl _ _).alloc (Nat.le_refl _) _).drew) ((first | (go_at_call 27; ((with_reducible refine (C1.out _ ‹Below W.heap.size W _›).mono ?_); rintro e w9 ⟨rfl, rfl⟩)) | (go_at_call 27; ((with_reducible refine (C2.out _ ‹Below W.heap.size W _›).mono ?_); rintro e w9 ⟨rfl, rfl⟩)) | (go_at_call 27; ((with_reducible refine (C5.out _ ‹Below W.heap.size W _›).mono ?_); rintro e w9 ⟨rfl, rfl⟩))))
        all_goals go_wp2_with fail
        all_goals go_meet
        all_goals exact ⟨rfl, by go_simp, by go_simp, by go_simp, ((Below.refl _ _).alloc (Nat.le_refl _) _).drew, by simp⟩
      case rest =>
        obtain ⟨rfl, x1, x5, x2, hbx, hx9⟩ := hcut
        have HBx := Lib.hid hbx
        clear hbx
        go_wp2_with fail
        refine (rcheck_any (n1 : Int) (n5 : Int) (n2 : Int) _).mono ?_
        rintro e w2 ⟨rfl, hb2⟩
        have HB2 := Lib.hid (HBx.out.trans (hb2.mono HBx.out.size))
        have y1 := (hb2.cell (p := ⟨W.heap.size, 0, none⟩) hx9).trans x1
        have y5 := (hb2.cell (p := ⟨W.heap.size, 1, none⟩) hx9).trans x5
        have y2 := (hb2.cell (p := ⟨W.heap.size, 2, none⟩) hx9).trans x2
        have hx2 : W.heap.size < w2.heap.size := Nat.lt_of_lt_of_le hx9 hb2.size
        have q0 := (HB2.out.cell (p := ⟨w.heap.size, 0, none⟩) hz).trans u0
        have q1 := (HB2.out.cell (p := ⟨w.heap.size, 1, none⟩) hz).trans u1
        have q2 := (HB2.out.cell (p := ⟨w.heap.size, 2, none⟩) hz).trans u2
        have p0 := (HB2.out.frozen (p := ⟨w.heap.size, 0, none⟩) hz).trans v0
        have p1 := (HB2.out.frozen (p := ⟨w.heap.size, 1, none⟩) hz).trans v1
        have p2 := (HB2.out.frozen (p := ⟨w.heap.size, 2, none⟩) hz).trans v2
        clear hb2 x1 x5 x2
        cases hs : sndB (n1 : Int) (n5 : Int) (n2 : Int) with
        | false =>
          have hE : sndE (n1 : Int) (n5 : Int) (n2 : Int) = 8 := by unfold sndE; rw [hs]; rfl
          have HR0 := Lib.hid (hPN (by rw [hRB, hs]; rfl))
          rw [hE]
          clear hs hE hRB hPN hPY y1 y5 y2
          go_wp2_with fail
          refine bodyPost_ret (v := .tuple #[.agg #[.int .i64 0, .int .i64 0, .int .i64 0], .int .i64 12]) (by simp [results, Tryd.results16, go_sem, q0, q1, q2]) rfl ⟨by rw [HR0.out], ?_⟩
          exact (((HB.out.trans (HB2.out.mono HB.out.size)).setCell (p := ⟨w.heap.size, 0, none⟩) (Nat.le_refl _) _).setCell (p := ⟨w.heap.size, 1, none⟩) (Nat.le_refl _) _).setCell (p := ⟨w.heap.size, 2, none⟩) (Nat.le_refl _) _
        | true =>
          have hE : sndE (n1 : Int) (n5 : Int) (n2 : Int) = 0 := by unfold sndE; rw [hs]; rfl
          have hr : n1 ≤ 6 ∧ n5 ≤ 24 ∧ n2 ≤ 1048576 := by unfold sndB at hs; simp only [decide_eq_true_eq] at hs; omega
          obtain ⟨hr1, hr2, hr3⟩ := hr
          rw [hE]
          rw [hs, Bool.true_and] at hRB
          have HRB := Lib.hid hRB
          have HPN := Lib.hid hPN
          have HPY := Lib.hid hPY
          clear hs hE hRB hPN hPY
          go_wp2_with fail
          refine (plain_any n1 n5 n2 hr1 hr2 hr3 _).mono ?_
          rintro e w3 ⟨A3, c3, rfl, ho, hb3⟩
          have HO3 := Lib.hid ho
          have HB3 := Lib.hid (HB2.out.trans (hb3.mono HB2.out.size))
          have s1 := (hb3.cell (p := ⟨W.heap.size, 0, none⟩) hx2).trans y1
          have s5 := (hb3.cell (p := ⟨W.heap.size, 1, none⟩) hx2).trans y5
          have s2 := (hb3.cell (p := ⟨W.heap.size, 2, none⟩) hx2).trans y2
          have hx3 : W.heap.size < w3.heap.size := Nat.lt_of_lt_of_le hx2 hb3.size
          clear ho hb3 y1 y5 y2 q0 q1 q2 p0 p1 p2
          have hw8 : IntKind.u32.wrap (n8 : Int) = (n8 : Int) := by show (n8 : Int) % 4294967296 = _; omega
          have hm8 : (n8 : Int) % 4294967296 = (n8 : Int) := by omega
          go_upto_region 8 with fail
          go_region_held3 (fun w' => w'.cell? ⟨W.heap.size, 0, none⟩ = some (.int .i64 (n1 : Int)) ∧ w'.cell? ⟨W.heap.size, 1, none⟩ = some (.int .i64 (n5 : Int)) ∧ w'.cell? ⟨W.heap.size, 2, none⟩ = some (.int .i64 (n2 : Int))) (go_keep) ((first | (go_at_call 27; refine (C8.out _ HB3.out.drew).mono ?_; rintro e w9 ⟨rfl, rfl⟩) | (go_at_call 21; refine (masked_any n1 n5 n2 n8 hr1 hr2 hr3 b8 _).mono ?_; rintro e w4 ⟨A4, c4, rfl, ho, hb4⟩; have s1' := (hb4.cell (p := ⟨W.heap.size, 0, none⟩) (by simp; omega)).trans s1; have s5' := (hb4.cell (p := ⟨W.heap.size, 1, none⟩) (by simp; omega)).trans s5; have s2' := (hb4.cell (p := ⟨W.heap.size, 2, none⟩) (by simp; omega)).trans s2; have HO4 := Lib.hid ho; have HB4 := Lib.hid (HB3.out.drew.trans (hb4.mono HB3.out.drew.size)); clear ho hb4)))
          have q0 := (HB4.out.cell (p := ⟨w.heap.size, 0, none⟩) hz).trans u0
          have q1 := (HB4.out.cell (p := ⟨w.heap.size, 1, none⟩) hz).trans u1
          have q2 := (HB4.out.cell (p := ⟨w.heap.size, 2, none⟩) hz).trans u2
          have p0 := (HB4.out.frozen (p := ⟨w.heap.size, 0, none⟩) hz).trans v0
          have p1 := (HB4.out.frozen (p := ⟨w.heap.size, 1, none⟩) hz).trans v1
          have p2 := (HB4.out.frozen (p := ⟨w.heap.size, 2, none⟩) hz).trans v2
          have t1 := (HAW.out.below HB4.out).text
          have t2 := HO4.out.arg.text
          generalize formL n1 n5 n2 true n8 = FL at *
          cases hq : l == FL with
          | false =>
            have HR0 := Lib.hid (HPN.out (by rw [HRB.out, hq]))
            have hq2 : (FL == l) = false := by rw [beq_eq_false_iff_ne] at hq ⊢; exact fun e => hq e.symm
            clear hq
            go_wp2_with fail
            refine bodyPost_ret (v := .tuple #[.agg #[.int .i64 0, .int .i64 0, .int .i64 0], .int .i64 12]) (by simp [results, Tryd.results16, go_sem, q0, q1, q2]) rfl ⟨by rw [HR0.out], ?_⟩
            exact (((HB.out.trans (HB4.out.mono HB.out.size)).setCell (p := ⟨w.heap.size, 0, none⟩) (Nat.le_refl _) _).setCell (p := ⟨w.heap.size, 1, none⟩) (Nat.le_refl _) _).setCell (p := ⟨w.heap.size, 2, none⟩) (Nat.le_refl _) _
          | true =>
            have HR0 := Lib.hid (HPY.out (by rw [HRB.out, hq]))
            have hq2 : (FL == l) = true := by rw [beq_iff_eq] at hq ⊢; exact hq.symm
            clear hq
            go_wp2_with fail
            refine bodyPost_ret (v := .tuple #[.agg #[.int .i64 (n1 : Int), .int .i64 (n5 : Int), .int .i64 (n2 : Int)], .int .i64 0]) (by simp [results, Tryd.results16, go_sem, q0, q1, q2]) rfl ⟨by rw [HR0.out], ?_⟩
            exact (((HB.out.trans (HB4.out.mono HB.out.size)).setCell (p := ⟨w.heap.size, 0, none⟩) (Nat.le_refl _) _).setCell (p := ⟨w.heap.size, 1, none⟩) (Nat.le_refl _) _).setCell (p := ⟨w.heap.size, 2, none⟩) (Nat.le_refl _) _
end Go.Proofs.YtjcemacgiehklaaDoor
