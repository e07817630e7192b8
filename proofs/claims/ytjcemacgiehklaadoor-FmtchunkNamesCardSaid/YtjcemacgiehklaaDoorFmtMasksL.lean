/- FmtchunkMasks: the walk. -/
import Derived.Test.YtjcemacgiehklaaDoorFmtMasks
import Derived.Test.YtjcemacgiehklaaDoorFmtRefC
import Derived.Test.YtjcemacgiehklaaDoorOpAt
import Derived.Test.YtjcemacgiehklaaDoorOpenSound
import Derived.Laws.BitsAllLaws
namespace Go.Proofs.YtjcemacgiehklaaDoor
open Go.RowKit
attribute [local go_sem ↓] Go.wp_at_zero Go.wp_at_succ

theorem u8_xor_byte (x y : UInt8) : bits .xor .u8 (x.toNat : Int) (y.toNat : Int) = ((x ^^^ y).toNat : Int) := by
  rw [UInt8.toNat_xor]
  exact u8_xor_nat _ _ x.toNat_lt y.toNat_lt
theorem xor_ne (x y : UInt8) (h : y.toNat ≠ 0) : x ^^^ y ≠ x := by
  intro he
  apply h
  have : x ^^^ (x ^^^ y) = x ^^^ x := by rw [he]
  rw [← UInt8.xor_assoc, UInt8.xor_self, UInt8.zero_xor] at this
  rw [this]
  rfl

set_option maxRecDepth 100000 in
set_option maxHeartbeats 4000000 in
theorem fmtmasks_calls (w : World) (hv : FVars w) (ci bi ri : Int) (_h1 : (Lit.int .i64 ci).wf = true) (_h2 : (Lit.int .i64 bi).wf = true) (_h3 : (Lit.int .i64 ri).wf = true) (mi : Int) (h4 : (Lit.int .u32 mi).wf = true) (p : Int) (h5 : (Lit.int .i64 p).wf = true) (y : Int) (h6 : (Lit.int .u8 y).wf = true) :
    Calls Tryd.prog 7 #[.agg #[.int .i64 ci, .int .i64 bi, .int .i64 ri], .int .u32 mi, .int .i64 p, .int .u8 y] w fun e w' => e = .returned (.bool true) ∧ Below w.heap.size w w' := by
  obtain ⟨m, rfl, hm⟩ : ∃ m : Nat, mi = (m : Int) ∧ m < 4294967296 := by
    have := h4
    have g1 : IntKind.u32.min = 0 := by decide
    have g2 : IntKind.u32.max = 4294967295 := by decide
    simp only [Lit.wf, Bool.and_eq_true, decide_eq_true_eq] at this
    exact ⟨mi.toNat, by omega, by omega⟩
  obtain ⟨p1, p2⟩ := i64w h5
  obtain ⟨z8, rfl, hz8⟩ := u8w h6
  obtain ⟨q8, hq8⟩ : ∃ q : UInt8, q.toNat = z8 := ⟨UInt8.ofNat z8, by rw [UInt8.toNat_ofNat']; omega⟩
  subst hq8
  obtain ⟨w1, hw1, d1, d2, d3, hB, hz⟩ := box3 w (.int .i64 ci) (.int .i64 bi) (.int .i64 ri) 23
  have HW := Lib.hid hw1
  have HB := Lib.hid hB
  have HV := Lib.hid (hv.below hB)
  clear hw1 hB hv _h1 _h2 _h3 h4 h5 h6 hz8
  have cs : ∀ w', Below w1.heap.size w1 w' → w'.cell? ⟨w.heap.size, 0, none⟩ = some (.int .i64 ci) ∧ w'.cell? ⟨w.heap.size, 1, none⟩ = some (.int .i64 bi) ∧ w'.cell? ⟨w.heap.size, 2, none⟩ = some (.int .i64 ri) := fun w' h =>
    ⟨(h.cell (p := ⟨w.heap.size, 0, none⟩) hz).trans d1, (h.cell (p := ⟨w.heap.size, 1, none⟩) hz).trans d2, (h.cell (p := ⟨w.heap.size, 2, none⟩) hz).trans d3⟩
  have CS := Lib.hid cs
  clear cs d1 d2 d3
  cases hs : sndB ci bi ri with
  | false =>
    have HE1 : Hid (sndE ci bi ri = 8) := Lib.hid (by unfold sndE; rw [hs]; rfl)
    clear hs
    go_enter Tryd.func7, Tryd.ntmps7
    go_wp2_with fail
    rw [← HW.out]
    refine (alive32_any _ HV.out).mono ?_
    rintro e w2 ⟨rfl, hb⟩
    have HB2 := Lib.hid hb
    clear hb
    obtain ⟨e1, e2, e3⟩ := CS.out _ HB2.out
    go_wp2_with fail
    refine (check_any _ _ _ _).mono ?_
    rintro e w3 ⟨rfl, hb⟩
    have HB3 := Lib.hid (HB2.out.trans (hb.mono HB2.out.size))
    rw [HE1.out]
    clear hb
    go_wp2_with fail
    go_ret
    exact ⟨rfl, HB.out.trans (HB3.out.mono HB.out.size)⟩
  | true =>
    have hr := hs
    unfold sndB at hr
    simp only [decide_eq_true_eq] at hr
    obtain ⟨c, rfl⟩ := Int.eq_ofNat_of_zero_le (show 0 ≤ ci by omega)
    obtain ⟨b, rfl⟩ := Int.eq_ofNat_of_zero_le (show 0 ≤ bi by omega)
    obtain ⟨r, rfl⟩ := Int.eq_ofNat_of_zero_le (show 0 ≤ ri by omega)
    have hc6 : c ≤ 6 := by omega
    have hb24 : b ≤ 24 := by omega
    have hr20 : r ≤ 1048576 := by omega
    have HE1 : Hid (sndE (c : Int) (b : Int) (r : Int) = 0) := Lib.hid (by unfold sndE; rw [hs]; rfl)
    have HR1 := Lib.hid (rds_form c b r m false hs hm)
    have HR2 := Lib.hid (rds_form c b r m true hs hm)
    have HFM := Lib.hid (rds_masked c b r m)
    have hF1 : (formL c b r true m).length = 40 := formL_length c b r true m
    have HF1 := Lib.hid hF1
    have HFP : Hid (formL c b r false m = firstL c b r 1) := Lib.hid (formL_plain c b r m)
    clear hs hr hF1
    go_enter Tryd.func7, Tryd.ntmps7
    go_wp2_with fail
    rw [← HW.out]
    refine (alive32_any _ HV.out).mono ?_
    rintro e w2 ⟨rfl, hb⟩
    have HB2 := Lib.hid hb
    clear hb
    obtain ⟨e1, e2, e3⟩ := CS.out _ HB2.out
    go_wp2_with fail
    refine (check_any _ _ _ _).mono ?_
    rintro e w3 ⟨rfl, hb⟩
    have HB3 := Lib.hid (HB2.out.trans (hb.mono HB2.out.size))
    rw [HE1.out]
    clear hb e1 e2 e3
    obtain ⟨e1, e2, e3⟩ := CS.out _ HB3.out
    go_wp2_with fail
    refine (rcheck_any _ _ _ _).mono ?_
    rintro e w4 ⟨rfl, hb⟩
    have HB4 := Lib.hid (HB3.out.trans (hb.mono HB3.out.size))
    rw [HE1.out]
    clear hb e1 e2 e3
    have sz4 := HB4.out.size
    have tc1 : ∀ w', Below w4.heap.size w4 w' → w'.cell? ⟨w.heap.size, 0, none⟩ = some (.int .i64 (c : Int)) := fun w' h => (CS.out w' (HB4.out.trans (h.mono sz4))).1
    have tc2 : ∀ w', Below w4.heap.size w4 w' → w'.cell? ⟨w.heap.size, 1, none⟩ = some (.int .i64 (b : Int)) := fun w' h => (CS.out w' (HB4.out.trans (h.mono sz4))).2.1
    have tc3 : ∀ w', Below w4.heap.size w4 w' → w'.cell? ⟨w.heap.size, 2, none⟩ = some (.int .i64 (r : Int)) := fun w' h => (CS.out w' (HB4.out.trans (h.mono sz4))).2.2
    go_upto_region 4 with fail
    go_cut [10, 11] (fun s10 s11 wx => ∃ A1 k1 A2 k2, s10 = .slice A1 16 k1 ∧ s11 = .slice A2 40 k2 ∧ Owns wx w4.heap.size (.slice A1 16 k1) (firstL c b r 1) ∧ Owns wx w4.heap.size (.slice A2 40 k2) (formL c b r true m) ∧ Below w4.heap.size w4 wx)
    case first =>
      refine wp_region_held_drew (S := (fun w' => Below w4.heap.size w4 w')) (by kernel_rfl) ?_ (fun hHeld => ?_)
      · (try dsimp only); (first | exact (Below.refl _ _).drew | exact hHeld | exact hHeld.trans (hb.mono hHeld.size))
      refine wpAnyH_take (i := 0) (v := ?_) (op_at (pre := [])) (by kernel_rfl) (by kernel_rfl) (by kernel_rfl) (fun _ _ _ h => h) (Or.inl ⟨by rfl, ?_⟩) (by assumption) ?_
      rotate_left
      · intro w' hSw; (try dsimp only at hSw); go_simp; (try with_reducible rfl)
      simp only [Act.put, List.setIfInBounds_toArray, List.set_cons_zero, List.set_cons_succ]
      refine wpAnyH_take (i := 2) (v := ?_) (op_at (pre := [_, _])) (by kernel_rfl) (by kernel_rfl) (by kernel_rfl) (fun _ _ _ h => h) (Or.inl ⟨by rfl, ?_⟩) (by assumption) ?_
      rotate_left
      · intro w' hSw; (try dsimp only at hSw); go_simp; (try with_reducible rfl)
      simp only [Act.put, List.setIfInBounds_toArray, List.set_cons_zero, List.set_cons_succ]
      refine wpAnyH_take (i := 3) (v := ?_) (op_at (pre := [_, _, _])) (by kernel_rfl) (by kernel_rfl) (by kernel_rfl) (fun _ _ _ h => h) (Or.inl ⟨by rfl, ?_⟩) (by assumption) ?_
      rotate_left
      · intro w' hSw; (try dsimp only at hSw); go_simp; (try with_reducible rfl)
      simp only [Act.put, List.setIfInBounds_toArray, List.set_cons_zero, List.set_cons_succ]
      refine wpAnyH_ready (rs := [1]) (by kernel_rfl) (by simp) ?_
      refine AllReadyH.cons (op_at (pre := [_])) (fun K hK => ?_) AllReadyH.nil
      go_simp
      refine (plain_any c b r hc6 hb24 hr20 _).mono ?_
      rintro e w9 ⟨A1, k1, rfl, ho, hb⟩
      have HO1 := Lib.hid (ho.mono hHeld.size)
      go_wp2_with fail
      refine hK.out _ _ ?_ (fun hHeld => ?_)
      · (try dsimp only); (first | exact (Below.refl _ _).drew | exact hHeld | exact hHeld.trans (hb.mono hHeld.size))
      clear hK K
      refine wpAnyH_ready (rs := [4]) (by kernel_rfl) (by simp) ?_
      refine AllReadyH.cons (op_at (pre := [_, _, _, _])) (fun K hK => ?_) AllReadyH.nil
      go_simp
      refine (masked_any c b r m hc6 hb24 hr20 hm _).mono ?_
      rintro e w9 ⟨A2, k2, rfl, ho, hb⟩
      have HO2 := Lib.hid (ho.mono hHeld.size)
      have HO1' := Lib.hid (HO1.out.below hb)
      go_wp2_with fail
      refine hK.out _ _ ?_ (fun hHeld => ?_)
      · (try dsimp only); (first | exact (Below.refl _ _).drew | exact hHeld | exact hHeld.trans (hb.mono hHeld.size))
      clear hK K
      refine wpAnyH_take (i := 5) (v := ?_) (op_at (pre := [_, _, _, _, _])) (by kernel_rfl) (by kernel_rfl) (by kernel_rfl) (fun _ _ _ h => h) (Or.inl ⟨by rfl, ?_⟩) (by assumption) ?_
      rotate_left
      · intro w' hSw; (try dsimp only at hSw); go_simp; (try with_reducible rfl)
      simp only [Act.put, List.setIfInBounds_toArray, List.set_cons_zero, List.set_cons_succ]
      refine wpAnyH_take (i := 6) (v := ?_) (op_at (pre := [_, _, _, _, _, _])) (by kernel_rfl) (by kernel_rfl) (by kernel_rfl) (fun _ _ _ h => h) (Or.inl ⟨by rfl, ?_⟩) (by assumption) ?_
      rotate_left
      · intro w' hSw; (try dsimp only at hSw); go_simp; (try with_reducible rfl)
      simp only [Act.put, List.setIfInBounds_toArray, List.set_cons_zero, List.set_cons_succ]
      refine wpAnyH_done (by kernel_rfl) ?_ _
      go_wp2_with fail
      go_meet
      exact ⟨A1, k1, A2, k2, rfl, rfl, HO1'.out, HO2.out, hHeld⟩
    case rest =>
      obtain ⟨A1, k1, A2, k2, rfl, rfl, ho1, ho2, hbx⟩ := hcut
      rw [← HFP.out] at ho1
      have HO1 := Lib.hid ho1
      have HO2 := Lib.hid ho2
      have HBx := Lib.hid (HB4.out.trans (hbx.mono sz4))
      clear ho1 ho2 hbx tc1 tc2 tc3
      obtain ⟨e1, e2, e3⟩ := CS.out _ HBx.out
      go_wp2_with fail
      refine (reads_any _ _ _ _ _ _ _ _ HO1.out.arg (HV.out.below HBx.out)).mono ?_
      rintro e w5 ⟨rfl, hb⟩
      have HB5 := Lib.hid (HBx.out.trans (hb.mono HBx.out.size))
      have HO25 := Lib.hid (HO2.out.below hb)
      rw [HR1.out]
      clear hb e1 e2 e3 HO2 HO1
      obtain ⟨e1, e2, e3⟩ := CS.out _ HB5.out
      go_wp2_with fail
      refine (reads_any _ _ _ _ _ _ _ _ HO25.out.arg (HV.out.below HB5.out)).mono ?_
      rintro e w6 ⟨rfl, hb⟩
      have HB6 := Lib.hid (HB5.out.trans (hb.mono HB5.out.size))
      have HO6 := Lib.hid (HO25.out.below hb)
      rw [HR2.out]
      clear hb e1 e2 e3 HO25
      by_cases hp0 : p < 0
      · go_wp2_with fail
        go_ret
        exact ⟨rfl, HB.out.trans (HB6.out.mono HB.out.size)⟩
      by_cases hp40 : 40 ≤ p
      · go_wp2_with fail
        go_ret
        exact ⟨rfl, HB.out.trans (HB6.out.mono HB.out.size)⟩
      by_cases hq0 : q8.toNat = 0
      · have b0 : ((q8.toNat : Int) == 0) = true := by rw [beq_iff_eq]; omega
        clear hq0
        go_wp2_with fail
        go_ret
        exact ⟨rfl, HB.out.trans (HB6.out.mono HB.out.size)⟩
      have b0 : ((q8.toNat : Int) == 0) = false := beq_eq_false_iff_ne.2 (by omega)
      by_cases hp20 : 20 ≤ p ∧ p < 24
      · obtain ⟨g1, g2⟩ := hp20
        clear hq0
        go_wp2_with fail
        go_ret
        exact ⟨rfl, HB.out.trans (HB6.out.mono HB.out.size)⟩
      obtain ⟨i, rfl⟩ := Int.eq_ofNat_of_zero_le (show 0 ≤ p by omega)
      obtain ⟨g, hg, hg1, hg2⟩ := HO6.out.where_ (by decide)
      subst hg
      obtain ⟨z, hz2⟩ : ∃ z, z = (formL c b r true m).getD i 0 ^^^ q8 := ⟨_, rfl⟩
      have HK := Lib.hid (HFM.out i z (by omega) (by omega) (by rw [hz2]; exact xor_ne _ _ hq0))
      have hst := HO6.out.stored i z
      have hcell := HO6.out.cellAt (j := i) (by omega)
      have hfree := HO6.out.free i
      have hx : bits .xor .u8 (((formL c b r true m).getD i 0).toNat : Int) (q8.toNat : Int) = (z.toNat : Int) := by rw [hz2]; exact u8_xor_byte _ _
      have HBs := Lib.hid (HB6.out.grown hst.2 HB6.out.size (fun j hj => by cases hj; exact Nat.le_trans sz4 hg1))
      have HOs := Lib.hid hst.1
      generalize (formL c b r true m).getD i 0 = x0 at *
      have hi40 : (i : Int) < 40 := by omega
      have g3 : ¬ ((i : Int) < 0) := by omega
      clear hst hz2 hq0 hp0 hp40
      have HWS : Hid (w6.heap.size = w6.heap.size) := Lib.hid rfl
      by_cases h20 : (i : Int) < 20
      all_goals
        go_wp2_with fail
        refine (read_any _ _ _ _ _ HOs.out.arg (HV.out.below HBs.out)).mono ?_
        rintro e w7 ⟨rfl, hb⟩
        have HB7 := Lib.hid (HBs.out.trans (hb.mono HBs.out.size))
        clear hb hcell hfree
        obtain ⟨e1, e2, e3⟩ := CS.out _ HB7.out
        cases hr : readB ((formL c b r true m).set i z) with
        | false =>
          rw [readP_no' hr]
          clear hr
          go_wp2_with fail
          go_ret
          exact ⟨rfl, HB.out.trans ((HB7.out.alloc HB7.out.size _).mono HB.out.size)⟩
        | true =>
          have hk := HK.out
          unfold rdsB at hk
          rw [hr, Bool.true_and] at hk
          rw [readP_yes' hr]
          have hlt7 : w.heap.size < w7.heap.size := Nat.lt_of_lt_of_le hz HB7.out.size
          clear hr HFM HK HOs
          generalize rdN ((formL c b r true m).set i z) 1 = n1 at *
          generalize rdN ((formL c b r true m).set i z) 5 = n5 at *
          generalize rdN ((formL c b r true m).set i z) 2 = n2 at *
          cases hq1 : (n1 : Int) == (c : Int) <;> cases hq2 : (n5 : Int) == (b : Int) <;> cases hq3 : (n2 : Int) == (r : Int)
          all_goals first
            | (rw [hq1, hq2, hq3] at hk; exact absurd hk (by decide))
            | (clear hk
               go_wp2_with fail
               go_ret
               exact ⟨rfl, HB.out.trans ((HB7.out.alloc HB7.out.size _).mono HB.out.size)⟩)
end Go.Proofs.YtjcemacgiehklaaDoor

