/- FmtchunkBack: the walk. -/
import Derived.Test.YtjcemacgiehklaaDoorFmtAgainL
import Derived.Test.YtjcemacgiehklaaDoorOpAt
import Derived.Test.YtjcemacgiehklaaDoorOpenSound
namespace Go.Proofs.YtjcemacgiehklaaDoor
open Go.RowKit
attribute [local go_sem ↓] Go.wp_at_zero Go.wp_at_succ

theorem wr_len (c b r : Int) (hs : sndB c b r = true) : (wrL c b r).length = wrN c b r := by
  unfold wrL wrN
  rw [if_pos hs, if_pos hs, formL_length]
/-- Different sounds have different forms. -/
theorem wr_inj (c b r c2 b2 r2 : Int) (hs : sndB c b r = true) (ht : sndB c2 b2 r2 = true) (h : wrL c b r = wrL c2 b2 r2) : c = c2 ∧ b = b2 ∧ r = r2 := by
  have h1 := rds_written c b r hs
  have h2 := rds_written c2 b2 r2 ht
  rw [h] at h1
  unfold rdsB at h1 h2
  simp only [Bool.and_eq_true, beq_iff_eq] at h1 h2
  omega

theorem box33 (w : World) (x y z x' y' z' : Value) (t : TypeId) : ∃ w1, w1 = (w.alloc (.cells #[x, y, z] t)).alloc (.cells #[x', y', z'] t) ∧ w1.cell? ⟨w.heap.size, 0, none⟩ = some x ∧ w1.cell? ⟨w.heap.size, 1, none⟩ = some y ∧ w1.cell? ⟨w.heap.size, 2, none⟩ = some z ∧ w1.cell? ⟨w.heap.size + 1, 0, none⟩ = some x' ∧ w1.cell? ⟨w.heap.size + 1, 1, none⟩ = some y' ∧ w1.cell? ⟨w.heap.size + 1, 2, none⟩ = some z' ∧ Below w.heap.size w w1 ∧ w.heap.size + 1 < w1.heap.size := by
  have hs : (w.alloc (.cells #[x, y, z] t)).heap.size = w.heap.size + 1 := by simp
  refine ⟨_, rfl, ?_, ?_, ?_, ?_, ?_, ?_, ((Below.refl _ _).alloc (Nat.le_refl _) _).alloc (by simp) _, by simp⟩
  · rw [World.cell?_alloc_lt _ _ _ (by simp), World.cell?_alloc_at _ _ _ _ rfl]; rfl
  · rw [World.cell?_alloc_lt _ _ _ (by simp), World.cell?_alloc_at _ _ _ _ rfl]; rfl
  · rw [World.cell?_alloc_lt _ _ _ (by simp), World.cell?_alloc_at _ _ _ _ rfl]; rfl
  · rw [← hs, World.cell?_alloc_at _ _ _ _ rfl]; rfl
  · rw [← hs, World.cell?_alloc_at _ _ _ _ rfl]; rfl
  · rw [← hs, World.cell?_alloc_at _ _ _ _ rfl]; rfl

set_option maxRecDepth 100000 in
set_option maxHeartbeats 4000000 in
theorem fmtback_calls (w : World) (hv : FVars w) (c b r : Int) (_h1 : (Lit.int .i64 c).wf = true) (_h2 : (Lit.int .i64 b).wf = true) (_h3 : (Lit.int .i64 r).wf = true) (c2 b2 r2 : Int) (_h4 : (Lit.int .i64 c2).wf = true) (_h5 : (Lit.int .i64 b2).wf = true) (_h6 : (Lit.int .i64 r2).wf = true) :
    Calls Tryd.prog 6 #[.agg #[.int .i64 c, .int .i64 b, .int .i64 r], .agg #[.int .i64 c2, .int .i64 b2, .int .i64 r2]] w fun e w' => e = .returned (.bool true) ∧ Below w.heap.size w w' := by
  obtain ⟨w1, hw1, d1, d2, d3, f1, f2, f3, hB, hz⟩ := box33 w (.int .i64 c) (.int .i64 b) (.int .i64 r) (.int .i64 c2) (.int .i64 b2) (.int .i64 r2) 23
  have HW := Lib.hid hw1
  have HB := Lib.hid hB
  have HV := Lib.hid (hv.below hB)
  have hz0 : w.heap.size < w1.heap.size := by omega
  clear hw1 hB hv _h1 _h2 _h3 _h4 _h5 _h6
  have cs : ∀ w', Below w1.heap.size w1 w' → w'.cell? ⟨w.heap.size, 0, none⟩ = some (.int .i64 c) ∧ w'.cell? ⟨w.heap.size, 1, none⟩ = some (.int .i64 b) ∧ w'.cell? ⟨w.heap.size, 2, none⟩ = some (.int .i64 r) ∧ w'.cell? ⟨w.heap.size + 1, 0, none⟩ = some (.int .i64 c2) ∧ w'.cell? ⟨w.heap.size + 1, 1, none⟩ = some (.int .i64 b2) ∧ w'.cell? ⟨w.heap.size + 1, 2, none⟩ = some (.int .i64 r2) := fun w' h =>
    ⟨(h.cell (p := ⟨w.heap.size, 0, none⟩) hz0).trans d1, (h.cell (p := ⟨w.heap.size, 1, none⟩) hz0).trans d2, (h.cell (p := ⟨w.heap.size, 2, none⟩) hz0).trans d3, (h.cell (p := ⟨w.heap.size + 1, 0, none⟩) hz).trans f1, (h.cell (p := ⟨w.heap.size + 1, 1, none⟩) hz).trans f2, (h.cell (p := ⟨w.heap.size + 1, 2, none⟩) hz).trans f3⟩
  have CS := Lib.hid cs
  clear cs d1 d2 d3 f1 f2 f3
  go_enter Tryd.func6, Tryd.ntmps6
  go_wp2_with fail
  rw [← HW.out]
  refine (alive32_any _ HV.out).mono ?_
  rintro e w2 ⟨rfl, hb⟩
  have HB2 := Lib.hid hb
  clear hb
  obtain ⟨e1, e2, e3, k1, k2, k3⟩ := CS.out _ HB2.out
  go_wp2_with fail
  refine (write_any _ _ _ _ (HV.out.below HB2.out)).mono ?_
  rintro e w3 ⟨A3, q3, rfl, ho, hb⟩
  have HO3 := Lib.hid ho
  have HB3 := Lib.hid (HB2.out.trans (hb.mono HB2.out.size))
  clear ho hb e1 e2 e3 k1 k2 k3
  obtain ⟨e1, e2, e3, k1, k2, k3⟩ := CS.out _ HB3.out
  go_wp2_with fail
  refine (write_any _ _ _ _ (HV.out.below HB3.out)).mono ?_
  rintro e w4 ⟨A4, q4, rfl, ho, hb⟩
  have HO4 := Lib.hid ho
  have HO34 := Lib.hid (HO3.out.below hb)
  have HB4 := Lib.hid (HB3.out.trans (hb.mono HB3.out.size))
  clear ho hb e1 e2 e3 k1 k2 k3
  obtain ⟨e1, e2, e3, k1, k2, k3⟩ := CS.out _ HB4.out
  cases hs : sndB c b r with
  | false =>
    cases ht : sndB c2 b2 r2 with
    | false =>
      have HE1 : Hid (sndE c b r = 8) := Lib.hid (by unfold sndE; rw [hs]; rfl)
      have HE2 : Hid (sndE c2 b2 r2 = 8) := Lib.hid (by unfold sndE; rw [ht]; rfl)
      rw [HE1.out, HE2.out]
      clear hs ht
      go_wp2_with fail
      refine (check_any _ _ _ _).mono ?_
      rintro e w5 ⟨rfl, hb⟩
      have HB5 := Lib.hid (HB4.out.trans (hb.mono HB4.out.size))
      rw [HE1.out]
      clear hb e1 e2 e3 k1 k2 k3
      obtain ⟨e1, e2, e3, k1, k2, k3⟩ := CS.out _ HB5.out
      go_wp2_with fail
      refine (check_any _ _ _ _).mono ?_
      rintro e w6 ⟨rfl, hb⟩
      have HB6 := Lib.hid (HB5.out.trans (hb.mono HB5.out.size))
      rw [HE2.out]
      clear hb
      go_wp2_with fail
      go_ret
      exact ⟨rfl, HB.out.trans (HB6.out.mono HB.out.size)⟩
    | true =>
      have HE1 : Hid (sndE c b r = 8) := Lib.hid (by unfold sndE; rw [hs]; rfl)
      have HE2 : Hid (sndE c2 b2 r2 = 0) := Lib.hid (by unfold sndE; rw [ht]; rfl)
      rw [HE1.out, HE2.out]
      clear hs ht
      go_wp2_with fail
      refine (check_any _ _ _ _).mono ?_
      rintro e w5 ⟨rfl, hb⟩
      have HB5 := Lib.hid (HB4.out.trans (hb.mono HB4.out.size))
      rw [HE1.out]
      clear hb e1 e2 e3 k1 k2 k3
      obtain ⟨e1, e2, e3, k1, k2, k3⟩ := CS.out _ HB5.out
      go_wp2_with fail
      refine (check_any _ _ _ _).mono ?_
      rintro e w6 ⟨rfl, hb⟩
      have HB6 := Lib.hid (HB5.out.trans (hb.mono HB5.out.size))
      rw [HE2.out]
      clear hb
      go_wp2_with fail
      go_ret
      exact ⟨rfl, HB.out.trans (HB6.out.mono HB.out.size)⟩
  | true =>
    cases ht : sndB c2 b2 r2 with
    | false =>
      have HE1 : Hid (sndE c b r = 0) := Lib.hid (by unfold sndE; rw [hs]; rfl)
      have HE2 : Hid (sndE c2 b2 r2 = 8) := Lib.hid (by unfold sndE; rw [ht]; rfl)
      rw [HE1.out, HE2.out]
      clear hs ht
      go_wp2_with fail
      refine (check_any _ _ _ _).mono ?_
      rintro e w5 ⟨rfl, hb⟩
      have HB5 := Lib.hid (HB4.out.trans (hb.mono HB4.out.size))
      rw [HE1.out]
      clear hb e1 e2 e3 k1 k2 k3
      obtain ⟨e1, e2, e3, k1, k2, k3⟩ := CS.out _ HB5.out
      go_wp2_with fail
      refine (check_any _ _ _ _).mono ?_
      rintro e w6 ⟨rfl, hb⟩
      have HB6 := Lib.hid (HB5.out.trans (hb.mono HB5.out.size))
      rw [HE2.out]
      clear hb
      go_wp2_with fail
      go_ret
      exact ⟨rfl, HB.out.trans (HB6.out.mono HB.out.size)⟩
    | true =>
      have HE1 : Hid (sndE c b r = 0) := Lib.hid (by unfold sndE; rw [hs]; rfl)
      have HE2 : Hid (sndE c2 b2 r2 = 0) := Lib.hid (by unfold sndE; rw [ht]; rfl)
      have HN1 : Hid (wrN c b r = formN (broadB c b)) := Lib.hid (by unfold wrN; rw [hs]; rfl)
      have HWD : Hid (wideB c b r = broadB c b) := Lib.hid (by unfold wideB; rw [hs]; rfl)
      have HR1 := Lib.hid (rds_written _ _ _ hs)
      have HR2 := Lib.hid (rds_written _ _ _ ht)
      have HJ := Lib.hid (wr_inj c b r c2 b2 r2 hs ht)
      rw [HE1.out, HE2.out]
      clear hs ht
      go_wp2_with fail
      refine (wide_any _ _ _ _).mono ?_
      rintro e w5 ⟨rfl, hb⟩
      have HB5 := Lib.hid (HB4.out.trans (hb.mono HB4.out.size))
      have HO45 := Lib.hid (HO4.out.below hb)
      have HO35 := Lib.hid (HO34.out.below hb)
      rw [HE1.out, HWD.out]
      clear hb e1 e2 e3 k1 k2 k3
      have sz5 := HB5.out.size
      have tc1 : ∀ w', Below w5.heap.size w5 w' → w'.cell? ⟨w.heap.size, 0, none⟩ = some (.int .i64 c) := fun w' h => (CS.out w' (HB5.out.trans (h.mono sz5))).1
      have tc2 : ∀ w', Below w5.heap.size w5 w' → w'.cell? ⟨w.heap.size, 1, none⟩ = some (.int .i64 b) := fun w' h => (CS.out w' (HB5.out.trans (h.mono sz5))).2.1
      have tc3 : ∀ w', Below w5.heap.size w5 w' → w'.cell? ⟨w.heap.size, 2, none⟩ = some (.int .i64 r) := fun w' h => (CS.out w' (HB5.out.trans (h.mono sz5))).2.2.1
      have td1 : ∀ w', Below w5.heap.size w5 w' → w'.cell? ⟨w.heap.size + 1, 0, none⟩ = some (.int .i64 c2) := fun w' h => (CS.out w' (HB5.out.trans (h.mono sz5))).2.2.2.1
      have td2 : ∀ w', Below w5.heap.size w5 w' → w'.cell? ⟨w.heap.size + 1, 1, none⟩ = some (.int .i64 b2) := fun w' h => (CS.out w' (HB5.out.trans (h.mono sz5))).2.2.2.2.1
      have td3 : ∀ w', Below w5.heap.size w5 w' → w'.cell? ⟨w.heap.size + 1, 2, none⟩ = some (.int .i64 r2) := fun w' h => (CS.out w' (HB5.out.trans (h.mono sz5))).2.2.2.2.2
      have ta : ∀ w', Below w5.heap.size w5 w' → (convert 24 9 (.slice A3 (wrN c b r) q3)).run Tryd.prog w' = .ok (.string ⟨(wrL c b r).toArray⟩) w' := fun w' h => (HO35.out.below h).arg.text
      have tb : ∀ w', Below w5.heap.size w5 w' → (convert 24 9 (.slice A4 (wrN c2 b2 r2) q4)).run Tryd.prog w' = .ok (.string ⟨(wrL c2 b2 r2).toArray⟩) w' := fun w' h => (HO45.out.below h).arg.text
      have CR1 := fun w' (h : Below w5.heap.size w5 w') => reads_any A3 (wrN c b r) q3 (wrL c b r) c b r w' (HO35.out.below h).arg (HV.out.below (HB5.out.trans (h.mono sz5)))
      have CR2 := fun w' (h : Below w5.heap.size w5 w') => reads_any A4 (wrN c2 b2 r2) q4 (wrL c2 b2 r2) c2 b2 r2 w' (HO45.out.below h).arg (HV.out.below (HB5.out.trans (h.mono sz5)))
      rw [HR1.out] at CR1
      rw [HR2.out] at CR2
      have CR1 := Lib.hid CR1
      have CR2 := Lib.hid CR2
      clear HO35 HO45 HO34 HO4 HO3 HR1 HR2
      rw [HN1.out] at ta CR1 ⊢
      clear HN1
      have key : (wrL c b r == wrL c2 b2 r2) = (c == c2 && (b == b2 && r == r2)) := by
        rw [Bool.eq_iff_iff]
        simp only [beq_iff_eq, Bool.and_eq_true]
        constructor
        · exact HJ.out
        · rintro ⟨rfl, rfl, rfl⟩; rfl
      generalize wrL c b r = L1 at *
      generalize wrL c2 b2 r2 = L2 at *
      generalize wrN c2 b2 r2 = N2 at *
      clear HJ
      cases hwd : broadB c b <;> cases hq1 : c == c2 <;> cases hq2 : b == b2 <;> cases hq3 : r == r2
      all_goals
        rw [hwd] at ta CR1
        rw [hq1, hq2, hq3] at key
        (first | (replace key : (L1 == L2) = true := key) | (replace key : (L1 == L2) = false := key))
        clear hwd
        go_upto_region 10 with fail
        refine wp_region_held_drew (S := (fun w' => Below w5.heap.size w5 w')) (by kernel_rfl) ?_ (fun hHeld => ?_)
        · (try dsimp only); (first | exact (Below.refl _ _).drew | exact hHeld | exact hHeld.trans (hb.mono hHeld.size))
        refine wpAnyH_take (i := 0) (v := ?_) (op_at (pre := [])) (by kernel_rfl) (by kernel_rfl) (by kernel_rfl) (fun _ _ _ h => h) (Or.inl ⟨by rfl, ?_⟩) (by assumption) ?_
        rotate_left
        · intro w' hSw; (try dsimp only at hSw); go_simp; (try with_reducible rfl)
        simp only [Act.put, List.setIfInBounds_toArray, List.set_cons_zero, List.set_cons_succ]
        refine wpAnyH_take (i := 1) (v := ?_) (op_at (pre := [_])) (by kernel_rfl) (by kernel_rfl) (by kernel_rfl) (fun _ _ _ h => h) (Or.inl ⟨by rfl, ?_⟩) (by assumption) ?_
        rotate_left
        · intro w' hSw; (try dsimp only at hSw); go_simp; (try with_reducible rfl)
        simp only [Act.put, List.setIfInBounds_toArray, List.set_cons_zero, List.set_cons_succ]
        refine wpAnyH_take (i := 2) (v := ?_) (op_at (pre := [_, _])) (by kernel_rfl) (by kernel_rfl) (by kernel_rfl) (fun _ _ _ h => h) (Or.inl ⟨by rfl, ?_⟩) (by assumption) ?_
        rotate_left
        · intro w' hSw; (try dsimp only at hSw); go_simp; (try with_reducible rfl)
        simp only [Act.put, List.setIfInBounds_toArray, List.set_cons_zero, List.set_cons_succ]
        refine wpAnyH_take (i := 3) (v := ?_) (op_at (pre := [_, _, _])) (by kernel_rfl) (by kernel_rfl) (by kernel_rfl) (fun _ _ _ h => h) (Or.inl ⟨by rfl, ?_⟩) (by assumption) ?_
        rotate_left
        · intro w' hSw; (try dsimp only at hSw); go_simp; (try with_reducible rfl)
        simp only [Act.put, List.setIfInBounds_toArray, List.set_cons_zero, List.set_cons_succ]
        refine wpAnyH_take (i := 4) (v := ?_) (op_at (pre := [_, _, _, _])) (by kernel_rfl) (by kernel_rfl) (by kernel_rfl) (fun _ _ _ h => h) (Or.inl ⟨by rfl, ?_⟩) (by assumption) ?_
        rotate_left
        · intro w' hSw; (try dsimp only at hSw); go_simp; (try with_reducible rfl)
        simp only [Act.put, List.setIfInBounds_toArray, List.set_cons_zero, List.set_cons_succ]
        refine wpAnyH_take (i := 5) (v := ?_) (op_at (pre := [_, _, _, _, _])) (by kernel_rfl) (by kernel_rfl) (by kernel_rfl) (fun _ _ _ h => h) (Or.inl ⟨by rfl, ?_⟩) (by assumption) ?_
        rotate_left
        · intro w' hSw; (try dsimp only at hSw); go_simp; (try with_reducible rfl)
        simp only [Act.put, List.setIfInBounds_toArray, List.set_cons_zero, List.set_cons_succ]
        refine wpAnyH_take (i := 6) (v := ?_) (op_at (pre := [_, _, _, _, _, _])) (by kernel_rfl) (by kernel_rfl) (by kernel_rfl) (fun _ _ _ h => h) (Or.inl ⟨by rfl, ?_⟩) (by assumption) ?_
        rotate_left
        · intro w' hSw; (try dsimp only at hSw); go_simp; (try with_reducible rfl)
        simp only [Act.put, List.setIfInBounds_toArray, List.set_cons_zero, List.set_cons_succ]
        refine wpAnyH_take (i := 7) (v := ?_) (op_at (pre := [_, _, _, _, _, _, _])) (by kernel_rfl) (by kernel_rfl) (by kernel_rfl) (fun _ _ _ h => h) (Or.inl ⟨by rfl, ?_⟩) (by assumption) ?_
        rotate_left
        · intro w' hSw; (try dsimp only at hSw); go_simp; (try with_reducible rfl)
        simp only [Act.put, List.setIfInBounds_toArray, List.set_cons_zero, List.set_cons_succ]
        refine wpAnyH_take (i := 8) (v := ?_) (op_at (pre := [_, _, _, _, _, _, _, _])) (by kernel_rfl) (by kernel_rfl) (by kernel_rfl) (fun _ _ _ h => h) (Or.inl ⟨by rfl, ?_⟩) (by assumption) ?_
        rotate_left
        · intro w' hSw; (try dsimp only at hSw); go_simp; (try with_reducible rfl)
        simp only [Act.put, List.setIfInBounds_toArray, List.set_cons_zero, List.set_cons_succ]
        refine wpAnyH_take (i := 9) (v := ?_) (op_at (pre := [_, _, _, _, _, _, _, _, _])) (by kernel_rfl) (by kernel_rfl) (by kernel_rfl) (fun _ _ _ h => h) (Or.inl ⟨by rfl, ?_⟩) (by assumption) ?_
        rotate_left
        · intro w' hSw; (try dsimp only at hSw); go_simp; (try with_reducible rfl)
        simp only [Act.put, List.setIfInBounds_toArray, List.set_cons_zero, List.set_cons_succ]
        refine wpAnyH_take (i := 10) (v := ?_) (op_at (pre := [_, _, _, _, _, _, _, _, _, _])) (by kernel_rfl) (by kernel_rfl) (by kernel_rfl) (fun _ _ _ h => h) (Or.inl ⟨by rfl, ?_⟩) (by assumption) ?_
        rotate_left
        · intro w' hSw; (try dsimp only at hSw); go_simp; (try with_reducible rfl)
        simp only [Act.put, List.setIfInBounds_toArray, List.set_cons_zero, List.set_cons_succ]
        refine wpAnyH_take (i := 11) (v := ?_) (op_at (pre := [_, _, _, _, _, _, _, _, _, _, _])) (by kernel_rfl) (by kernel_rfl) (by kernel_rfl) (fun _ _ _ h => h) (Or.inl ⟨by rfl, ?_⟩) (by assumption) ?_
        rotate_left
        · intro w' hSw; (try dsimp only at hSw); go_simp; (try with_reducible rfl)
        simp only [Act.put, List.setIfInBounds_toArray, List.set_cons_zero, List.set_cons_succ]
        refine wpAnyH_take (i := 12) (v := ?_) (op_at (pre := [_, _, _, _, _, _, _, _, _, _, _, _])) (by kernel_rfl) (by kernel_rfl) (by kernel_rfl) (fun _ _ _ h => h) (Or.inl ⟨by rfl, ?_⟩) (by assumption) ?_
        rotate_left
        · intro w' hSw; (try dsimp only at hSw); go_simp; (try with_reducible rfl)
        simp only [Act.put, List.setIfInBounds_toArray, List.set_cons_zero, List.set_cons_succ]
        refine wpAnyH_take (i := 13) (v := ?_) (op_at (pre := [_, _, _, _, _, _, _, _, _, _, _, _, _])) (by kernel_rfl) (by kernel_rfl) (by kernel_rfl) (fun _ _ _ h => h) (Or.inl ⟨by rfl, ?_⟩) (by assumption) ?_
        rotate_left
        · intro w' hSw; (try dsimp only at hSw); go_simp; (try with_reducible rfl)
        simp only [Act.put, List.setIfInBounds_toArray, List.set_cons_zero, List.set_cons_succ]
        refine wpAnyH_ready (rs := [14]) (by kernel_rfl) (by simp) ?_
        refine AllReadyH.cons (op_at (pre := [_, _, _, _, _, _, _, _, _, _, _, _, _, _])) (fun K hK => ?_) AllReadyH.nil
        go_simp
        refine (CR1.out _ hHeld).mono ?_
        rintro e w9 ⟨rfl, hb⟩
        go_wp2_with fail
        refine hK.out _ _ ?_ (fun hHeld => ?_)
        · (try dsimp only); (first | exact (Below.refl _ _).drew | exact hHeld | exact hHeld.trans (hb.mono hHeld.size))
        clear hK K
        refine wpAnyH_take (i := 15) (v := ?_) (op_at (pre := [_, _, _, _, _, _, _, _, _, _, _, _, _, _, _])) (by kernel_rfl) (by kernel_rfl) (by kernel_rfl) (fun _ _ _ h => h) (Or.inl ⟨by rfl, ?_⟩) (by assumption) ?_
        rotate_left
        · intro w' hSw; (try dsimp only at hSw); go_simp; (try with_reducible rfl)
        simp only [Act.put, List.setIfInBounds_toArray, List.set_cons_zero, List.set_cons_succ]
        refine wpAnyH_take (i := 16) (v := ?_) (op_at (pre := [_, _, _, _, _, _, _, _, _, _, _, _, _, _, _, _])) (by kernel_rfl) (by kernel_rfl) (by kernel_rfl) (fun _ _ _ h => h) (Or.inl ⟨by rfl, ?_⟩) (by assumption) ?_
        rotate_left
        · intro w' hSw; (try dsimp only at hSw); go_simp; (try with_reducible rfl)
        simp only [Act.put, List.setIfInBounds_toArray, List.set_cons_zero, List.set_cons_succ]
        refine wpAnyH_take (i := 17) (v := ?_) (op_at (pre := [_, _, _, _, _, _, _, _, _, _, _, _, _, _, _, _, _])) (by kernel_rfl) (by kernel_rfl) (by kernel_rfl) (fun _ _ _ h => h) (Or.inl ⟨by rfl, ?_⟩) (by assumption) ?_
        rotate_left
        · intro w' hSw; (try dsimp only at hSw); go_simp; (try with_reducible rfl)
        simp only [Act.put, List.setIfInBounds_toArray, List.set_cons_zero, List.set_cons_succ]
        refine wpAnyH_take (i := 18) (v := ?_) (op_at (pre := [_, _, _, _, _, _, _, _, _, _, _, _, _, _, _, _, _, _])) (by kernel_rfl) (by kernel_rfl) (by kernel_rfl) (fun _ _ _ h => h) (Or.inl ⟨by rfl, ?_⟩) (by assumption) ?_
        rotate_left
        · intro w' hSw; (try dsimp only at hSw); go_simp; (try with_reducible rfl)
        simp only [Act.put, List.setIfInBounds_toArray, List.set_cons_zero, List.set_cons_succ]
        refine wpAnyH_ready (rs := [19]) (by kernel_rfl) (by simp) ?_
        refine AllReadyH.cons (op_at (pre := [_, _, _, _, _, _, _, _, _, _, _, _, _, _, _, _, _, _, _])) (fun K hK => ?_) AllReadyH.nil
        go_simp
        refine (CR2.out _ hHeld).mono ?_
        rintro e w9 ⟨rfl, hb⟩
        go_wp2_with fail
        refine hK.out _ _ ?_ (fun hHeld => ?_)
        · (try dsimp only); (first | exact (Below.refl _ _).drew | exact hHeld | exact hHeld.trans (hb.mono hHeld.size))
        clear hK K
        refine wpAnyH_take (i := 20) (v := ?_) (op_at (pre := [_, _, _, _, _, _, _, _, _, _, _, _, _, _, _, _, _, _, _, _])) (by kernel_rfl) (by kernel_rfl) (by kernel_rfl) (fun _ _ _ h => h) (Or.inl ⟨by rfl, ?_⟩) (by assumption) ?_
        rotate_left
        · intro w' hSw; (try dsimp only at hSw); go_simp; (try with_reducible rfl)
        simp only [Act.put, List.setIfInBounds_toArray, List.set_cons_zero, List.set_cons_succ]
        refine wpAnyH_take (i := 21) (v := ?_) (op_at (pre := [_, _, _, _, _, _, _, _, _, _, _, _, _, _, _, _, _, _, _, _, _])) (by kernel_rfl) (by kernel_rfl) (by kernel_rfl) (fun _ _ _ h => h) (Or.inl ⟨by rfl, ?_⟩) (by assumption) ?_
        rotate_left
        · intro w' hSw; (try dsimp only at hSw); go_simp; (try with_reducible rfl)
        simp only [Act.put, List.setIfInBounds_toArray, List.set_cons_zero, List.set_cons_succ]
        refine wpAnyH_take (i := 22) (v := ?_) (op_at (pre := [_, _, _, _, _, _, _, _, _, _, _, _, _, _, _, _, _, _, _, _, _, _])) (by kernel_rfl) (by kernel_rfl) (by kernel_rfl) (fun _ _ _ h => h) (Or.inl ⟨by rfl, ?_⟩) (by assumption) ?_
        rotate_left
        · intro w' hSw; (try dsimp only at hSw); go_simp; (try with_reducible rfl)
        simp only [Act.put, List.setIfInBounds_toArray, List.set_cons_zero, List.set_cons_succ]
        refine wpAnyH_take (i := 23) (v := ?_) (op_at (pre := [_, _, _, _, _, _, _, _, _, _, _, _, _, _, _, _, _, _, _, _, _, _, _])) (by kernel_rfl) (by kernel_rfl) (by kernel_rfl) (fun _ _ _ h => h) (Or.inl ⟨by rfl, ?_⟩) (by assumption) ?_
        rotate_left
        · intro w' hSw; (try dsimp only at hSw); go_simp; (try with_reducible rfl)
        simp only [Act.put, List.setIfInBounds_toArray, List.set_cons_zero, List.set_cons_succ]
        refine wpAnyH_take (i := 24) (v := ?_) (op_at (pre := [_, _, _, _, _, _, _, _, _, _, _, _, _, _, _, _, _, _, _, _, _, _, _, _])) (by kernel_rfl) (by kernel_rfl) (by kernel_rfl) (fun _ _ _ h => h) (Or.inl ⟨by rfl, ?_⟩) (by assumption) ?_
        rotate_left
        · intro w' hSw; (try dsimp only at hSw); go_simp; (try with_reducible rfl)
        simp only [Act.put, List.setIfInBounds_toArray, List.set_cons_zero, List.set_cons_succ]
        refine wpAnyH_take (i := 25) (v := ?_) (op_at (pre := [_, _, _, _, _, _, _, _, _, _, _, _, _, _, _, _, _, _, _, _, _, _, _, _, _])) (by kernel_rfl) (by kernel_rfl) (by kernel_rfl) (fun _ _ _ h => h) (Or.inl ⟨by rfl, ?_⟩) (by assumption) ?_
        rotate_left
        · intro w' hSw; (try dsimp only at hSw); go_simp; (try with_reducible rfl)
        simp only [Act.put, List.setIfInBounds_toArray, List.set_cons_zero, List.set_cons_succ]
        refine wpAnyH_take (i := 26) (v := ?_) (op_at (pre := [_, _, _, _, _, _, _, _, _, _, _, _, _, _, _, _, _, _, _, _, _, _, _, _, _, _])) (by kernel_rfl) (by kernel_rfl) (by kernel_rfl) (fun _ _ _ h => h) (Or.inl ⟨by rfl, ?_⟩) (by assumption) ?_
        rotate_left
        · intro w' hSw; (try dsimp only at hSw); go_simp; (try with_reducible rfl)
        simp only [Act.put, List.setIfInBounds_toArray, List.set_cons_zero, List.set_cons_succ]
        refine wpAnyH_take (i := 27) (v := ?_) (op_at (pre := [_, _, _, _, _, _, _, _, _, _, _, _, _, _, _, _, _, _, _, _, _, _, _, _, _, _, _])) (by kernel_rfl) (by kernel_rfl) (by kernel_rfl) (fun _ _ _ h => h) (Or.inl ⟨by rfl, ?_⟩) (by assumption) ?_
        rotate_left
        · intro w' hSw; (try dsimp only at hSw); go_simp; (try with_reducible rfl)
        simp only [Act.put, List.setIfInBounds_toArray, List.set_cons_zero, List.set_cons_succ]
        refine wpAnyH_take (i := 28) (v := ?_) (op_at (pre := [_, _, _, _, _, _, _, _, _, _, _, _, _, _, _, _, _, _, _, _, _, _, _, _, _, _, _, _])) (by kernel_rfl) (by kernel_rfl) (by kernel_rfl) (fun _ _ _ h => h) (Or.inl ⟨by rfl, ?_⟩) (by assumption) ?_
        rotate_left
        · intro w' hSw; (try dsimp only at hSw); go_simp; (try with_reducible rfl)
        simp only [Act.put, List.setIfInBounds_toArray, List.set_cons_zero, List.set_cons_succ]
        refine wpAnyH_take (i := 29) (v := ?_) (op_at (pre := [_, _, _, _, _, _, _, _, _, _, _, _, _, _, _, _, _, _, _, _, _, _, _, _, _, _, _, _, _])) (by kernel_rfl) (by kernel_rfl) (by kernel_rfl) (fun _ _ _ h => h) (Or.inl ⟨by rfl, ?_⟩) (by assumption) ?_
        rotate_left
        · intro w' hSw; (try dsimp only at hSw); go_simp; (try with_reducible rfl)
        simp only [Act.put, List.setIfInBounds_toArray, List.set_cons_zero, List.set_cons_succ]
        refine wpAnyH_take (i := 30) (v := ?_) (op_at (pre := [_, _, _, _, _, _, _, _, _, _, _, _, _, _, _, _, _, _, _, _, _, _, _, _, _, _, _, _, _, _])) (by kernel_rfl) (by kernel_rfl) (by kernel_rfl) (fun _ _ _ h => h) (Or.inl ⟨by rfl, ?_⟩) (by assumption) ?_
        rotate_left
        · intro w' hSw; (try dsimp only at hSw); go_simp; (try with_reducible rfl)
        simp only [Act.put, List.setIfInBounds_toArray, List.set_cons_zero, List.set_cons_succ]
        refine wpAnyH_take (i := 31) (v := ?_) (op_at (pre := [_, _, _, _, _, _, _, _, _, _, _, _, _, _, _, _, _, _, _, _, _, _, _, _, _, _, _, _, _, _, _])) (by kernel_rfl) (by kernel_rfl) (by kernel_rfl) (fun _ _ _ h => h) (Or.inl ⟨by rfl, ?_⟩) (by assumption) ?_
        rotate_left
        · intro w' hSw; (try dsimp only at hSw); go_simp; (try with_reducible rfl)
        simp only [Act.put, List.setIfInBounds_toArray, List.set_cons_zero, List.set_cons_succ]
        refine wpAnyH_take (i := 32) (v := ?_) (op_at (pre := [_, _, _, _, _, _, _, _, _, _, _, _, _, _, _, _, _, _, _, _, _, _, _, _, _, _, _, _, _, _, _, _])) (by kernel_rfl) (by kernel_rfl) (by kernel_rfl) (fun _ _ _ h => h) (Or.inl ⟨by rfl, ?_⟩) (by assumption) ?_
        rotate_left
        · intro w' hSw; (try dsimp only at hSw); go_simp; (try with_reducible rfl)
        simp only [Act.put, List.setIfInBounds_toArray, List.set_cons_zero, List.set_cons_succ]
        refine wpAnyH_done (by kernel_rfl) ?_ _
        go_wp2_with fail
        go_ret
        exact ⟨rfl, HB.out.trans ((HB5.out.trans (hHeld.mono HB5.out.size)).mono HB.out.size)⟩
end Go.Proofs.YtjcemacgiehklaaDoor

