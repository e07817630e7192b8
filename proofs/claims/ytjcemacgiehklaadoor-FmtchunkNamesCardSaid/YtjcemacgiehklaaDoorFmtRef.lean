/- The walks of the reference of layer 32: Check, Broad, Wide, first, Plain, Masked. -/
import Derived.Test.YtjcemacgiehklaaDoorFmtForm
import Derived.Test.YtjcemacgiehklaaDoorRef01
namespace Go.Proofs.YtjcemacgiehklaaDoor
open Go.RowKit

theorem rsnd_cases (c b r : Int) : (sndE c b r = 8 ∧ (c < 1 ∨ (1 ≤ c ∧ 6 < c) ∨ (1 ≤ c ∧ c ≤ 6 ∧ (b != 8) = true ∧ (b != 16) = true ∧ (b != 24) = true) ∨ (1 ≤ c ∧ c ≤ 6 ∧ r < 1 ∧ (b = 8 ∨ b = 16 ∨ b = 24)) ∨ (1 ≤ c ∧ c ≤ 6 ∧ 1 ≤ r ∧ 1048576 < r ∧ (b = 8 ∨ b = 16 ∨ b = 24)))) ∨
    (sndE c b r = 0 ∧ 1 ≤ c ∧ c ≤ 6 ∧ 1 ≤ r ∧ r ≤ 1048576 ∧ (b = 8 ∨ b = 16 ∨ b = 24)) := by
  rcases snd_cases c b r with ⟨he, h⟩ | h
  · left
    refine ⟨he, ?_⟩
    simp only [beq_eq_false_iff_ne] at h
    simp only [bne_iff_ne]
    omega
  · right; exact h

set_option maxHeartbeats 1000000 in
theorem rcheck_any (c b r : Int) (w : World) :
    Calls Tryd.prog 14 #[.agg #[.int .i64 c, .int .i64 b, .int .i64 r]] w fun e w' => e = .returned (.int .i64 (sndE c b r)) ∧ Below w.heap.size w w' := by
  rcases rsnd_cases c b r with ⟨he, h | ⟨h1, h2⟩ | ⟨h1, h2, h3, h4, h5⟩ | ⟨h1, h2, h3, rfl | rfl | rfl⟩ | ⟨h1, h2, h3, h4, rfl | rfl | rfl⟩⟩ | ⟨he, h1, h2, h3, h4, rfl | rfl | rfl⟩
  all_goals
    have HE := Lib.hid he
    clear he
    go_enter Tryd.func14, Tryd.ntmps14
    go_wp2_with fail
    go_ret
    exact ⟨by rw [HE.out]; rfl, (Below.refl _ _).alloc (Nat.le_refl _) _⟩

set_option maxHeartbeats 1000000 in
theorem rbroad_any (c b r : Int) (w : World) :
    Calls Tryd.prog 24 #[.agg #[.int .i64 c, .int .i64 b, .int .i64 r]] w fun e w' => e = .returned (.bool (broadB c b)) ∧ Below w.heap.size w w' := by
  have key : (broadB c b = true ∧ decide (2 < c) = true) ∨ (broadB c b = true ∧ decide (2 < c) = false ∧ decide (16 < b) = true) ∨ (broadB c b = false ∧ decide (2 < c) = false ∧ decide (16 < b) = false) := by
    unfold broadB
    simp only [decide_eq_true_eq, decide_eq_false_iff_not]
    omega
  rcases key with ⟨he, h1⟩ | ⟨he, h1, h2⟩ | ⟨he, h1, h2⟩
  all_goals
    have HE := Lib.hid he
    clear he
    go_enter Tryd.func24, Tryd.ntmps24
    go_wp2_with fail
    go_ret
    exact ⟨by rw [HE.out]; rfl, (Below.refl _ _).alloc (Nat.le_refl _) _⟩

set_option maxHeartbeats 1000000 in
theorem rwide_any (c b r : Int) (w : World) :
    Calls Tryd.prog 12 #[.agg #[.int .i64 c, .int .i64 b, .int .i64 r]] w fun e w' => e = .returned (.tuple #[.bool (wideB c b r), .int .i64 (sndE c b r)]) ∧ Below w.heap.size w w' := by
  obtain ⟨w1, hw1⟩ : ∃ w1, w1 = w.alloc (.cells #[.int .i64 c, .int .i64 b, .int .i64 r] 23) := ⟨_, rfl⟩
  have d1 : w1.cell? ⟨w.heap.size, 0, none⟩ = some (.int .i64 c) := by rw [hw1, World.cell?_alloc_at _ _ _ _ rfl]; rfl
  have d2 : w1.cell? ⟨w.heap.size, 1, none⟩ = some (.int .i64 b) := by rw [hw1, World.cell?_alloc_at _ _ _ _ rfl]; rfl
  have d3 : w1.cell? ⟨w.heap.size, 2, none⟩ = some (.int .i64 r) := by rw [hw1, World.cell?_alloc_at _ _ _ _ rfl]; rfl
  have hb : Below w.heap.size w w1 := by rw [hw1]; exact (Below.refl _ _).alloc (Nat.le_refl _) _
  have hz : w.heap.size < w1.heap.size := by rw [hw1]; simp
  have HW := Lib.hid hw1
  have HB := Lib.hid hb
  clear hw1 hb
  have key : (sndE c b r = 8 ∧ wideB c b r = false) ∨ (sndE c b r = 0 ∧ wideB c b r = broadB c b) := by
    unfold wideB sndE
    cases sndB c b r with
    | false => left; exact ⟨rfl, rfl⟩
    | true => right; exact ⟨rfl, rfl⟩
  rcases key with ⟨he, hw⟩ | ⟨he, hw⟩
  · have HE := Lib.hid he
    have HWD := Lib.hid hw
    clear he hw
    go_enter Tryd.func12, Tryd.ntmps12
    go_wp2_with fail
    rw [← HW.out]
    refine (rcheck_any c b r _).mono ?_
    rintro e w2 ⟨rfl, hb2⟩
    have HB2 := Lib.hid (HB.out.trans (hb2.mono HB.out.size))
    rw [HE.out]
    clear hb2 d1 d2 d3 hz
    go_wp2_with fail
    go_ret2
    exact ⟨by rw [HE.out, HWD.out]; rfl, HB2.out⟩
  · have HE := Lib.hid he
    have HWD := Lib.hid hw
    clear he hw
    go_enter Tryd.func12, Tryd.ntmps12
    go_wp2_with fail
    rw [← HW.out]
    refine (rcheck_any c b r _).mono ?_
    rintro e w2 ⟨rfl, hb2⟩
    have e1 : w2.cell? ⟨w.heap.size, 0, none⟩ = some (.int .i64 c) := (hb2.cell (p := ⟨w.heap.size, 0, none⟩) hz).trans d1
    have e2 : w2.cell? ⟨w.heap.size, 1, none⟩ = some (.int .i64 b) := (hb2.cell (p := ⟨w.heap.size, 1, none⟩) hz).trans d2
    have e3 : w2.cell? ⟨w.heap.size, 2, none⟩ = some (.int .i64 r) := (hb2.cell (p := ⟨w.heap.size, 2, none⟩) hz).trans d3
    have HB2 := Lib.hid (HB.out.trans (hb2.mono HB.out.size))
    rw [HE.out]
    clear hb2 d1 d2 d3 hz
    go_wp2_with fail
    refine (rbroad_any c b r _).mono ?_
    rintro e w3 ⟨rfl, hb3⟩
    have HB3 := Lib.hid (HB2.out.trans (hb3.mono HB2.out.size))
    clear hb3 e1 e2 e3
    go_wp2_with fail
    go_ret2
    exact ⟨by rw [HE.out, HWD.out]; rfl, HB3.out⟩

end Go.Proofs.YtjcemacgiehklaaDoor
