/- The walks of fmtchunk.Check and fmtchunk.Wide; what the package's variables hold. -/
import Derived.Test.YtjcemacgiehklaaDoorLeVal
import Derived.Test.YtjcemacgiehklaaDoorEqual
namespace Go.Proofs.YtjcemacgiehklaaDoor
open Go.RowKit

/-- May a sound be written? -/
def sndB (c b r : Int) : Bool := decide (1 ≤ c ∧ c ≤ 6 ∧ 1 ≤ r ∧ r ≤ 1048576 ∧ (b = 8 ∨ b = 16 ∨ b = 24))
/-- The error of a sound. -/
def sndE (c b r : Int) : Int := if sndB c b r = true then 0 else 8
/-- Is a sound wide? -/
def broadB (c b : Int) : Bool := decide (2 < c ∨ 16 < b)
/-- Is it valid and wide? -/
def wideB (c b r : Int) : Bool := sndB c b r && broadB c b
theorem snd_cases (c b r : Int) : (sndE c b r = 8 ∧ (c < 1 ∨ (1 ≤ c ∧ 6 < c) ∨ (1 ≤ c ∧ c ≤ 6 ∧ r < 1) ∨ (1 ≤ c ∧ c ≤ 6 ∧ 1 ≤ r ∧ 1048576 < r) ∨ (1 ≤ c ∧ c ≤ 6 ∧ 1 ≤ r ∧ r ≤ 1048576 ∧ (b == 8) = false ∧ (b == 16) = false ∧ (b == 24) = false))) ∨
    (sndE c b r = 0 ∧ 1 ≤ c ∧ c ≤ 6 ∧ 1 ≤ r ∧ r ≤ 1048576 ∧ (b = 8 ∨ b = 16 ∨ b = 24)) := by
  unfold sndE
  cases h : sndB c b r with
  | true => right; unfold sndB at h; simp only [decide_eq_true_eq] at h; exact ⟨rfl, h⟩
  | false =>
    left
    unfold sndB at h
    simp only [decide_eq_false_iff_not] at h
    refine ⟨rfl, ?_⟩
    simp only [beq_eq_false_iff_ne]
    omega

set_option maxHeartbeats 1000000 in
theorem check_any (c b r : Int) (w : World) :
    Calls Tryd.prog 13 #[.agg #[.int .i64 c, .int .i64 b, .int .i64 r]] w fun e w' => e = .returned (.int .i64 (sndE c b r)) ∧ Below w.heap.size w w' := by
  rcases snd_cases c b r with ⟨he, h | ⟨h1, h2⟩ | ⟨h1, h2, h3⟩ | ⟨h1, h2, h3, h4⟩ | ⟨h1, h2, h3, h4, h5, h6, h7⟩⟩ | ⟨he, h1, h2, h3, h4, rfl | rfl | rfl⟩
  all_goals
    have HE := Lib.hid he
    clear he
    go_enter Tryd.func13, Tryd.ntmps13
    go_wp2_with fail
    go_ret
    exact ⟨by rw [HE.out]; rfl, (Below.refl _ _).alloc (Nat.le_refl _) _⟩

set_option maxHeartbeats 1000000 in
theorem wide_any (c b r : Int) (w : World) :
    Calls Tryd.prog 11 #[.agg #[.int .i64 c, .int .i64 b, .int .i64 r]] w fun e w' => e = .returned (.tuple #[.bool (wideB c b r), .int .i64 (sndE c b r)]) ∧ Below w.heap.size w w' := by
  obtain ⟨w1, hw1⟩ : ∃ w1, w1 = w.alloc (.cells #[.int .i64 c, .int .i64 b, .int .i64 r] 23) := ⟨_, rfl⟩
  have d1 : w1.cell? ⟨w.heap.size, 0, none⟩ = some (.int .i64 c) := by rw [hw1, World.cell?_alloc_at _ _ _ _ rfl]; rfl
  have d2 : w1.cell? ⟨w.heap.size, 1, none⟩ = some (.int .i64 b) := by rw [hw1, World.cell?_alloc_at _ _ _ _ rfl]; rfl
  have d3 : w1.cell? ⟨w.heap.size, 2, none⟩ = some (.int .i64 r) := by rw [hw1, World.cell?_alloc_at _ _ _ _ rfl]; rfl
  have hb : Below w.heap.size w w1 := by rw [hw1]; exact (Below.refl _ _).alloc (Nat.le_refl _) _
  have hz : w.heap.size < w1.heap.size := by rw [hw1]; simp
  have HW := Lib.hid hw1
  have HB := Lib.hid hb
  clear hw1 hb
  have key : (sndE c b r = 8 ∧ wideB c b r = false) ∨ (sndE c b r = 0 ∧ wideB c b r = true ∧ decide (2 < c) = true) ∨ (sndE c b r = 0 ∧ wideB c b r = true ∧ decide (2 < c) = false ∧ decide (16 < b) = true) ∨ (sndE c b r = 0 ∧ wideB c b r = false ∧ decide (2 < c) = false ∧ decide (16 < b) = false) := by
    unfold wideB sndE
    cases sndB c b r with
    | false => left; exact ⟨rfl, rfl⟩
    | true =>
      right
      simp only [if_true, Bool.true_and, true_and, broadB, decide_eq_true_eq, decide_eq_false_iff_not]
      omega
  rcases key with ⟨he, hw⟩ | ⟨he, hw, h1⟩ | ⟨he, hw, h1, h2⟩ | ⟨he, hw, h1, h2⟩
  all_goals
    have HE := Lib.hid he
    have HWD := Lib.hid hw
    clear he hw
    go_enter Tryd.func11, Tryd.ntmps11
    go_wp2_with fail
    rw [← HW.out]
    refine (check_any c b r _).mono ?_
    rintro e w2 ⟨rfl, hb2⟩
    have e1 : w2.cell? ⟨w.heap.size, 0, none⟩ = some (.int .i64 c) := (hb2.cell (p := ⟨w.heap.size, 0, none⟩) hz).trans d1
    have e2 : w2.cell? ⟨w.heap.size, 1, none⟩ = some (.int .i64 b) := (hb2.cell (p := ⟨w.heap.size, 1, none⟩) hz).trans d2
    have HB2 := Lib.hid (HB.out.trans (hb2.mono HB.out.size))
    rw [HE.out]
    clear hb2 d1 d2 d3 hz
    go_wp2_with fail
    go_ret2
    exact ⟨by rw [HE.out, HWD.out]; rfl, HB2.out⟩

/-- What the package's variables hold. -/
def wdL : List Nat := [2, 2, 4, 4, 2, 2, 2, 2, 4]
def wdN (j : Nat) : Nat := wdL.getD j 0
def guidL : List UInt8 := [1, 0, 0, 0, 0, 0, 16, 0, 128, 0, 0, 170, 0, 56, 155, 113]
def wdI : List Int := [2, 2, 4, 4, 2, 2, 2, 2, 4]
structure FVars (w : World) : Prop where
  row : ∃ t fr, w.heap[(0 : Nat)]? = some (.cells (ints .i64 wdI) t fr)
  wd : ∀ j, j < 9 → w.cell? ⟨0, j, none⟩ = some (.int .i64 (wdN j : Int))
  gd : BArg w (some ⟨1, 0, none⟩) 16 16 guidL
  old : 2 ≤ w.heap.size
theorem FVars.below {w w' : World} (h : FVars w) (hb : Below w.heap.size w w') : FVars w' :=
  ⟨(by obtain ⟨t, fr, hr⟩ := h.row; exact ⟨t, fr, (hb.block _ (Nat.lt_of_lt_of_le (show 0 < 2 by decide) h.old)).trans hr⟩), fun j hj => (hb.cell (p := ⟨0, j, none⟩) (Nat.lt_of_lt_of_le (show 0 < 2 by decide) h.old)).trans (h.wd j hj), h.gd.below hb, Nat.le_trans h.old hb.size⟩
end Go.Proofs.YtjcemacgiehklaaDoor
