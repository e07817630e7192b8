/- The walk of fmtchunk.Write. -/
import Derived.Test.YtjcemacgiehklaaDoorFmtForm
namespace Go.Proofs.YtjcemacgiehklaaDoor
open Go.RowKit
attribute [local go_sem ↓] Go.wp_at_zero Go.wp_at_succ

/-- The mask of a sound. -/
def maskN (c : Nat) : Nat := 2 ^ c - 1
/-- Lengths and bytes of what Write answers. -/
def wrN (c b r : Int) : Nat := if sndB c b r = true then formN (broadB c b) else 0
def wrL (c b r : Int) : List UInt8 := if sndB c b r = true then formL c.toNat b.toNat r.toNat (broadB c b) (maskN c.toNat) else []
theorem mask_int (c : Nat) (hc : c ≤ 6) : IntKind.u64.wrap (IntKind.u64.wrap (2 ^ c) - 1) = ((maskN c : Nat) : Int) := by
  have : c = 0 ∨ c = 1 ∨ c = 2 ∨ c = 3 ∨ c = 4 ∨ c = 5 ∨ c = 6 := by omega
  rcases this with h | h | h | h | h | h | h <;> subst h <;> decide

set_option maxHeartbeats 1000000 in
theorem write_any (c b r : Int) (w : World) (hv : FVars w) :
    Calls Tryd.prog 9 #[.agg #[.int .i64 c, .int .i64 b, .int .i64 r]] w fun e w' => ∃ A cap, e = .returned (.tuple #[.slice A (wrN c b r) cap, .int .i64 (sndE c b r)]) ∧ Owns w' w.heap.size (.slice A (wrN c b r) cap) (wrL c b r) ∧ Below w.heap.size w w' := by
  obtain ⟨w1, hw1⟩ : ∃ w1, w1 = w.alloc (.cells #[.int .i64 c, .int .i64 b, .int .i64 r] 23) := ⟨_, rfl⟩
  have d1 : w1.cell? ⟨w.heap.size, 0, none⟩ = some (.int .i64 c) := by rw [hw1, World.cell?_alloc_at _ _ _ _ rfl]; rfl
  have d2 : w1.cell? ⟨w.heap.size, 1, none⟩ = some (.int .i64 b) := by rw [hw1, World.cell?_alloc_at _ _ _ _ rfl]; rfl
  have d3 : w1.cell? ⟨w.heap.size, 2, none⟩ = some (.int .i64 r) := by rw [hw1, World.cell?_alloc_at _ _ _ _ rfl]; rfl
  have hb : Below w.heap.size w w1 := by rw [hw1]; exact (Below.refl _ _).alloc (Nat.le_refl _) _
  have hz : w.heap.size < w1.heap.size := by rw [hw1]; simp
  have HW := Lib.hid hw1
  have HB := Lib.hid hb
  have HV := Lib.hid hv
  clear hw1 hb hv
  cases hs : sndB c b r with
  | false =>
    have HE : Hid (sndE c b r = 8) := Lib.hid (by unfold sndE; rw [hs]; rfl)
    have HN : Hid (wrN c b r = 0) := Lib.hid (by unfold wrN; rw [hs]; rfl)
    have HL : Hid (wrL c b r = []) := Lib.hid (by unfold wrL; rw [hs]; rfl)
    have HS := Lib.hid hs
    clear hs
    go_enter Tryd.func9, Tryd.ntmps9
    go_wp2_with fail
    rw [← HW.out]
    refine (wide_any c b r _).mono ?_
    rintro e w2 ⟨rfl, hb2⟩
    have HB2 := Lib.hid (HB.out.trans (hb2.mono HB.out.size))
    rw [HE.out]
    clear hb2 d1 d2 d3 hz
    go_wp2_with fail
    go_ret2
    exact ⟨none, 0, by rw [HE.out, HN.out]; rfl, by rw [HL.out, HN.out]; exact Owns.nil _ _, HB2.out⟩
  | true =>
    have HE : Hid (sndE c b r = 0) := Lib.hid (by unfold sndE; rw [hs]; rfl)
    have HWD : Hid (wideB c b r = broadB c b) := Lib.hid (by unfold wideB; rw [hs]; rfl)
    have HN : Hid (wrN c b r = formN (broadB c b)) := Lib.hid (by unfold wrN; rw [hs]; rfl)
    have HL : Hid (wrL c b r = formL c.toNat b.toNat r.toNat (broadB c b) (maskN c.toNat)) := Lib.hid (by unfold wrL; rw [hs]; rfl)
    have hr : 1 ≤ c ∧ c ≤ 6 ∧ 1 ≤ r ∧ r ≤ 1048576 ∧ (b = 8 ∨ b = 16 ∨ b = 24) := by unfold sndB at hs; simpa only [decide_eq_true_eq] using hs
    obtain ⟨c, rfl⟩ := Int.eq_ofNat_of_zero_le (show 0 ≤ c by omega)
    obtain ⟨b, rfl⟩ := Int.eq_ofNat_of_zero_le (show 0 ≤ b by omega)
    obtain ⟨r, rfl⟩ := Int.eq_ofNat_of_zero_le (show 0 ≤ r by omega)
    simp only [Int.toNat_natCast] at HL
    have C := Lib.hid (form_any c b r (broadB c b) (maskN c) (by omega) (by omega) (by omega) (by unfold maskN; have : 2 ^ c ≤ 2 ^ 6 := Nat.pow_le_pow_right (by decide) (by omega); omega))
    have h6 : (c : Int) ≤ 6 := by omega
    clear hs hr
    generalize broadB (c : Int) (b : Int) = wd at *
    go_enter Tryd.func9, Tryd.ntmps9
    go_wp2_with fail
    rw [← HW.out]
    refine (wide_any c b r _).mono ?_
    rintro e w2 ⟨rfl, hb2⟩
    have e1 : w2.cell? ⟨w.heap.size, 0, none⟩ = some (.int .i64 c) := (hb2.cell (p := ⟨w.heap.size, 0, none⟩) hz).trans d1
    have e2 : w2.cell? ⟨w.heap.size, 1, none⟩ = some (.int .i64 b) := (hb2.cell (p := ⟨w.heap.size, 1, none⟩) hz).trans d2
    have e3 : w2.cell? ⟨w.heap.size, 2, none⟩ = some (.int .i64 r) := (hb2.cell (p := ⟨w.heap.size, 2, none⟩) hz).trans d3
    have HB2 := Lib.hid (HB.out.trans (hb2.mono HB.out.size))
    rw [HE.out, HWD.out]
    have hz2 : w.heap.size < w2.heap.size := Nat.lt_of_lt_of_le hz hb2.size
    clear hb2 d1 d2 d3 hz
    go_upto_region 4 with fail
    go_region_held3 (fun w' => w'.cell? ⟨w.heap.size, 0, none⟩ = some (.int .i64 (c : Int)) ∧ w'.cell? ⟨w.heap.size, 1, none⟩ = some (.int .i64 (b : Int)) ∧ w'.cell? ⟨w.heap.size, 2, none⟩ = some (.int .i64 (r : Int))) (go_keep) ((go_at_call 22; rw [mask_int c (by omega)]; refine (C.out _ (HV.out.below HB2.out.drew)).mono ?_; rintro e w3 ⟨A, cap, rfl, ho3, hb3⟩; have f1 := (hb3.cell (p := ⟨w.heap.size, 0, none⟩) (by simp; omega)).trans e1; have f2 := (hb3.cell (p := ⟨w.heap.size, 1, none⟩) (by simp; omega)).trans e2; have f3 := (hb3.cell (p := ⟨w.heap.size, 2, none⟩) (by simp; omega)).trans e3; have HO3 := Lib.hid ho3; have HB3 := Lib.hid (HB2.out.drew.trans (hb3.mono HB2.out.drew.size)); clear ho3 hb3))
    go_wp2_with fail
    go_ret2
    exact ⟨A, cap, by rw [HE.out, HN.out]; rfl, by rw [HL.out, HN.out]; exact HO3.out.mono HB2.out.drew.size, HB3.out⟩
end Go.Proofs.YtjcemacgiehklaaDoor
