/- The walks of the reference of layer 32: Form, Write. -/
import Derived.Test.YtjcemacgiehklaaDoorFmtRefC
namespace Go.Proofs.YtjcemacgiehklaaDoor
open Go.RowKit

theorem mask_int32 (c : Nat) (hc : c ≤ 6) : ((2 : Int) ^ c - 1) % 4294967296 = ((maskN c : Nat) : Int) := by
  have : c = 0 ∨ c = 1 ∨ c = 2 ∨ c = 3 ∨ c = 4 ∨ c = 5 ∨ c = 6 := by omega
  rcases this with h | h | h | h | h | h | h <;> subst h <;> decide
theorem mask_lt (c : Nat) (hc : c ≤ 6) : maskN c < 4294967296 := by
  unfold maskN
  have : 2 ^ c ≤ 2 ^ 6 := Nat.pow_le_pow_right (by decide) hc
  omega

set_option maxHeartbeats 1000000 in
theorem rform_any (c b r : Nat) (hc : c ≤ 6) (hb : b ≤ 24) (hr : r ≤ 1048576) (w : World) :
    Calls Tryd.prog 23 #[.agg #[.int .i64 (c : Int), .int .i64 (b : Int), .int .i64 (r : Int)]] w fun e w' => ∃ A cap, e = .returned (.slice A (formN (broadB c b)) cap) ∧ Owns w' w.heap.size (.slice A (formN (broadB c b)) cap) (formL c b r (broadB c b) (maskN c)) ∧ Below w.heap.size w w' := by
  obtain ⟨w1, hw1, d1, d2, d3, hB, hz⟩ := box3 w (.int .i64 (c : Int)) (.int .i64 (b : Int)) (.int .i64 (r : Int)) 23
  have HW := Lib.hid hw1
  have HB := Lib.hid hB
  have C0 := Lib.hid (rbroad_any (c : Int) (b : Int) (r : Int))
  clear hw1 hB
  cases hbr : broadB (c : Int) (b : Int) with
  | true =>
    rw [hbr] at C0
    have C := Lib.hid (masked_any c b r (maskN c) hc hb hr (mask_lt c hc))
    have hc6 : (c : Int) ≤ 6 := by omega
    clear hbr
    go_enter Tryd.func23, Tryd.ntmps23
    go_wp2_with fail
    rw [← HW.out]
    refine (C0.out _).mono ?_
    rintro e w2 ⟨rfl, hb2⟩
    have e1 := (hb2.cell (p := ⟨w.heap.size, 0, none⟩) hz).trans d1
    have e2 := (hb2.cell (p := ⟨w.heap.size, 1, none⟩) hz).trans d2
    have e3 := (hb2.cell (p := ⟨w.heap.size, 2, none⟩) hz).trans d3
    have HB2 := Lib.hid (HB.out.trans (hb2.mono HB.out.size))
    clear hb2 d1 d2 d3 hz
    go_wp2_with fail
    rw [mask_int32 c hc]
    refine (C.out _).mono ?_
    rintro e w3 ⟨A, cap, rfl, ho, hb3⟩
    have HO := Lib.hid ho
    have HB3 := Lib.hid (HB2.out.trans (hb3.mono HB2.out.size))
    clear ho hb3 e1 e2 e3
    go_wp2_with fail
    go_ret
    exact ⟨A, cap, rfl, HO.out.mono HB2.out.size, HB3.out⟩
  | false =>
    rw [hbr] at C0
    have C := Lib.hid (plain_any c b r hc hb hr)
    rw [← formL_plain c b r (maskN c)] at C
    clear hbr
    go_enter Tryd.func23, Tryd.ntmps23
    go_wp2_with fail
    rw [← HW.out]
    refine (C0.out _).mono ?_
    rintro e w2 ⟨rfl, hb2⟩
    have e1 := (hb2.cell (p := ⟨w.heap.size, 0, none⟩) hz).trans d1
    have e2 := (hb2.cell (p := ⟨w.heap.size, 1, none⟩) hz).trans d2
    have e3 := (hb2.cell (p := ⟨w.heap.size, 2, none⟩) hz).trans d3
    have HB2 := Lib.hid (HB.out.trans (hb2.mono HB.out.size))
    clear hb2 d1 d2 d3 hz
    go_wp2_with fail
    refine (C.out _).mono ?_
    rintro e w3 ⟨A, cap, rfl, ho, hb3⟩
    have HO := Lib.hid ho
    have HB3 := Lib.hid (HB2.out.trans (hb3.mono HB2.out.size))
    clear ho hb3 e1 e2 e3
    go_wp2_with fail
    go_ret
    exact ⟨A, cap, rfl, HO.out.mono HB2.out.size, HB3.out⟩

set_option maxHeartbeats 1000000 in
theorem rwrite_any (c b r : Int) (w : World) :
    Calls Tryd.prog 10 #[.agg #[.int .i64 c, .int .i64 b, .int .i64 r]] w fun e w' => ∃ A cap, e = .returned (.tuple #[.slice A (wrN c b r) cap, .int .i64 (sndE c b r)]) ∧ Owns w' w.heap.size (.slice A (wrN c b r) cap) (wrL c b r) ∧ Below w.heap.size w w' := by
  obtain ⟨w1, hw1, d1, d2, d3, hB, hz⟩ := box3 w (.int .i64 c) (.int .i64 b) (.int .i64 r) 23
  have HW := Lib.hid hw1
  have HB := Lib.hid hB
  clear hw1 hB
  cases hs : sndB c b r with
  | false =>
    have HE : Hid (sndE c b r = 8) := Lib.hid (by unfold sndE; rw [hs]; rfl)
    have HN : Hid (wrN c b r = 0) := Lib.hid (by unfold wrN; rw [hs]; rfl)
    have HL : Hid (wrL c b r = []) := Lib.hid (by unfold wrL; rw [hs]; rfl)
    clear hs
    go_enter Tryd.func10, Tryd.ntmps10
    go_wp2_with fail
    rw [← HW.out]
    refine (rcheck_any c b r _).mono ?_
    rintro e w2 ⟨rfl, hb2⟩
    have HB2 := Lib.hid (HB.out.trans (hb2.mono HB.out.size))
    rw [HE.out]
    clear hb2 d1 d2 d3 hz
    go_wp2_with fail
    go_ret2
    exact ⟨none, 0, by rw [HE.out, HN.out]; rfl, by rw [HL.out, HN.out]; exact Owns.nil _ _, HB2.out⟩
  | true =>
    have HE : Hid (sndE c b r = 0) := Lib.hid (by unfold sndE; rw [hs]; rfl)
    have HN : Hid (wrN c b r = formN (broadB c b)) := Lib.hid (by unfold wrN; rw [hs]; rfl)
    have HL : Hid (wrL c b r = formL c.toNat b.toNat r.toNat (broadB c b) (maskN c.toNat)) := Lib.hid (by unfold wrL; rw [hs]; rfl)
    have hr : 1 ≤ c ∧ c ≤ 6 ∧ 1 ≤ r ∧ r ≤ 1048576 ∧ (b = 8 ∨ b = 16 ∨ b = 24) := by unfold sndB at hs; simpa only [decide_eq_true_eq] using hs
    obtain ⟨c, rfl⟩ := Int.eq_ofNat_of_zero_le (show 0 ≤ c by omega)
    obtain ⟨b, rfl⟩ := Int.eq_ofNat_of_zero_le (show 0 ≤ b by omega)
    obtain ⟨r, rfl⟩ := Int.eq_ofNat_of_zero_le (show 0 ≤ r by omega)
    simp only [Int.toNat_natCast] at HL
    have C := Lib.hid (rform_any c b r (by omega) (by omega) (by omega))
    clear hs hr
    generalize broadB (c : Int) (b : Int) = wd at *
    go_enter Tryd.func10, Tryd.ntmps10
    go_wp2_with fail
    rw [← HW.out]
    refine (rcheck_any c b r _).mono ?_
    rintro e w2 ⟨rfl, hb2⟩
    have e1 := (hb2.cell (p := ⟨w.heap.size, 0, none⟩) hz).trans d1
    have e2 := (hb2.cell (p := ⟨w.heap.size, 1, none⟩) hz).trans d2
    have e3 := (hb2.cell (p := ⟨w.heap.size, 2, none⟩) hz).trans d3
    have HB2 := Lib.hid (HB.out.trans (hb2.mono HB.out.size))
    rw [HE.out]
    clear hb2 d1 d2 d3 hz
    go_wp2_with fail
    refine (C.out _).mono ?_
    rintro e w3 ⟨A, cap, rfl, ho, hb3⟩
    have HO := Lib.hid ho
    have HB3 := Lib.hid (HB2.out.trans (hb3.mono HB2.out.size))
    clear ho hb3 e1 e2 e3
    go_wp2_with fail
    go_ret2
    exact ⟨A, cap, by rw [HE.out, HN.out]; rfl, by rw [HL.out, HN.out]; exact HO.out.mono HB2.out.size, HB3.out⟩
end Go.Proofs.YtjcemacgiehklaaDoor
