/- FmtchunkAgain: the walk. -/
import Derived.Test.YtjcemacgiehklaaDoorFmtAliveB
import Derived.Test.YtjcemacgiehklaaDoorFmtLaws
namespace Go.Proofs.YtjcemacgiehklaaDoor
open Go.RowKit

/-- What is written is read as its sound. -/
theorem rds_written (c b r : Int) (hs : sndB c b r = true) : rdsB (wrL c b r) c b r = true := by
  have hr : 1 ≤ c ∧ c ≤ 6 ∧ 1 ≤ r ∧ r ≤ 1048576 ∧ (b = 8 ∨ b = 16 ∨ b = 24) := by unfold sndB at hs; simpa only [decide_eq_true_eq] using hs
  obtain ⟨c, rfl⟩ := Int.eq_ofNat_of_zero_le (show 0 ≤ c by omega)
  obtain ⟨b, rfl⟩ := Int.eq_ofNat_of_zero_le (show 0 ≤ b by omega)
  obtain ⟨r, rfl⟩ := Int.eq_ofNat_of_zero_le (show 0 ≤ r by omega)
  have hL : wrL (c : Int) (b : Int) (r : Int) = formL c b r (broadB c b) (maskN c) := by unfold wrL; rw [hs]; rfl
  have hm : maskN c < 4294967296 := by
    unfold maskN
    have : 2 ^ c ≤ 2 ^ 6 := Nat.pow_le_pow_right (by decide) (by omega)
    omega
  obtain ⟨h1, h2, h3, h4⟩ := readB_form c b r (broadB c b) (maskN c) hs hm
  rw [hL]
  unfold rdsB
  rw [h1, h2, h3, h4]
  simp

set_option maxHeartbeats 2000000 in
theorem fmtagain_calls (w : World) (hv : FVars w) (a : Option Addr) (len cap : Nat) (l : List UInt8) (ha : BArg w a len cap l) :
    Calls Tryd.prog 8 #[.slice a len cap] w fun e w' => e = .returned (.bool true) ∧ Below w.heap.size w w' := by
  have HA := Lib.hid ha
  have HV := Lib.hid hv
  clear ha hv
  by_cases h100 : 100 < len
  · go_enter Tryd.func8, Tryd.ntmps8
    go_wp2_with fail
    refine (alive32_any _ HV.out).mono ?_
    rintro e w1 ⟨rfl, hb1⟩
    have HB1 := Lib.hid hb1
    clear hb1
    go_wp2_with fail
    go_ret
    exact ⟨rfl, HB1.out⟩
  · go_enter Tryd.func8, Tryd.ntmps8
    go_wp2_with fail
    refine (alive32_any _ HV.out).mono ?_
    rintro e w1 ⟨rfl, hb1⟩
    have HB1 := Lib.hid hb1
    clear hb1
    go_wp2_with fail
    refine (read_any a len cap l _ (HA.out.below HB1.out) (HV.out.below HB1.out)).mono ?_
    rintro e w2 ⟨rfl, hb2⟩
    have HB2 := Lib.hid (HB1.out.trans (hb2.mono HB1.out.size))
    clear hb2
    cases hr : readB l with
    | false =>
      rw [readP_no' hr]
      clear hr
      go_wp2_with fail
      go_ret
      exact ⟨rfl, HB2.out.alloc HB2.out.size _⟩
    | true =>
      rw [readP_yes' hr]
      have hs : sndB (rdN l 1 : Int) (rdN l 5 : Int) (rdN l 2 : Int) = true := by
        unfold readB at hr
        cases hq : sndB (rdN l 1 : Int) (rdN l 5 : Int) (rdN l 2 : Int) with
        | true => rfl
        | false => rw [hq] at hr; exact absurd hr (by simp)
      clear hr
      generalize rdN l 1 = n1 at *
      generalize rdN l 5 = n5 at *
      generalize rdN l 2 = n2 at *
      have HE : Hid (sndE (n1 : Int) (n5 : Int) (n2 : Int) = 0) := Lib.hid (by unfold sndE; rw [hs]; rfl)
      have HRD := Lib.hid (rds_written _ _ _ hs)
      clear hs
      go_wp2_with fail
      obtain ⟨W, hW⟩ : ∃ W, W = w2.alloc (.cells #[.int .i64 (n1 : Int), .int .i64 (n5 : Int), .int .i64 (n2 : Int)] 23) := ⟨_, rfl⟩
      rw [← hW]
      have x1 : W.cell? ⟨w2.heap.size, 0, none⟩ = some (.int .i64 (n1 : Int)) := by rw [hW, World.cell?_alloc_at _ _ _ _ rfl]; rfl
      have x5 : W.cell? ⟨w2.heap.size, 1, none⟩ = some (.int .i64 (n5 : Int)) := by rw [hW, World.cell?_alloc_at _ _ _ _ rfl]; rfl
      have x2 : W.cell? ⟨w2.heap.size, 2, none⟩ = some (.int .i64 (n2 : Int)) := by rw [hW, World.cell?_alloc_at _ _ _ _ rfl]; rfl
      have hlt : w2.heap.size < W.heap.size := by rw [hW]; simp
      have HBW : Hid (Below w.heap.size w W) := Lib.hid (by rw [hW]; exact HB2.out.alloc HB2.out.size _)
      clear hW
      refine (write_any _ _ _ _ (HV.out.below HBW.out)).mono ?_
      rintro e w3 ⟨A3, k3, rfl, ho, hb3⟩
      have HO3 := Lib.hid ho
      have HB3 := Lib.hid hb3
      have y1 := (hb3.cell (p := ⟨w2.heap.size, 0, none⟩) hlt).trans x1
      have y5 := (hb3.cell (p := ⟨w2.heap.size, 1, none⟩) hlt).trans x5
      have y2 := (hb3.cell (p := ⟨w2.heap.size, 2, none⟩) hlt).trans x2
      clear ho hb3
      rw [HE.out]
      go_wp2_with fail
      refine (check_any _ _ _ _).mono ?_
      rintro e w4 ⟨rfl, hb4⟩
      have HO4 := Lib.hid (HO3.out.below hb4)
      have HB4 := Lib.hid (HB3.out.trans (hb4.mono HB3.out.size))
      rw [HE.out]
      clear hb4 y1 y5 y2
      have y1 := (HB4.out.cell (p := ⟨w2.heap.size, 0, none⟩) hlt).trans x1
      have y5 := (HB4.out.cell (p := ⟨w2.heap.size, 1, none⟩) hlt).trans x5
      have y2 := (HB4.out.cell (p := ⟨w2.heap.size, 2, none⟩) hlt).trans x2
      go_wp2_with fail
      refine (reads_any _ _ _ _ _ _ _ _ HO4.out.arg (HV.out.below (HBW.out.trans (HB4.out.mono HBW.out.size)))).mono ?_
      rintro e w5 ⟨rfl, hb5⟩
      have HB5 := Lib.hid (HB4.out.trans (hb5.mono HB4.out.size))
      rw [HRD.out]
      clear hb5
      go_wp2_with fail
      go_ret
      exact ⟨rfl, HBW.out.trans (HB5.out.mono HBW.out.size)⟩
end Go.Proofs.YtjcemacgiehklaaDoor
