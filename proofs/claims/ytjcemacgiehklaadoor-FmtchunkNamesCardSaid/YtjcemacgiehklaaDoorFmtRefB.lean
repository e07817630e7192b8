/- The walk of the reference of layer 32: first. -/
import Derived.Test.YtjcemacgiehklaaDoorFmtRef
namespace Go.Proofs.YtjcemacgiehklaaDoor
open Go.RowKit

/-- The first 16 bytes of a form. -/
def firstL (c b r t : Nat) : List UInt8 := Le.bs t 2 ++ Le.bs c 2 ++ Le.bs r 4 ++ Le.bs (r * (c * b / 8)) 4 ++ Le.bs (c * b / 8) 2 ++ Le.bs b 2
theorem formL_plain (c b r m : Nat) : formL c b r false m = firstL c b r 1 := by
  unfold formL
  rw [if_neg (by decide), List.append_nil]
  rfl
theorem formL_wide (c b r m : Nat) : formL c b r true m = firstL c b r 65534 ++ [22, 0] ++ Le.bs b 2 ++ Le.bs m 4 ++ guidL := by
  have e : Le.bs 22 2 = [22, 0] := by decide
  unfold formL
  rw [if_pos rfl, ← e]
  rfl

set_option maxHeartbeats 2000000 in
theorem first_any (c b r t : Nat) (hc : c ≤ 6) (hb : b ≤ 24) (hr : r ≤ 1048576) (ht : t < 65536) (w : World) :
    Calls Tryd.prog 28 #[.agg #[.int .i64 (c : Int), .int .i64 (b : Int), .int .i64 (r : Int)], .int .u64 (t : Int)] w fun e w' => ∃ A cap, e = .returned (.slice A 16 cap) ∧ Owns w' w.heap.size (.slice A 16 cap) (firstL c b r t) ∧ Below w.heap.size w w' := by
  obtain ⟨w1, hw1⟩ : ∃ w1, w1 = w.alloc (.cells #[.int .i64 (c : Int), .int .i64 (b : Int), .int .i64 (r : Int)] 23) := ⟨_, rfl⟩
  have d1 : w1.cell? ⟨w.heap.size, 0, none⟩ = some (.int .i64 (c : Int)) := by rw [hw1, World.cell?_alloc_at _ _ _ _ rfl]; rfl
  have d2 : w1.cell? ⟨w.heap.size, 1, none⟩ = some (.int .i64 (b : Int)) := by rw [hw1, World.cell?_alloc_at _ _ _ _ rfl]; rfl
  have d3 : w1.cell? ⟨w.heap.size, 2, none⟩ = some (.int .i64 (r : Int)) := by rw [hw1, World.cell?_alloc_at _ _ _ _ rfl]; rfl
  have HB := Lib.hid (show Below w.heap.size w w1 by rw [hw1]; exact (Below.refl _ _).alloc (Nat.le_refl _) _)
  have hz : w.heap.size < w1.heap.size := by rw [hw1]; simp
  have HW := Lib.hid hw1
  have hZ := size_int c b hc hb
  have hz18 : c * b / 8 ≤ 18 := by have : c * b ≤ 6 * 24 := Nat.mul_le_mul hc hb; omega
  have hR := second_int r (c * b / 8) hr hz18
  have hy : r * (c * b / 8) ≤ 1048576 * 18 := Nat.mul_le_mul hr hz18
  have hF : firstL c b r t = Le.bs t 2 ++ Le.bs c 2 ++ Le.bs r 4 ++ Le.bs (r * (c * b / 8)) 4 ++ Le.bs (c * b / 8) 2 ++ Le.bs b 2 := rfl
  generalize r * (c * b / 8) = y at *
  generalize c * b / 8 = z at *
  generalize firstL c b r t = FL at *
  have HZ := Lib.hid hZ
  have HR := Lib.hid hR
  have HF := Lib.hid hF
  clear hw1 hZ hR hF
  go_enter Tryd.func28, Tryd.ntmps28
  go_wp2_with fail
  rw [← HW.out]
  rw [HZ.out]
  refine (written_any t 2 (by omega) (by omega) _).mono ?_
  rintro e w2 ⟨A0, c0, rfl, ho, hb0⟩
  have HO0 := Lib.hid ho
  have HB0 := Lib.hid hb0
  clear ho hb0
  have ec0 := (HB0.out.cell (p := ⟨w.heap.size, 0, none⟩) hz).trans d1; have eb0 := (HB0.out.cell (p := ⟨w.heap.size, 1, none⟩) hz).trans d2; have er0 := (HB0.out.cell (p := ⟨w.heap.size, 2, none⟩) hz).trans d3
  go_wp2_with fail
  refine (written_any c 2 (by omega) (by omega) _).mono ?_
  rintro e w2 ⟨A', c', rfl, ho, hb0⟩
  have HOa0 := Lib.hid ho
  have HOb0 := Lib.hid (HO0.out.below hb0)
  have HBb0 := Lib.hid (HB0.out.trans (hb0.mono HB0.out.size))
  clear ho hb0 HO0 ec0 eb0 er0 HB0
  go_wp2_with (at_builtin; refine wpList_append_bytes rfl (.tmp 16) (.tmp 20) rfl w1.heap.size _ (Le.bs t 2) rfl HOb0.out _ 2 c' (Le.bs c 2) rfl HOa0.out.arg 4 (by simp [Le.bs_length]) (by omega) HBb0.out.size ?_; intro A1 c1 w1' hown1 hgr1 _; have HO1 := Lib.hid hown1; have HB1 := Lib.hid (below_append HBb0.out HOb0.out (Nat.le_refl _) hgr1); clear hown1 hgr1 HOa0 HOb0 HBb0; have ec1 := (HB1.out.cell (p := ⟨w.heap.size, 0, none⟩) hz).trans d1; have eb1 := (HB1.out.cell (p := ⟨w.heap.size, 1, none⟩) hz).trans d2; have er1 := (HB1.out.cell (p := ⟨w.heap.size, 2, none⟩) hz).trans d3)
  refine (written_any r 4 (by omega) (by omega) _).mono ?_
  rintro e w2 ⟨A', c', rfl, ho, hb0⟩
  have HOa1 := Lib.hid ho
  have HOb1 := Lib.hid (HO1.out.below hb0)
  have HBb1 := Lib.hid (HB1.out.trans (hb0.mono HB1.out.size))
  clear ho hb0 HO1 ec1 eb1 er1 HB1
  go_wp2_with (at_builtin; refine wpList_append_bytes rfl (.tmp 22) (.tmp 26) rfl w1.heap.size _ ((Le.bs t 2) ++ Le.bs c 2) rfl HOb1.out _ 4 c' (Le.bs r 4) rfl HOa1.out.arg 8 (by simp [Le.bs_length]) (by omega) HBb1.out.size ?_; intro A2 c2 w2' hown1 hgr1 _; have HO2 := Lib.hid hown1; have HB2 := Lib.hid (below_append HBb1.out HOb1.out (Nat.le_refl _) hgr1); clear hown1 hgr1 HOa1 HOb1 HBb1; have ec2 := (HB2.out.cell (p := ⟨w.heap.size, 0, none⟩) hz).trans d1; have eb2 := (HB2.out.cell (p := ⟨w.heap.size, 1, none⟩) hz).trans d2; have er2 := (HB2.out.cell (p := ⟨w.heap.size, 2, none⟩) hz).trans d3)
  rw [HR.out]
  refine (written_any y 4 (by omega) (by omega) _).mono ?_
  rintro e w2 ⟨A', c', rfl, ho, hb0⟩
  have HOa2 := Lib.hid ho
  have HOb2 := Lib.hid (HO2.out.below hb0)
  have HBb2 := Lib.hid (HB2.out.trans (hb0.mono HB2.out.size))
  clear ho hb0 HO2 ec2 eb2 er2 HB2
  go_wp2_with (at_builtin; refine wpList_append_bytes rfl (.tmp 28) (.tmp 34) rfl w1.heap.size _ (((Le.bs t 2) ++ Le.bs c 2) ++ Le.bs r 4) rfl HOb2.out _ 4 c' (Le.bs y 4) rfl HOa2.out.arg 12 (by simp [Le.bs_length]) (by omega) HBb2.out.size ?_; intro A3 c3 w3' hown1 hgr1 _; have HO3 := Lib.hid hown1; have HB3 := Lib.hid (below_append HBb2.out HOb2.out (Nat.le_refl _) hgr1); clear hown1 hgr1 HOa2 HOb2 HBb2; have ec3 := (HB3.out.cell (p := ⟨w.heap.size, 0, none⟩) hz).trans d1; have eb3 := (HB3.out.cell (p := ⟨w.heap.size, 1, none⟩) hz).trans d2; have er3 := (HB3.out.cell (p := ⟨w.heap.size, 2, none⟩) hz).trans d3)
  refine (written_any z 2 (by omega) (by omega) _).mono ?_
  rintro e w2 ⟨A', c', rfl, ho, hb0⟩
  have HOa3 := Lib.hid ho
  have HOb3 := Lib.hid (HO3.out.below hb0)
  have HBb3 := Lib.hid (HB3.out.trans (hb0.mono HB3.out.size))
  clear ho hb0 HO3 ec3 eb3 er3 HB3
  go_wp2_with (at_builtin; refine wpList_append_bytes rfl (.tmp 36) (.tmp 38) rfl w1.heap.size _ ((((Le.bs t 2) ++ Le.bs c 2) ++ Le.bs r 4) ++ Le.bs y 4) rfl HOb3.out _ 2 c' (Le.bs z 2) rfl HOa3.out.arg 14 (by simp [Le.bs_length]) (by omega) HBb3.out.size ?_; intro A4 c4 w4' hown1 hgr1 _; have HO4 := Lib.hid hown1; have HB4 := Lib.hid (below_append HBb3.out HOb3.out (Nat.le_refl _) hgr1); clear hown1 hgr1 HOa3 HOb3 HBb3; have ec4 := (HB4.out.cell (p := ⟨w.heap.size, 0, none⟩) hz).trans d1; have eb4 := (HB4.out.cell (p := ⟨w.heap.size, 1, none⟩) hz).trans d2; have er4 := (HB4.out.cell (p := ⟨w.heap.size, 2, none⟩) hz).trans d3)
  refine (written_any b 2 (by omega) (by omega) _).mono ?_
  rintro e w2 ⟨A', c', rfl, ho, hb0⟩
  have HOa4 := Lib.hid ho
  have HOb4 := Lib.hid (HO4.out.below hb0)
  have HBb4 := Lib.hid (HB4.out.trans (hb0.mono HB4.out.size))
  clear ho hb0 HO4 ec4 eb4 er4 HB4
  go_wp2_with (at_builtin; refine wpList_append_bytes rfl (.tmp 40) (.tmp 44) rfl w1.heap.size _ (((((Le.bs t 2) ++ Le.bs c 2) ++ Le.bs r 4) ++ Le.bs y 4) ++ Le.bs z 2) rfl HOb4.out _ 2 c' (Le.bs b 2) rfl HOa4.out.arg 16 (by simp [Le.bs_length]) (by omega) HBb4.out.size ?_; intro A5 c5 w5' hown1 hgr1 _; have HO5 := Lib.hid hown1; have HB5 := Lib.hid (below_append HBb4.out HOb4.out (Nat.le_refl _) hgr1); clear hown1 hgr1 HOa4 HOb4 HBb4; have ec5 := (HB5.out.cell (p := ⟨w.heap.size, 0, none⟩) hz).trans d1; have eb5 := (HB5.out.cell (p := ⟨w.heap.size, 1, none⟩) hz).trans d2; have er5 := (HB5.out.cell (p := ⟨w.heap.size, 2, none⟩) hz).trans d3)
  go_ret
  exact ⟨A5, c5, rfl, by rw [HF.out]; exact HO5.out.mono HB.out.size, HB.out.trans (HB5.out.mono HB.out.size)⟩

end Go.Proofs.YtjcemacgiehklaaDoor
