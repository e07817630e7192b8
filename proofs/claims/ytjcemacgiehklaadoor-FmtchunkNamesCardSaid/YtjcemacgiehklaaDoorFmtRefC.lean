/- The walks of the reference of layer 32: Plain, Masked, Form, Write. -/
import Derived.Test.YtjcemacgiehklaaDoorFmtRefB
import Derived.Test.YtjcemacgiehklaaDoorFmtWrite
namespace Go.Proofs.YtjcemacgiehklaaDoor
open Go.RowKit

/-- A sound that was boxed. -/
theorem box3 (w : World) (x y z : Value) (t : TypeId) : ∃ w1, w1 = w.alloc (.cells #[x, y, z] t) ∧ w1.cell? ⟨w.heap.size, 0, none⟩ = some x ∧ w1.cell? ⟨w.heap.size, 1, none⟩ = some y ∧ w1.cell? ⟨w.heap.size, 2, none⟩ = some z ∧ Below w.heap.size w w1 ∧ w.heap.size < w1.heap.size := by
  refine ⟨_, rfl, ?_, ?_, ?_, (Below.refl _ _).alloc (Nat.le_refl _) _, by simp⟩
  all_goals (rw [World.cell?_alloc_at _ _ _ _ rfl]; rfl)

set_option maxHeartbeats 1000000 in
theorem plain_any (c b r : Nat) (hc : c ≤ 6) (hb : b ≤ 24) (hr : r ≤ 1048576) (w : World) :
    Calls Tryd.prog 20 #[.agg #[.int .i64 (c : Int), .int .i64 (b : Int), .int .i64 (r : Int)]] w fun e w' => ∃ A cap, e = .returned (.slice A 16 cap) ∧ Owns w' w.heap.size (.slice A 16 cap) (firstL c b r 1) ∧ Below w.heap.size w w' := by
  obtain ⟨w1, hw1, d1, d2, d3, hB, hz⟩ := box3 w (.int .i64 (c : Int)) (.int .i64 (b : Int)) (.int .i64 (r : Int)) 23
  have HW := Lib.hid hw1
  have HB := Lib.hid hB
  clear hw1 hB
  go_enter Tryd.func20, Tryd.ntmps20
  go_wp2_with fail
  rw [← HW.out]
  refine (first_any c b r 1 hc hb hr (by omega) _).mono ?_
  rintro e w2 ⟨A, cap, rfl, ho, hb2⟩
  have HO := Lib.hid ho
  have HB2 := Lib.hid (HB.out.trans (hb2.mono HB.out.size))
  clear ho hb2 d1 d2 d3
  go_wp2_with fail
  go_ret
  exact ⟨A, cap, rfl, HO.out.mono HB.out.size, HB2.out⟩

set_option maxHeartbeats 2000000 in
theorem masked_any (c b r m : Nat) (hc : c ≤ 6) (hb : b ≤ 24) (hr : r ≤ 1048576) (hm : m < 4294967296) (w : World) :
    Calls Tryd.prog 21 #[.agg #[.int .i64 (c : Int), .int .i64 (b : Int), .int .i64 (r : Int)], .int .u32 (m : Int)] w fun e w' => ∃ A cap, e = .returned (.slice A 40 cap) ∧ Owns w' w.heap.size (.slice A 40 cap) (formL c b r true m) ∧ Below w.heap.size w w' := by
  obtain ⟨w1, hw1, d1, d2, d3, hB, hz⟩ := box3 w (.int .i64 (c : Int)) (.int .i64 (b : Int)) (.int .i64 (r : Int)) 23
  have HW := Lib.hid hw1
  have HB := Lib.hid hB
  have HF := Lib.hid (formL_wide c b r m)
  generalize formL c b r true m = FL at *
  clear hw1 hB
  have hll : ∀ t, (firstL c b r t).length = 16 := fun t => by simp [firstL, Le.bs_length]
  have HLL := Lib.hid (hll 65534)
  clear hll
  go_enter Tryd.func21, Tryd.ntmps21
  go_wp2_with fail
  rw [← HW.out]
  refine (first_any c b r 65534 hc hb hr (by omega) _).mono ?_
  rintro e w2 ⟨A0, c0, rfl, ho, hb0⟩
  generalize firstL c b r 65534 = L0 at *
  have HO0 := Lib.hid ho
  have HB0 := Lib.hid hb0
  have hs0 := hb0.size
  clear ho hb0
  go_wp2_with (at_builtin; refine wpList_append_bytes rfl (.tmp 8) (.tmp 9) rfl w1.heap.size _ L0 rfl (HO0.out.below ((Below.refl _ _).alloc (Nat.le_refl _) _)) _ 2 2 [22, 0] rfl (BArg.lit _ [22, 0] 2 rfl (by omega) _ _ _ rfl) 18 (by rw [HLL.out]) (by omega) (by simp; omega) ?_; intro A1 c1 w3 hown1 hgr1 _; have HO1 := Lib.hid hown1; have HB1 := Lib.hid (below_append (HB0.out.alloc HB0.out.size _) (HO0.out.below ((Below.refl _ _).alloc (Nat.le_refl _) _)) (Nat.le_refl _) hgr1); clear hown1 hgr1; have eb1 := (HB1.out.cell (p := ⟨w.heap.size, 1, none⟩) hz).trans d2)
  refine (written_any b 2 (by omega) (by omega) _).mono ?_
  rintro e w4 ⟨A', c', rfl, ho, hb0⟩
  have HOa := Lib.hid ho
  have HOb := Lib.hid (HO1.out.below hb0)
  have HBb := Lib.hid (HB1.out.trans (hb0.mono HB1.out.size))
  clear ho hb0 HO1 HB1 eb1 HO0 HB0 hs0
  go_wp2_with (at_builtin; refine wpList_append_bytes rfl (.tmp 11) (.tmp 15) rfl w1.heap.size _ (L0 ++ [22, 0]) rfl HOb.out _ 2 c' (Le.bs b 2) rfl HOa.out.arg 20 (by simp [HLL.out]) (by omega) HBb.out.size ?_; intro A2 c2 w5 hown1 hgr1 _; have HO2 := Lib.hid hown1; have HB2 := Lib.hid (below_append HBb.out HOb.out (Nat.le_refl _) hgr1); clear hown1 hgr1 HOa HOb HBb)
  refine (written_any m 4 (by omega) (by omega) _).mono ?_
  rintro e w6 ⟨A', c', rfl, ho, hb0⟩
  have HOa := Lib.hid ho
  have HOb := Lib.hid (HO2.out.below hb0)
  have HBb := Lib.hid (HB2.out.trans (hb0.mono HB2.out.size))
  clear ho hb0 HO2 HB2
  go_wp2_with (at_builtin; first | (refine wpList_append_bytes rfl (.tmp 17) (.tmp 20) rfl w1.heap.size _ (L0 ++ [22, 0] ++ Le.bs b 2) rfl HOb.out _ 4 c' (Le.bs m 4) rfl HOa.out.arg 24 (by simp [HLL.out, Le.bs_length]) (by omega) HBb.out.size ?_; intro A3 c3 w7 hown1 hgr1 _; have HO3 := Lib.hid hown1; have HB3 := Lib.hid (below_append HBb.out HOb.out (Nat.le_refl _) hgr1); have hs3 := HB3.out.size; clear hown1 hgr1 HOa HOb HBb) | (refine wpList_append_bytes rfl (.tmp 22) (.tmp 23) rfl w1.heap.size _ (L0 ++ [22, 0] ++ Le.bs b 2 ++ Le.bs m 4) rfl (HO3.out.below ((Below.refl _ _).alloc (Nat.le_refl _) _)) _ 16 16 guidL rfl (BArg.lit _ guidL 16 rfl (by omega) _ _ _ rfl) 40 (by simp [HLL.out, Le.bs_length]) (by omega) (by simp; omega) ?_; intro A4 c4 w8 hown1 hgr1 _; have HO4 := Lib.hid hown1; have HB4 := Lib.hid (below_append (HB3.out.alloc HB3.out.size _) (HO3.out.below ((Below.refl _ _).alloc (Nat.le_refl _) _)) (Nat.le_refl _) hgr1); clear hown1 hgr1))
  go_ret
  exact ⟨A4, c4, rfl, by rw [HF.out]; exact HO4.out.mono HB.out.size, HB.out.trans (HB4.out.mono HB.out.size)⟩
end Go.Proofs.YtjcemacgiehklaaDoor
