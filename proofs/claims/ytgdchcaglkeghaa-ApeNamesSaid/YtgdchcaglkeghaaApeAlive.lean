/- The walks of the laws' front and back, and of alive (layer 29). -/
import Derived.Test.YtgdchcaglkeghaaApeBack
import Derived.Test.YtgdchcaglkeghaaApeWrite
import Derived.Test.YtgdchcaglkeghaaOpAt
namespace Go.Proofs.Ytgdchcaglkeghaa
open Go.RowKit
attribute [local go_sem ↓] Go.wp_at_zero Go.wp_at_succ

/-- Does Front, does Back answer so? -/
def frB (l : List UInt8) (x y : Int) : Bool := (frontP l).1 == x && (frontP l).2 == y
def bkB (l : List UInt8) (x y : Int) : Bool := (backP l).1 == x && (backP l).2 == y

set_option maxHeartbeats 1000000 in
theorem lfront_any (a : Option Addr) (len cap : Nat) (l : List UInt8) (x y : Int) (w : World) (ha : BArg w a len cap l) :
    Calls Try.prog 34 #[.slice a len cap, .int .i64 x, .int .i64 y] w fun e w' => e = .returned (.bool (frB l x y)) ∧ Below w.heap.size w w' := by
  have C := Lib.hid (front_any a len cap l w ha)
  have HB : Hid (frB l x y = ((frontP l).1 == x && (frontP l).2 == y)) := Lib.hid rfl
  generalize frB l x y = B at *
  generalize (frontP l).1 = p at *
  generalize (frontP l).2 = q at *
  clear ha
  cases h1 : p == x with
  | false =>
    go_enter Try.func34, Try.ntmps34
    go_wp2_with fail
    refine C.out.mono ?_
    rintro e w2 ⟨rfl, hb⟩
    have HB2 := Lib.hid hb
    clear hb
    go_wp2_with fail
    go_ret
    exact ⟨by rw [HB.out, h1]; rfl, HB2.out⟩
  | true =>
    go_enter Try.func34, Try.ntmps34
    go_wp2_with fail
    refine C.out.mono ?_
    rintro e w2 ⟨rfl, hb⟩
    have HB2 := Lib.hid hb
    clear hb
    go_wp2_with fail
    go_ret
    exact ⟨by rw [HB.out, h1, Bool.true_and]; rfl, HB2.out⟩

set_option maxHeartbeats 1000000 in
theorem lback_any (a : Option Addr) (len cap : Nat) (l : List UInt8) (x y : Int) (w : World) (ha : BArg w a len cap l) :
    Calls Try.prog 36 #[.slice a len cap, .int .i64 x, .int .i64 y] w fun e w' => e = .returned (.bool (bkB l x y)) ∧ Below w.heap.size w w' := by
  have C := Lib.hid (back_any a len cap l w ha)
  have HB : Hid (bkB l x y = ((backP l).1 == x && (backP l).2 == y)) := Lib.hid rfl
  generalize bkB l x y = B at *
  generalize (backP l).1 = p at *
  generalize (backP l).2 = q at *
  clear ha
  cases h1 : p == x with
  | false =>
    go_enter Try.func36, Try.ntmps36
    go_wp2_with fail
    refine C.out.mono ?_
    rintro e w2 ⟨rfl, hb⟩
    have HB2 := Lib.hid hb
    clear hb
    go_wp2_with fail
    go_ret
    exact ⟨by rw [HB.out, h1]; rfl, HB2.out⟩
  | true =>
    go_enter Try.func36, Try.ntmps36
    go_wp2_with fail
    refine C.out.mono ?_
    rintro e w2 ⟨rfl, hb⟩
    have HB2 := Lib.hid hb
    clear hb
    go_wp2_with fail
    go_ret
    exact ⟨by rw [HB.out, h1, Bool.true_and]; rfl, HB2.out⟩

theorem al1 : bkB (awL [] 0 false) 32 0 = true := by decide +kernel
theorem al2 : frB (awL [] 0 false) 0 12 = true := by decide +kernel
theorem al3 : frB (awL [97, 98] 1 true) 66 0 = true := by decide +kernel
theorem al4 : bkB (awL [97, 98] 1 true) 66 0 = true := by decide +kernel
theorem al5 : frB [84, 84, 65, 49] 0 6 = true := by decide +kernel
theorem al6 : awL [] 0 false = [65, 80, 69, 84, 65, 71, 69, 88, 208, 7, 0, 0, 32, 0, 0, 0] ++ List.replicate 16 0 := by decide +kernel
theorem cat16 : (⟨#[65, 80, 69, 84, 65, 71, 69, 88, 208, 7, 0, 0, 32, 0, 0, 0]⟩ : ByteArray) ++ ⟨#[0, 0, 0, 0, 0, 0, 0, 0, 0, 0, 0, 0, 0, 0, 0, 0]⟩ = ⟨#[65, 80, 69, 84, 65, 71, 69, 88, 208, 7, 0, 0, 32, 0, 0, 0, 0, 0, 0, 0, 0, 0, 0, 0, 0, 0, 0, 0, 0, 0, 0, 0]⟩ := by kernel_rfl
theorem mk16 (W : World) : (Instr.makeSlice 22 (.int .i64 16) (.int .i64 16)).run Try.prog W = .ok (.slice (some ⟨W.heap.size, 0, none⟩) 16 16) (W.alloc (.cells (zb 16) 5)) := run_make_bytes 16 (by omega) W

set_option maxRecDepth 100000 in
set_option maxHeartbeats 4000000 in
theorem alive29_any (w : World) :
    Calls Try.prog 37 #[] w fun e w' => e = .returned (.bool true) ∧ Below w.heap.size w w' := by
  have kc := fun (w : World) (C : Array Value) (n c : Nat) => Lib.run_convert_bytes_const (P := Try.prog) w 22 5 C n c Try.underlying22 Try.underlying5
  have hmk := mk16
  go_enter Try.func37, Try.ntmps37
  go_wp2_with fail
  refine (awrite_any none 0 0 [] 0 false _ (BArg.none_ _)).mono ?_
  rintro e w1 ⟨A1, k1, rfl, ho, hb⟩
  rw [show awN 0 0 false = 32 by decide] at ho ⊢
  rw [show apeE 0 0 = 0 by decide]
  have HO1 := Lib.hid ho
  have HB1 := Lib.hid hb
  clear ho hb
  go_wp2_with fail
  refine (awrite_any _ 2 2 [97, 98] 1 true _ (BArg.lit _ _ 2 rfl (by omega) _ _ _ rfl)).mono ?_
  rintro e w2 ⟨A2, k2, rfl, ho, hb⟩
  rw [show awN 2 1 true = 66 by decide] at ho ⊢
  rw [show apeE 2 1 = 0 by decide]
  have HO2 := Lib.hid ho
  have HB2 : Hid (Below w.heap.size w w2) := Lib.hid ((HB1.out.alloc HB1.out.size _).trans (hb.mono (by simp; have := HB1.out.size; omega)))
  have HO1' := Lib.hid ((HO1.out.alloc (.cells #[.int .u8 97, .int .u8 98] 5 (2, 3))).below hb)
  clear ho hb HO1
  have HO1 := HO1'
  clear HO1'
  have HT := al6
  have a1 := al1
  have a2 := al2
  have a3 := al3
  have a4 := al4
  generalize awL [] 0 false = L1 at HO1 HT a1 a2
  generalize awL [97, 98] 1 true = L2 at HO2 a3 a4
  have hcat := cat16
  have tb : ∀ w', Below w2.heap.size w2 w' → (convert 22 9 (.slice A1 32 k1)).run Try.prog w' = .ok (.string ⟨L1.toArray⟩) w' := fun w' h => (HO1.out.below h).arg.text
  go_upto_region 3 with fail
  refine wp_region_held_drew (S := (fun w' => Below w2.heap.size w2 w')) (by kernel_rfl) ?_ (fun hHeld => ?_)
  · (try dsimp only); (first | exact (Below.refl _ _).drew | exact hHeld.alloc hHeld.size _ | exact HX.alloc HX.size _ | exact hHeld.trans (hb.mono hHeld.size))
  refine wpAnyH_take (i := 0) (v := ?_) (op_at (pre := [])) (by kernel_rfl) (by kernel_rfl) (by kernel_rfl) (fun _ _ _ h => h) (Or.inl ⟨by rfl, ?_⟩) (by assumption) ?_
  rotate_left
  · intro w' hSw; (try dsimp only at hSw); go_simp; (try with_reducible rfl)
  simp only [Act.put, List.setIfInBounds_toArray, List.set_cons_zero, List.set_cons_succ]
  refine wpAnyH_take (i := 1) (v := ?_) (op_at (pre := [_])) (by kernel_rfl) (by kernel_rfl) (by kernel_rfl) (fun _ _ _ h => h) (Or.inl ⟨by rfl, ?_⟩) (by assumption) ?_
  rotate_left
  · intro w' hSw; (try dsimp only at hSw); go_simp; (try with_reducible rfl)
  simp only [Act.put, List.setIfInBounds_toArray, List.set_cons_zero, List.set_cons_succ]
  refine wpAnyH_take (i := 2) (v := ?_) (op_at (pre := [_, _])) (by kernel_rfl) (by kernel_rfl) (by kernel_rfl) (fun _ _ _ h => h) (Or.inl ⟨by rfl, ?_⟩) (by assumption) ?_
  rotate_left
  · intro w' hSw; (try dsimp only at hSw); go_simp; (try with_reducible rfl)
  simp only [Act.put, List.setIfInBounds_toArray, List.set_cons_zero, List.set_cons_succ]
  refine wpAnyH_take (i := 3) (v := ?_) (op_at (pre := [_, _, _])) (by kernel_rfl) (by kernel_rfl) (by kernel_rfl) (fun _ _ _ h => h) (Or.inl ⟨by rfl, ?_⟩) (by assumption) ?_
  rotate_left
  · intro w' hSw; (try dsimp only at hSw); go_simp; (try with_reducible rfl)
  simp only [Act.put, List.setIfInBounds_toArray, List.set_cons_zero, List.set_cons_succ]
  refine wpAnyH_take (i := 4) (v := ?_) (op_at (pre := [_, _, _, _])) (by kernel_rfl) (by kernel_rfl) (by kernel_rfl) (fun _ _ _ h => h) (Or.inl ⟨by rfl, ?_⟩) (by assumption) ?_
  rotate_left
  · intro w' hSw; (try dsimp only at hSw); go_simp; (try with_reducible rfl)
  simp only [Act.put, List.setIfInBounds_toArray, List.set_cons_zero, List.set_cons_succ]
  have HX := hHeld
  refine wpAnyH_ready (rs := [5]) (by kernel_rfl) (by simp) ?_
  refine AllReadyH.cons (op_at (pre := [_, _, _, _, _])) (fun K hK => ?_) AllReadyH.nil
  go_simp
  refine hK.out _ _ ?_ (fun hHeld => ?_)
  · (try dsimp only); (first | exact (Below.refl _ _).drew | exact hHeld.alloc hHeld.size _ | exact HX.alloc HX.size _ | exact hHeld.trans (hb.mono hHeld.size))
  clear hK K
  have tz := (Owns.made w2 0 16 (Nat.zero_le _) (by omega)).drew.arg.text
  refine wpAnyH_ready (rs := [6]) (by kernel_rfl) (by simp) ?_
  refine AllReadyH.cons (op_at (pre := [_, _, _, _, _, _])) (fun K hK => ?_) AllReadyH.nil
  go_simp
  refine hK.out _ _ ?_ (fun hHeld => ?_)
  · (try dsimp only); (first | exact (Below.refl _ _).drew | exact hHeld.alloc hHeld.size _ | exact HX.alloc HX.size _ | exact hHeld.trans (hb.mono hHeld.size))
  clear hK K
  refine wpAnyH_take (i := 7) (v := ?_) (op_at (pre := [_, _, _, _, _, _, _])) (by kernel_rfl) (by kernel_rfl) (by kernel_rfl) (fun _ _ _ h => h) (Or.inl ⟨by rfl, ?_⟩) (by assumption) ?_
  rotate_left
  · intro w' hSw; (try dsimp only at hSw); go_simp; (try with_reducible rfl)
  simp only [Act.put, List.setIfInBounds_toArray, List.set_cons_zero, List.set_cons_succ]
  refine wpAnyH_take (i := 8) (v := ?_) (op_at (pre := [_, _, _, _, _, _, _, _])) (by kernel_rfl) (by kernel_rfl) (by kernel_rfl) (fun _ _ _ h => h) (Or.inl ⟨by rfl, ?_⟩) (by assumption) ?_
  rotate_left
  · intro w' hSw; (try dsimp only at hSw); go_simp; (try with_reducible rfl)
  simp only [Act.put, List.setIfInBounds_toArray, List.set_cons_zero, List.set_cons_succ]
  refine wpAnyH_take (i := 9) (v := ?_) (op_at (pre := [_, _, _, _, _, _, _, _, _])) (by kernel_rfl) (by kernel_rfl) (by kernel_rfl) (fun _ _ _ h => h) (Or.inl ⟨by rfl, ?_⟩) (by assumption) ?_
  rotate_left
  · intro w' hSw; (try dsimp only at hSw); go_simp; (try with_reducible rfl)
  simp only [Act.put, List.setIfInBounds_toArray, List.set_cons_zero, List.set_cons_succ]
  refine wpAnyH_take (i := 10) (v := ?_) (op_at (pre := [_, _, _, _, _, _, _, _, _, _])) (by kernel_rfl) (by kernel_rfl) (by kernel_rfl) (fun _ _ _ h => h) (Or.inl ⟨by rfl, ?_⟩) (by assumption) ?_
  rotate_left
  · intro w' hSw; (try dsimp only at hSw); go_simp; (try with_reducible rfl)
  simp only [Act.put, List.setIfInBounds_toArray, List.set_cons_zero, List.set_cons_succ]
  refine wpAnyH_take (i := 11) (v := ?_) (op_at (pre := [_, _, _, _, _, _, _, _, _, _, _])) (by kernel_rfl) (by kernel_rfl) (by kernel_rfl) (fun _ _ _ h => h) (Or.inl ⟨by rfl, ?_⟩) (by assumption) ?_
  rotate_left
  · intro w' hSw; (try dsimp only at hSw); go_simp; (try with_reducible rfl)
  simp only [Act.put, List.setIfInBounds_toArray, List.set_cons_zero, List.set_cons_succ]
  refine wpAnyH_ready (rs := [12]) (by kernel_rfl) (by simp) ?_
  refine AllReadyH.cons (op_at (pre := [_, _, _, _, _, _, _, _, _, _, _, _])) (fun K hK => ?_) AllReadyH.nil
  go_simp
  refine (lback_any A1 32 k1 _ 32 0 _ (HO1.out.below hHeld).arg).mono ?_
  rintro e w9 ⟨rfl, hb⟩
  rw [a1]
  go_wp2_with fail
  refine hK.out _ _ ?_ (fun hHeld => ?_)
  · (try dsimp only); (first | exact (Below.refl _ _).drew | exact hHeld.alloc hHeld.size _ | exact HX.alloc HX.size _ | exact hHeld.trans (hb.mono hHeld.size))
  clear hK K
  refine wpAnyH_take (i := 13) (v := ?_) (op_at (pre := [_, _, _, _, _, _, _, _, _, _, _, _, _])) (by kernel_rfl) (by kernel_rfl) (by kernel_rfl) (fun _ _ _ h => h) (Or.inl ⟨by rfl, ?_⟩) (by assumption) ?_
  rotate_left
  · intro w' hSw; (try dsimp only at hSw); go_simp; (try with_reducible rfl)
  simp only [Act.put, List.setIfInBounds_toArray, List.set_cons_zero, List.set_cons_succ]
  refine wpAnyH_take (i := 14) (v := ?_) (op_at (pre := [_, _, _, _, _, _, _, _, _, _, _, _, _, _])) (by kernel_rfl) (by kernel_rfl) (by kernel_rfl) (fun _ _ _ h => h) (Or.inl ⟨by rfl, ?_⟩) (by assumption) ?_
  rotate_left
  · intro w' hSw; (try dsimp only at hSw); go_simp; (try with_reducible rfl)
  simp only [Act.put, List.setIfInBounds_toArray, List.set_cons_zero, List.set_cons_succ]
  refine wpAnyH_take (i := 15) (v := ?_) (op_at (pre := [_, _, _, _, _, _, _, _, _, _, _, _, _, _, _])) (by kernel_rfl) (by kernel_rfl) (by kernel_rfl) (fun _ _ _ h => h) (Or.inl ⟨by rfl, ?_⟩) (by assumption) ?_
  rotate_left
  · intro w' hSw; (try dsimp only at hSw); go_simp; (try with_reducible rfl)
  simp only [Act.put, List.setIfInBounds_toArray, List.set_cons_zero, List.set_cons_succ]
  refine wpAnyH_ready (rs := [16]) (by kernel_rfl) (by simp) ?_
  refine AllReadyH.cons (op_at (pre := [_, _, _, _, _, _, _, _, _, _, _, _, _, _, _, _])) (fun K hK => ?_) AllReadyH.nil
  go_simp
  refine (lfront_any A1 32 k1 _ 0 12 _ (HO1.out.below hHeld).arg).mono ?_
  rintro e w9 ⟨rfl, hb⟩
  rw [a2]
  go_wp2_with fail
  refine hK.out _ _ ?_ (fun hHeld => ?_)
  · (try dsimp only); (first | exact (Below.refl _ _).drew | exact hHeld.alloc hHeld.size _ | exact HX.alloc HX.size _ | exact hHeld.trans (hb.mono hHeld.size))
  clear hK K
  refine wpAnyH_take (i := 17) (v := ?_) (op_at (pre := [_, _, _, _, _, _, _, _, _, _, _, _, _, _, _, _, _])) (by kernel_rfl) (by kernel_rfl) (by kernel_rfl) (fun _ _ _ h => h) (Or.inl ⟨by rfl, ?_⟩) (by assumption) ?_
  rotate_left
  · intro w' hSw; (try dsimp only at hSw); go_simp; (try with_reducible rfl)
  simp only [Act.put, List.setIfInBounds_toArray, List.set_cons_zero, List.set_cons_succ]
  refine wpAnyH_take (i := 18) (v := ?_) (op_at (pre := [_, _, _, _, _, _, _, _, _, _, _, _, _, _, _, _, _, _])) (by kernel_rfl) (by kernel_rfl) (by kernel_rfl) (fun _ _ _ h => h) (Or.inl ⟨by rfl, ?_⟩) (by assumption) ?_
  rotate_left
  · intro w' hSw; (try dsimp only at hSw); go_simp; (try with_reducible rfl)
  simp only [Act.put, List.setIfInBounds_toArray, List.set_cons_zero, List.set_cons_succ]
  refine wpAnyH_take (i := 19) (v := ?_) (op_at (pre := [_, _, _, _, _, _, _, _, _, _, _, _, _, _, _, _, _, _, _])) (by kernel_rfl) (by kernel_rfl) (by kernel_rfl) (fun _ _ _ h => h) (Or.inl ⟨by rfl, ?_⟩) (by assumption) ?_
  rotate_left
  · intro w' hSw; (try dsimp only at hSw); go_simp; (try with_reducible rfl)
  simp only [Act.put, List.setIfInBounds_toArray, List.set_cons_zero, List.set_cons_succ]
  refine wpAnyH_take (i := 20) (v := ?_) (op_at (pre := [_, _, _, _, _, _, _, _, _, _, _, _, _, _, _, _, _, _, _, _])) (by kernel_rfl) (by kernel_rfl) (by kernel_rfl) (fun _ _ _ h => h) (Or.inl ⟨by rfl, ?_⟩) (by assumption) ?_
  rotate_left
  · intro w' hSw; (try dsimp only at hSw); go_simp; (try with_reducible rfl)
  simp only [Act.put, List.setIfInBounds_toArray, List.set_cons_zero, List.set_cons_succ]
  refine wpAnyH_take (i := 21) (v := ?_) (op_at (pre := [_, _, _, _, _, _, _, _, _, _, _, _, _, _, _, _, _, _, _, _, _])) (by kernel_rfl) (by kernel_rfl) (by kernel_rfl) (fun _ _ _ h => h) (Or.inl ⟨by rfl, ?_⟩) (by assumption) ?_
  rotate_left
  · intro w' hSw; (try dsimp only at hSw); go_simp; (try with_reducible rfl)
  simp only [Act.put, List.setIfInBounds_toArray, List.set_cons_zero, List.set_cons_succ]
  refine wpAnyH_take (i := 22) (v := ?_) (op_at (pre := [_, _, _, _, _, _, _, _, _, _, _, _, _, _, _, _, _, _, _, _, _, _])) (by kernel_rfl) (by kernel_rfl) (by kernel_rfl) (fun _ _ _ h => h) (Or.inl ⟨by rfl, ?_⟩) (by assumption) ?_
  rotate_left
  · intro w' hSw; (try dsimp only at hSw); go_simp; (try with_reducible rfl)
  simp only [Act.put, List.setIfInBounds_toArray, List.set_cons_zero, List.set_cons_succ]
  refine wpAnyH_take (i := 23) (v := ?_) (op_at (pre := [_, _, _, _, _, _, _, _, _, _, _, _, _, _, _, _, _, _, _, _, _, _, _])) (by kernel_rfl) (by kernel_rfl) (by kernel_rfl) (fun _ _ _ h => h) (Or.inl ⟨by rfl, ?_⟩) (by assumption) ?_
  rotate_left
  · intro w' hSw; (try dsimp only at hSw); go_simp; (try with_reducible rfl)
  simp only [Act.put, List.setIfInBounds_toArray, List.set_cons_zero, List.set_cons_succ]
  refine wpAnyH_take (i := 24) (v := ?_) (op_at (pre := [_, _, _, _, _, _, _, _, _, _, _, _, _, _, _, _, _, _, _, _, _, _, _, _])) (by kernel_rfl) (by kernel_rfl) (by kernel_rfl) (fun _ _ _ h => h) (Or.inl ⟨by rfl, ?_⟩) (by assumption) ?_
  rotate_left
  · intro w' hSw; (try dsimp only at hSw); go_simp; (try with_reducible rfl)
  simp only [Act.put, List.setIfInBounds_toArray, List.set_cons_zero, List.set_cons_succ]
  refine wpAnyH_take (i := 25) (v := ?_) (op_at (pre := [_, _, _, _, _, _, _, _, _, _, _, _, _, _, _, _, _, _, _, _, _, _, _, _, _])) (by kernel_rfl) (by kernel_rfl) (by kernel_rfl) (fun _ _ _ h => h) (Or.inl ⟨by rfl, ?_⟩) (by assumption) ?_
  rotate_left
  · intro w' hSw; (try dsimp only at hSw); go_simp; (try with_reducible rfl)
  simp only [Act.put, List.setIfInBounds_toArray, List.set_cons_zero, List.set_cons_succ]
  refine wpAnyH_take (i := 26) (v := ?_) (op_at (pre := [_, _, _, _, _, _, _, _, _, _, _, _, _, _, _, _, _, _, _, _, _, _, _, _, _, _])) (by kernel_rfl) (by kernel_rfl) (by kernel_rfl) (fun _ _ _ h => h) (Or.inl ⟨by rfl, ?_⟩) (by assumption) ?_
  rotate_left
  · intro w' hSw; (try dsimp only at hSw); go_simp; (try with_reducible rfl)
  simp only [Act.put, List.setIfInBounds_toArray, List.set_cons_zero, List.set_cons_succ]
  refine wpAnyH_take (i := 27) (v := ?_) (op_at (pre := [_, _, _, _, _, _, _, _, _, _, _, _, _, _, _, _, _, _, _, _, _, _, _, _, _, _, _])) (by kernel_rfl) (by kernel_rfl) (by kernel_rfl) (fun _ _ _ h => h) (Or.inl ⟨by rfl, ?_⟩) (by assumption) ?_
  rotate_left
  · intro w' hSw; (try dsimp only at hSw); go_simp; (try with_reducible rfl)
  simp only [Act.put, List.setIfInBounds_toArray, List.set_cons_zero, List.set_cons_succ]
  refine wpAnyH_take (i := 28) (v := ?_) (op_at (pre := [_, _, _, _, _, _, _, _, _, _, _, _, _, _, _, _, _, _, _, _, _, _, _, _, _, _, _, _])) (by kernel_rfl) (by kernel_rfl) (by kernel_rfl) (fun _ _ _ h => h) (Or.inl ⟨by rfl, ?_⟩) (by assumption) ?_
  rotate_left
  · intro w' hSw; (try dsimp only at hSw); go_simp; (try with_reducible rfl)
  simp only [Act.put, List.setIfInBounds_toArray, List.set_cons_zero, List.set_cons_succ]
  refine wpAnyH_ready (rs := [29]) (by kernel_rfl) (by simp) ?_
  refine AllReadyH.cons (op_at (pre := [_, _, _, _, _, _, _, _, _, _, _, _, _, _, _, _, _, _, _, _, _, _, _, _, _, _, _, _, _])) (fun K hK => ?_) AllReadyH.nil
  go_simp
  refine (lfront_any A2 66 k2 _ 66 0 _ (HO2.out.below hHeld).arg).mono ?_
  rintro e w9 ⟨rfl, hb⟩
  rw [a3]
  go_wp2_with fail
  refine hK.out _ _ ?_ (fun hHeld => ?_)
  · (try dsimp only); (first | exact (Below.refl _ _).drew | exact hHeld.alloc hHeld.size _ | exact HX.alloc HX.size _ | exact hHeld.trans (hb.mono hHeld.size))
  clear hK K
  refine wpAnyH_take (i := 30) (v := ?_) (op_at (pre := [_, _, _, _, _, _, _, _, _, _, _, _, _, _, _, _, _, _, _, _, _, _, _, _, _, _, _, _, _, _])) (by kernel_rfl) (by kernel_rfl) (by kernel_rfl) (fun _ _ _ h => h) (Or.inl ⟨by rfl, ?_⟩) (by assumption) ?_
  rotate_left
  · intro w' hSw; (try dsimp only at hSw); go_simp; (try with_reducible rfl)
  simp only [Act.put, List.setIfInBounds_toArray, List.set_cons_zero, List.set_cons_succ]
  refine wpAnyH_take (i := 31) (v := ?_) (op_at (pre := [_, _, _, _, _, _, _, _, _, _, _, _, _, _, _, _, _, _, _, _, _, _, _, _, _, _, _, _, _, _, _])) (by kernel_rfl) (by kernel_rfl) (by kernel_rfl) (fun _ _ _ h => h) (Or.inl ⟨by rfl, ?_⟩) (by assumption) ?_
  rotate_left
  · intro w' hSw; (try dsimp only at hSw); go_simp; (try with_reducible rfl)
  simp only [Act.put, List.setIfInBounds_toArray, List.set_cons_zero, List.set_cons_succ]
  refine wpAnyH_take (i := 32) (v := ?_) (op_at (pre := [_, _, _, _, _, _, _, _, _, _, _, _, _, _, _, _, _, _, _, _, _, _, _, _, _, _, _, _, _, _, _, _])) (by kernel_rfl) (by kernel_rfl) (by kernel_rfl) (fun _ _ _ h => h) (Or.inl ⟨by rfl, ?_⟩) (by assumption) ?_
  rotate_left
  · intro w' hSw; (try dsimp only at hSw); go_simp; (try with_reducible rfl)
  simp only [Act.put, List.setIfInBounds_toArray, List.set_cons_zero, List.set_cons_succ]
  refine wpAnyH_ready (rs := [33]) (by kernel_rfl) (by simp) ?_
  refine AllReadyH.cons (op_at (pre := [_, _, _, _, _, _, _, _, _, _, _, _, _, _, _, _, _, _, _, _, _, _, _, _, _, _, _, _, _, _, _, _, _])) (fun K hK => ?_) AllReadyH.nil
  go_simp
  refine (lback_any A2 66 k2 _ 66 0 _ (HO2.out.below hHeld).arg).mono ?_
  rintro e w9 ⟨rfl, hb⟩
  rw [a4]
  go_wp2_with fail
  refine hK.out _ _ ?_ (fun hHeld => ?_)
  · (try dsimp only); (first | exact (Below.refl _ _).drew | exact hHeld.alloc hHeld.size _ | exact HX.alloc HX.size _ | exact hHeld.trans (hb.mono hHeld.size))
  clear hK K
  refine wpAnyH_take (i := 34) (v := ?_) (op_at (pre := [_, _, _, _, _, _, _, _, _, _, _, _, _, _, _, _, _, _, _, _, _, _, _, _, _, _, _, _, _, _, _, _, _, _])) (by kernel_rfl) (by kernel_rfl) (by kernel_rfl) (fun _ _ _ h => h) (Or.inl ⟨by rfl, ?_⟩) (by assumption) ?_
  rotate_left
  · intro w' hSw; (try dsimp only at hSw); go_simp; (try with_reducible rfl)
  simp only [Act.put, List.setIfInBounds_toArray, List.set_cons_zero, List.set_cons_succ]
  refine wpAnyH_take (i := 35) (v := ?_) (op_at (pre := [_, _, _, _, _, _, _, _, _, _, _, _, _, _, _, _, _, _, _, _, _, _, _, _, _, _, _, _, _, _, _, _, _, _, _])) (by kernel_rfl) (by kernel_rfl) (by kernel_rfl) (fun _ _ _ h => h) (Or.inl ⟨by rfl, ?_⟩) (by assumption) ?_
  rotate_left
  · intro w' hSw; (try dsimp only at hSw); go_simp; (try with_reducible rfl)
  simp only [Act.put, List.setIfInBounds_toArray, List.set_cons_zero, List.set_cons_succ]
  have HX := hHeld
  refine wpAnyH_ready (rs := [36]) (by kernel_rfl) (by simp) ?_
  refine AllReadyH.cons (op_at (pre := [_, _, _, _, _, _, _, _, _, _, _, _, _, _, _, _, _, _, _, _, _, _, _, _, _, _, _, _, _, _, _, _, _, _, _, _])) (fun K hK => ?_) AllReadyH.nil
  go_simp
  refine hK.out _ _ ?_ (fun hHeld => ?_)
  · (try dsimp only); (first | exact (Below.refl _ _).drew | exact hHeld.alloc hHeld.size _ | exact HX.alloc HX.size _ | exact hHeld.trans (hb.mono hHeld.size))
  clear hK K
  refine wpAnyH_ready (rs := [37]) (by kernel_rfl) (by simp) ?_
  refine AllReadyH.cons (op_at (pre := [_, _, _, _, _, _, _, _, _, _, _, _, _, _, _, _, _, _, _, _, _, _, _, _, _, _, _, _, _, _, _, _, _, _, _, _, _])) (fun K hK => ?_) AllReadyH.nil
  go_simp
  refine hK.out _ _ ?_ (fun hHeld => ?_)
  · (try dsimp only); (first | exact (Below.refl _ _).drew | exact hHeld.alloc hHeld.size _ | exact HX.alloc HX.size _ | exact hHeld.trans (hb.mono hHeld.size))
  clear hK K
  refine wpAnyH_ready (rs := [38]) (by kernel_rfl) (by simp) ?_
  refine AllReadyH.cons (op_at (pre := [_, _, _, _, _, _, _, _, _, _, _, _, _, _, _, _, _, _, _, _, _, _, _, _, _, _, _, _, _, _, _, _, _, _, _, _, _, _])) (fun K hK => ?_) AllReadyH.nil
  go_simp
  refine (lfront_any _ 4 4 [84, 84, 65, 49] 0 6 _ (BArg.lit _ _ 4 rfl (by omega) _ _ _ rfl)).mono ?_
  rintro e w9 ⟨rfl, hb⟩
  rw [al5]
  go_wp2_with fail
  refine hK.out _ _ ?_ (fun hHeld => ?_)
  · (try dsimp only); (first | exact (Below.refl _ _).drew | exact hHeld.alloc hHeld.size _ | exact HX.alloc HX.size _ | exact hHeld.trans (hb.mono hHeld.size))
  clear hK K
  refine wpAnyH_take (i := 39) (v := ?_) (op_at (pre := [_, _, _, _, _, _, _, _, _, _, _, _, _, _, _, _, _, _, _, _, _, _, _, _, _, _, _, _, _, _, _, _, _, _, _, _, _, _, _])) (by kernel_rfl) (by kernel_rfl) (by kernel_rfl) (fun _ _ _ h => h) (Or.inl ⟨by rfl, ?_⟩) (by assumption) ?_
  rotate_left
  · intro w' hSw; (try dsimp only at hSw); go_simp; (try with_reducible rfl)
  simp only [Act.put, List.setIfInBounds_toArray, List.set_cons_zero, List.set_cons_succ]
  refine wpAnyH_take (i := 40) (v := ?_) (op_at (pre := [_, _, _, _, _, _, _, _, _, _, _, _, _, _, _, _, _, _, _, _, _, _, _, _, _, _, _, _, _, _, _, _, _, _, _, _, _, _, _, _])) (by kernel_rfl) (by kernel_rfl) (by kernel_rfl) (fun _ _ _ h => h) (Or.inl ⟨by rfl, ?_⟩) (by assumption) ?_
  rotate_left
  · intro w' hSw; (try dsimp only at hSw); go_simp; (try with_reducible rfl)
  simp only [Act.put, List.setIfInBounds_toArray, List.set_cons_zero]
  refine wpAnyH_done (by kernel_rfl) ?_ _
  go_wp2_with fail
  go_ret
  exact ⟨rfl, HB2.out.trans (hHeld.mono HB2.out.size)⟩
end Go.Proofs.Ytgdchcaglkeghaa

