/- ApeWrites: the walk. -/
import Derived.Test.YtgdchcaglkeghaaApeRefB
import Derived.Test.YtgdchcaglkeghaaOpenApe
namespace Go.Proofs.Ytgdchcaglkeghaa
open Go.RowKit
attribute [local go_sem ↓] Go.wp_at_zero Go.wp_at_succ

/-- Are bytes more than the statements on tags consider? -/
def longA (n : Nat) : Bool := (decide (700 < n) && decide (n < 2900)) || decide (3200 < n)
set_option maxHeartbeats 400000 in
theorem longa_any (a : Option Addr) (len cap : Nat) (hc : len ≤ 9223372036854775807) (w : World) :
    Calls Try.prog 19 #[.slice a len cap] w fun e w' => e = .returned (.bool (longA len)) ∧ w = w' := by
  have key : (longA len = true ∧ 700 < len ∧ len < 2900) ∨ (longA len = true ∧ 2900 ≤ len ∧ 3200 < len) ∨ (longA len = false ∧ len ≤ 700) ∨ (longA len = false ∧ 2900 ≤ len ∧ len ≤ 3200) := by
    unfold longA
    simp only [Bool.or_eq_true, Bool.and_eq_true, decide_eq_true_eq, Bool.or_eq_false_iff, Bool.and_eq_false_iff, decide_eq_false_iff_not]
    omega
  rcases key with ⟨he, h1, h2⟩ | ⟨he, h1, h2⟩ | ⟨he, h1⟩ | ⟨he, h1, h2⟩
  · have HE := Lib.hid he
    have g1 : decide ((700 : Int) < (len : Int)) = true := by simp; omega
    have g2 : decide ((len : Int) < 2900) = true := by simp; omega
    clear he h1 h2
    go_enter Try.func19, Try.ntmps19
    go_wp2_with fail
    go_ret
    exact ⟨by rw [HE.out]; rfl, rfl⟩
  · have HE := Lib.hid he
    have g1 : decide ((700 : Int) < (len : Int)) = true := by simp; omega
    have g2 : decide ((len : Int) < 2900) = false := by simp; omega
    have g3 : decide ((3200 : Int) < (len : Int)) = true := by simp; omega
    clear he h1 h2
    go_enter Try.func19, Try.ntmps19
    go_wp2_with fail
    go_ret
    exact ⟨by rw [HE.out]; rfl, rfl⟩
  · have HE := Lib.hid he
    have g1 : decide ((700 : Int) < (len : Int)) = false := by simp; omega
    have g3 : decide ((3200 : Int) < (len : Int)) = false := by simp; omega
    clear he h1
    go_enter Try.func19, Try.ntmps19
    go_wp2_with fail
    go_ret
    exact ⟨by rw [HE.out]; rfl, rfl⟩
  · have HE := Lib.hid he
    have g1 : decide ((700 : Int) < (len : Int)) = true := by simp; omega
    have g2 : decide ((len : Int) < 2900) = false := by simp; omega
    have g3 : decide ((3200 : Int) < (len : Int)) = false := by simp; omega
    clear he h1 h2
    go_enter Try.func19, Try.ntmps19
    go_wp2_with fail
    go_ret
    exact ⟨by rw [HE.out]; rfl, rfl⟩

set_option maxRecDepth 100000 in
set_option maxHeartbeats 2000000 in
theorem apewrites_calls (a : Option Addr) (len cap : Nat) (l : List UInt8) (c : Int) (h : Bool) (w : World) (ha : BArg w a len cap l) (_hc : (Lit.int .i64 c).wf = true) :
    Calls Try.prog 4 #[.agg #[.slice a len cap, .int .i64 c, .bool h]] w fun e w' => e = .returned (.bool true) ∧ Below w.heap.size w w' := by
  obtain ⟨w1, hw1, d1, d2, d3, hB, hz⟩ := box3 w (.slice a len cap) (.int .i64 c) (.bool h) 30
  have HW := Lib.hid hw1
  have HB := Lib.hid hB
  have HA := Lib.hid (ha.below hB)
  have hs9 : len ≤ 9223372036854775807 := Nat.le_trans ha.le ha.small
  have CL := Lib.hid (longa_any a len cap hs9)
  clear hw1 hB _hc
  cases hl : longA len with
  | true =>
    rw [hl] at CL
    clear hl ha
    go_enter Try.func4, Try.ntmps4
    go_wp2_with fail
    rw [← HW.out]
    refine (CL.out _).mono ?_
    rintro e w2 ⟨rfl, rfl⟩
    go_wp2_with fail
    go_ret
    exact ⟨rfl, HB.out⟩
  | false =>
    rw [hl] at CL
    have t0 := HA.out.text
    clear hl ha
    go_enter Try.func4, Try.ntmps4
    go_wp2_with fail
    rw [← HW.out]
    refine (CL.out _).mono ?_
    rintro e w2 ⟨rfl, rfl⟩
    go_wp2_with fail
    refine (awrite_any a len cap l c h _ HA.out).mono ?_
    rintro e w2 ⟨A1, k1, rfl, ho, hb2⟩
    have HO1 := Lib.hid ho
    have HB2 := Lib.hid hb2
    clear ho hb2 t0
    have e1 := (HB2.out.cell (p := ⟨w.heap.size, 0, none⟩) hz).trans d1
    have e2 := (HB2.out.cell (p := ⟨w.heap.size, 1, none⟩) hz).trans d2
    have e3 := (HB2.out.cell (p := ⟨w.heap.size, 2, none⟩) hz).trans d3
    go_wp2_with fail
    refine (rawrite_any a len cap l c h _ (HA.out.below HB2.out)).mono ?_
    rintro e w3 ⟨A2, k2, rfl, ho, hb3⟩
    have HO2 := Lib.hid ho
    have HO1' := Lib.hid (HO1.out.below hb3)
    have HB3 := Lib.hid (HB2.out.trans (hb3.mono HB2.out.size))
    clear ho hb3 e1 e2 e3 HO1 HB2
    have e1 := (HB3.out.cell (p := ⟨w.heap.size, 0, none⟩) hz).trans d1
    have e2 := (HB3.out.cell (p := ⟨w.heap.size, 1, none⟩) hz).trans d2
    have e3 := (HB3.out.cell (p := ⟨w.heap.size, 2, none⟩) hz).trans d3
    have HA3 := Lib.hid (HA.out.below HB3.out)
    have hz3 : w.heap.size < w3.heap.size := Nat.lt_of_lt_of_le hz HB3.out.size
    go_upto_region 6 with fail
    have t1 := HO1'.out.drew.arg.text
    have t2 := HO2.out.drew.arg.text
    have t3 := HA3.out.drew.text
    have CC := Lib.hid (acheck_any a len cap c h)
    have CR := Lib.hid (racheck_any a len cap c h)
    generalize awN len c h = N at *
    generalize awL l c h = L at *
    generalize apeE len c = E at *
    have g1 : (E == E) = true := by simp
    go_region_held3 (fun w' => w'.cell? ⟨w.heap.size, 0, none⟩ = some (.slice a len cap) ∧ w'.cell? ⟨w.heap.size, 1, none⟩ = some (.int .i64 c) ∧ w'.cell? ⟨w.heap.size, 2, none⟩ = some (.bool h) ∧ (convert 22 9 (.slice A1 N k1)).run Try.prog w' = .ok (.string ⟨L.toArray⟩) w' ∧ (convert 22 9 (.slice A2 N k2)).run Try.prog w' = .ok (.string ⟨L.toArray⟩) w' ∧ (convert 22 9 (.slice a len cap)).run Try.prog w' = .ok (.string ⟨l.toArray⟩) w') (((try dsimp only); (repeat' apply And.intro) <;> first | assumption | go_keep)) ((first | (go_at_call 22; refine (CC.out _).mono ?_; rintro e w4 ⟨rfl, hb⟩; have e1x := (hb.cell (p := ⟨w.heap.size, 0, none⟩) (by simp; omega)).trans e1; have e2x := (hb.cell (p := ⟨w.heap.size, 1, none⟩) (by simp; omega)).trans e2; have e3x := (hb.cell (p := ⟨w.heap.size, 2, none⟩) (by simp; omega)).trans e3; have P1x := Lib.hid (HO1'.out.drew.below hb); have P2x := Lib.hid (HO2.out.drew.below hb); have P3x := Lib.hid (HA3.out.drew.below hb); have t1x := P1x.out.arg.text; have t2x := P2x.out.arg.text; have t3x := P3x.out.text; have HBx := Lib.hid (HB3.out.drew.trans (hb.mono HB3.out.drew.size)); have hzx := Nat.lt_of_lt_of_le hz HBx.out.size; clear hb) | (go_at_call 23; refine (CR.out _).mono ?_; rintro e w5 ⟨rfl, hb⟩; have e1y := (hb.cell (p := ⟨w.heap.size, 0, none⟩) (by simp; omega)).trans e1x; have e2y := (hb.cell (p := ⟨w.heap.size, 1, none⟩) (by simp; omega)).trans e2x; have e3y := (hb.cell (p := ⟨w.heap.size, 2, none⟩) (by simp; omega)).trans e3x; have P1y := Lib.hid (P1x.out.below hb); have P2y := Lib.hid (P2x.out.below hb); have P3y := Lib.hid (P3x.out.below hb); have t1y := P1y.out.arg.text; have t2y := P2y.out.arg.text; have t3y := P3y.out.text; have HBy := Lib.hid (HBx.out.trans (hb.mono HBx.out.size)); have hzy := Nat.lt_of_lt_of_le hz HBy.out.size; clear hb)))
    go_wp2_with fail
    go_ret
    exact ⟨rfl, HB.out.trans (HBy.out.mono HB.out.size)⟩
end Go.Proofs.Ytgdchcaglkeghaa
