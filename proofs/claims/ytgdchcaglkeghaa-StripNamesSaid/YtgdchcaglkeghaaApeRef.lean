/- The walks of the reference of layer 29: Check, end, head, foot, told. -/
import Derived.Test.YtgdchcaglkeghaaApeBack
import Derived.Test.YtgdchcaglkeghaaApeWrite
import Derived.Test.YtgdchcaglkeghaaZeros
import Derived.Test.YtgdchcaglkeghaaRef01
namespace Go.Proofs.Ytgdchcaglkeghaa
open Go.RowKit

set_option maxHeartbeats 1000000 in
theorem racheck_any (a : Option Addr) (len cap : Nat) (c : Int) (h : Bool) (w : World) :
    Calls Try.prog 23 #[.agg #[.slice a len cap, .int .i64 c, .bool h]] w fun e w' => e = .returned (.int .i64 (apeE len c)) ∧ Below w.heap.size w w' := by
  rcases ape_cases len c with ⟨he, h1 | ⟨h1, h2⟩ | ⟨h1, h2, h3⟩⟩ | ⟨he, h1, h2, h3⟩
  all_goals
    have HE := Lib.hid he
    clear he
    go_enter Try.func23, Try.ntmps23
    go_wp2_with fail
    go_ret
    exact ⟨by rw [HE.out]; rfl, (Below.refl _ _).alloc (Nat.le_refl _) _⟩

theorem endL_parts (it ct fl : Nat) : endL it ct fl = apeM ++ Le.bs 2000 4 ++ Le.bs (it + 32) 4 ++ Le.bs ct 4 ++ Le.bs fl 4 ++ List.replicate 8 0 := by
  have e : (List.replicate 8 0 : List UInt8) = Le.bs 0 4 ++ Le.bs 0 4 := by decide
  rw [e, ← List.append_assoc]
  rfl

set_option maxHeartbeats 2000000 in
theorem rend_any (it ct fl : Nat) (h1 : it ≤ 3000) (h2 : ct ≤ 1000) (h3 : fl < 4294967296) (w : World) :
    Calls Try.prog 63 #[.int .i64 (it : Int), .int .i64 (ct : Int), .int .u64 (fl : Int)] w fun e w' => ∃ A cap, e = .returned (.slice A 32 cap) ∧ Owns w' w.heap.size (.slice A 32 cap) (endL it ct fl) ∧ Below w.heap.size w w' := by
  have kc := fun (w : World) (C : Array Value) (n c : Nat) => Lib.run_convert_bytes_const (P := Try.prog) w 22 5 C n c Try.underlying22 Try.underlying5
  have hF := endL_parts it ct fl
  generalize endL it ct fl = FL at *
  have hI : (it : Int) + 32 = ((it + 32 : Nat) : Int) := by omega
  have h1' : it + 32 ≤ 3032 := by omega
  generalize it + 32 = I at *
  have HF := Lib.hid hF
  clear hF
  go_enter Try.func63, Try.ntmps63
  go_wp2_with fail
  obtain ⟨w1, hw1⟩ : ∃ w1, w1 = w.alloc (.cells #[.int .u8 65, .int .u8 80, .int .u8 69, .int .u8 84, .int .u8 65, .int .u8 71, .int .u8 69, .int .u8 88] 5 (8, 9)) := ⟨_, rfl⟩
  rw [← hw1]
  have HB : Hid (Below w.heap.size w w1) := Lib.hid (by rw [hw1]; exact (Below.refl _ _).alloc (Nat.le_refl _) _)
  have HO0 : Hid (GRow w1 w.heap.size (.slice (some ⟨w.heap.size, 0, none⟩) 8 8) apeM) := Lib.hid (by rw [hw1]; exact GRow.lit w _ apeM 8 rfl (by omega) 5 (8, 9) _ rfl (Nat.le_refl _))
  have HB0 := HB
  clear hw1 kc
  refine (written_any 2000 4 (by omega) (by omega) _).mono ?_
  rintro e w2 ⟨A', c', rfl, ho, hb0⟩
  have HOa0 := Lib.hid ho
  have HOb0 := Lib.hid (HO0.out.below hb0)
  have HBb0 := Lib.hid (HB0.out.trans (hb0.mono HB0.out.size))
  clear ho hb0 HO0 HB0
  go_wp2_with (at_builtin; refine wpList_append_g rfl (.tmp 10) (.tmp 11) rfl w.heap.size _ apeM rfl HOb0.out _ 4 c' (Le.bs 2000 4) rfl HOa0.out.arg (by omega) 12 (by rfl) (by omega) HBb0.out.size ?_; intro A1 c1 w1' hown1 hgr1 _; have HO1 := Lib.hid hown1; have HB1 := Lib.hid (below_append_g HBb0.out HOb0.out (Nat.le_refl _) hgr1); clear hown1 hgr1 HOa0 HOb0 HBb0)
  refine (written_any I 4 (by omega) (by omega) _).mono ?_
  rintro e w2 ⟨A', c', rfl, ho, hb0⟩
  have HOa1 := Lib.hid ho
  have HOb1 := Lib.hid (HO1.out.below hb0)
  have HBb1 := Lib.hid (HB1.out.trans (hb0.mono HB1.out.size))
  clear ho hb0 HO1 HB1
  go_wp2_with (at_builtin; refine wpList_append_bytes rfl (.tmp 13) (.tmp 17) rfl w.heap.size _ (apeM ++ Le.bs 2000 4) rfl HOb1.out _ 4 c' (Le.bs I 4) rfl HOa1.out.arg 16 (by simp [Le.bs_length, apeM]) (by omega) HBb1.out.size ?_; intro A2 c2 w2' hown1 hgr1 _; have HO2 := Lib.hid hown1; have HB2 := Lib.hid (below_append HBb1.out HOb1.out (Nat.le_refl _) hgr1); clear hown1 hgr1 HOa1 HOb1 HBb1)
  refine (written_any ct 4 (by omega) (by omega) _).mono ?_
  rintro e w2 ⟨A', c', rfl, ho, hb0⟩
  have HOa2 := Lib.hid ho
  have HOb2 := Lib.hid (HO2.out.below hb0)
  have HBb2 := Lib.hid (HB2.out.trans (hb0.mono HB2.out.size))
  clear ho hb0 HO2 HB2
  go_wp2_with (at_builtin; refine wpList_append_bytes rfl (.tmp 19) (.tmp 22) rfl w.heap.size _ ((apeM ++ Le.bs 2000 4) ++ Le.bs I 4) rfl HOb2.out _ 4 c' (Le.bs ct 4) rfl HOa2.out.arg 20 (by simp [Le.bs_length, apeM]) (by omega) HBb2.out.size ?_; intro A3 c3 w3' hown1 hgr1 _; have HO3 := Lib.hid hown1; have HB3 := Lib.hid (below_append HBb2.out HOb2.out (Nat.le_refl _) hgr1); clear hown1 hgr1 HOa2 HOb2 HBb2)
  refine (written_any fl 4 (by omega) (by omega) _).mono ?_
  rintro e w2 ⟨A', c', rfl, ho, hb0⟩
  have HOa3 := Lib.hid ho
  have HOb3 := Lib.hid (HO3.out.below hb0)
  have HBb3 := Lib.hid (HB3.out.trans (hb0.mono HB3.out.size))
  clear ho hb0 HO3 HB3
  go_wp2_with (first | (at_builtin; refine wpList_append_bytes rfl (.tmp 24) (.tmp 26) rfl w.heap.size _ (((apeM ++ Le.bs 2000 4) ++ Le.bs I 4) ++ Le.bs ct 4) rfl HOb3.out _ 4 c' (Le.bs fl 4) rfl HOa3.out.arg 24 (by simp [Le.bs_length, apeM]) (by omega) HBb3.out.size ?_; intro A4 c4 w4' hown1 hgr1 _; have HO4 := Lib.hid hown1; have HB4 := Lib.hid (below_append HBb3.out HOb3.out (Nat.le_refl _) hgr1); clear hown1 hgr1 HOa3 HOb3 HBb3) | (at_builtin; refine wpList_append_zb rfl (.tmp 28) (.const (.int .i64 8)) rfl w.heap.size _ ((((apeM ++ Le.bs 2000 4) ++ Le.bs I 4) ++ Le.bs ct 4) ++ Le.bs fl 4) rfl HO4.out (by simp [Le.bs_length, apeM]) 8 rfl (by omega) 32 (by simp [Le.bs_length, apeM]) (by omega) HB4.out.size ?_; intro A5 c5 w5' hown1 hgr1 _; have HO5 := Lib.hid hown1; have HB5 := Lib.hid (below_append HB4.out HO4.out (Nat.le_refl _) hgr1); clear hown1 hgr1 HO4 HB4))
  go_ret
  exact ⟨A5, c5, rfl, by rw [HF.out]; exact HO5.out, HB5.out⟩


set_option maxHeartbeats 1000000 in
theorem rhead_any (it ct : Nat) (h1 : it ≤ 3000) (h2 : ct ≤ 1000) (w : World) :
    Calls Try.prog 53 #[.int .i64 (it : Int), .int .i64 (ct : Int)] w fun e w' => ∃ A cap, e = .returned (.slice A 32 cap) ∧ Owns w' w.heap.size (.slice A 32 cap) (endL it ct 2684354560) ∧ Below w.heap.size w w' := by
  have C := Lib.hid (rend_any it ct 2684354560 h1 h2 (by omega))
  generalize endL it ct 2684354560 = FL at *
  go_enter Try.func53, Try.ntmps53
  go_wp2_with fail
  refine (C.out _).mono ?_
  rintro e w2 ⟨A, cap, rfl, ho, hb⟩
  have HO := Lib.hid ho
  have HB := Lib.hid hb
  clear ho hb
  go_wp2_with fail
  go_ret
  exact ⟨A, cap, rfl, HO.out, HB.out⟩

set_option maxHeartbeats 1000000 in
theorem rfoot_any (it ct : Nat) (h : Bool) (h1 : it ≤ 3000) (h2 : ct ≤ 1000) (w : World) :
    Calls Try.prog 54 #[.int .i64 (it : Int), .int .i64 (ct : Int), .bool h] w fun e w' => ∃ A cap, e = .returned (.slice A 32 cap) ∧ Owns w' w.heap.size (.slice A 32 cap) (endL it ct (flN h)) ∧ Below w.heap.size w w' := by
  cases h with
  | true =>
    have C := Lib.hid (rend_any it ct 2147483648 h1 h2 (by omega))
    have e : endL it ct (flN true) = endL it ct 2147483648 := rfl
    rw [e]
    generalize endL it ct 2147483648 = FL at *
    clear e
    go_enter Try.func54, Try.ntmps54
    go_wp2_with fail
    refine (C.out _).mono ?_
    rintro e w2 ⟨A, cap, rfl, ho, hb⟩
    have HO := Lib.hid ho
    have HB := Lib.hid hb
    clear ho hb
    go_wp2_with fail
    go_ret
    exact ⟨A, cap, rfl, HO.out, HB.out⟩
  | false =>
    have C := Lib.hid (rend_any it ct 0 h1 h2 (by omega))
    have e : endL it ct (flN false) = endL it ct 0 := rfl
    rw [e]
    generalize endL it ct 0 = FL at *
    clear e
    go_enter Try.func54, Try.ntmps54
    go_wp2_with fail
    refine (C.out _).mono ?_
    rintro e w2 ⟨A, cap, rfl, ho, hb⟩
    have HO := Lib.hid ho
    have HB := Lib.hid hb
    clear ho hb
    go_wp2_with fail
    go_ret
    exact ⟨A, cap, rfl, HO.out, HB.out⟩
end Go.Proofs.Ytgdchcaglkeghaa
