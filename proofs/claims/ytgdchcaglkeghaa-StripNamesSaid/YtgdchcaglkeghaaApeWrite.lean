/- The walks of ape.Check and ape.Write. -/
import Derived.Test.YtgdchcaglkeghaaApeEnd
namespace Go.Proofs.Ytgdchcaglkeghaa
open Go.RowKit

/-- The error of a tag. -/
def apeE (len : Nat) (c : Int) : Int := if len ≤ 3000 ∧ 0 ≤ c ∧ c ≤ 1000 then 0 else 8
theorem ape_cases (len : Nat) (c : Int) : (apeE len c = 8 ∧ (3000 < len ∨ (len ≤ 3000 ∧ c < 0) ∨ (len ≤ 3000 ∧ 0 ≤ c ∧ 1000 < c))) ∨ (apeE len c = 0 ∧ len ≤ 3000 ∧ 0 ≤ c ∧ c ≤ 1000) := by
  unfold apeE
  by_cases h : len ≤ 3000 ∧ 0 ≤ c ∧ c ≤ 1000
  · right; rw [if_pos h]; exact ⟨rfl, h⟩
  · left; rw [if_neg h]; exact ⟨rfl, by omega⟩
/-- A box of three values. -/
theorem box3 (w : World) (x y z : Value) (t : TypeId) : ∃ w1, w1 = w.alloc (.cells #[x, y, z] t) ∧ w1.cell? ⟨w.heap.size, 0, none⟩ = some x ∧ w1.cell? ⟨w.heap.size, 1, none⟩ = some y ∧ w1.cell? ⟨w.heap.size, 2, none⟩ = some z ∧ Below w.heap.size w w1 ∧ w.heap.size < w1.heap.size := by
  refine ⟨_, rfl, ?_, ?_, ?_, (Below.refl _ _).alloc (Nat.le_refl _) _, by simp⟩
  all_goals (rw [World.cell?_alloc_at _ _ _ _ rfl]; rfl)

set_option maxHeartbeats 1000000 in
theorem acheck_any (a : Option Addr) (len cap : Nat) (c : Int) (h : Bool) (w : World) :
    Calls Try.prog 22 #[.agg #[.slice a len cap, .int .i64 c, .bool h]] w fun e w' => e = .returned (.int .i64 (apeE len c)) ∧ Below w.heap.size w w' := by
  rcases ape_cases len c with ⟨he, h1 | ⟨h1, h2⟩ | ⟨h1, h2, h3⟩⟩ | ⟨he, h1, h2, h3⟩
  all_goals
    have HE := Lib.hid he
    clear he
    go_enter Try.func22, Try.ntmps22
    go_wp2_with fail
    go_ret
    exact ⟨by rw [HE.out]; rfl, (Below.refl _ _).alloc (Nat.le_refl _) _⟩

/-- The bytes of a tag. -/
def flN (h : Bool) : Nat := if h = true then 2147483648 else 0
def tagL (it : List UInt8) (c : Nat) (h : Bool) : List UInt8 := (if h = true then endL it.length c 2684354560 else []) ++ it ++ endL it.length c (flN h)
/-- Lengths and bytes of what Write answers. -/
def awN (len : Nat) (c : Int) (h : Bool) : Nat := if apeE len c = 0 then (if h = true then len + 64 else len + 32) else 0
def awL (it : List UInt8) (c : Int) (h : Bool) : List UInt8 := if apeE it.length c = 0 then tagL it c.toNat h else []

set_option maxHeartbeats 2000000 in
theorem awrite_any (a : Option Addr) (len cap : Nat) (l : List UInt8) (c : Int) (h : Bool) (w : World) (ha : BArg w a len cap l) :
    Calls Try.prog 20 #[.agg #[.slice a len cap, .int .i64 c, .bool h]] w fun e w' => ∃ A k, e = .returned (.tuple #[.slice A (awN len c h) k, .int .i64 (apeE len c)]) ∧ Owns w' w.heap.size (.slice A (awN len c h) k) (awL l c h) ∧ Below w.heap.size w w' := by
  obtain ⟨w1, hw1, d1, d2, d3, hB, hz⟩ := box3 w (.slice a len cap) (.int .i64 c) (.bool h) 30
  have HW := Lib.hid hw1
  have HB := Lib.hid hB
  have HA := Lib.hid (ha.below hB)
  have HLL := Lib.hid ha.len_eq
  clear hw1 hB
  rcases ape_cases len c with ⟨he, _⟩ | ⟨he, h1, h2, h3⟩
  · have HE := Lib.hid he
    have HN : Hid (awN len c h = 0) := Lib.hid (by unfold awN; rw [he]; rfl)
    have HL : Hid (awL l c h = []) := Lib.hid (by unfold awL; rw [ha.len_eq, he]; rfl)
    clear he ha
    go_enter Try.func20, Try.ntmps20
    go_wp2_with fail
    rw [← HW.out]
    refine (acheck_any a len cap c h _).mono ?_
    rintro e w2 ⟨rfl, hb2⟩
    have HB2 := Lib.hid (HB.out.trans (hb2.mono HB.out.size))
    rw [HE.out]
    clear hb2 d1 d2 d3 hz
    go_wp2_with fail
    go_ret2
    exact ⟨none, 0, by rw [HE.out, HN.out]; rfl, by rw [HL.out, HN.out]; exact Owns.nil _ _, HB2.out⟩
  · obtain ⟨c, rfl⟩ := Int.eq_ofNat_of_zero_le h2
    have h3' : c ≤ 1000 := by omega
    have HE := Lib.hid he
    have HL : Hid (awL l c h = tagL l c h) := Lib.hid (by unfold awL; rw [ha.len_eq, he]; rfl)
    have C1 := Lib.hid (fun W => end_any len c 2684354560 h1 h3' (by omega) W)
    have C2 := Lib.hid (fun W => end_any len c 2147483648 h1 h3' (by omega) W)
    have C3 := Lib.hid (fun W => end_any len c 0 h1 h3' (by omega) W)
    cases h with
    | true =>
      have HN : Hid (awN len c true = len + 64) := Lib.hid (by unfold awN; rw [he]; rfl)
      have HT : Hid (tagL l c true = endL len c 2684354560 ++ l ++ endL len c 2147483648) := Lib.hid (by unfold tagL flN; rw [ha.len_eq]; rfl)
      have hl1 := Lib.hid (endL_length len c 2684354560)
      generalize endL len c 2684354560 = E1 at *
      generalize endL len c 2147483648 = E2 at *
      clear he ha h2 h3 C3
      go_enter Try.func20, Try.ntmps20
      go_wp2_with fail
      rw [← HW.out]
      refine (acheck_any a len cap c true _).mono ?_
      rintro e w2 ⟨rfl, hb2⟩
      have HB2 := Lib.hid hb2
      have e1 := (hb2.cell (p := ⟨w.heap.size, 0, none⟩) hz).trans d1
      have e2 := (hb2.cell (p := ⟨w.heap.size, 1, none⟩) hz).trans d2
      have e3 := (hb2.cell (p := ⟨w.heap.size, 2, none⟩) hz).trans d3
      rw [HE.out]
      clear hb2
      go_wp2_with fail
      refine (C1.out _).mono ?_
      rintro e w3 ⟨A0, k0, rfl, ho, hb3⟩
      have HO3 := Lib.hid (ho.mono HB2.out.size)
      have HB3 := Lib.hid (HB2.out.trans (hb3.mono HB2.out.size))
      have HA3 := Lib.hid (HA.out.below HB3.out)
      clear ho hb3 e1 e2 e3 HB2
      have e1 := (HB3.out.cell (p := ⟨w.heap.size, 0, none⟩) hz).trans d1
      have e2 := (HB3.out.cell (p := ⟨w.heap.size, 1, none⟩) hz).trans d2
      have e3 := (HB3.out.cell (p := ⟨w.heap.size, 2, none⟩) hz).trans d3
      go_wp2_with (at_builtin; refine wpList_append_bytes rfl (.tmp 20) (.tmp 22) rfl w1.heap.size _ E1 rfl HO3.out a len cap l rfl HA3.out (len + 32) (by rw [hl1.out]; omega) (by omega) HB3.out.size ?_; intro A4 k4 w4 hown hgr _; have HO4 := Lib.hid hown; have HB4 := Lib.hid (below_append HB3.out HO3.out (Nat.le_refl _) hgr); clear hown hgr HO3 HA3 HB3 e1 e2 e3; have e1 := (HB4.out.cell (p := ⟨w.heap.size, 0, none⟩) hz).trans d1; have e2 := (HB4.out.cell (p := ⟨w.heap.size, 1, none⟩) hz).trans d2; have e3 := (HB4.out.cell (p := ⟨w.heap.size, 2, none⟩) hz).trans d3)
      refine (C2.out _).mono ?_
      rintro e w5 ⟨A5, k5, rfl, ho, hb5⟩
      have HO5 := Lib.hid (HO4.out.below hb5)
      have HP5 := Lib.hid ho
      have HB5 := Lib.hid (HB4.out.trans (hb5.mono HB4.out.size))
      clear ho hb5 e1 e2 e3 HO4 HB4
      go_wp2_with (at_builtin; refine wpList_append_bytes rfl (.tmp 24) (.tmp 31) rfl w1.heap.size _ (E1 ++ l) rfl HO5.out A5 32 k5 E2 rfl HP5.out.arg (len + 64) (by rw [List.length_append, hl1.out, HLL.out]; omega) (by omega) HB5.out.size ?_; intro A6 k6 w6 hown hgr _; have HO6 := Lib.hid hown; have HB6 := Lib.hid (below_append HB5.out HO5.out (Nat.le_refl _) hgr); clear hown hgr)
      go_ret2
      exact ⟨A6, k6, by rw [HE.out, HN.out]; rfl, by rw [HL.out, HT.out, HN.out]; exact HO6.out.mono HB.out.size, HB.out.trans (HB6.out.mono HB.out.size)⟩
    | false =>
      have HN : Hid (awN len c false = len + 32) := Lib.hid (by unfold awN; rw [he]; rfl)
      have HT : Hid (tagL l c false = l ++ endL len c 0) := Lib.hid (by unfold tagL flN; rw [ha.len_eq]; rfl)
      generalize endL len c 0 = E2 at *
      clear he ha h2 h3 C1 C2
      go_enter Try.func20, Try.ntmps20
      go_wp2_with fail
      rw [← HW.out]
      refine (acheck_any a len cap c false _).mono ?_
      rintro e w2 ⟨rfl, hb2⟩
      have HB3 := Lib.hid hb2
      have HA3 := Lib.hid (HA.out.below hb2)
      have e1 := (hb2.cell (p := ⟨w.heap.size, 0, none⟩) hz).trans d1
      have e2 := (hb2.cell (p := ⟨w.heap.size, 1, none⟩) hz).trans d2
      have e3 := (hb2.cell (p := ⟨w.heap.size, 2, none⟩) hz).trans d3
      rw [HE.out]
      clear hb2
      go_wp2_with (at_builtin; refine wpList_append_bytes rfl (.tmp 20) (.tmp 22) rfl w1.heap.size _ [] rfl (Owns.nil _ _) a len cap l rfl HA3.out len (by simp) (by omega) HB3.out.size ?_; intro A4 k4 w4 hown hgr _; have HO4 := Lib.hid hown; have HB4 := Lib.hid (below_append HB3.out (Owns.nil _ w1.heap.size) (Nat.le_refl _) hgr); clear hown hgr HA3 HB3 e1 e2 e3; have e1 := (HB4.out.cell (p := ⟨w.heap.size, 0, none⟩) hz).trans d1; have e2 := (HB4.out.cell (p := ⟨w.heap.size, 1, none⟩) hz).trans d2; have e3 := (HB4.out.cell (p := ⟨w.heap.size, 2, none⟩) hz).trans d3)
      refine (C3.out _).mono ?_
      rintro e w5 ⟨A5, k5, rfl, ho, hb5⟩
      have HO5 := Lib.hid (HO4.out.below hb5)
      have HP5 := Lib.hid ho
      have HB5 := Lib.hid (HB4.out.trans (hb5.mono HB4.out.size))
      clear ho hb5 e1 e2 e3 HO4 HB4
      go_wp2_with (at_builtin; refine wpList_append_bytes rfl (.tmp 24) (.tmp 31) rfl w1.heap.size _ ([] ++ l) rfl HO5.out A5 32 k5 E2 rfl HP5.out.arg (len + 32) (by rw [List.nil_append, HLL.out]) (by omega) HB5.out.size ?_; intro A6 k6 w6 hown hgr _; have HO6 := Lib.hid hown; have HB6 := Lib.hid (below_append HB5.out HO5.out (Nat.le_refl _) hgr); clear hown hgr)
      go_ret2
      exact ⟨A6, k6, by rw [HE.out, HN.out]; rfl, by rw [HL.out, HT.out, HN.out]; exact HO6.out.mono HB.out.size, HB.out.trans (HB6.out.mono HB.out.size)⟩
end Go.Proofs.Ytgdchcaglkeghaa
