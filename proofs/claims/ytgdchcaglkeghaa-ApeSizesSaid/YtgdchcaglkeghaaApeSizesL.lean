/- ApeSizes: the walk. -/
import Derived.Test.YtgdchcaglkeghaaApeRefD
import Derived.Test.YtgdchcaglkeghaaApeWritesL
namespace Go.Proofs.Ytgdchcaglkeghaa
open Go.RowKit

set_option maxRecDepth 100000 in
set_option maxHeartbeats 2000000 in
theorem apesizes_calls (a : Option Addr) (len cap : Nat) (l : List UInt8) (w : World) (ha : BArg w a len cap l) :
    Calls Try.prog 7 #[.slice a len cap] w fun e w' => e = .returned (.bool true) ∧ Below w.heap.size w w' := by
  have HA := Lib.hid ha
  have hs9 : len ≤ 9223372036854775807 := Nat.le_trans ha.le ha.small
  have CL := Lib.hid (longa_any a len cap hs9)
  cases hl : longA len with
  | true =>
    rw [hl] at CL
    clear hl ha
    go_enter Try.func7, Try.ntmps7
    go_wp2_with fail
    refine (CL.out _).mono ?_
    rintro e w2 ⟨rfl, rfl⟩
    go_wp2_with fail
    go_ret
    exact ⟨rfl, Below.refl _ _⟩
  | false =>
    rw [hl] at CL
    have t0 := HA.out.text
    have C1 := Lib.hid (front_any a len cap l)
    have C2 := Lib.hid (rfront_any a len cap l)
    have C3 := Lib.hid (back_any a len cap l)
    have C4 := Lib.hid (rback_any a len cap l)
    generalize (frontP l).1 = F1 at *
    generalize (frontP l).2 = F2 at *
    generalize (backP l).1 = B1 at *
    generalize (backP l).2 = B2 at *
    clear hl ha
    go_enter Try.func7, Try.ntmps7
    go_wp2_with fail
    refine (CL.out _).mono ?_
    rintro e w2 ⟨rfl, rfl⟩
    go_wp2_with fail
    refine (C1.out _ HA.out).mono ?_
    rintro e w1 ⟨rfl, hb⟩
    have HB1 := Lib.hid hb
    have HA1 := Lib.hid (HA.out.below hb)
    clear hb t0
    go_wp2_with fail
    refine (C2.out _ HA1.out).mono ?_
    rintro e w2 ⟨rfl, hb⟩
    have HB2 := Lib.hid (HB1.out.trans (hb.mono HB1.out.size))
    have HA2 := Lib.hid (HA1.out.below hb)
    clear hb
    go_wp2_with fail
    refine (C3.out _ HA2.out).mono ?_
    rintro e w3 ⟨rfl, hb⟩
    have HB3 := Lib.hid (HB2.out.trans (hb.mono HB2.out.size))
    have HA3 := Lib.hid (HA2.out.below hb)
    clear hb
    go_wp2_with fail
    refine (C4.out _ HA3.out).mono ?_
    rintro e w4 ⟨rfl, hb⟩
    have HB4 := Lib.hid (HB3.out.trans (hb.mono HB3.out.size))
    have HA4 := Lib.hid (HA3.out.below hb)
    clear hb
    have t4 := HA4.out.text
    have g1 : (F1 == F1) = true := by simp
    have g2 : (F2 == F2) = true := by simp
    have g3 : (B1 == B1) = true := by simp
    have g4 : (B2 == B2) = true := by simp
    go_wp2_with fail
    go_ret
    exact ⟨rfl, HB4.out⟩
end Go.Proofs.Ytgdchcaglkeghaa
