/- The walk of bytes.HasPrefix. -/
import Derived.Test.YtgdchcaglkeghaaEqual
namespace Go.Proofs.Ytgdchcaglkeghaa
open Go.RowKit

/-- Do bytes begin with others? -/
def hp (l r : List UInt8) : Bool := decide (r.length ≤ l.length) && (l.take r.length == r)
set_option maxHeartbeats 400000 in
theorem hasPrefix_any (a : Option Addr) (len cap : Nat) (l : List UInt8) (b : Option Addr) (len2 cap2 : Nat) (r : List UInt8) (w : World) (ha : BArg w a len cap l) (hb : BArg w b len2 cap2 r) :
    Calls Try.prog 49 #[.slice a len cap, .slice b len2 cap2] w fun e w' => e = .returned (.bool (hp l r)) ∧ w = w' := by
  have h1 := ha.len_eq
  have h2 := hb.len_eq
  have hlc := ha.le
  by_cases h : len2 ≤ len
  · have HP : Hid (hp l r = (l.take len2 == r)) := Lib.hid (by unfold hp; rw [h2, h1, decide_eq_true h, Bool.true_and])
    have HA := Lib.hid (ha.upto h)
    have HB := Lib.hid hb
    have g : decide (len2 ≤ len) = true := decide_eq_true h
    have hc : len2 ≤ cap := by omega
    clear ha hb h1 h2
    go_enter Try.func49, Try.ntmps49
    go_wp2_with fail
    refine (equal_any a len2 cap _ b len2 cap2 r _ HA.out HB.out).mono ?_
    rintro e w1 ⟨rfl, rfl⟩
    go_wp2_with fail
    go_ret
    exact ⟨by rw [HP.out]; rfl, rfl⟩
  · have HP : Hid (hp l r = false) := Lib.hid (by unfold hp; rw [h2, h1, decide_eq_false h, Bool.false_and])
    have g : decide (len2 ≤ len) = false := decide_eq_false h
    clear ha hb h1 h2
    go_enter Try.func49, Try.ntmps49
    go_wp2_with fail
    go_ret
    exact ⟨by rw [HP.out]; rfl, rfl⟩
end Go.Proofs.Ytgdchcaglkeghaa
