/- LeBytes: the law's walk at every argument. -/
import Derived.Test.YtodieokchglajaaLeBytesL
namespace Go.Proofs.Ytodieokchglajaa
open Go.RowKit
attribute [local go_sem ↓] Go.wp_at_zero Go.wp_at_succ

set_option maxRecDepth 100000 in
set_option maxHeartbeats 1000000 in
theorem lebytes_calls (w : World) (a : Option Addr) (len cap : Nat) (l : List UInt8) (ha : BArg w a len cap l) (k : Int) (_hk : (Lit.int .i64 k).wf = true) :
    Calls Try.prog 3 #[.slice a len cap, .int .i64 k] w fun e w' => e = .returned (.bool true) ∧ Below w.heap.size w w' := by
  by_cases hl : 1 ≤ len ∧ len ≤ 8
  · by_cases hk : 1 ≤ k ∧ k ≤ 8
    · obtain ⟨q, rfl⟩ := Int.eq_ofNat_of_zero_le (show 0 ≤ k by omega)
      exact lebytes_main a len cap l q w ha hl.1 hl.2 (by omega) (by omega)
    · clear ha
      go_enter Try.func3, Try.ntmps3
      go_wp2_with fail
      refine (width_yes (len : Int) (by omega) (by omega) _).mono ?_
      rintro e w1 ⟨rfl, rfl⟩
      go_wp2_with fail
      refine (width_no k (by omega) _).mono ?_
      rintro e w1 ⟨rfl, rfl⟩
      go_wp2_with fail
      refine (lealive_any _).mono ?_
      rintro e w4 ⟨rfl, hb4⟩
      go_wp2_with fail
      go_ret
      exact ⟨rfl, hb4⟩
  · clear ha
    go_enter Try.func3, Try.ntmps3
    go_wp2_with fail
    refine (width_no (len : Int) (by omega) _).mono ?_
    rintro e w1 ⟨rfl, rfl⟩
    go_wp2_with fail
    refine (lealive_any _).mono ?_
    rintro e w4 ⟨rfl, hb4⟩
    go_wp2_with fail
    go_ret
    exact ⟨rfl, hb4⟩
end Go.Proofs.Ytodieokchglajaa
