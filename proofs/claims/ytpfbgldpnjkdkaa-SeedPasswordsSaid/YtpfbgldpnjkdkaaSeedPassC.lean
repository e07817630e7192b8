/- SeedPasswords: all inputs. -/
import Derived.Test.YtpfbgldpnjkdkaaSeedPass
namespace Go.Proofs.Ytpfbgldpnjkdkaa
open Go.RowKit

set_option maxHeartbeats 400000 in
theorem pass_calls (s : ByteArray) (_hs : s.size ≤ maxLen) (t : ByteArray) (_ht : t.size ≤ maxLen) (w : World) :
    Calls Try.prog 14 #[.string s, .string t] w fun e w' => e = .returned (.bool true) ∧ Below w.heap.size w w' := by
  by_cases h1 : s.size ≤ 64
  · by_cases h2 : t.size ≤ 64
    · exact pass_main s t h1 h2 w
    · have g1 : decide ((64 : Int) < (s.size : Int)) = false := by simp; omega
      have g2 : decide ((64 : Int) < (t.size : Int)) = true := by simp; omega
      clear h1 h2 _hs _ht
      go_enter Try.func14, Try.ntmps14
      go_wp2_with fail
      refine (alive_any _).mono ?_
      rintro e w1 ⟨rfl, hb1⟩
      go_wp2_with fail
      go_ret
      exact ⟨rfl, hb1⟩
  · have g1 : decide ((64 : Int) < (s.size : Int)) = true := by simp; omega
    clear h1 _hs _ht
    go_enter Try.func14, Try.ntmps14
    go_wp2_with fail
    refine (alive_any _).mono ?_
    rintro e w1 ⟨rfl, hb1⟩
    go_wp2_with fail
    go_ret
    exact ⟨rfl, hb1⟩
end Go.Proofs.Ytpfbgldpnjkdkaa
