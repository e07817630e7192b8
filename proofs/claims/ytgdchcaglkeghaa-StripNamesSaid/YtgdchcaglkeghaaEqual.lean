/- The walk of bytes.Equal. -/
import Derived.Test.YtgdchcaglkeghaaBytes
namespace Go.Proofs.Ytgdchcaglkeghaa
open Go.RowKit

set_option maxHeartbeats 400000 in
theorem equal_any (a : Option Addr) (len cap : Nat) (l : List UInt8) (b : Option Addr) (len2 cap2 : Nat) (r : List UInt8) (w : World) (ha : BArg w a len cap l) (hb : BArg w b len2 cap2 r) :
    Calls Try.prog 51 #[.slice a len cap, .slice b len2 cap2] w fun e w' => e = .returned (.bool (l == r)) ∧ w = w' := by
  have t1 := ha.text
  have t2 := hb.text
  clear ha hb
  go_enter Try.func51, Try.ntmps51
  go_wp2_with fail
  go_ret
  exact ⟨rfl, rfl⟩
end Go.Proofs.Ytgdchcaglkeghaa
