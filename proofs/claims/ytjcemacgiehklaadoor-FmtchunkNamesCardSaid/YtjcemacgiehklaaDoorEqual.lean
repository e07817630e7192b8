/- The walk of bytes.Equal. -/
import Derived.Test.YtjcemacgiehklaaDoorBytes
namespace Go.Proofs.YtjcemacgiehklaaDoor
open Go.RowKit

set_option maxHeartbeats 400000 in
theorem equal_any (a : Option Addr) (len cap : Nat) (l : List UInt8) (b : Option Addr) (len2 cap2 : Nat) (r : List UInt8) (w : World) (ha : BArg w a len cap l) (hb : BArg w b len2 cap2 r) :
    Calls Tryd.prog 26 #[.slice a len cap, .slice b len2 cap2] w fun e w' => e = .returned (.bool (l == r)) ∧ w = w' := by
  have t1 := ha.text
  have t2 := hb.text
  clear ha hb
  go_enter Tryd.func26, Tryd.ntmps26
  go_wp2_with fail
  go_ret
  exact ⟨rfl, rfl⟩
end Go.Proofs.YtjcemacgiehklaaDoor
