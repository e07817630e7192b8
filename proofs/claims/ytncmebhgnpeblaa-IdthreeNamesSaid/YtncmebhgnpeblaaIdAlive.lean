/- The walks of the laws' size and alive (layer 28). -/
import Derived.Test.YtncmebhgnpeblaaIdWriteB
namespace Go.Proofs.Ytncmebhgnpeblaa
open Go.RowKit
attribute [local go_sem ↓] Go.wp_at_zero Go.wp_at_succ

/-- Have bytes this size, this error? -/
def szB (l : List UInt8) (x y : Int) : Bool := (sizP l).1 == x && (sizP l).2 == y

set_option maxHeartbeats 1000000 in
theorem lsize_any (s : ByteArray) (hs : s.size ≤ 9223372036854775807) (x y : Int) (w : World) :
    Calls Try.prog 18 #[.string s, .int .i64 x, .int .i64 y] w fun e w' => e = .returned (.bool (szB (sb s) x y)) ∧ Below w.heap.size w w' := by
  have C := Lib.hid (idsize_any _ _ _ _ _ (BArg.of_text w s w.heap.size rfl hs))
  have HB : Hid (szB (sb s) x y = ((sizP (sb s)).1 == x && (sizP (sb s)).2 == y)) := Lib.hid rfl
  have hrun := run_text_bytes s w
  have hbt := Lib.hid (below_tworld w s)
  generalize szB (sb s) x y = B at *
  generalize (sizP (sb s)).1 = p at *
  generalize (sizP (sb s)).2 = q at *
  generalize tworld w s = w1 at *
  generalize tcap w s = tc at *
  cases h1 : p == x with
  | false =>
    go_enter Try.func18, Try.ntmps18
    go_wp2_with fail
    refine C.out.mono ?_
    rintro e w2 ⟨rfl, hb⟩
    have HB2 := Lib.hid (hbt.out.trans (hb.mono hbt.out.size))
    clear hb
    go_wp2_with fail
    go_ret
    exact ⟨by rw [HB.out, h1]; rfl, HB2.out⟩
  | true =>
    go_enter Try.func18, Try.ntmps18
    go_wp2_with fail
    refine C.out.mono ?_
    rintro e w2 ⟨rfl, hb⟩
    have HB2 := Lib.hid (hbt.out.trans (hb.mono hbt.out.size))
    clear hb
    go_wp2_with fail
    go_ret
    exact ⟨by rw [HB.out, h1, Bool.true_and]; rfl, HB2.out⟩

theorem idal1 : sf 257 = [0, 0, 2, 1] := by decide +kernel
theorem idal2 : idTag [97, 98] false = [73, 68, 51, 4, 0, 0, 0, 0, 0, 2, 97, 98] := by decide +kernel
theorem idal3 : szB [73, 68, 51, 4, 0, 0, 0, 0, 0, 2, 97, 98] 12 0 = true := by decide +kernel
theorem idal4 : szB (idTag [97, 98] true) 22 0 = true := by decide +kernel
end Go.Proofs.Ytncmebhgnpeblaa
