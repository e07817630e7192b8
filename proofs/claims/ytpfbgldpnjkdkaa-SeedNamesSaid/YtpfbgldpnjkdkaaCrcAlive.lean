/- The examples of chapter 4, and the statement Crc64Sums. -/
import Derived.Test.YtpfbgldpnjkdkaaCrcRef
namespace Go.Proofs.Ytpfbgldpnjkdkaa
open Go.RowKit

theorem nextP_ok (x : BitVec 64) (l : List UInt8) (h : l.length ≤ 100000) : nextP x l = .tuple #[.int .u64 ((Crc.run x (bn l)).toNat : Int), .int .i64 0] := by
  unfold nextP; rw [if_pos h]
theorem nextP_num (l : List UInt8) (n : Int) (h : l.length ≤ 100000) (hn : ((Crc.run 0#64 (bn l)).toNat : Int) = n) : nextP 0#64 l = .tuple #[.int .u64 n, .int .i64 0] := by
  rw [nextP_ok _ _ h, hn]
theorem sum_none : nextP 0#64 [] = .tuple #[.int .u64 0, .int .i64 0] := nextP_num _ _ (by simp) (by decide +kernel)
theorem sum_one : nextP 0#64 [1] = .tuple #[.int .u64 4823603603198064275, .int .i64 0] := nextP_num _ _ (by simp) (by decide +kernel)
theorem sum_nine : nextP 0#64 [49, 50, 51, 52, 53, 54, 55, 56, 57] = .tuple #[.int .u64 7800480153909949255, .int .i64 0] := nextP_num _ _ (by simp) (by decide +kernel)

set_option maxHeartbeats 400000 in
theorem calive_any (w : World) :
    Calls Try.prog 23 #[] w fun e w' => e = .returned (.bool true) ∧ Below w.heap.size w w' := by
  have kc := fun (w : World) (C : Array Value) (n c : Nat) => Lib.run_convert_bytes_const (P := Try.prog) w 33 5 C n c Try.underlying33 Try.underlying5
  go_enter Try.func23, Try.ntmps23
  go_wp2_with fail
  refine (sum_any none 0 0 [] _ (BArg.none_ _)).mono ?_
  rintro e w1 ⟨rfl, hb1⟩
  rw [sum_none]
  go_wp2_with fail
  refine (sum_any _ 1 1 [1] _ (BArg.lit _ [1] 1 rfl (by omega) _ _ _ rfl)).mono ?_
  rintro e w2 ⟨rfl, hb2⟩
  rw [sum_one]
  go_wp2_with fail
  refine (sum_any _ 9 9 [49, 50, 51, 52, 53, 54, 55, 56, 57] _ (BArg.lit _ _ 9 rfl (by omega) _ _ _ rfl)).mono ?_
  rintro e w3 ⟨rfl, hb3⟩
  rw [sum_nine]
  go_wp2_with fail
  go_ret
  refine ⟨by rfl, ?_⟩
  have s1 := hb1.size
  have s2 := hb2.size
  simp at s2
  refine Below.trans ?_ (hb3.mono (by simp; omega))
  refine Below.alloc ?_ (by omega) _
  refine Below.trans ?_ (hb2.mono (by simp; omega))
  exact hb1.alloc s1 _
end Go.Proofs.Ytpfbgldpnjkdkaa
