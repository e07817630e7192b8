/- The walk of the reference Safe. -/
import Derived.Test.YtncmebhgnpeblaaIdNum
namespace Go.Proofs.Ytncmebhgnpeblaa
open Go.RowKit

set_option maxHeartbeats 400000 in
theorem rsafe_any (n : Nat) (hn : n < 268435456) (w : World) :
    Calls Try.prog 21 #[.int .i64 (n : Int)] w fun e w' => e = .returned (.slice (some ⟨w.heap.size, 0, none⟩) 4 4) ∧ Owns w' w.heap.size (.slice (some ⟨w.heap.size, 0, none⟩) 4 4) (sf n) ∧ Below w.heap.size w w' := by
  have HV : Hid (vb (sf n) = [.int .u8 ((n : Int) / 2097152), .int .u8 ((n : Int) / 16384 % 128), .int .u8 ((n : Int) / 128 % 128), .int .u8 ((n : Int) % 128)]) := Lib.hid (by
    have e0 := sfb_nat n 0
    have e1 := sfb_nat n 1
    have e2 := sfb_nat n 2
    have e3 := sfb_nat n 3
    simp only [sf, vb, List.map_cons, List.map_nil, e0, e1, e2, e3, Nat.reduceMul, Nat.reducePow, Nat.pow_zero, Nat.mul_zero, Nat.div_one]
    have q3 : ((n / 2097152 % 128 : Nat) : Int) = (n : Int) / 2097152 := by omega
    have q2 : ((n / 16384 % 128 : Nat) : Int) = (n : Int) / 16384 % 128 := by omega
    have q1 : ((n / 128 % 128 : Nat) : Int) = (n : Int) / 128 % 128 := by omega
    have q0 : ((n % 128 : Nat) : Int) = (n : Int) % 128 := by omega
    rw [q3, q2, q1, q0])
  go_enter Try.func21, Try.ntmps21
  go_wp2
  go_ret
  refine ⟨rfl, ?_, (Below.refl _ _).alloc (Nat.le_refl _) _⟩
  refine ⟨by simp [vb], .inr ⟨w.heap.size, 4, _, rfl, Nat.le_refl _, heap_alloc_new w _, by simp [sf], by unfold maxLen; omega, rfl, ?_⟩⟩
  rw [HV.out]; rfl
end Go.Proofs.Ytncmebhgnpeblaa
