/- IdthreeNumbers: the walk. -/
import Derived.Test.YtncmebhgnpeblaaIdRSafe
namespace Go.Proofs.Ytncmebhgnpeblaa
open Go.RowKit

/-- What Synchsafe answers: the error, and the bytes. -/
def syE (n : Int) : Int := if n < 0 ∨ 268435456 ≤ n then 16 else 0
def syL (n : Int) : List UInt8 := if n < 0 ∨ 268435456 ≤ n then [] else sf n.toNat

set_option maxHeartbeats 400000 in
theorem sync_any (n : Int) (w : World) :
    Calls Try.prog 9 #[.int .i64 n] w fun e w' => ∃ A len cap, e = .returned (.tuple #[.slice A len cap, .int .i64 (syE n)]) ∧ Owns w' w.heap.size (.slice A len cap) (syL n) ∧ Below w.heap.size w w' := by
  by_cases h : n < 0 ∨ 268435456 ≤ n
  · have HE : Hid (syE n = 16) := Lib.hid (by unfold syE; rw [if_pos h])
    have HL : Hid (syL n = []) := Lib.hid (by unfold syL; rw [if_pos h])
    have hc : (decide (n < 0) = true) ∨ (decide (n < 0) = false ∧ decide (268435456 ≤ n) = true) := by simp; omega
    clear h
    rcases hc with h1 | ⟨h1, h2⟩
    all_goals
      go_enter Try.func9, Try.ntmps9
      go_wp2_with fail
      go_ret2
      exact ⟨none, 0, 0, by rw [HE.out]; rfl, by rw [HL.out]; exact Owns.nil _ _, Below.refl _ _⟩
  · have HE : Hid (syE n = 0) := Lib.hid (by unfold syE; rw [if_neg h])
    have HL : Hid (syL n = sf n.toNat) := Lib.hid (by unfold syL; rw [if_neg h])
    obtain ⟨n, rfl⟩ := Int.eq_ofNat_of_zero_le (show 0 ≤ n by omega)
    rw [Int.toNat_natCast] at HL
    have h1 : decide ((n : Int) < 0) = false := by simp
    have h2 : decide ((268435456 : Int) ≤ (n : Int)) = false := by simp; omega
    have hn : n < 9223372036854775808 := by omega
    clear h
    go_enter Try.func9, Try.ntmps9
    go_wp2_with fail
    refine (safe_any n hn _).mono ?_
    rintro e w1 ⟨rfl, ho1, hb1⟩
    have HO := Lib.hid ho1
    have HB := Lib.hid hb1
    clear ho1 hb1
    go_wp2_with fail
    go_ret2
    exact ⟨_, 4, 4, by rw [HE.out]; rfl, by rw [HL.out]; exact HO.out, HB.out⟩
set_option maxHeartbeats 400000 in
theorem rsync_any (n : Int) (w : World) :
    Calls Try.prog 10 #[.int .i64 n] w fun e w' => ∃ A len cap, e = .returned (.tuple #[.slice A len cap, .int .i64 (syE n)]) ∧ Owns w' w.heap.size (.slice A len cap) (syL n) ∧ Below w.heap.size w w' := by
  by_cases h : n < 0 ∨ 268435456 ≤ n
  · have HE : Hid (syE n = 16) := Lib.hid (by unfold syE; rw [if_pos h])
    have HL : Hid (syL n = []) := Lib.hid (by unfold syL; rw [if_pos h])
    have hc : (decide (n < 0) = true) ∨ (decide (n < 0) = false ∧ decide (268435456 ≤ n) = true) := by simp; omega
    clear h
    rcases hc with h1 | ⟨h1, h2⟩
    all_goals
      go_enter Try.func10, Try.ntmps10
      go_wp2_with fail
      go_ret2
      exact ⟨none, 0, 0, by rw [HE.out]; rfl, by rw [HL.out]; exact Owns.nil _ _, Below.refl _ _⟩
  · have HE : Hid (syE n = 0) := Lib.hid (by unfold syE; rw [if_neg h])
    have HL : Hid (syL n = sf n.toNat) := Lib.hid (by unfold syL; rw [if_neg h])
    obtain ⟨n, rfl⟩ := Int.eq_ofNat_of_zero_le (show 0 ≤ n by omega)
    rw [Int.toNat_natCast] at HL
    have h1 : decide ((n : Int) < 0) = false := by simp
    have h2 : decide ((268435456 : Int) ≤ (n : Int)) = false := by simp; omega
    have hn : n < 268435456 := by omega
    clear h
    go_enter Try.func10, Try.ntmps10
    go_wp2_with fail
    refine (rsafe_any n hn _).mono ?_
    rintro e w1 ⟨rfl, ho1, hb1⟩
    have HO := Lib.hid ho1
    have HB := Lib.hid hb1
    clear ho1 hb1
    go_wp2_with fail
    go_ret2
    exact ⟨_, 4, 4, by rw [HE.out]; rfl, by rw [HL.out]; exact HO.out, HB.out⟩

set_option maxHeartbeats 1000000 in
theorem numbers_calls (n : Int) (_hn : (Lit.int .i64 n).wf = true) (a : Option Addr) (len cap : Nat) (l : List UInt8) (w : World) (ha : BArg w a len cap l) :
    Calls Try.prog 3 #[.int .i64 n, .slice a len cap] w fun e w' => e = .returned (.bool true) ∧ Below w.heap.size w w' := by
  have HA := Lib.hid ha
  clear ha _hn
  by_cases h100 : len ≤ 100
  · have C1 := Lib.hid (sync_any n)
    have C2 := Lib.hid (rsync_any n)
    generalize syE n = e1 at *
    generalize syL n = l1 at *
    go_enter Try.func3, Try.ntmps3
    go_wp2_with fail
    refine (C1.out _).mono ?_
    rintro e w1 ⟨A1, n1, c1, rfl, ho1, hb1⟩
    have HO1 := Lib.hid ho1
    have HB1 := Lib.hid hb1
    clear ho1 hb1
    go_wp2_with fail
    refine (C2.out _).mono ?_
    rintro e w2 ⟨A2, n2, c2, rfl, ho2, hb2⟩
    have HO1' := Lib.hid (HO1.out.below hb2)
    have HO2 := Lib.hid ho2
    have HB2 := Lib.hid (HB1.out.trans (hb2.mono HB1.out.size))
    clear ho2 hb2 HO1 HB1
    go_wp2_with fail
    refine (idval_any a len cap l _ (HA.out.below HB2.out)).mono ?_
    rintro e w3 ⟨rfl, rfl⟩
    go_wp2_with fail
    refine (ridval_any a len cap l _ (HA.out.below HB2.out)).mono ?_
    rintro e w3 ⟨rfl, rfl⟩
    generalize (idvP l).1 = v1
    generalize (idvP l).2 = v2
    have t1 := HO1'.out.arg.text
    have t2 := HO2.out.arg.text
    have g1 : (e1 == e1) = true := by simp
    have g2 : (v1 == v1) = true := by simp
    have g3 : (v2 == v2) = true := by simp
    go_wp2_with fail
    go_ret
    exact ⟨rfl, HB2.out⟩
  · go_enter Try.func3, Try.ntmps3
    go_wp2_with fail
    go_ret
    exact ⟨rfl, Below.refl _ _⟩
end Go.Proofs.Ytncmebhgnpeblaa
