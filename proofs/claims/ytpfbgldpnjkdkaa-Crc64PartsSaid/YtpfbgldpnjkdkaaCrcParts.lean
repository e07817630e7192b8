/- Crc64Parts: the walk. -/
import Derived.Test.YtpfbgldpnjkdkaaCrcAlive
namespace Go.Proofs.Ytpfbgldpnjkdkaa
open Go.RowKit

theorem bn_append (a b : List UInt8) : bn (a ++ b) = bn a ++ bn b := by simp [bn]
theorem bn_zeros (n : Nat) : bn (List.replicate n 0) = List.replicate n 0 := by simp [bn]
theorem run_front (n : Nat) (l : List UInt8) : Crc.run 0#64 (bn (List.replicate n 0 ++ l)) = Crc.run 0#64 (bn l) := by
  rw [bn_append, Crc.run_append, bn_zeros, Crc.run_zeros]

set_option maxHeartbeats 1000000 in
theorem parts_main (x : BitVec 64) (a : Option Addr) (len cap : Nat) (l : List UInt8) (b : Option Addr) (len2 cap2 : Nat) (m : List UInt8) (z : Nat) (w : World) (ha : BArg w a len cap l) (hb : BArg w b len2 cap2 m) (h1 : len ≤ 1000) (h2 : len2 ≤ 1000) (hz : z ≤ 100) :
    Calls Try.prog 8 #[.int .u64 (x.toNat : Int), .slice a len cap, .slice b len2 cap2, .int .i64 (z : Int)] w fun e w' => e = .returned (.bool true) ∧ Below w.heap.size w w' := by
  have hll := ha.len_eq
  have hmm := hb.len_eq
  have HA := Lib.hid ha
  have HB := Lib.hid hb
  clear ha hb
  have g0 : decide ((1000 : Int) < (len : Int)) = false := by simp; omega
  have g1 : decide ((1000 : Int) < (len2 : Int)) = false := by simp; omega
  have g2 : decide ((z : Int) < 0) = false := by simp
  have g3 : decide ((100 : Int) < (z : Int)) = false := by simp; omega
  have p1 := nextP_ok x l (by omega)
  have p2 := nextP_ok (Crc.run x (bn l)) m (by omega)
  have p3 := nextP_ok x (l ++ m) (by simp; omega)
  have p4 := nextP_ok 0#64 l (by omega)
  have p5 := nextP_ok 0#64 (List.replicate z 0 ++ l) (by simp; omega)
  rw [run_front] at p5
  rw [bn_append, Crc.run_append] at p3
  generalize Crc.run x (bn l) = X at p1 p2 p3
  generalize Crc.run X (bn m) = Y at p2 p3
  generalize Crc.run 0#64 (bn l) = S at p4 p5
  have P1 := Lib.hid p1
  have P2 := Lib.hid p2
  have P3 := Lib.hid p3
  have P4 := Lib.hid p4
  have P5 := Lib.hid p5
  have HL := Lib.hid hll
  have HM := Lib.hid hmm
  have hmk := run_make_bytes z (by omega)
  clear p1 p2 p3 p4 p5 hll hmm
  go_enter Try.func8, Try.ntmps8
  go_wp2_with fail
  refine (next_any x a len cap l _ HA.out).mono ?_
  rintro e w1 ⟨rfl, hb1⟩
  have HW1 := Lib.hid hb1
  clear hb1
  rw [P1.out]
  go_wp2_with fail
  refine (next_any X b len2 cap2 m _ (HB.out.below HW1.out)).mono ?_
  rintro e w2 ⟨rfl, hb2⟩
  have HW2 := Lib.hid (HW1.out.trans (hb2.mono HW1.out.size))
  clear hb2
  rw [P2.out]
  have HO0 := Lib.hid (Owns.lit0 w2 w.heap.size HW2.out.size)
  have HWa := Lib.hid (HW2.out.alloc HW2.out.size (.cells #[] 5))
  go_wp2_with (first
    | (at_builtin; refine wpList_append_bytes rfl (.tmp 50) (.tmp 51) rfl w.heap.size _ [] rfl HO0.out a len cap l rfl (HA.out.below HWa.out) len (by simp) (by omega) HWa.out.size ?_; intro A1 c1 w3 hown1 hgr1 _; have HW3 := Lib.hid (below_append HWa.out HO0.out (Nat.le_refl _) hgr1); have HO1 := Lib.hid hown1; clear hown1 hgr1)
    | (at_builtin; refine wpList_append_bytes rfl (.tmp 52) (.tmp 53) rfl w.heap.size _ ([] ++ l) rfl HO1.out b len2 cap2 m rfl (HB.out.below HW3.out) (len + len2) (by rw [HO1.out.len]) (by omega) HW3.out.size ?_; intro A2 c2 w4 hown2 hgr2 _; have HW4 := Lib.hid (below_append HW3.out HO1.out (Nat.le_refl _) hgr2); have HO2 := Lib.hid hown2; clear hown2 hgr2))
  refine (next_any x A2 (len + len2) c2 (l ++ m) _ (by have := HO2.out.arg; simpa using this)).mono ?_
  rintro e w5 ⟨rfl, hb5⟩
  have HW5 := Lib.hid (HW4.out.trans (hb5.mono HW4.out.size))
  clear hb5
  rw [P3.out]
  go_wp2_with fail
  refine (sum_any a len cap l _ (HA.out.below HW5.out)).mono ?_
  rintro e w6 ⟨rfl, hb6⟩
  have HW6 := Lib.hid (HW5.out.trans (hb6.mono HW5.out.size))
  clear hb6
  rw [P4.out]
  have HOz := Lib.hid (Owns.made w6 w.heap.size z HW6.out.size (by omega))
  have HWb := Lib.hid (HW6.out.alloc HW6.out.size (.cells (zb z) 5))
  go_wp2_with (at_builtin; refine wpList_append_bytes rfl (.tmp 65) (.tmp 66) rfl w.heap.size _ (List.replicate z 0) rfl HOz.out a len cap l rfl (HA.out.below HWb.out) (z + len) (by simp) (by omega) HWb.out.size ?_; intro A3 c3 w7 hown3 hgr3 _; have HW7 := Lib.hid (below_append HWb.out HOz.out (Nat.le_refl _) hgr3); have HO3 := Lib.hid hown3; clear hown3 hgr3)
  refine (sum_any A3 (z + len) c3 (List.replicate z 0 ++ l) _ HO3.out.arg).mono ?_
  rintro e w8 ⟨rfl, hb8⟩
  have HW8 := Lib.hid (HW7.out.trans (hb8.mono HW7.out.size))
  clear hb8
  rw [P5.out]
  have g4 : ((Y.toNat : Int) == (Y.toNat : Int)) = true := by simp
  have g5 : ((S.toNat : Int) == (S.toNat : Int)) = true := by simp
  go_wp2_with fail
  refine (calive_any _).mono ?_
  rintro e w9 ⟨rfl, hb9⟩
  go_wp2_with fail
  go_ret
  exact ⟨rfl, HW8.out.trans (hb9.mono HW8.out.size)⟩

set_option maxHeartbeats 400000 in
theorem parts_calls (s : Int) (hs : (Lit.int .u64 s).wf = true) (a : Option Addr) (len cap : Nat) (l : List UInt8) (w : World) (ha : BArg w a len cap l) (b : Option Addr) (len2 cap2 : Nat) (m : List UInt8) (hb : BArg w b len2 cap2 m) (z : Int) (_hz : (Lit.int .i64 z).wf = true) :
    Calls Try.prog 8 #[.int .u64 s, .slice a len cap, .slice b len2 cap2, .int .i64 z] w fun e w' => e = .returned (.bool true) ∧ Below w.heap.size w w' := by
  obtain ⟨x, rfl⟩ := u64bv hs
  by_cases h1 : len ≤ 1000
  · by_cases h2 : len2 ≤ 1000
    · by_cases h3 : 0 ≤ z
      · by_cases h4 : z ≤ 100
        · obtain ⟨z, rfl⟩ := Int.eq_ofNat_of_zero_le h3
          exact parts_main x a len cap l b len2 cap2 m z w ha hb h1 h2 (by omega)
        · have g0 : decide ((1000 : Int) < (len : Int)) = false := by simp; omega
          have g1 : decide ((1000 : Int) < (len2 : Int)) = false := by simp; omega
          have g2 : decide (z < 0) = false := by simp; omega
          have g3 : decide (100 < z) = true := by simp; omega
          clear hs ha hb h1 h2 h3 h4
          go_enter Try.func8, Try.ntmps8
          go_wp2_with fail
          refine (calive_any _).mono ?_
          rintro e w9 ⟨rfl, hb9⟩
          go_wp2_with fail
          go_ret
          exact ⟨rfl, hb9⟩
      · have g0 : decide ((1000 : Int) < (len : Int)) = false := by simp; omega
        have g1 : decide ((1000 : Int) < (len2 : Int)) = false := by simp; omega
        have g2 : decide (z < 0) = true := by simp; omega
        clear hs ha hb h1 h2 h3
        go_enter Try.func8, Try.ntmps8
        go_wp2_with fail
        refine (calive_any _).mono ?_
        rintro e w9 ⟨rfl, hb9⟩
        go_wp2_with fail
        go_ret
        exact ⟨rfl, hb9⟩
    · have g0 : decide ((1000 : Int) < (len : Int)) = false := by simp; omega
      have g1 : decide ((1000 : Int) < (len2 : Int)) = true := by simp; omega
      clear hs ha hb h1 h2
      go_enter Try.func8, Try.ntmps8
      go_wp2_with fail
      refine (calive_any _).mono ?_
      rintro e w9 ⟨rfl, hb9⟩
      go_wp2_with fail
      go_ret
      exact ⟨rfl, hb9⟩
  · have g0 : decide ((1000 : Int) < (len : Int)) = true := by simp; omega
    clear hs ha hb h1
    go_enter Try.func8, Try.ntmps8
    go_wp2_with fail
    refine (calive_any _).mono ?_
    rintro e w9 ⟨rfl, hb9⟩
    go_wp2_with fail
    go_ret
    exact ⟨rfl, hb9⟩
end Go.Proofs.Ytpfbgldpnjkdkaa
