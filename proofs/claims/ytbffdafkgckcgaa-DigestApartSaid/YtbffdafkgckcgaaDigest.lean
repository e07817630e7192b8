/- The walks of package digest and of its reference. -/
import Derived.Test.YtbffdafkgckcgaaEqual
import Derived.Test.YtbffdafkgckcgaaCrc
import Derived.Test.YtbffdafkgckcgaaCrcRefB
import Derived.Test.YtbffdafkgckcgaaLeVal
import Derived.Test.YtbffdafkgckcgaaLeRef
import Derived.Deep.RegionWith
namespace Go.Proofs.Ytbffdafkgckcgaa
open Go.RowKit

/-- The digest of a password. -/
def dgt (s : ByteArray) : Nat := (Crc.run 0#64 (bn (sb s))).toNat
theorem dgt_lt (s : ByteArray) : dgt s < 256 ^ 8 := (Crc.run 0#64 (bn (sb s))).isLt
theorem sumP_text (s : ByteArray) (h : s.size ≤ 64) : nextP 0#64 (sb s) = .tuple #[.int .u64 (dgt s : Int), .int .i64 0] := nextP_ok 0#64 (sb s) (by rw [sb_size]; omega)

set_option maxHeartbeats 400000 in
theorem digOf_ok (s : ByteArray) (h : s.size ≤ 64) (w : World) :
    Calls Try.prog 29 #[.string s] w fun e w' => e = .returned (.tuple #[.int .u64 (dgt s : Int), .int .i64 0]) ∧ Below w.heap.size w w' := by
  have HS := Lib.hid (sumP_text s h)
  have hcv := run_text_bytes s
  go_enter Try.func29, Try.ntmps29
  go_wp2_with fail
  refine (sum_any _ s.size _ (sb s) _ (BArg.of_text _ s _ rfl (by omega))).mono ?_
  rintro e w1 ⟨rfl, hb1⟩
  have hbw := below_tworld w s
  have HB := Lib.hid (hbw.trans (hb1.mono hbw.size))
  clear hb1 hbw hcv
  rw [HS.out]
  go_wp2_with fail
  go_ret2
  exact ⟨rfl, HB.out⟩
set_option maxHeartbeats 400000 in
theorem digOf_no (s : ByteArray) (h : 64 < s.size) (w : World) :
    Calls Try.prog 29 #[.string s] w fun e w' => e = .returned (.tuple #[.int .u64 0, .int .i64 2]) ∧ w = w' := by
  go_enter Try.func29, Try.ntmps29
  go_wp2_with fail
  go_ret2
  exact ⟨rfl, rfl⟩

set_option maxHeartbeats 400000 in
theorem digBytes_ok (s : ByteArray) (h : s.size ≤ 64) (w : World) :
    Calls Try.prog 32 #[.string s] w fun e w' => ∃ g, w.heap.size ≤ g ∧ e = .returned (.tuple #[.slice (some ⟨g, 0, none⟩) 8 8, .int .i64 0]) ∧ Owns w' w.heap.size (.slice (some ⟨g, 0, none⟩) 8 8) (Le.bs (dgt s) 8) ∧ Below w.heap.size w w' := by
  go_enter Try.func32, Try.ntmps32
  go_wp2_with fail
  refine (digOf_ok s h _).mono ?_
  rintro e w1 ⟨rfl, hb1⟩
  have HB1 := Lib.hid hb1
  clear hb1
  go_wp2_with fail
  refine (bytes_ok (dgt s) 8 (by omega) (by omega) (dgt_lt s) _).mono ?_
  rintro e w2 ⟨rfl, ho2, hb2⟩
  have HO2 := Lib.hid ho2
  have HB2 := Lib.hid hb2
  clear ho2 hb2
  go_wp2_with fail
  go_ret2
  exact ⟨w1.heap.size, HB1.out.size, rfl, HO2.out.mono HB1.out.size, HB1.out.trans (HB2.out.mono HB1.out.size)⟩
set_option maxHeartbeats 400000 in
theorem digBytes_no (s : ByteArray) (h : 64 < s.size) (w : World) :
    Calls Try.prog 32 #[.string s] w fun e w' => e = .returned (.tuple #[.slice none 0 0, .int .i64 2]) ∧ w = w' := by
  go_enter Try.func32, Try.ntmps32
  go_wp2_with fail
  refine (digOf_no s h _).mono ?_
  rintro e w1 ⟨rfl, rfl⟩
  go_wp2_with fail
  go_ret2
  exact ⟨rfl, rfl⟩

/-- What Right answers. -/
def rightP (l : List UInt8) (s : ByteArray) : Bool × Int := if s.size ≤ 64 ∧ l.length = 8 then (l == Le.bs (dgt s) 8, 0) else (false, 2)

set_option maxHeartbeats 400000 in
theorem digRight_any (a : Option Addr) (len cap : Nat) (l : List UInt8) (s : ByteArray) (w : World) (ha : BArg w a len cap l) :
    Calls Try.prog 34 #[.slice a len cap, .string s] w fun e w' => e = .returned (.tuple #[.bool (rightP l s).1, .int .i64 (rightP l s).2]) ∧ Below w.heap.size w w' := by
  have hll := ha.len_eq
  have HA := Lib.hid ha
  clear ha
  by_cases hs : s.size ≤ 64
  · by_cases h8 : len = 8
    · have HP : Hid (rightP l s = (l == Le.bs (dgt s) 8, 0)) := Lib.hid (by unfold rightP; rw [if_pos (by omega)])
      subst h8
      clear hll
      go_enter Try.func34, Try.ntmps34
      go_wp2_with fail
      refine (digBytes_ok s hs _).mono ?_
      rintro e w1 ⟨g, -, rfl, ho1, hb1⟩
      have HO1 := Lib.hid ho1
      have HB1 := Lib.hid hb1
      clear ho1 hb1
      go_wp2_with fail
      refine (equal_any a 8 cap l _ 8 8 (Le.bs (dgt s) 8) _ (HA.out.below HB1.out) HO1.out.arg).mono ?_
      rintro e w2 ⟨rfl, rfl⟩
      go_wp2_with fail
      go_ret2
      exact ⟨by rw [HP.out]; rfl, HB1.out⟩
    · have HP : Hid (rightP l s = (false, 2)) := Lib.hid (by unfold rightP; rw [if_neg (by omega)])
      have g : ((len : Int) != 8) = true := by simp; omega
      clear hll h8
      go_enter Try.func34, Try.ntmps34
      go_wp2_with fail
      refine (digBytes_ok s hs _).mono ?_
      rintro e w1 ⟨g, -, rfl, ho1, hb1⟩
      have HB1 := Lib.hid hb1
      clear ho1 hb1
      go_wp2_with fail
      go_ret2
      exact ⟨by rw [HP.out]; rfl, HB1.out⟩
  · have HP : Hid (rightP l s = (false, 2)) := Lib.hid (by unfold rightP; rw [if_neg (by omega)])
    have hs' : 64 < s.size := by omega
    clear hll hs
    go_enter Try.func34, Try.ntmps34
    go_wp2_with fail
    refine (digBytes_no s hs' _).mono ?_
    rintro e w1 ⟨rfl, rfl⟩
    go_wp2_with fail
    go_ret2
    exact ⟨by rw [HP.out]; rfl, Below.refl _ _⟩

/-- What Format answers. -/
def formP (s : ByteArray) : Int × Int := if 64 < s.size then (0, 2) else if s.size = 0 then (1, 0) else (2, 0)
set_option maxHeartbeats 400000 in
theorem digFormat_any (s : ByteArray) (w : World) :
    Calls Try.prog 30 #[.string s] w fun e w' => e = .returned (.tuple #[.int .i64 (formP s).1, .int .i64 (formP s).2]) ∧ w = w' := by
  by_cases h : 64 < s.size
  · have HP : Hid (formP s = (0, 2)) := Lib.hid (by unfold formP; rw [if_pos h])
    go_enter Try.func30, Try.ntmps30
    go_wp2_with fail
    go_ret2
    exact ⟨by rw [HP.out]; rfl, rfl⟩
  · by_cases h0 : s.size = 0
    · have HP : Hid (formP s = (1, 0)) := Lib.hid (by unfold formP; rw [if_neg h, if_pos h0])
      have g1 : decide ((64 : Int) < (s.size : Int)) = false := by simp; omega
      have g2 : ((s.size : Int) == 0) = true := by rw [beq_iff_eq]; omega
      clear h h0
      go_enter Try.func30, Try.ntmps30
      go_wp2_with fail
      go_ret2
      exact ⟨by rw [HP.out]; rfl, rfl⟩
    · have HP : Hid (formP s = (2, 0)) := Lib.hid (by unfold formP; rw [if_neg h, if_neg h0])
      have g1 : decide ((64 : Int) < (s.size : Int)) = false := by simp; omega
      have g2 : ((s.size : Int) == 0) = false := beq_eq_false_iff_ne.2 (by omega)
      clear h h0
      go_enter Try.func30, Try.ntmps30
      go_wp2_with fail
      go_ret2
      exact ⟨by rw [HP.out]; rfl, rfl⟩

set_option maxHeartbeats 400000 in
theorem told_any (s : ByteArray) (hs : s.size ≤ 9223372036854775807) (w : World) :
    Calls Try.prog 42 #[.string s] w fun e w' => e = .returned (.int .u64 (dgt s : Int)) ∧ Below w.heap.size w w' := by
  have hcv := run_text_bytes s
  go_enter Try.func42, Try.ntmps42
  go_wp2_with fail
  refine (rbehind_any 0#64 _ s.size _ (sb s) _ (BArg.of_text _ s _ rfl hs)).mono ?_
  rintro e w1 ⟨rfl, rfl⟩
  clear hcv
  go_wp2_with fail
  go_ret
  exact ⟨rfl, below_tworld w s⟩
set_option maxHeartbeats 400000 in
theorem rdOf_ok (s : ByteArray) (h : s.size ≤ 64) (w : World) :
    Calls Try.prog 31 #[.string s] w fun e w' => e = .returned (.tuple #[.int .u64 (dgt s : Int), .int .i64 0]) ∧ Below w.heap.size w w' := by
  go_enter Try.func31, Try.ntmps31
  go_wp2_with fail
  refine (told_any s (by omega) _).mono ?_
  rintro e w1 ⟨rfl, hb1⟩
  go_wp2_with fail
  go_ret2
  exact ⟨rfl, hb1⟩
set_option maxHeartbeats 400000 in
theorem rdOf_no (s : ByteArray) (h : 64 < s.size) (w : World) :
    Calls Try.prog 31 #[.string s] w fun e w' => e = .returned (.tuple #[.int .u64 0, .int .i64 2]) ∧ w = w' := by
  go_enter Try.func31, Try.ntmps31
  go_wp2_with fail
  go_ret2
  exact ⟨rfl, rfl⟩
set_option maxHeartbeats 400000 in
theorem rdWritten_any (s : ByteArray) (hs : s.size ≤ 9223372036854775807) (w : World) :
    Calls Try.prog 43 #[.string s] w fun e w' => ∃ A cap, e = .returned (.slice A 8 cap) ∧ Owns w' w.heap.size (.slice A 8 cap) (Le.bs (dgt s) 8) ∧ Below w.heap.size w w' := by
  go_enter Try.func43, Try.ntmps43
  go_wp2_with fail
  refine (told_any s hs _).mono ?_
  rintro e w1 ⟨rfl, hb1⟩
  have HB1 := Lib.hid hb1
  clear hb1
  go_wp2_with fail
  refine (written_any (dgt s) 8 (dgt_lt s) (by omega) _).mono ?_
  rintro e w2 ⟨A, cap, rfl, ho2, hb2⟩
  have HO2 := Lib.hid ho2
  have HB2 := Lib.hid hb2
  clear ho2 hb2
  go_wp2_with fail
  go_ret
  exact ⟨A, cap, rfl, HO2.out.mono HB1.out.size, HB1.out.trans (HB2.out.mono HB1.out.size)⟩
set_option maxHeartbeats 400000 in
theorem rdBytes_ok (s : ByteArray) (h : s.size ≤ 64) (w : World) :
    Calls Try.prog 33 #[.string s] w fun e w' => ∃ A cap, e = .returned (.tuple #[.slice A 8 cap, .int .i64 0]) ∧ Owns w' w.heap.size (.slice A 8 cap) (Le.bs (dgt s) 8) ∧ Below w.heap.size w w' := by
  go_enter Try.func33, Try.ntmps33
  go_wp2_with fail
  refine (rdWritten_any s (by omega) _).mono ?_
  rintro e w2 ⟨A, cap, rfl, ho2, hb2⟩
  have HO2 := Lib.hid ho2
  have HB2 := Lib.hid hb2
  clear ho2 hb2
  go_wp2_with fail
  go_ret2
  exact ⟨A, cap, rfl, HO2.out, HB2.out⟩
set_option maxHeartbeats 400000 in
theorem rdBytes_no (s : ByteArray) (h : 64 < s.size) (w : World) :
    Calls Try.prog 33 #[.string s] w fun e w' => e = .returned (.tuple #[.slice none 0 0, .int .i64 2]) ∧ w = w' := by
  go_enter Try.func33, Try.ntmps33
  go_wp2_with fail
  go_ret2
  exact ⟨rfl, rfl⟩
set_option maxHeartbeats 400000 in
theorem rdFormat_any (s : ByteArray) (w : World) :
    Calls Try.prog 36 #[.string s] w fun e w' => e = .returned (.tuple #[.int .i64 (formP s).1, .int .i64 (formP s).2]) ∧ w = w' := by
  have formed : ∀ (b : Bool) (_ : s.toList.isEmpty = b) (W : World), Calls Try.prog 45 #[.string s] W fun e w' => e = .returned (.int .i64 (if b then 1 else 2)) ∧ W = w' := by
    intro b hb W
    cases b
    · go_enter Try.func45, Try.ntmps45
      go_wp2_with fail
      go_ret
      exact ⟨rfl, rfl⟩
    · go_enter Try.func45, Try.ntmps45
      go_wp2_with fail
      go_ret
      exact ⟨rfl, rfl⟩
  have HF := Lib.hid formed
  clear formed
  by_cases h : 64 < s.size
  · have HP : Hid (formP s = (0, 2)) := Lib.hid (by unfold formP; rw [if_pos h])
    go_enter Try.func36, Try.ntmps36
    go_wp2_with fail
    go_ret2
    exact ⟨by rw [HP.out]; rfl, rfl⟩
  · have HE : Hid (s.toList.isEmpty = decide (s.size = 0)) := Lib.hid (by
      rw [Lib.toList_data, ← sb_size]
      unfold sb
      cases s.data.toList <;> simp)
    by_cases h0 : s.size = 0
    · have HP : Hid (formP s = (1, 0)) := Lib.hid (by unfold formP; rw [if_neg h, if_pos h0])
      have HE1 : Hid (s.toList.isEmpty = true) := Lib.hid (by rw [HE.out]; simpa using h0)
      have g1 : decide ((64 : Int) < (s.size : Int)) = false := by simp; omega
      clear h h0
      go_enter Try.func36, Try.ntmps36
      go_wp2_with fail
      refine (HF.out true HE1.out _).mono ?_
      rintro e w1 ⟨rfl, rfl⟩
      go_wp2_with fail
      go_ret2
      exact ⟨by rw [HP.out]; rfl, rfl⟩
    · have HP : Hid (formP s = (2, 0)) := Lib.hid (by unfold formP; rw [if_neg h, if_neg h0])
      have HE1 : Hid (s.toList.isEmpty = false) := Lib.hid (by rw [HE.out]; simpa using h0)
      have g1 : decide ((64 : Int) < (s.size : Int)) = false := by simp; omega
      clear h h0
      go_enter Try.func36, Try.ntmps36
      go_wp2_with fail
      refine (HF.out false HE1.out _).mono ?_
      rintro e w1 ⟨rfl, rfl⟩
      go_wp2_with fail
      go_ret2
      exact ⟨by rw [HP.out]; rfl, rfl⟩

set_option maxHeartbeats 1000000 in
theorem rdRight_any (a : Option Addr) (len cap : Nat) (l : List UInt8) (s : ByteArray) (w : World) (ha : BArg w a len cap l) :
    Calls Try.prog 35 #[.slice a len cap, .string s] w fun e w' => e = .returned (.tuple #[.bool (rightP l s).1, .int .i64 (rightP l s).2]) ∧ Below w.heap.size w w' := by
  have hll := ha.len_eq
  have HA := Lib.hid ha
  clear ha
  by_cases hs : s.size ≤ 64
  · by_cases h8 : len = 8
    · have HP : Hid (rightP l s = (l == Le.bs (dgt s) 8, 0)) := Lib.hid (by unfold rightP; rw [if_pos (by omega)])
      subst h8
      clear hll
      go_enter Try.func35, Try.ntmps35
      go_wp2_with fail
      have t1 := HA.out.text
      have t1d := HA.out.drew.text
      go_region_with (go_at_call 43; refine (rdWritten_any s (by omega) _).mono ?_; rintro e w1 ⟨A, c1, rfl, ho1, hb1⟩; have t2 := ho1.arg.text; have t3 := (HA.out.drew.below hb1).text; have HB1 := Lib.hid hb1; clear ho1 hb1)
      all_goals go_wp2_with fail
      all_goals go_ret2
      all_goals exact ⟨by rw [HP.out]; rfl, (Below.refl _ _).drew.trans HB1.out⟩
    · have HP : Hid (rightP l s = (false, 2)) := Lib.hid (by unfold rightP; rw [if_neg (by omega)])
      have g : ((len : Int) != 8) = true := by simp; omega
      clear hll h8
      go_enter Try.func35, Try.ntmps35
      go_wp2_with fail
      go_ret2
      exact ⟨by rw [HP.out]; rfl, Below.refl _ _⟩
  · have HP : Hid (rightP l s = (false, 2)) := Lib.hid (by unfold rightP; rw [if_neg (by omega)])
    have hs' : 64 < s.size := by omega
    clear hll hs
    go_enter Try.func35, Try.ntmps35
    go_wp2_with fail
    go_ret2
    exact ⟨by rw [HP.out]; rfl, Below.refl _ _⟩
end Go.Proofs.Ytbffdafkgckcgaa
