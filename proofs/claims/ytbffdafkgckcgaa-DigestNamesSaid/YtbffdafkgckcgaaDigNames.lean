/- DigestNames: the walk. -/
import Derived.Test.YtbffdafkgckcgaaDigLaws
namespace Go.Proofs.Ytbffdafkgckcgaa
open Go.RowKit

theorem mkd65 (W : World) : (Instr.makeSlice 37 (.int .i64 65) (.int .i64 65)).run Try.prog W = .ok (.slice (some ⟨W.heap.size, 0, none⟩) 65 65) (W.alloc (.cells (zb 65) 5)) := run_make_bytes 65 (by omega) W
theorem mkd7 (W : World) : (Instr.makeSlice 37 (.int .i64 7) (.int .i64 7)).run Try.prog W = .ok (.slice (some ⟨W.heap.size, 0, none⟩) 7 7) (W.alloc (.cells (zb 7) 5)) := run_make_bytes 7 (by omega) W
theorem mkd8 (W : World) : (Instr.makeSlice 37 (.int .i64 8) (.int .i64 8)).run Try.prog W = .ok (.slice (some ⟨W.heap.size, 0, none⟩) 8 8) (W.alloc (.cells (zb 8) 5)) := run_make_bytes 8 (by omega) W
theorem mkd9 (W : World) : (Instr.makeSlice 37 (.int .i64 9) (.int .i64 9)).run Try.prog W = .ok (.slice (some ⟨W.heap.size, 0, none⟩) 9 9) (W.alloc (.cells (zb 9) 5)) := run_make_bytes 9 (by omega) W
/-- Sixty-five bytes 0. -/
def t65 : ByteArray := ⟨(List.replicate 65 0).toArray⟩
theorem t65_size : t65.size = 65 := by decide
theorem dgt_zeros (n : Nat) : dgt ⟨(List.replicate n 0).toArray⟩ = 0 := by
  unfold dgt
  rw [sb_mk]
  have : bn (List.replicate n 0) = List.replicate n 0 := by unfold bn; rw [List.map_replicate]; rfl
  rw [this, Crc.run_zeros]; rfl
theorem dgt_cut : dgt (t65.extract 0 64) = 0 := by decide +kernel
theorem bs_zero8 : Le.bs 0 8 = List.replicate 8 0 := by decide
theorem right_long : rightP [] t65 = (false, 2) := by unfold rightP; rw [if_neg (by rw [t65_size]; omega)]
theorem right_7 : rightP (List.replicate 7 0) ⟨#[]⟩ = (false, 2) := by unfold rightP; rw [if_neg (by simp)]
theorem right_9 : rightP (List.replicate 9 0) ⟨#[]⟩ = (false, 2) := by unfold rightP; rw [if_neg (by simp)]
theorem right_8 : rightP (List.replicate 8 0) ⟨#[]⟩ = (true, 0) := by
  unfold rightP; rw [if_pos (by decide), dgt_none, bs_zero8]; simp
theorem dgt_0 : dgt ⟨#[0]⟩ = 0 := by decide +kernel
theorem dgt_1 : dgt ⟨#[1]⟩ = 4823603603198064275 := by decide +kernel
theorem right_80 : rightP (List.replicate 8 0) ⟨#[0]⟩ = (true, 0) := by
  unfold rightP; rw [if_pos (by decide), dgt_0, bs_zero8]; simp
theorem right_81 : rightP (List.replicate 8 0) ⟨#[1]⟩ = (false, 0) := by
  unfold rightP; rw [if_pos (by decide), dgt_1]
  have : (List.replicate 8 0 == Le.bs 4823603603198064275 8) = false := by decide +kernel
  rw [this]
theorem form_65 : formP t65 = (0, 2) := by unfold formP; rw [if_pos (by rw [t65_size]; omega)]
theorem form_0 : formP ⟨#[]⟩ = (1, 0) := by unfold formP; rw [if_neg (by decide), if_pos (by decide)]
theorem form_1 : formP ⟨#[0]⟩ = (2, 0) := by unfold formP; rw [if_neg (by decide), if_neg (by decide)]

set_option maxRecDepth 100000 in
set_option maxHeartbeats 2000000 in
theorem dnames_calls (w : World) :
    Calls Try.prog 13 #[] w fun e w' => e = .returned (.bool true) ∧ Below w.heap.size w w' := by
  have m65 := mkd65
  have m7 := mkd7
  have m8 := mkd8
  have m9 := mkd9
  have ht : (convert 37 9 (.slice (some ⟨w.heap.size, 0, none⟩) 65 65)).run Try.prog (w.alloc (.cells (zb 65) 5)) = .ok (.string t65) (w.alloc (.cells (zb 65) 5)) := (Owns.made w w.heap.size 65 (Nat.le_refl _) (by omega)).arg.text
  have hsz : 64 < t65.size := by rw [t65_size]; omega
  have hsz2 : t65.size ≤ 65 := by rw [t65_size]; omega
  go_enter Try.func13, Try.ntmps13
  go_wp2_with fail
  obtain ⟨W, hW⟩ : ∃ W, W = w.alloc (.cells (zb 65) 5) := ⟨_, rfl⟩
  rw [← hW]
  have HB0 : Hid (Below w.heap.size w W) := Lib.hid (by rw [hW]; exact (Below.refl _ _).alloc (Nat.le_refl _) _)
  clear hW ht m65
  refine (digOf_no t65 hsz _).mono ?_
  rintro e w1 ⟨rfl, rfl⟩
  go_wp2_with fail
  refine (digBytes_no t65 hsz _).mono ?_
  rintro e w1 ⟨rfl, rfl⟩
  go_wp2_with fail
  refine (digRight_any none 0 0 [] t65 _ (BArg.none_ _)).mono ?_
  rintro e w1 ⟨rfl, hb1⟩
  rw [right_long]
  have HB1 := Lib.hid (HB0.out.trans (hb1.mono HB0.out.size))
  clear hb1 HB0
  go_wp2_with fail
  refine (digFormat_any t65 _).mono ?_
  rintro e w2 ⟨rfl, rfl⟩
  rw [form_65]
  go_wp2_with fail
  refine (digOf_ok (t65.extract 0 64) (by decide) _).mono ?_
  rintro e w2 ⟨rfl, hb2⟩
  rw [dgt_cut]
  have HB2 := Lib.hid (HB1.out.trans (hb2.mono HB1.out.size))
  clear hb2 HB1
  go_wp2_with fail
  refine (digRight_any _ 7 7 (List.replicate 7 0) ⟨#[]⟩ _ (Owns.made _ _ 7 (Nat.le_refl _) (by omega)).arg).mono ?_
  rintro e w3 ⟨rfl, hb3⟩
  rw [right_7]
  have HB3 : Hid (Below w.heap.size w w3) := Lib.hid ((HB2.out.alloc HB2.out.size _).trans (hb3.mono (Nat.le_trans HB2.out.size (by simp))))
  clear hb3 HB2
  go_wp2_with fail
  refine (digRight_any _ 9 9 (List.replicate 9 0) ⟨#[]⟩ _ (Owns.made _ _ 9 (Nat.le_refl _) (by omega)).arg).mono ?_
  rintro e w4 ⟨rfl, hb4⟩
  rw [right_9]
  have HB4 : Hid (Below w.heap.size w w4) := Lib.hid ((HB3.out.alloc HB3.out.size _).trans (hb4.mono (Nat.le_trans HB3.out.size (by simp))))
  clear hb4 HB3
  go_wp2_with fail
  refine (digRight_any _ 8 8 (List.replicate 8 0) ⟨#[]⟩ _ (Owns.made _ _ 8 (Nat.le_refl _) (by omega)).arg).mono ?_
  rintro e w5 ⟨rfl, hb5⟩
  rw [right_8]
  have HB5 : Hid (Below w.heap.size w w5) := Lib.hid ((HB4.out.alloc HB4.out.size _).trans (hb5.mono (Nat.le_trans HB4.out.size (by simp))))
  clear hb5 HB4
  go_wp2_with fail
  refine (digRight_any _ 8 8 (List.replicate 8 0) ⟨#[0]⟩ _ (Owns.made _ _ 8 (Nat.le_refl _) (by omega)).arg).mono ?_
  rintro e w6 ⟨rfl, hb6⟩
  rw [right_80]
  have HB6 : Hid (Below w.heap.size w w6) := Lib.hid ((HB5.out.alloc HB5.out.size _).trans (hb6.mono (Nat.le_trans HB5.out.size (by simp))))
  clear hb6 HB5
  go_wp2_with fail
  refine (digRight_any _ 8 8 (List.replicate 8 0) ⟨#[1]⟩ _ (Owns.made _ _ 8 (Nat.le_refl _) (by omega)).arg).mono ?_
  rintro e w7 ⟨rfl, hb7⟩
  rw [right_81]
  have HB7 : Hid (Below w.heap.size w w7) := Lib.hid ((HB6.out.alloc HB6.out.size _).trans (hb7.mono (Nat.le_trans HB6.out.size (by simp))))
  clear hb7 HB6
  go_wp2_with fail
  refine (digFormat_any ⟨#[]⟩ _).mono ?_
  rintro e w8 ⟨rfl, rfl⟩
  rw [form_0]
  go_wp2_with fail
  refine (digFormat_any ⟨#[0]⟩ _).mono ?_
  rintro e w8 ⟨rfl, rfl⟩
  rw [form_1]
  go_wp2_with fail
  refine (digOf_ok ⟨#[1]⟩ (by decide) _).mono ?_
  rintro e w8 ⟨rfl, hb8⟩
  rw [dgt_1]
  have HB8 := Lib.hid (HB7.out.trans (hb8.mono HB7.out.size))
  clear hb8 HB7
  go_wp2_with fail
  refine (dalive_any _).mono ?_
  rintro e w9 ⟨rfl, hb9⟩
  go_wp2_with fail
  go_ret
  exact ⟨rfl, HB8.out.trans (hb9.mono HB8.out.size)⟩
end Go.Proofs.Ytbffdafkgckcgaa
