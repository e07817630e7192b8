/- IdthreeNames: the walk of the law. -/
import Derived.Test.YtncmebhgnpeblaaIdLawA
import Derived.Test.YtncmebhgnpeblaaIdLaws
namespace Go.Proofs.Ytncmebhgnpeblaa
open Go.RowKit
attribute [local go_sem ↓] Go.wp_at_zero Go.wp_at_succ

theorem idn0 : szB [] 0 6 = true := by decide +kernel
theorem idn1 : szB [73, 68] 0 6 = true := by decide +kernel
theorem idn2 : szB [73, 100, 51, 4, 0, 0, 0, 0, 0, 0] 0 6 = true := by decide +kernel
theorem idn3 : szB [73, 68, 51] 0 24 = true := by decide +kernel
theorem idn4 : szB [73, 68, 51, 9, 9, 9, 255, 255, 255] 0 24 = true := by decide +kernel
theorem idn5 : szB [73, 68, 51, 4, 0, 0, 0, 0, 0, 1] 0 24 = true := by decide +kernel
theorem idn6 : szB [73, 68, 51, 4, 0, 16, 0, 0, 0, 0] 0 24 = true := by decide +kernel
theorem idn7 : szB [73, 68, 51, 1, 0, 0, 0, 0, 0, 0] 0 12 = true := by decide +kernel
theorem idn8 : szB [73, 68, 51, 5, 0, 0, 0, 0, 0, 0] 0 12 = true := by decide +kernel
theorem idn9 : szB [73, 68, 51, 4, 1, 0, 0, 0, 0, 0] 0 12 = true := by decide +kernel
theorem idn10 : szB [73, 68, 51, 4, 0, 8, 0, 0, 0, 0] 0 12 = true := by decide +kernel
theorem idn11 : szB [73, 68, 51, 3, 0, 16, 0, 0, 0, 0, 51, 68, 73, 3, 0, 16, 0, 0, 0, 0] 0 12 = true := by decide +kernel
theorem idn12 : szB [73, 68, 51, 4, 0, 0, 0, 0, 0, 128] 0 12 = true := by decide +kernel
theorem idn13 : szB [73, 68, 51, 4, 0, 16, 0, 0, 0, 0, 51, 68, 73, 4, 0, 16, 0, 0, 0, 1] 0 12 = true := by decide +kernel
theorem idn14 : szB [73, 68, 51, 4, 0, 16, 0, 0, 0, 0, 73, 68, 51, 4, 0, 16, 0, 0, 0, 0] 0 12 = true := by decide +kernel
theorem idn15 : szB [73, 68, 51, 2, 0, 0, 0, 0, 0, 0, 120, 121, 122] 10 0 = true := by decide +kernel
theorem idn16 : szB [73, 68, 51, 3, 0, 0, 0, 0, 0, 1, 255] 11 0 = true := by decide +kernel
theorem idn17 : szB [73, 68, 51, 4, 0, 16, 0, 0, 0, 0, 51, 68, 73, 4, 0, 16, 0, 0, 0, 0] 20 0 = true := by decide +kernel

theorem idn_over : szB [73, 68, 51, 4, 0, 0, 0, 0, 31, 23] 0 4 = true := by decide +kernel
theorem sb_extract (F : List UInt8) (n : Nat) : sb ((⟨F.toArray⟩ : ByteArray).extract 0 n) = F.take n := by
  unfold sb
  simp [ByteArray.data_extract]
theorem mkBig (n : Nat) (hn : n ≤ 281474976710656) (W : World) : (Instr.makeSlice 22 (.int .i64 (n : Int)) (.int .i64 (n : Int))).run Try.prog W = .ok (.slice (some ⟨W.heap.size, 0, none⟩) n n) (W.alloc (.cells (zb n) 5)) := run_make_bytes n hn W
theorem mk3990 (W : World) : (Instr.makeSlice 22 (.int .i64 3990) (.int .i64 3990)).run Try.prog W = .ok (.slice (some ⟨W.heap.size, 0, none⟩) 3990 3990) (W.alloc (.cells (zb 3990) 5)) := mkBig 3990 (by omega) W
theorem mk3991 (W : World) : (Instr.makeSlice 22 (.int .i64 3991) (.int .i64 3991)).run Try.prog W = .ok (.slice (some ⟨W.heap.size, 0, none⟩) 3991 3991) (W.alloc (.cells (zb 3991) 5)) := mkBig 3991 (by omega) W
theorem mk3981 (W : World) : (Instr.makeSlice 22 (.int .i64 3981) (.int .i64 3981)).run Try.prog W = .ok (.slice (some ⟨W.heap.size, 0, none⟩) 3981 3981) (W.alloc (.cells (zb 3981) 5)) := mkBig 3981 (by omega) W
theorem mk3980 (W : World) : (Instr.makeSlice 22 (.int .i64 3980) (.int .i64 3980)).run Try.prog W = .ok (.slice (some ⟨W.heap.size, 0, none⟩) 3980 3980) (W.alloc (.cells (zb 3980) 5)) := mkBig 3980 (by omega) W
set_option maxRecDepth 100000 in
theorem idn_full : (⟨#[73, 68, 51, 4, 0, 0, 0, 0, 31, 22]⟩ : ByteArray) ++ ⟨(List.replicate 3990 (0 : UInt8)).toArray⟩ = ⟨(idTag (List.replicate 3990 0) false).toArray⟩ := by
  rw [show (⟨#[73, 68, 51, 4, 0, 0, 0, 0, 31, 22]⟩ : ByteArray) = ⟨[73, 68, 51, 4, 0, 0, 0, 0, 31, 22].toArray⟩ from rfl, cat_mk]
  refine congrArg (fun x : List UInt8 => (⟨x.toArray⟩ : ByteArray)) ?_
  unfold idTag
  rw [List.length_replicate, show midL 3990 false = [4, 0, 0, 0, 0, 31, 22] by decide +kernel]
  generalize List.replicate 3990 (0 : UInt8) = Z
  simp [id3]

set_option maxRecDepth 100000 in
set_option maxHeartbeats 8000000 in
theorem idnames_calls (w : World) :
    Calls Try.prog 5 #[] w fun e w' => e = .returned (.bool true) ∧ Below w.heap.size w w' := by
  go_enter Try.func5, Try.ntmps5
  go_wp2_with fail
  refine (sync_any (-1) _).mono ?_
  rintro e w1 ⟨A1, n1, k1, rfl, _, hb⟩
  rw [show syE (-1) = 16 by decide]
  have HB1 := Lib.hid hb
  clear hb
  go_wp2_with fail
  refine (sync_any 268435456 _).mono ?_
  rintro e w2 ⟨A2, n2, k2, rfl, _, hb⟩
  rw [show syE 268435456 = 16 by decide]
  have HB2 := Lib.hid (HB1.out.trans (hb.mono HB1.out.size))
  clear hb
  go_wp2_with fail
  refine (sync_any 268435455 _).mono ?_
  rintro e w3 ⟨A3, n3, k3, rfl, ho, hb⟩
  rw [show syE 268435455 = 0 by decide]
  rw [show syL 268435455 = [127, 127, 127, 127] by decide +kernel] at ho
  have HC3 := Lib.hid ho.arg
  have HB3 := Lib.hid (HB2.out.trans (hb.mono HB2.out.size))
  clear hb ho
  go_wp2_with fail
  obtain ⟨v4, hv4⟩ : ∃ v, v = w3.alloc (.cells #[.int .u8 0, .int .u8 0, .int .u8 0] 5) := ⟨_, rfl⟩
  have hx4 : BArg v4 (some ⟨w3.heap.size, 0, none⟩) 3 3 [0, 0, 0] := by rw [hv4]; exact BArg.lit _ _ 3 rfl (by omega) _ _ _ rfl
  have HB4 : Hid (Below w.heap.size w v4) := Lib.hid (by rw [hv4]; exact HB3.out.alloc HB3.out.size _)
  have HC4 : Hid (BArg v4 A3 n3 k3 [127, 127, 127, 127]) := Lib.hid (by rw [hv4]; exact HC3.out.alloc _)
  rw [← hv4]
  clear hv4 HC3
  refine (idval_any _ 3 3 [0, 0, 0] _ hx4).mono ?_
  rintro e w9 ⟨rfl, rfl⟩
  rw [show idvP [0, 0, 0] = (0, 2) by decide +kernel]
  clear hx4
  go_wp2_with fail
  obtain ⟨v5, hv5⟩ : ∃ v, v = v4.alloc (.cells #[.int .u8 0, .int .u8 128, .int .u8 0, .int .u8 0] 5) := ⟨_, rfl⟩
  have hx5 : BArg v5 (some ⟨v4.heap.size, 0, none⟩) 4 4 [0, 128, 0, 0] := by rw [hv5]; exact BArg.lit _ _ 4 rfl (by omega) _ _ _ rfl
  have HB5 : Hid (Below w.heap.size w v5) := Lib.hid (by rw [hv5]; exact HB4.out.alloc HB4.out.size _)
  have HC5 : Hid (BArg v5 A3 n3 k3 [127, 127, 127, 127]) := Lib.hid (by rw [hv5]; exact HC4.out.alloc _)
  rw [← hv5]
  clear hv5 HC4
  refine (idval_any _ 4 4 [0, 128, 0, 0] _ hx5).mono ?_
  rintro e w9 ⟨rfl, rfl⟩
  rw [show idvP [0, 128, 0, 0] = (0, 12) by decide +kernel]
  clear hx5
  go_wp2_with fail
  obtain ⟨v6, hv6⟩ : ∃ v, v = v5.alloc (.cells #[.int .u8 127, .int .u8 127, .int .u8 127, .int .u8 127] 5) := ⟨_, rfl⟩
  have hx6 : BArg v6 (some ⟨v5.heap.size, 0, none⟩) 4 4 [127, 127, 127, 127] := by rw [hv6]; exact BArg.lit _ _ 4 rfl (by omega) _ _ _ rfl
  have HB6 : Hid (Below w.heap.size w v6) := Lib.hid (by rw [hv6]; exact HB5.out.alloc HB5.out.size _)
  have HC6 : Hid (BArg v6 A3 n3 k3 [127, 127, 127, 127]) := Lib.hid (by rw [hv6]; exact HC5.out.alloc _)
  rw [← hv6]
  clear hv6 HC5
  refine (idval_any _ 4 4 [127, 127, 127, 127] _ hx6).mono ?_
  rintro e w9 ⟨rfl, rfl⟩
  rw [show idvP [127, 127, 127, 127] = (268435455, 0) by decide +kernel]
  clear hx6
  go_wp2_with fail
  refine (lsize_any ⟨#[]⟩ (by decide) 0 6 _).mono ?_
  rintro e w7 ⟨rfl, hb⟩
  rw [show szB (sb ⟨#[]⟩) 0 6 = true from idn0]
  have HB7 := Lib.hid (HB6.out.trans (hb.mono HB6.out.size))
  have HC7 := Lib.hid (HC6.out.below hb)
  clear hb HC6
  go_wp2_with fail
  refine (lsize_any ⟨#[73, 68]⟩ (by decide) 0 6 _).mono ?_
  rintro e w8 ⟨rfl, hb⟩
  rw [show szB (sb ⟨#[73, 68]⟩) 0 6 = true from idn1]
  have HB8 := Lib.hid (HB7.out.trans (hb.mono HB7.out.size))
  have HC8 := Lib.hid (HC7.out.below hb)
  clear hb HC7
  go_wp2_with fail
  refine (lsize_any ⟨#[73, 100, 51, 4, 0, 0, 0, 0, 0, 0]⟩ (by decide) 0 6 _).mono ?_
  rintro e w9 ⟨rfl, hb⟩
  rw [show szB (sb ⟨#[73, 100, 51, 4, 0, 0, 0, 0, 0, 0]⟩) 0 6 = true from idn2]
  have HB9 := Lib.hid (HB8.out.trans (hb.mono HB8.out.size))
  have HC9 := Lib.hid (HC8.out.below hb)
  clear hb HC8
  go_wp2_with fail
  refine (lsize_any ⟨#[73, 68, 51]⟩ (by decide) 0 24 _).mono ?_
  rintro e w10 ⟨rfl, hb⟩
  rw [show szB (sb ⟨#[73, 68, 51]⟩) 0 24 = true from idn3]
  have HB10 := Lib.hid (HB9.out.trans (hb.mono HB9.out.size))
  have HC10 := Lib.hid (HC9.out.below hb)
  clear hb HC9
  go_wp2_with fail
  refine (lsize_any ⟨#[73, 68, 51, 9, 9, 9, 255, 255, 255]⟩ (by decide) 0 24 _).mono ?_
  rintro e w11 ⟨rfl, hb⟩
  rw [show szB (sb ⟨#[73, 68, 51, 9, 9, 9, 255, 255, 255]⟩) 0 24 = true from idn4]
  have HB11 := Lib.hid (HB10.out.trans (hb.mono HB10.out.size))
  have HC11 := Lib.hid (HC10.out.below hb)
  clear hb HC10
  go_wp2_with fail
  refine (lsize_any ⟨#[73, 68, 51, 4, 0, 0, 0, 0, 0, 1]⟩ (by decide) 0 24 _).mono ?_
  rintro e w12 ⟨rfl, hb⟩
  rw [show szB (sb ⟨#[73, 68, 51, 4, 0, 0, 0, 0, 0, 1]⟩) 0 24 = true from idn5]
  have HB12 := Lib.hid (HB11.out.trans (hb.mono HB11.out.size))
  have HC12 := Lib.hid (HC11.out.below hb)
  clear hb HC11
  go_wp2_with fail
  refine (lsize_any ⟨#[73, 68, 51, 4, 0, 16, 0, 0, 0, 0]⟩ (by decide) 0 24 _).mono ?_
  rintro e w13 ⟨rfl, hb⟩
  rw [show szB (sb ⟨#[73, 68, 51, 4, 0, 16, 0, 0, 0, 0]⟩) 0 24 = true from idn6]
  have HB13 := Lib.hid (HB12.out.trans (hb.mono HB12.out.size))
  have HC13 := Lib.hid (HC12.out.below hb)
  clear hb HC12
  go_wp2_with fail
  refine (lsize_any ⟨#[73, 68, 51, 1, 0, 0, 0, 0, 0, 0]⟩ (by decide) 0 12 _).mono ?_
  rintro e w14 ⟨rfl, hb⟩
  rw [show szB (sb ⟨#[73, 68, 51, 1, 0, 0, 0, 0, 0, 0]⟩) 0 12 = true from idn7]
  have HB14 := Lib.hid (HB13.out.trans (hb.mono HB13.out.size))
  have HC14 := Lib.hid (HC13.out.below hb)
  clear hb HC13
  go_wp2_with fail
  refine (lsize_any ⟨#[73, 68, 51, 5, 0, 0, 0, 0, 0, 0]⟩ (by decide) 0 12 _).mono ?_
  rintro e w15 ⟨rfl, hb⟩
  rw [show szB (sb ⟨#[73, 68, 51, 5, 0, 0, 0, 0, 0, 0]⟩) 0 12 = true from idn8]
  have HB15 := Lib.hid (HB14.out.trans (hb.mono HB14.out.size))
  have HC15 := Lib.hid (HC14.out.below hb)
  clear hb HC14
  go_wp2_with fail
  refine (lsize_any ⟨#[73, 68, 51, 4, 1, 0, 0, 0, 0, 0]⟩ (by decide) 0 12 _).mono ?_
  rintro e w16 ⟨rfl, hb⟩
  rw [show szB (sb ⟨#[73, 68, 51, 4, 1, 0, 0, 0, 0, 0]⟩) 0 12 = true from idn9]
  have HB16 := Lib.hid (HB15.out.trans (hb.mono HB15.out.size))
  have HC16 := Lib.hid (HC15.out.below hb)
  clear hb HC15
  go_wp2_with fail
  refine (lsize_any ⟨#[73, 68, 51, 4, 0, 8, 0, 0, 0, 0]⟩ (by decide) 0 12 _).mono ?_
  rintro e w17 ⟨rfl, hb⟩
  rw [show szB (sb ⟨#[73, 68, 51, 4, 0, 8, 0, 0, 0, 0]⟩) 0 12 = true from idn10]
  have HB17 := Lib.hid (HB16.out.trans (hb.mono HB16.out.size))
  have HC17 := Lib.hid (HC16.out.below hb)
  clear hb HC16
  go_wp2_with fail
  refine (lsize_any ⟨#[73, 68, 51, 3, 0, 16, 0, 0, 0, 0, 51, 68, 73, 3, 0, 16, 0, 0, 0, 0]⟩ (by decide) 0 12 _).mono ?_
  rintro e w18 ⟨rfl, hb⟩
  rw [show szB (sb ⟨#[73, 68, 51, 3, 0, 16, 0, 0, 0, 0, 51, 68, 73, 3, 0, 16, 0, 0, 0, 0]⟩) 0 12 = true from idn11]
  have HB18 := Lib.hid (HB17.out.trans (hb.mono HB17.out.size))
  have HC18 := Lib.hid (HC17.out.below hb)
  clear hb HC17
  go_wp2_with fail
  refine (lsize_any ⟨#[73, 68, 51, 4, 0, 0, 0, 0, 0, 128]⟩ (by decide) 0 12 _).mono ?_
  rintro e w19 ⟨rfl, hb⟩
  rw [show szB (sb ⟨#[73, 68, 51, 4, 0, 0, 0, 0, 0, 128]⟩) 0 12 = true from idn12]
  have HB19 := Lib.hid (HB18.out.trans (hb.mono HB18.out.size))
  have HC19 := Lib.hid (HC18.out.below hb)
  clear hb HC18
  go_wp2_with fail
  refine (lsize_any ⟨#[73, 68, 51, 4, 0, 16, 0, 0, 0, 0, 51, 68, 73, 4, 0, 16, 0, 0, 0, 1]⟩ (by decide) 0 12 _).mono ?_
  rintro e w20 ⟨rfl, hb⟩
  rw [show szB (sb ⟨#[73, 68, 51, 4, 0, 16, 0, 0, 0, 0, 51, 68, 73, 4, 0, 16, 0, 0, 0, 1]⟩) 0 12 = true from idn13]
  have HB20 := Lib.hid (HB19.out.trans (hb.mono HB19.out.size))
  have HC20 := Lib.hid (HC19.out.below hb)
  clear hb HC19
  go_wp2_with fail
  refine (lsize_any ⟨#[73, 68, 51, 4, 0, 16, 0, 0, 0, 0, 73, 68, 51, 4, 0, 16, 0, 0, 0, 0]⟩ (by decide) 0 12 _).mono ?_
  rintro e w21 ⟨rfl, hb⟩
  rw [show szB (sb ⟨#[73, 68, 51, 4, 0, 16, 0, 0, 0, 0, 73, 68, 51, 4, 0, 16, 0, 0, 0, 0]⟩) 0 12 = true from idn14]
  have HB21 := Lib.hid (HB20.out.trans (hb.mono HB20.out.size))
  have HC21 := Lib.hid (HC20.out.below hb)
  clear hb HC20
  go_wp2_with fail
  refine (lsize_any ⟨#[73, 68, 51, 2, 0, 0, 0, 0, 0, 0, 120, 121, 122]⟩ (by decide) 10 0 _).mono ?_
  rintro e w22 ⟨rfl, hb⟩
  rw [show szB (sb ⟨#[73, 68, 51, 2, 0, 0, 0, 0, 0, 0, 120, 121, 122]⟩) 10 0 = true from idn15]
  have HB22 := Lib.hid (HB21.out.trans (hb.mono HB21.out.size))
  have HC22 := Lib.hid (HC21.out.below hb)
  clear hb HC21
  go_wp2_with fail
  refine (lsize_any ⟨#[73, 68, 51, 3, 0, 0, 0, 0, 0, 1, 255]⟩ (by decide) 11 0 _).mono ?_
  rintro e w23 ⟨rfl, hb⟩
  rw [show szB (sb ⟨#[73, 68, 51, 3, 0, 0, 0, 0, 0, 1, 255]⟩) 11 0 = true from idn16]
  have HB23 := Lib.hid (HB22.out.trans (hb.mono HB22.out.size))
  have HC23 := Lib.hid (HC22.out.below hb)
  clear hb HC22
  go_wp2_with fail
  refine (lsize_any ⟨#[73, 68, 51, 4, 0, 16, 0, 0, 0, 0, 51, 68, 73, 4, 0, 16, 0, 0, 0, 0]⟩ (by decide) 20 0 _).mono ?_
  rintro e w24 ⟨rfl, hb⟩
  rw [show szB (sb ⟨#[73, 68, 51, 4, 0, 16, 0, 0, 0, 0, 51, 68, 73, 4, 0, 16, 0, 0, 0, 0]⟩) 20 0 = true from idn17]
  have HB24 := Lib.hid (HB23.out.trans (hb.mono HB23.out.size))
  have HC24 := Lib.hid (HC23.out.below hb)
  clear hb HC23
  go_upto_region 11 with fail
  have hmk := mk3990 w24
  have tz := (Owns.made w24 0 3990 (Nat.zero_le _) (by omega)).arg.text
  have hf := idn_full
  have hFl : (idTag (List.replicate 3990 0) false).length = 4000 := by rw [idTag_length, List.length_replicate]; rfl
  have hFs := siz_tag0 (List.replicate 3990 0) false (by rw [List.length_replicate]; decide)
  have hFc := siz_cut (List.replicate 3990 0) false (by rw [List.length_replicate]; decide) 3999 (by rw [List.length_replicate]; decide)
  rw [List.length_replicate, show idN 3990 false = 4000 from rfl] at hFs
  have hZl : (List.replicate 3990 (0 : UInt8)).length = 3990 := List.length_replicate
  generalize idTag (List.replicate 3990 0) false = F at *
  generalize List.replicate 3990 (0 : UInt8) = Z at *
  generalize zb 3990 = ZB at *
  have hng : ¬ 9223372036854775807 < 10 + Z.length := by omega
  obtain ⟨wx, hwx⟩ : ∃ wx, wx = w24.alloc (.cells ZB 5) := ⟨_, rfl⟩
  have HBx : Hid (Below w.heap.size w wx) := Lib.hid (by rw [hwx]; exact HB24.out.alloc HB24.out.size _)
  have HCx : Hid (BArg wx A3 n3 k3 [127, 127, 127, 127]) := Lib.hid (by rw [hwx]; exact HC24.out.alloc _)
  rw [← hwx] at hmk tz
  have HFL := Lib.hid hFl
  have HFS := Lib.hid hFs
  have HFC := Lib.hid hFc
  clear hwx hFl hFs hFc HC24
  go_upto_region 13 with fail
  clear tz hmk hf hZl hng
  obtain ⟨wy, hwy⟩ : ∃ wy, wy = wx.alloc (.cells (zb 3991) 5) := ⟨_, rfl⟩
  have hmk := mk3991 wx
  rw [← hwy] at hmk
  have ha : BArg wy (some ⟨wx.heap.size, 0, none⟩) 3991 3991 (List.replicate 3991 0) := by rw [hwy]; exact (Owns.made wx 0 3991 (Nat.zero_le _) (by omega)).arg
  have HBy : Hid (Below w.heap.size w wy) := Lib.hid (by rw [hwy]; exact HBx.out.alloc HBx.out.size _)
  have HCy : Hid (BArg wy A3 n3 k3 [127, 127, 127, 127]) := Lib.hid (by rw [hwy]; exact HCx.out.alloc _)
  have CW := Lib.hid (idwrite_any (some ⟨wx.heap.size, 0, none⟩) 3991 3991 (List.replicate 3991 0) false wy ha (by omega))
  generalize (List.replicate 3991 (0 : UInt8)) = Z2 at *
  clear hwy ha
  go_wp2_with fail
  refine CW.out.mono ?_
  rintro e wa ⟨Aa, na, ka, rfl, hb, h1, _⟩
  obtain ⟨rfl, rfl, rfl⟩ := h1 (by decide)
  rw [show idE 3991 false = 4 by decide]
  have HBa := Lib.hid (HBy.out.trans (hb.mono HBy.out.size))
  have HCa := Lib.hid (HCy.out.below hb)
  clear hb h1 CW HBy HCy hmk
  go_upto_region 14 with fail
  obtain ⟨wy, hwy⟩ : ∃ wy, wy = wa.alloc (.cells (zb 3981) 5) := ⟨_, rfl⟩
  have hmk := mk3981 wa
  rw [← hwy] at hmk
  have ha : BArg wy (some ⟨wa.heap.size, 0, none⟩) 3981 3981 (List.replicate 3981 0) := by rw [hwy]; exact (Owns.made wa 0 3981 (Nat.zero_le _) (by omega)).arg
  have HBy : Hid (Below w.heap.size w wy) := Lib.hid (by rw [hwy]; exact HBa.out.alloc HBa.out.size _)
  have HCy : Hid (BArg wy A3 n3 k3 [127, 127, 127, 127]) := Lib.hid (by rw [hwy]; exact HCa.out.alloc _)
  have CW := Lib.hid (idwrite_any (some ⟨wa.heap.size, 0, none⟩) 3981 3981 (List.replicate 3981 0) true wy ha (by omega))
  generalize (List.replicate 3981 (0 : UInt8)) = Z2 at *
  clear hwy ha
  go_wp2_with fail
  refine CW.out.mono ?_
  rintro e wb ⟨Ab, nb, kb, rfl, hb, h1, _⟩
  obtain ⟨rfl, rfl, rfl⟩ := h1 (by decide)
  rw [show idE 3981 true = 4 by decide]
  have HBb := Lib.hid (HBy.out.trans (hb.mono HBy.out.size))
  have HCb := Lib.hid (HCy.out.below hb)
  clear hb h1 CW HBy HCy hmk
  go_upto_region 15 with fail
  obtain ⟨wy, hwy⟩ : ∃ wy, wy = wb.alloc (.cells (zb 3980) 5) := ⟨_, rfl⟩
  have hmk := mk3980 wb
  rw [← hwy] at hmk
  have ha : BArg wy (some ⟨wb.heap.size, 0, none⟩) 3980 3980 (List.replicate 3980 0) := by rw [hwy]; exact (Owns.made wb 0 3980 (Nat.zero_le _) (by omega)).arg
  have HBy : Hid (Below w.heap.size w wy) := Lib.hid (by rw [hwy]; exact HBb.out.alloc HBb.out.size _)
  have HCy : Hid (BArg wy A3 n3 k3 [127, 127, 127, 127]) := Lib.hid (by rw [hwy]; exact HCb.out.alloc _)
  have CW := Lib.hid (idwrite_any (some ⟨wb.heap.size, 0, none⟩) 3980 3980 (List.replicate 3980 0) true wy ha (by omega))
  generalize (List.replicate 3980 (0 : UInt8)) = Z2 at *
  clear hwy ha
  go_wp2_with fail
  refine CW.out.mono ?_
  rintro e wc ⟨Ac, nc, kc, rfl, hb, _, h2⟩
  obtain ⟨rfl, _⟩ := h2 (by decide)
  rw [show idE 3980 true = 0 by decide, show idN 3980 true = 4000 from rfl]
  have HBc := Lib.hid (HBy.out.trans (hb.mono HBy.out.size))
  have HCc := Lib.hid (HCy.out.below hb)
  clear hb h2 CW HBy HCy hmk
  go_wp2_with fail
  refine (alive28_any _).mono ?_
  rintro e wd ⟨rfl, hb⟩
  have HBd := Lib.hid (HBc.out.trans (hb.mono HBc.out.size))
  have td := (HCc.out.below hb).text
  clear hb HCc
  go_wp2_with fail
  have hsz : (⟨F.toArray⟩ : ByteArray).size = 4000 := by show F.toArray.size = 4000; rw [List.size_toArray]; exact HFL.out
  refine (lsize_any _ (by rw [hsz]; omega) 4000 0 _).mono ?_
  rintro e we ⟨rfl, hb⟩
  rw [show szB (sb ⟨F.toArray⟩) 4000 0 = true by rw [sb_list]; unfold szB; rw [HFS.out]; rfl]
  have HBe := Lib.hid (HBd.out.trans (hb.mono HBd.out.size))
  clear hb td
  go_wp2_with fail
  have hs2 : ((⟨F.toArray⟩ : ByteArray).extract 0 3999).size ≤ 9223372036854775807 := by
    have h1 := sb_size ((⟨F.toArray⟩ : ByteArray).extract 0 3999)
    rw [sb_extract, List.length_take, HFL.out] at h1
    omega
  refine (lsize_any _ hs2 0 24 _).mono ?_
  rintro e wf ⟨rfl, hb⟩
  rw [show szB (sb ((⟨F.toArray⟩ : ByteArray).extract 0 3999)) 0 24 = true by rw [sb_extract]; unfold szB; rw [HFC.out]; rfl]
  have HBf := Lib.hid (HBe.out.trans (hb.mono HBe.out.size))
  clear hb hs2 hsz
  go_wp2_with fail
  refine (lsize_any ⟨#[73, 68, 51, 4, 0, 0, 0, 0, 31, 23]⟩ (by decide) 0 4 _).mono ?_
  rintro e wg ⟨rfl, hb⟩
  rw [show szB (sb ⟨#[73, 68, 51, 4, 0, 0, 0, 0, 31, 23]⟩) 0 4 = true from idn_over]
  have HBg := Lib.hid (HBf.out.trans (hb.mono HBf.out.size))
  clear hb
  go_wp2_with fail
  go_ret
  exact ⟨rfl, HBg.out⟩
end Go.Proofs.Ytncmebhgnpeblaa

