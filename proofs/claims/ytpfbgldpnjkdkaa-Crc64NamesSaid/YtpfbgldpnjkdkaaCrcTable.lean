/- Crc64Table and Crc64Names: the walks. -/
import Derived.Test.YtpfbgldpnjkdkaaCrcAlive
namespace Go.Proofs.Ytpfbgldpnjkdkaa
open Go.RowKit

set_option maxHeartbeats 400000 in
theorem ttable_any (w : World) :
    Calls Try.prog 24 #[] w fun e w' => e = .returned (.slice (some ⟨w.heap.size, 0, none⟩) 256 256) ∧ w' = w.alloc (.cells (ints .u64 (tabK 256)) 60) := by
  go_enter Try.func24, Try.ntmps24
  go_wp2_with fail
  refine (table_any _).mono ?_
  rintro e w1 ⟨rfl, rfl⟩
  go_wp2_with fail
  go_ret
  exact ⟨rfl, rfl⟩

theorem next_zero_tab (c : Nat) : Crc.next 0#64 c = Crc.tab c := by
  unfold Crc.next
  simp
theorem next_int' (y : BitVec 64) (c : Nat) : bits .xor .u64 (IntKind.u64.wrap (256 * (y.toNat : Int))) ((Crc.tab ((y.toNat / 2 ^ 56) ^^^ c)).toNat : Int) = ((Crc.next y c).toNat : Int) := by
  rw [Int.mul_comm]; exact next_int y c

theorem below_next {w w1 w2 : World} {o : Obj} (h : Below w.heap.size w w1) (hb : Below (w1.alloc o).heap.size (w1.alloc o) w2) : Below w.heap.size w w2 :=
  (h.alloc h.size _).trans (hb.mono (Nat.le_trans h.size (by simp)))
theorem blk_next {w1 w2 : World} {o X : Obj} {g : Nat} (h : w1.heap[g]? = some X) (hb : Below (w1.alloc o).heap.size (w1.alloc o) w2) : w2.heap[g]? = some X := by
  have hl := (Array.getElem?_eq_some_iff.1 h).1
  rw [hb.block _ (by simp; omega), Below.heap_alloc _ _ _ hl]; exact h

set_option maxRecDepth 10000 in
set_option maxHeartbeats 1000000 in
theorem ctable_calls (s : Int) (hs : (Lit.int .u64 s).wf = true) (b : Int) (hb : (Lit.int .u8 b).wf = true) (w : World) :
    Calls Try.prog 11 #[.int .u64 s, .int .u8 b] w fun e w' => e = .returned (.bool true) ∧ Below w.heap.size w w' := by
  obtain ⟨x, rfl⟩ := u64bv hs
  obtain ⟨c, hbc⟩ : ∃ c : UInt8, b = (c.toNat : Int) := u8_of_wf hb
  subst hbc
  have hc8 : c.toNat < 256 := c.toNat_lt
  clear hs hb
  obtain ⟨q, hq⟩ : ∃ q, q = (x.toNat / 2 ^ 56) ^^^ c.toNat := ⟨_, rfl⟩
  have hx := x.isLt
  have hidx : bits .xor .u8 ((x.toNat : Int) / 72057594037927936) (c.toNat : Int) = (q : Int) := by
    rw [hq]; exact idx_int x c.toNat hc8
  have hq8 : q < 256 := by rw [hq]; exact Nat.xor_lt_two_pow (n := 8) (by omega) hc8
  have hnx : bits .xor .u64 (IntKind.u64.wrap (256 * (x.toNat : Int))) ((Crc.tab q).toNat : Int) = ((Crc.next x c.toNat).toNat : Int) := by rw [hq]; exact next_int' x c.toNat
  have p1 : nextP x [c] = .tuple #[.int .u64 ((Crc.next x c.toNat).toNat : Int), .int .i64 0] := nextP_ok x [c] (by simp)
  have p2 : nextP 0#64 [c] = .tuple #[.int .u64 ((Crc.tab c.toNat).toNat : Int), .int .i64 0] := by
    rw [← next_zero_tab]; exact nextP_ok 0#64 [c] (by simp)
  generalize Crc.next x c.toNat = Y at hnx p1
  have P1 := Lib.hid p1
  have P2 := Lib.hid p2
  have HQ := Lib.hid hq
  clear p1 p2 hq
  go_enter Try.func11, Try.ntmps11
  go_wp2_with fail
  refine (ttable_any _).mono ?_
  rintro e w1 ⟨rfl, rfl⟩
  obtain ⟨w1, hw1⟩ : ∃ w1, w1 = w.alloc (.cells (ints .u64 (tabK 256)) 60) := ⟨_, rfl⟩
  rw [← hw1]
  have HT1 : Hid (w1.heap[w.heap.size]? = some (.cells (ints .u64 (tabK 256)) 60)) := Lib.hid (by rw [hw1]; exact heap_alloc_new w _)
  have HS1 : Hid (w.heap.size < w1.heap.size) := Lib.hid (by rw [hw1]; simp)
  have HW1 : Hid (Below w.heap.size w w1) := Lib.hid (by rw [hw1]; exact (Below.refl _ _).alloc (Nat.le_refl _) _)
  clear hw1
  go_wp2_with fail
  refine (next_any x _ 1 1 [c] _ (BArg.lit _ [c] 1 rfl (by omega) _ _ _ rfl)).mono ?_
  rintro e w2 ⟨rfl, hb2⟩
  have HT2 : Hid (w2.heap[w.heap.size]? = some (.cells (ints .u64 (tabK 256)) 60)) := Lib.hid (by
    have := HS1.out
    rw [hb2.block _ (by simp; omega), Below.heap_alloc _ _ _ (by omega)]; exact HT1.out)
  have HS2 : Hid (w.heap.size < w2.heap.size) := Lib.hid (by have := HS1.out; have := hb2.size; simp at this; omega)
  have HW2 : Hid (Below w.heap.size w w2) := Lib.hid ((HW1.out.alloc HW1.out.size _).trans (hb2.mono (Nat.le_trans HW1.out.size (by simp))))
  clear hb2 HT1 HS1 HW1
  rw [P1.out]
  go_wp2_with fail
  refine (sum_any _ 1 1 [c] _ (BArg.lit _ [c] 1 rfl (by omega) _ _ _ rfl)).mono ?_
  rintro e w3 ⟨rfl, hb3⟩
  have hT3 : w3.heap[w.heap.size]? = some (.cells (ints .u64 (tabK 256)) 60) := by
    have := HS2.out
    rw [hb3.block _ (by simp; omega), Below.heap_alloc _ _ _ (by omega)]; exact HT2.out
  have HW3 : Hid (Below w.heap.size w w3) := Lib.hid ((HW2.out.alloc HW2.out.size _).trans (hb3.mono (Nat.le_trans HW2.out.size (by simp))))
  have ht1 : w3.cell? ⟨w.heap.size, q, none⟩ = some (.int .u64 ((Crc.tab q).toNat : Int)) := by
    rw [cell_of_row w3 _ q _ _ _ hT3, ints_get, tabK_get _ _ hq8, if_pos hq8]; rfl
  have ht2 : w3.cell? ⟨w.heap.size, c.toNat, none⟩ = some (.int .u64 ((Crc.tab c.toNat).toNat : Int)) := by
    rw [cell_of_row w3 _ c.toNat _ _ _ hT3, ints_get, tabK_get _ _ hc8, if_pos hc8]; rfl
  clear hb3 HT2 HS2 HW2 hT3
  rw [P2.out]
  go_wp2_with fail
  refine (calive_any _).mono ?_
  rintro e w4 ⟨rfl, hb4⟩
  go_wp2_with fail
  go_ret
  exact ⟨rfl, HW3.out.trans (hb4.mono HW3.out.size)⟩

theorem sum_great (n : Nat) (hn : 100000 < n) (x : BitVec 64) : nextP x (List.replicate n 0) = .tuple #[.int .u64 0, .int .i64 4] := by
  unfold nextP; rw [if_neg (by rw [List.length_replicate]; omega)]
theorem sum_full : nextP 0#64 (List.replicate 100000 0) = .tuple #[.int .u64 0, .int .i64 0] := by
  rw [nextP_ok _ _ (by rw [List.length_replicate]; omega)]
  have : bn (List.replicate 100000 0) = List.replicate 100000 0 := by unfold bn; rw [List.map_replicate]; rfl
  rw [this, Crc.run_zeros]
  rfl
theorem sum_five : nextP 5#64 [] = .tuple #[.int .u64 5, .int .i64 0] := by
  rw [nextP_ok _ _ (by simp)]; rfl
theorem sum_two : nextP 0#64 [2] = .tuple #[.int .u64 9647207206396128550, .int .i64 0] := nextP_num _ _ (by simp) (by decide +kernel)
theorem mk1 (W : World) : (Instr.makeSlice 33 (.int .i64 100001) (.int .i64 100001)).run Try.prog W = .ok (.slice (some ⟨W.heap.size, 0, none⟩) 100001 100001) (W.alloc (.cells (zb 100001) 5)) := run_make_bytes 100001 (by omega) W
theorem mk2 (W : World) : (Instr.makeSlice 33 (.int .i64 100000) (.int .i64 100000)).run Try.prog W = .ok (.slice (some ⟨W.heap.size, 0, none⟩) 100000 100000) (W.alloc (.cells (zb 100000) 5)) := run_make_bytes 100000 (by omega) W
theorem tab012 (w : World) (g : Nat) (h : w.heap[g]? = some (.cells (ints .u64 (tabK 256)) 60)) :
    w.cell? ⟨g, 0, none⟩ = some (.int .u64 0) ∧ w.cell? ⟨g, 1, none⟩ = some (.int .u64 4823603603198064275) ∧ w.cell? ⟨g, 2, none⟩ = some (.int .u64 9647207206396128550) := by
  have e0 : ((Crc.tab 0).toNat : Int) = 0 := by decide +kernel
  have e1 : ((Crc.tab 1).toNat : Int) = 4823603603198064275 := by decide +kernel
  have e2 : ((Crc.tab 2).toNat : Int) = 9647207206396128550 := by decide +kernel
  refine ⟨?_, ?_, ?_⟩
  · rw [cell_of_row w _ 0 _ _ _ h, ints_get, tabK_get _ _ (by omega), if_pos (by omega), e0]; rfl
  · rw [cell_of_row w _ 1 _ _ _ h, ints_get, tabK_get _ _ (by omega), if_pos (by omega), e1]; rfl
  · rw [cell_of_row w _ 2 _ _ _ h, ints_get, tabK_get _ _ (by omega), if_pos (by omega), e2]; rfl

set_option maxRecDepth 10000 in
set_option maxHeartbeats 1000000 in
theorem cnames_calls (w : World) :
    Calls Try.prog 10 #[] w fun e w' => e = .returned (.bool true) ∧ Below w.heap.size w w' := by
  go_enter Try.func10, Try.ntmps10
  go_wp2_with fail
  refine (ttable_any _).mono ?_
  rintro e w1 ⟨rfl, rfl⟩
  go_wp2_with fail
  go_loopw [2] (fun i wr => ∃ (k : Nat) (C : List Int), k ≤ 256 ∧ Hid (C.length = 256) ∧ i = .int .i64 k ∧ wr = w.alloc (.cells (ints .u64 C) 60)) (fun i _ => 256 - (intOf i).toNat)
  case atStart => exact ⟨0, _, by omega, Lib.hid (tabK_length 256), rfl, rfl⟩
  case round =>
    obtain ⟨k, C, hk, hC, rfl, rfl⟩ := hrel
    by_cases hlt : k < 256
    · have h1 : (ints .u64 C).size = 256 := by rw [ints_size, hC.out]
      have h2 : ∃ v, (ints .u64 C)[k]? = some v := ⟨_, Array.getElem?_eq_getElem (by omega)⟩
      obtain ⟨v, h2⟩ := h2
      go_wp2
      go_roundw
      case rel => exact ⟨k + 1, C.set k 7, by omega, Lib.hid (by rw [List.length_set, hC.out]), by go_num, by rw [ints_set']⟩
      case measure => simp [intOf]; omega
    · obtain rfl : k = 256 := by omega
      obtain ⟨wr, hwr⟩ : ∃ wr, wr = w.alloc (.cells (ints .u64 C) 60) := ⟨_, rfl⟩
      rw [← hwr]
      have HW0 : Hid (Below w.heap.size w wr) := Lib.hid (by rw [hwr]; exact (Below.refl _ _).alloc (Nat.le_refl _) _)
      clear hwr
      go_wp2_with fail
      refine (ttable_any _).mono ?_
      rintro e w1 ⟨rfl, rfl⟩
      obtain ⟨w1, hw1⟩ : ∃ w1, w1 = wr.alloc (.cells (ints .u64 (tabK 256)) 60) := ⟨_, rfl⟩
      rw [← hw1]
      have HT1 : Hid (w1.heap[wr.heap.size]? = some (.cells (ints .u64 (tabK 256)) 60)) := Lib.hid (by rw [hw1]; exact heap_alloc_new wr _)
      have HW1 : Hid (Below w.heap.size w w1) := Lib.hid (by rw [hw1]; exact HW0.out.alloc HW0.out.size _)
      clear hw1
      have hm1 := mk1
      have hm2 := mk2
      go_wp2_with fail
      refine (sum_any _ 100001 100001 (List.replicate 100001 0) _ (Owns.made _ _ 100001 (Nat.le_refl _) (by omega)).arg).mono ?_
      rintro e w2 ⟨rfl, hb2⟩
      have HT2 := Lib.hid (blk_next HT1.out hb2)
      have HW2 := Lib.hid (below_next HW1.out hb2)
      clear hb2 HT1 HW1
      rw [sum_great 100001 (by omega)]
      go_wp2_with fail
      refine (next_any 0#64 _ 100001 100001 (List.replicate 100001 0) _ (Owns.made _ _ 100001 (Nat.le_refl _) (by omega)).arg).mono ?_
      rintro e w3 ⟨rfl, hb3⟩
      have HT3 := Lib.hid (blk_next HT2.out hb3)
      have HW3 := Lib.hid (below_next HW2.out hb3)
      clear hb3 HT2 HW2
      rw [sum_great 100001 (by omega)]
      go_wp2_with fail
      refine (sum_any _ 100000 100000 (List.replicate 100000 0) _ (Owns.made _ _ 100000 (Nat.le_refl _) (by omega)).arg).mono ?_
      rintro e w4 ⟨rfl, hb4⟩
      have HT4 := Lib.hid (blk_next HT3.out hb4)
      have HW4 := Lib.hid (below_next HW3.out hb4)
      clear hb4 HT3 HW3
      rw [sum_full]
      go_wp2_with fail
      refine (next_any 5#64 none 0 0 [] _ (BArg.none_ _)).mono ?_
      rintro e w5 ⟨rfl, hb5⟩
      have HT5 : Hid (w5.heap[wr.heap.size]? = some (.cells (ints .u64 (tabK 256)) 60)) := Lib.hid ((hb5.block _ (Array.getElem?_eq_some_iff.1 HT4.out).1).trans HT4.out)
      have HW5 := Lib.hid (HW4.out.trans (hb5.mono HW4.out.size))
      clear hb5 HT4 HW4
      rw [sum_five]
      go_wp2_with fail
      refine (sum_any _ 1 1 [2] _ (BArg.lit _ [2] 1 rfl (by omega) _ _ _ rfl)).mono ?_
      rintro e w6 ⟨rfl, hb6⟩
      have HT6 := Lib.hid (blk_next HT5.out hb6)
      have HW6 := Lib.hid (below_next HW5.out hb6)
      clear hb6 HT5 HW5
      rw [sum_two]
      obtain ⟨t0, t1, t2⟩ := tab012 _ _ HT6.out
      go_wp2_with fail
      refine (calive_any _).mono ?_
      rintro e w7 ⟨rfl, hb7⟩
      go_wp2_with fail
      go_ret
      exact ⟨rfl, HW6.out.trans (hb7.mono HW6.out.size)⟩
end Go.Proofs.Ytpfbgldpnjkdkaa
