/- SeedPasswords: the walk. -/
import Derived.Test.YtpfbgldpnjkdkaaSeedTells
import Derived.Test.YtpfbgldpnjkdkaaCrcBurstM
namespace Go.Proofs.Ytpfbgldpnjkdkaa
open Go.RowKit

theorem xor_xor (a b : Nat) (ha : a ≤ 1) (hb : b ≤ 1) : a = b ^^^ (a ^^^ b) := by
  have : a = 0 ∨ a = 1 := by omega
  have : b = 0 ∨ b = 1 := by omega
  rcases ‹a = 0 ∨ a = 1› with rfl | rfl <;> rcases ‹b = 0 ∨ b = 1› with rfl | rfl <;> decide
theorem bit_le (l : List Nat) (j : Nat) : Crc.bit l j ≤ 1 := by unfold Crc.bit; omega
theorem xor_le (a b : Nat) (ha : a ≤ 1) (hb : b ≤ 1) : a ^^^ b ≤ 1 := by
  have : a = 0 ∨ a = 1 := by omega
  have : b = 0 ∨ b = 1 := by omega
  rcases ‹a = 0 ∨ a = 1› with rfl | rfl <;> rcases ‹b = 0 ∨ b = 1› with rfl | rfl <;> decide
/-- Bytes whose bits are the same are the same. -/
theorem bits_eq (a b : List UInt8) (h : a.length = b.length) (hb : ∀ j, j < 8 * a.length → Crc.bit (bn a) j = Crc.bit (bn b) j) : a = b := by
  apply List.ext_getElem?
  intro i
  rcases Nat.lt_or_ge i a.length with hi | hi
  · have e1 : a[i]? = some (a.getD i 0) := by simp [List.getD, List.getElem?_eq_getElem hi]
    have e2 : b[i]? = some (b.getD i 0) := by simp [List.getD, List.getElem?_eq_getElem (show i < b.length by omega)]
    rw [e1, e2]
    congr 1
    apply UInt8.toNat_inj.1
    apply Nat.eq_of_testBit_eq
    intro k
    by_cases hk : k < 8
    · have := hb (8 * i + (7 - k)) (by omega)
      rw [bit_test, bit_test, bn_getD, bn_getD] at this
      have q1 : (8 * i + (7 - k)) / 8 = i := by omega
      have q2 : 7 - (8 * i + (7 - k)) % 8 = k := by omega
      rw [q1, q2] at this
      generalize (a.getD i 0).toNat.testBit k = u at this ⊢
      generalize (b.getD i 0).toNat.testBit k = v at this ⊢
      cases u <;> cases v <;> first | rfl | exact absurd this (by decide)
    · rw [Nat.testBit_lt_two_pow, Nat.testBit_lt_two_pow]
      · exact Nat.lt_of_lt_of_le (b.getD i 0).toNat_lt (Nat.pow_le_pow_right (n := 2) (by decide) (show 8 ≤ k by omega))
      · exact Nat.lt_of_lt_of_le (a.getD i 0).toNat_lt (Nat.pow_le_pow_right (n := 2) (by decide) (show 8 ≤ k by omega))
  · rw [List.getElem?_eq_none hi, List.getElem?_eq_none (by omega)]
/-- Two strings of at most 8 bytes, of the same number, with the same sum are the same. -/
theorem short_inj (a b : List UInt8) (h : a.length = b.length) (h8 : a.length ≤ 8) (hs : Crc.run 0#64 (bn a) = Crc.run 0#64 (bn b)) : a = b := by
  have hb := Crc.burst (bn a) (bn b) (by simp [bn, h]) (bn_lt _) (bn_lt _) 0 (8 * a.length) (fun i => Crc.bit (bn a) i ^^^ Crc.bit (bn b) i) (fun i => xor_le _ _ (bit_le _ _) (bit_le _ _)) (by omega) (by simp [bn])
    (fun j hj => absurd hj (by omega))
    (fun i hi => by rw [Nat.zero_add]; exact xor_xor _ _ (bit_le _ _) (bit_le _ _))
    (fun j h1 h2 => absurd h2 (by simp [bn]; omega))
  have hz := hb.1 hs
  refine bits_eq a b h fun j hj => ?_
  have hx := hz j hj
  have h1 := bit_le (bn a) j
  have h2 := bit_le (bn b) j
  have := xor_xor (Crc.bit (bn a) j) (Crc.bit (bn b) j) h1 h2
  rw [hx, Nat.xor_zero] at this
  exact this

theorem taps_zero : tapsK 0 8 = z16 := by decide +kernel

set_option maxHeartbeats 2000000 in
theorem pass_main (s t : ByteArray) (hs : s.size ≤ 64) (ht : t.size ≤ 64) (w : World) :
    Calls Try.prog 14 #[.string s, .string t] w fun e w' => e = .returned (.bool true) ∧ Below w.heap.size w w' := by
  have hT1 : tapsP s = .tuple #[.agg (ints .i32 (tapsK (Crc.run 0#64 (bn (sb s))).toNat 8)), .int .i64 0] := by unfold tapsP; rw [if_pos hs]
  have hT2 : tapsP t = .tuple #[.agg (ints .i32 (tapsK (Crc.run 0#64 (bn (sb t))).toNat 8)), .int .i64 0] := by unfold tapsP; rw [if_pos ht]
  have p1 := nextP_ok 0#64 (sb s) (by rw [sb_size]; omega)
  have p2 := nextP_ok 0#64 (sb t) (by rw [sb_size]; omega)
  have hinj : s.size = t.size → s.size ≤ 8 → ¬ sb s = sb t → ¬ Crc.run 0#64 (bn (sb s)) = Crc.run 0#64 (bn (sb t)) := fun h1 h2 h3 h4 => h3 (short_inj _ _ (by rw [sb_size, sb_size, h1]) (by rw [sb_size]; exact h2) h4)
  have hz : s.size = 0 → Crc.run 0#64 (bn (sb s)) = 0#64 := fun h => by
    have : sb s = [] := List.eq_nil_of_length_eq_zero (by rw [sb_size]; exact h)
    rw [this]; rfl
  have HE1 : Hid (s = t → Crc.run 0#64 (bn (sb s)) = Crc.run 0#64 (bn (sb t))) := Lib.hid (fun h => by rw [h])
  generalize Crc.run 0#64 (bn (sb s)) = X at *
  generalize Crc.run 0#64 (bn (sb t)) = Y at *
  have HX := Lib.hid X.isLt
  have HY := Lib.hid Y.isLt
  have HI := Lib.hid (taps_inj X.toNat Y.toNat X.isLt Y.isLt)
  have HT1 := Lib.hid hT1
  have HT2 := Lib.hid hT2
  have P1 := Lib.hid p1
  have P2 := Lib.hid p2
  have HN := Lib.hid hinj
  have HZ := Lib.hid hz
  have hcv1 := run_text_bytes s
  have hcv2 := run_text_bytes t
  clear hT1 hT2 p1 p2 hinj hz
  have g1 : decide ((64 : Int) < (s.size : Int)) = false := by simp; omega
  have g2 : decide ((64 : Int) < (t.size : Int)) = false := by simp; omega
  go_enter Try.func14, Try.ntmps14
  go_wp2_with fail
  refine (alive_any _).mono ?_
  rintro e w1 ⟨rfl, hb1⟩
  have HB1 := Lib.hid hb1
  clear hb1
  go_wp2_with fail
  refine (taps_any s (by omega) _).mono ?_
  rintro e w2 ⟨rfl, hb2⟩
  have HB2 := Lib.hid (HB1.out.trans (hb2.mono HB1.out.size))
  clear hb2 HB1
  rw [HT1.out]
  go_wp2_with (refine wpList_store_new rfl 24 _ _ rfl _ rfl rfl 24 _ (info24 _ (tapsK_length _ _)) (by rw [ints_size, tapsK_length]; rfl) (ints_one _ _) ?_)
  refine (taps_any t (by omega) _).mono ?_
  rintro e w3 ⟨rfl, hb3⟩
  have HR3 := Lib.hid (row_next (heap_alloc_new w2 _) hb3)
  have HB3 := Lib.hid ((HB2.out.alloc HB2.out.size _).trans (hb3.mono (Nat.le_trans HB2.out.size (by simp))))
  clear hb3 HB2
  rw [HT2.out]
  go_wp2_with (refine wpList_store_new rfl 24 _ _ rfl _ rfl rfl 24 _ (info24 _ (tapsK_length _ _)) (by rw [ints_size, tapsK_length]; rfl) (ints_one _ _) ?_)
  obtain ⟨w4, hw4⟩ : ∃ w4, w4 = w3.alloc (.cells (ints .i32 (tapsK Y.toNat 8)) 24) := ⟨_, rfl⟩
  have HR4 : Hid (w4.heap[w2.heap.size]? = some (.cells (ints .i32 (tapsK X.toNat 8)) 24)) := Lib.hid (by rw [hw4]; exact row_alloc HR3.out _)
  have HS4 : Hid (w4.heap[w3.heap.size]? = some (.cells (ints .i32 (tapsK Y.toNat 8)) 24)) := Lib.hid (by rw [hw4]; exact heap_alloc_new w3 _)
  have HB4 : Hid (Below w.heap.size w w4) := Lib.hid (by rw [hw4]; exact HB3.out.alloc HB3.out.size _)
  have HZ4 : Hid (w3.heap.size + 1 = w4.heap.size) := Lib.hid (by rw [hw4]; simp)
  rw [← hw4, HZ4.out]
  clear hw4 HB3 HR3
  refine (sum_any _ s.size _ (sb s) _ (BArg.of_text _ s _ (by simp) (by omega))).mono ?_
  rintro e w5 ⟨rfl, hb5⟩
  have hbw := below_tworld w4 s
  have hb5' := hbw.trans (hb5.mono hbw.size)
  have HR5 := Lib.hid (row_next HR4.out hb5')
  have HS5 := Lib.hid (row_next HS4.out hb5')
  have HB5 := Lib.hid (HB4.out.trans (hb5'.mono HB4.out.size))
  clear hb5 hbw hb5' HR4 HS4 HB4 HZ4
  rw [P1.out]
  go_wp2_with fail
  refine (sum_any _ t.size _ (sb t) _ (BArg.of_text _ t _ (by simp) (by omega))).mono ?_
  rintro e w6 ⟨rfl, hb6⟩
  have hbw := below_tworld w5 t
  have hb6' := hbw.trans (hb6.mono hbw.size)
  have HR6 := Lib.hid (row_next HR5.out hb6')
  have HS6 := Lib.hid (row_next HS5.out hb6')
  have HB6 := Lib.hid (HB5.out.trans (hb6'.mono HB5.out.size))
  clear hb6 hbw hb6' HR5 HS5 HB5
  rw [P2.out]
  go_wp2_with (refine wpList_load_row rfl 24 _ rfl w2.heap.size rfl 24 (ints .i32 (tapsK X.toNat 8)) (0, 0) _ HR6.out Try.underlying24 rfl (info24 _ (tapsK_length _ _)) ?_)
  refine (dig_any _ (tapsK_length X.toNat 8) _).mono ?_
  rintro e w7 ⟨⟨_, rfl⟩ | h, hb7⟩
  · have HR7 := Lib.hid (row_next HR6.out hb7)
    have HS7 := Lib.hid (row_next HS6.out hb7)
    have HB7 := Lib.hid (HB6.out.trans (hb7.mono HB6.out.size))
    clear hb7 HR6 HS6 HB6
    rw [dg_of X.toNat HX.out]
    have hq := fun W => eq16 (tapsK X.toNat 8) (tapsK Y.toNat 8) (tapsK_length _ _) (tapsK_length _ _) W
    rw [HI.out] at hq
    have g3 : ((X.toNat : Int) != (X.toNat : Int)) = false := by simp
    have g4 : ((X.toNat : Int) == (Y.toNat : Int)) = (X.toNat == Y.toNat) := by rw [Bool.eq_iff_iff]; simp; omega
    have hB : (X.toNat == Y.toNat) = true ∨ (X.toNat == Y.toNat) = false := by cases (X.toNat == Y.toNat) <;> simp
    have hcase : (((s.size : Int) != (t.size : Int)) = true) ∨ (((s.size : Int) != (t.size : Int)) = false ∧ decide ((8 : Int) < (s.size : Int)) = true) ∨ (((s.size : Int) != (t.size : Int)) = false ∧ decide ((8 : Int) < (s.size : Int)) = false ∧ (s.toList == t.toList) = true) ∨ (((s.size : Int) != (t.size : Int)) = false ∧ decide ((8 : Int) < (s.size : Int)) = false ∧ (s.toList == t.toList) = false ∧ (X.toNat == Y.toNat) = false) := by
      by_cases c1 : s.size = t.size
      · have f1 : ((s.size : Int) != (t.size : Int)) = false := by simp; omega
        by_cases c2 : s.size ≤ 8
        · have f2 : decide ((8 : Int) < (s.size : Int)) = false := by simp; omega
          by_cases c3 : sb s = sb t
          · exact .inr (.inr (.inl ⟨f1, f2, by rw [Lib.toList_data, Lib.toList_data]; simpa [sb] using c3⟩))
          · refine .inr (.inr (.inr ⟨f1, f2, by rw [Lib.toList_data, Lib.toList_data]; simpa [sb] using c3, ?_⟩))
            rw [beq_eq_false_iff_ne]
            intro h
            exact HN.out c1 c2 c3 (BitVec.eq_of_toNat_eq h)
        · exact .inr (.inl ⟨f1, by simp; omega⟩)
      · exact .inl (by simp; omega)
    have hemp : (s.toList.isEmpty = true ∧ ∀ W, (Op.equalIn 10000 24 (.agg (ints .i32 (tapsK X.toNat 8))) (.agg #[.int .i32 0, .int .i32 0, .int .i32 0, .int .i32 0, .int .i32 0, .int .i32 0, .int .i32 0, .int .i32 0, .int .i32 0, .int .i32 0, .int .i32 0, .int .i32 0, .int .i32 0, .int .i32 0, .int .i32 0, .int .i32 0])).run Try.prog W = .ok true W) ∨ (s.toList.isEmpty = false) := by
      by_cases h0 : s.size = 0
      · refine .inl ⟨?_, fun W => ?_⟩
        · have : sb s = [] := List.eq_nil_of_length_eq_zero (by rw [sb_size]; exact h0)
          rw [Lib.toList_data]
          unfold sb at this
          rw [this]; rfl
        · have hx := HZ.out h0
          rw [hx]
          have h := eq16 z16 z16 rfl rfl W
          rw [ints_zero16] at h
          have e : tapsK (0#64 : BitVec 64).toNat 8 = z16 := taps_zero
          rw [e, ints_zero16]
          simpa using h
      · refine .inr ?_
        rw [Lib.toList_data]
        cases hd : s.data.toList with
        | nil => exact absurd (by rw [← sb_size]; unfold sb; rw [hd]; rfl) h0
        | cons => rfl
    clear hcv1 hcv2 HN HZ HE1
    rcases hemp with ⟨em, hq0⟩ | em <;> rcases hcase with f1 | ⟨f1, f2⟩ | ⟨f1, f2, f3⟩ | ⟨f1, f2, f3, f4⟩
    all_goals first | rw [f4] at hq g4 | skip
    all_goals generalize (X.toNat == Y.toNat) = B at hq g4
    all_goals have g5 : (B != B) = false := by simp
    all_goals clear hB
    all_goals go_wp2_with (first
      | (refine wpList_load_row_g (by rfl) 24 (.tmp 6) rfl w2.heap.size rfl 24 (ints .i32 (tapsK X.toNat 8)) (0, 0) _ HR7.out Try.underlying24 rfl (info24 _ (tapsK_length _ _)) ?_)
      | (refine wpList_load_row_g (by rfl) 24 (.tmp 8) rfl w3.heap.size rfl 24 (ints .i32 (tapsK Y.toNat 8)) (0, 0) _ HS7.out Try.underlying24 rfl (info24 _ (tapsK_length _ _)) ?_))
    all_goals go_ret
    all_goals exact ⟨rfl, HB7.out⟩
  · exact absurd (good_taps _) h.1
end Go.Proofs.Ytpfbgldpnjkdkaa
