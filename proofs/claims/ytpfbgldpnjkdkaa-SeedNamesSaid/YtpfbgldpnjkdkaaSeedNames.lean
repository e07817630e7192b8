/- SeedNames: the walk. -/
import Derived.Test.YtpfbgldpnjkdkaaSeedTells
import Derived.Deep.Cut
namespace Go.Proofs.Ytpfbgldpnjkdkaa
open Go.RowKit

/-- n letters x, k of them written. -/
def lx (n k : Nat) : List UInt8 := List.replicate k 120 ++ List.replicate (n - k) 0
theorem lx_zero (n : Nat) : lx n 0 = List.replicate n 0 := by simp [lx]
theorem lx_all (n : Nat) : lx n n = List.replicate n 120 := by simp [lx]
theorem lx_length (n k : Nat) (h : k ≤ n) : (lx n k).length = n := by simp [lx]; omega
theorem lx_set (n k : Nat) (h : k < n) : (lx n k).set k 120 = lx n (k + 1) := by
  apply List.ext_getElem?
  intro i
  rw [List.getElem?_set]
  unfold lx
  by_cases hk : k = i
  · subst hk
    rw [if_pos rfl, if_pos (by simp; omega)]
    rw [List.getElem?_append_left (by simp)]
    simp
  · rw [if_neg hk]
    rcases Nat.lt_or_ge i k with h1 | h1
    · rw [List.getElem?_append_left (by simpa using h1), List.getElem?_append_left (by simp; omega)]
      simp [h1, show i < k + 1 by omega]
    · rw [List.getElem?_append_right (by simpa using h1), List.getElem?_append_right (by simp; omega)]
      simp only [List.length_replicate, List.getElem?_replicate]
      by_cases h2 : i < n
      · rw [if_pos (by omega), if_pos (by omega)]
      · rw [if_neg (by omega), if_neg (by omega)]

set_option maxHeartbeats 400000 in
theorem long_any (n : Nat) (hn : n ≤ 1000) (w : World) :
    Calls Try.prog 29 #[.int .i64 (n : Int)] w fun e w' => e = .returned (.string ⟨(List.replicate n 120).toArray⟩) ∧ Below w.heap.size w w' := by
  have hmk := run_make_bytes n (by omega)
  go_enter Try.func29, Try.ntmps29
  go_wp2
  clear hmk
  go_loopw [4] (fun i wr => ∃ k : Nat, k ≤ n ∧ i = .int .i64 k ∧ Hid (Owns wr w.heap.size (.slice (some ⟨w.heap.size, 0, none⟩) n n) (lx n k)) ∧ Hid (Below w.heap.size w wr)) (fun i _ => n - (intOf i).toNat)
  case atStart => exact ⟨0, by omega, rfl, Lib.hid (by rw [lx_zero]; exact Owns.made w _ n (Nat.le_refl _) (by omega)), Lib.hid ((Below.refl _ _).alloc (Nat.le_refl _) _)⟩
  case round =>
    obtain ⟨k, hk, rfl, HO, HB⟩ := hrel
    by_cases hlt : k < n
    · have h1 := HO.out.cellAt hlt
      have h2 := HO.out.free k
      have HS := Lib.hid (HO.out.stored k 120)
      go_wp2
      go_roundw
      case rel => exact ⟨k + 1, by omega, by go_num, Lib.hid (by rw [← lx_set n k hlt]; exact HS.out.1), Lib.hid (HB.out.grown HS.out.2 HB.out.size (fun j hj => by cases hj; exact Nat.le_refl _))⟩
      case measure => simp [intOf]; omega
    · obtain rfl : k = n := by omega
      rw [lx_all] at HO
      have ht := HO.out.arg.text
      go_wp2
      go_ret
      exact ⟨rfl, HB.out⟩

theorem row_set {w : World} {g : Nat} {cs : Array Value} {t : TypeId} (h : w.heap[g]? = some (.cells cs t)) (i : Nat) (u : Value) : (w.setCell ⟨g, i, none⟩ u).heap[g]? = some (.cells (cs.setIfInBounds i u) t) := by
  simp [World.setCell, Array.getElem?_modify, h]
theorem row_free {w : World} {g : Nat} {cs : Array Value} {t : TypeId} (h : w.heap[g]? = some (.cells cs t)) (i : Nat) : w.frozen? ⟨g, i, none⟩ = false := by
  simp [World.frozen?, h]
theorem z16_set (k : Nat) (v : Int) : (#[.int .i32 0, .int .i32 0, .int .i32 0, .int .i32 0, .int .i32 0, .int .i32 0, .int .i32 0, .int .i32 0, .int .i32 0, .int .i32 0, .int .i32 0, .int .i32 0, .int .i32 0, .int .i32 0, .int .i32 0, .int .i32 0] : Array Value).setIfInBounds k (.int .i32 v) = ints .i32 (z16.set k v) := by
  rw [← ints_zero16, ints_set]
theorem z16_len (k : Nat) (v : Int) : (z16.set k v).length = 16 := by rw [List.length_set]; rfl
theorem z16_get (k : Nat) (v : Int) (hk : k < 16) : (z16.set k v).getD k 0 = v := by
  simp [List.getD, z16, hk]
theorem bad_big (k : Nat) (hk : k < 16) : ¬ good (z16.set k 128) := fun h => by
  have := (h k hk).2.2; rw [z16_get k _ hk] at this; omega
theorem bad_small (k : Nat) (hk : k < 16) : ¬ good (z16.set k (-129)) := fun h => by
  have := (h k hk).2.1; rw [z16_get k _ hk] at this; omega
theorem bad_far (k : Nat) (hk : k < 16) (h8 : 8 ≤ k) : ¬ good (z16.set k (-1)) := fun h => by
  have := (h k hk).1 h8; rw [z16_get k _ hk] at this; omega
theorem good_near (k : Nat) (hk : k < 8) : good (z16.set k (-1)) := fun i hi => by
  have : (z16.set k (-1)).getD i 0 = if i = k then -1 else 0 := by
    simp only [List.getD, List.getElem?_set]
    by_cases h : k = i
    · subst h; simp [z16, hi]
    · rw [if_neg h, if_neg (fun e => h e.symm)]
      unfold z16
      rw [List.getElem?_replicate, if_pos hi]
      rfl
  unfold okAt
  rw [this]
  split
  · subst k; exact ⟨fun h => by omega, by omega, by omega⟩
  · exact ⟨fun _ => rfl, by omega, by omega⟩
theorem dg_near (k : Nat) (hk : k < 8) : dg (z16.set k (-1)) 8 = 255 * 2 ^ (8 * k) := by
  have : k = 0 ∨ k = 1 ∨ k = 2 ∨ k = 3 ∨ k = 4 ∨ k = 5 ∨ k = 6 ∨ k = 7 := by omega
  rcases this with h | h | h | h | h | h | h | h <;> subst h <;> decide +kernel
theorem dig_bad {l : List Int} {w w' : World} {e : Ending} (hb : ¬ good l) (h : DigPost l w e w') : e = .returned (.tuple #[.int .u64 0, .int .i64 16]) ∧ Below w.heap.size w w' := by
  rcases h with ⟨⟨hg, rfl⟩ | ⟨_, rfl⟩, h⟩
  · exact absurd hg hb
  · exact ⟨rfl, h⟩
theorem dig_good {l : List Int} {w w' : World} {e : Ending} (hg : good l) (h : DigPost l w e w') : e = .returned (.tuple #[.int .u64 (dg l 8), .int .i64 0]) ∧ Below w.heap.size w w' := by
  rcases h with ⟨⟨_, rfl⟩ | ⟨hb, rfl⟩, h⟩
  · exact ⟨rfl, h⟩
  · exact absurd hg hb
theorem info24a (a : Array Value) (h : a.size = 16) : (Try.prog.info? 24).map (·.size) = some a.size := by rw [h]; kernel_rfl

theorem taps_zero' : tapsK 0 8 = z16 := by decide +kernel
/-- The taps of the greatest number, and of the one with the highest bit alone. -/
def ones8 : List Int := [-1, -1, -1, -1, -1, -1, -1, -1, 0, 0, 0, 0, 0, 0, 0, 0]
def high8 : List Int := [0, 0, 0, 0, 0, 0, 0, -128, 0, 0, 0, 0, 0, 0, 0, 0]
theorem taps_ones : tapsK 18446744073709551615 8 = ones8 := by decide +kernel
theorem taps_high : tapsK 9223372036854775808 8 = high8 := by decide +kernel
theorem ints_ones8 : ints .i32 ones8 = #[.int .i32 (-1), .int .i32 (-1), .int .i32 (-1), .int .i32 (-1), .int .i32 (-1), .int .i32 (-1), .int .i32 (-1), .int .i32 (-1), .int .i32 0, .int .i32 0, .int .i32 0, .int .i32 0, .int .i32 0, .int .i32 0, .int .i32 0, .int .i32 0] := rfl
theorem good_zero : good z16 := fun i hi => by
  have : z16.getD i 0 = 0 := by unfold z16; rw [List.getD, List.getElem?_replicate, if_pos hi]; rfl
  unfold okAt
  rw [this]
  exact ⟨fun _ => rfl, by omega, by omega⟩
theorem dg_zero16 : dg z16 8 = 0 := by decide +kernel

set_option maxRecDepth 100000 in
set_option maxHeartbeats 2000000 in
theorem snames_calls (w : World) :
    Calls Try.prog 13 #[] w fun e w' => e = .returned (.bool true) ∧ Below w.heap.size w w' := by
  go_enter Try.func13, Try.ntmps13
  go_wp2
  go_loopw [1] (fun i wr => ∃ k : Nat, k ≤ 16 ∧ i = .int .i64 k ∧ Hid (Below w.heap.size w wr)) (fun i _ => 16 - (intOf i).toNat)
  case atStart => exact ⟨0, by omega, rfl, Lib.hid (Below.refl _ _)⟩
  case round =>
    obtain ⟨k, hk, rfl, HB⟩ := hrel
    rename_i wr
    by_cases hlt : k < 16
    · go_upto_region 5 with (fail)
      rw [← ints_zero16]
      obtain ⟨W, hW⟩ : ∃ W, W = wr.alloc (.cells (ints .i32 z16) 24) := ⟨_, rfl⟩
      rw [← hW]
      have HR : Hid (W.heap[wr.heap.size]? = some (.cells (ints .i32 z16) 24)) := Lib.hid (by rw [hW]; exact heap_alloc_new wr _)
      have HB0 : Hid (Below w.heap.size w W) := Lib.hid (by rw [hW]; exact HB.out.alloc HB.out.size _)
      have HZ : Hid (w.heap.size ≤ wr.heap.size) := Lib.hid HB.out.size
      clear hW HB
      have c0 : W.cell? ⟨wr.heap.size, k, none⟩ = some (.int .i32 0) := by
        rw [cell_of_row W _ k _ _ _ HR.out, ints_get]
        unfold z16
        rw [List.getElem?_replicate, if_pos hlt]; rfl
      have f0 := row_free HR.out k
      go_wp2_with (refine wpList_load_row rfl 24 _ rfl wr.heap.size rfl 24 _ (0, 0) _ (row_set HR.out k _) Try.underlying24 rfl (info24a _ (by rw [Array.size_setIfInBounds]; rfl)) ?_)
      rw [ints_set]
      refine (dig_any _ (z16_len k 128) _).mono ?_
      rintro e w1 h1
      obtain ⟨rfl, hb1⟩ := dig_bad (bad_big k hlt) h1
      have HR1 : Hid (w1.heap[wr.heap.size]? = some (.cells (ints .i32 (z16.set k 128)) 24)) := Lib.hid (by
        rw [← ints_set]; exact row_next (row_set HR.out k _) hb1)
      have HB1 : Hid (Below w.heap.size w w1) := Lib.hid ((HB0.out.setCell (p := ⟨wr.heap.size, k, none⟩) HZ.out _).trans (hb1.mono (Nat.le_trans HB0.out.size (by simp))))
      clear h1 hb1 c0 f0 HR HB0
      have c1 : w1.cell? ⟨wr.heap.size, k, none⟩ = some (.int .i32 128) := by
        rw [cell_of_row w1 _ k _ _ _ HR1.out, ints_get]
        have := z16_get k 128 hlt
        simp only [List.getD] at this
        rw [List.getElem?_set_self (by simpa [z16] using hlt)]; rfl
      have f1 := row_free HR1.out k
      go_wp2_with (refine wpList_load_row rfl 24 _ rfl wr.heap.size rfl 24 _ (0, 0) _ (row_set HR1.out k _) Try.underlying24 rfl (info24a _ (by rw [Array.size_setIfInBounds, ints_size, z16_len])) ?_)
      rw [ints_set, List.set_set]
      refine (dig_any _ (z16_len k (-129)) _).mono ?_
      rintro e w2 h2
      obtain ⟨rfl, hb2⟩ := dig_bad (bad_small k hlt) h2
      have HR2 : Hid (w2.heap[wr.heap.size]? = some (.cells (ints .i32 (z16.set k (-129))) 24)) := Lib.hid (by
        have := row_next (row_set HR1.out k _) hb2
        rwa [ints_set, List.set_set] at this)
      have HB2 : Hid (Below w.heap.size w w2) := Lib.hid ((HB1.out.setCell (p := ⟨wr.heap.size, k, none⟩) HZ.out _).trans (hb2.mono (Nat.le_trans HB1.out.size (by simp))))
      clear h2 hb2 c1 f1 HR1 HB1
      have c2 : w2.cell? ⟨wr.heap.size, k, none⟩ = some (.int .i32 (-129)) := by
        rw [cell_of_row w2 _ k _ _ _ HR2.out, ints_get]
        rw [List.getElem?_set_self (by simpa [z16] using hlt)]; rfl
      have f2 := row_free HR2.out k
      go_wp2_with (refine wpList_load_row rfl 24 _ rfl wr.heap.size rfl 24 _ (0, 0) _ (row_set HR2.out k _) Try.underlying24 rfl (info24a _ (by rw [Array.size_setIfInBounds, ints_size, z16_len])) ?_)
      rw [ints_set, List.set_set]
      refine (dig_any _ (z16_len k (-1)) _).mono ?_
      rintro e w3 h3
      by_cases h8 : k < 8
      · obtain ⟨rfl, hb3⟩ := dig_good (good_near k h8) h3
        have HB3 : Hid (Below w.heap.size w w3) := Lib.hid ((HB2.out.setCell (p := ⟨wr.heap.size, k, none⟩) HZ.out _).trans (hb3.mono (Nat.le_trans HB2.out.size (by simp))))
        have g1 : decide ((k : Int) < 8) = true := by simp; omega
        have g2 : (((dg (z16.set k (-1)) 8 : Nat) : Int) != IntKind.u64.wrap (255 * 2 ^ (8 * k))) = false := by
          have hp := pow8_le k (by omega)
          rw [dg_near k h8, IntKind.wrap_u64]
          have : ((255 * 2 ^ (8 * k) : Nat) : Int) = 255 * 2 ^ (8 * k) := by simp
          rw [← this]
          simp only [bne_eq_false_iff_eq]
          omega
        clear h3 hb3 c2 f2 HR2 HB2
        generalize (dg (z16.set k (-1)) 8) = D at *
        go_wp2_with fail
        go_roundw
        case rel => exact ⟨k + 1, by omega, by go_num, HB3⟩
        case measure => simp [intOf]; omega
      · obtain ⟨rfl, hb3⟩ := dig_bad (bad_far k hlt (by omega)) h3
        have HB3 : Hid (Below w.heap.size w w3) := Lib.hid ((HB2.out.setCell (p := ⟨wr.heap.size, k, none⟩) HZ.out _).trans (hb3.mono (Nat.le_trans HB2.out.size (by simp))))
        have g1 : decide ((k : Int) < 8) = false := by simp; omega
        clear h3 hb3 c2 f2 HR2 HB2
        go_wp2_with fail
        go_roundw
        case rel => exact ⟨k + 1, by omega, by go_num, HB3⟩
        case measure => simp [intOf]; omega
    · obtain rfl : k = 16 := by omega
      have HT65 := Lib.hid (show tapsP ⟨(List.replicate 65 120).toArray⟩ = .tuple #[.agg (ints .i32 z16), .int .i64 2] by unfold tapsP; rw [if_neg (by decide)])
      obtain ⟨T4, hT4⟩ : ∃ T, T = tapsK (Crc.run 0#64 (bn (sb ⟨(List.replicate 64 120).toArray⟩))).toNat 8 := ⟨_, rfl⟩
      have HL4 : Hid (T4.length = 16) := Lib.hid (by rw [hT4]; exact tapsK_length _ _)
      have HT64 : Hid (tapsP ⟨(List.replicate 64 120).toArray⟩ = .tuple #[.agg (ints .i32 T4), .int .i64 0]) := Lib.hid (by unfold tapsP; rw [if_pos (by decide), hT4])
      have HT0 := Lib.hid (show tapsP ⟨#[]⟩ = .tuple #[.agg (ints .i32 z16), .int .i64 0] by
        unfold tapsP
        rw [if_pos (by decide)]
        have : tapsK (Crc.run 0#64 (bn (sb ⟨#[]⟩))).toNat 8 = z16 := taps_zero'
        rw [this])
      clear hT4
      go_wp2_with fail
      refine (long_any 65 (by omega) _).mono ?_
      rintro e w1 ⟨rfl, hb1⟩
      have HB1 := Lib.hid (HB.out.trans (hb1.mono HB.out.size))
      clear hb1 HB
      go_wp2_with fail
      refine (taps_any ⟨(List.replicate 65 120).toArray⟩ (by decide) _).mono ?_
      rintro e w2 ⟨rfl, hb2⟩
      have HB2 := Lib.hid (HB1.out.trans (hb2.mono HB1.out.size))
      clear hb2 HB1
      rw [HT65.out]
      go_wp2_with (refine wpList_store_new rfl 24 _ _ rfl _ rfl rfl 24 _ (info24 _ rfl) (by rw [ints_size]; rfl) (ints_one _ _) ?_)
      obtain ⟨w3, hw3⟩ : ∃ w3, w3 = w2.alloc (.cells (ints .i32 z16) 24) := ⟨_, rfl⟩
      rw [← hw3]
      have HB3 : Hid (Below w.heap.size w w3) := Lib.hid (by rw [hw3]; exact HB2.out.alloc HB2.out.size _)
      clear hw3 HB2
      refine (long_any 64 (by omega) _).mono ?_
      rintro e w4 ⟨rfl, hb4⟩
      have HB4 := Lib.hid (HB3.out.trans (hb4.mono HB3.out.size))
      clear hb4 HB3
      go_wp2_with fail
      refine (taps_any ⟨(List.replicate 64 120).toArray⟩ (by decide) _).mono ?_
      rintro e w5 ⟨rfl, hb5⟩
      have HB5 := Lib.hid (HB4.out.trans (hb5.mono HB4.out.size))
      clear hb5 HB4
      rw [HT64.out]
      go_wp2_with (refine wpList_store_new rfl 24 _ _ rfl _ rfl rfl 24 _ (info24 _ HL4.out) (by rw [ints_size, HL4.out]; rfl) (ints_one _ _) ?_)
      obtain ⟨w6, hw6⟩ : ∃ w6, w6 = w5.alloc (.cells (ints .i32 T4) 24) := ⟨_, rfl⟩
      rw [← hw6]
      have HB6 : Hid (Below w.heap.size w w6) := Lib.hid (by rw [hw6]; exact HB5.out.alloc HB5.out.size _)
      clear hw6 HB5
      refine (taps_any ⟨#[]⟩ (by decide) _).mono ?_
      rintro e w7 ⟨rfl, hb7⟩
      have HB7 := Lib.hid (HB6.out.trans (hb7.mono HB6.out.size))
      clear hb7 HB6
      rw [HT0.out]
      go_wp2_with (refine wpList_store_new rfl 24 _ _ rfl _ rfl rfl 24 _ (info24 _ rfl) (by rw [ints_size]; rfl) (ints_one _ _) ?_)
      obtain ⟨w8, hw8⟩ : ∃ w8, w8 = w7.alloc (.cells (ints .i32 z16) 24) := ⟨_, rfl⟩
      rw [← hw8]
      have HB8 : Hid (Below w.heap.size w w8) := Lib.hid (by rw [hw8]; exact HB7.out.alloc HB7.out.size _)
      have HN8 : Hid (w8.heap[w7.heap.size]? = some (.cells (ints .i32 z16) 24)) := Lib.hid (by rw [hw8]; exact heap_alloc_new w7 _)
      clear hw8 HB7
      refine (of_any 18446744073709551615 (by omega) _).mono ?_
      rintro e w9 ⟨rfl, hb9⟩
      have HB9 := Lib.hid (HB8.out.trans (hb9.mono HB8.out.size))
      have HN9 := Lib.hid (row_next HN8.out hb9)
      clear hb9 HB8 HN8
      rw [taps_ones]
      go_wp2_with (refine wpList_store_new rfl 24 _ _ rfl _ rfl rfl 24 _ (info24 _ rfl) (by rw [ints_size]; rfl) (ints_one _ _) ?_)
      obtain ⟨wa, hwa⟩ : ∃ wa, wa = w9.alloc (.cells (ints .i32 ones8) 24) := ⟨_, rfl⟩
      rw [← hwa]
      have HBa : Hid (Below w.heap.size w wa) := Lib.hid (by rw [hwa]; exact HB9.out.alloc HB9.out.size _)
      have HNa : Hid (wa.heap[w7.heap.size]? = some (.cells (ints .i32 z16) 24)) := Lib.hid (by rw [hwa]; exact row_alloc HN9.out _)
      have HOa : Hid (wa.heap[w9.heap.size]? = some (.cells (ints .i32 ones8) 24)) := Lib.hid (by rw [hwa]; exact heap_alloc_new w9 _)
      clear hwa HB9 HN9
      refine (of_any 9223372036854775808 (by omega) _).mono ?_
      rintro e wb ⟨rfl, hbb⟩
      have HBb := Lib.hid (HBa.out.trans (hbb.mono HBa.out.size))
      have HNb := Lib.hid (row_next HNa.out hbb)
      have HOb := Lib.hid (row_next HOa.out hbb)
      clear hbb HBa HNa HOa
      rw [taps_high]
      go_wp2_with (refine wpList_store_new rfl 24 _ _ rfl _ rfl rfl 24 _ (info24 _ rfl) (by rw [ints_size]; rfl) (ints_one _ _) ?_)
      obtain ⟨wc, hwc⟩ : ∃ wc, wc = wb.alloc (.cells (ints .i32 high8) 24) := ⟨_, rfl⟩
      rw [← hwc, ← ints_zero16]
      have HBc : Hid (Below w.heap.size w wc) := Lib.hid (by rw [hwc]; exact HBb.out.alloc HBb.out.size _)
      have HNc : Hid (wc.heap[w7.heap.size]? = some (.cells (ints .i32 z16) 24)) := Lib.hid (by rw [hwc]; exact row_alloc HNb.out _)
      have HOc : Hid (wc.heap[w9.heap.size]? = some (.cells (ints .i32 ones8) 24)) := Lib.hid (by rw [hwc]; exact row_alloc HOb.out _)
      have HHc : Hid (wc.heap[wb.heap.size]? = some (.cells (ints .i32 high8) 24)) := Lib.hid (by rw [hwc]; exact heap_alloc_new wb _)
      clear hwc HBb HNb HOb
      refine (dig_any z16 rfl _).mono ?_
      rintro e wd hd
      obtain ⟨rfl, hbd⟩ := dig_good good_zero hd
      have HBd := Lib.hid (HBc.out.trans (hbd.mono HBc.out.size))
      have HNd := Lib.hid (row_next HNc.out hbd)
      have HOd := Lib.hid (row_next HOc.out hbd)
      have HHd := Lib.hid (row_next HHc.out hbd)
      clear hd hbd HBc HNc HOc HHc
      rw [dg_zero16]
      go_wp2_with fail
      refine (alive_any _).mono ?_
      rintro e we ⟨rfl, hbe⟩
      have HBe := Lib.hid (HBd.out.trans (hbe.mono HBd.out.size))
      have HNe := Lib.hid (row_next HNd.out hbe)
      have HOe := Lib.hid (row_next HOd.out hbe)
      have HHe := row_next HHd.out hbe
      have t7 : we.cell? ⟨wb.heap.size, 7, none⟩ = some (.int .i32 (-128)) := by rw [cell_of_row we _ 7 _ _ _ HHe]; rfl
      have t6 : we.cell? ⟨wb.heap.size, 6, none⟩ = some (.int .i32 0) := by rw [cell_of_row we _ 6 _ _ _ HHe]; rfl
      clear hbe HBd HNd HOd HHd HHe
      have hq0 : ∀ W, (Op.equalIn 10000 24 (.agg (ints .i32 z16)) (.agg #[.int .i32 0, .int .i32 0, .int .i32 0, .int .i32 0, .int .i32 0, .int .i32 0, .int .i32 0, .int .i32 0, .int .i32 0, .int .i32 0, .int .i32 0, .int .i32 0, .int .i32 0, .int .i32 0, .int .i32 0, .int .i32 0])).run Try.prog W = .ok true W := fun W => by
        have h := eq16 z16 z16 rfl rfl W
        have e : ints .i32 z16 = _ := ints_zero16
        rw [← e]; simpa using h
      have hq1 : ∀ W, (Op.equalIn 10000 24 (.agg (ints .i32 ones8)) (.agg #[.int .i32 (-1), .int .i32 (-1), .int .i32 (-1), .int .i32 (-1), .int .i32 (-1), .int .i32 (-1), .int .i32 (-1), .int .i32 (-1), .int .i32 0, .int .i32 0, .int .i32 0, .int .i32 0, .int .i32 0, .int .i32 0, .int .i32 0, .int .i32 0])).run Try.prog W = .ok true W := fun W => by
        have h := eq16 ones8 ones8 rfl rfl W
        have e : ints .i32 ones8 = _ := ints_ones8
        rw [← e]; simpa using h
      go_wp2_with (first
        | (refine wpList_load_row_g (by rfl) 24 (.tmp 13) rfl w7.heap.size rfl 24 (ints .i32 z16) (0, 0) _ HNe.out Try.underlying24 rfl (info24 _ rfl) ?_)
        | (refine wpList_load_row_g (by rfl) 24 (.tmp 15) rfl w9.heap.size rfl 24 (ints .i32 ones8) (0, 0) _ HOe.out Try.underlying24 rfl (info24 _ rfl) ?_))
      go_ret
      exact ⟨rfl, HBe.out⟩
end Go.Proofs.Ytpfbgldpnjkdkaa
