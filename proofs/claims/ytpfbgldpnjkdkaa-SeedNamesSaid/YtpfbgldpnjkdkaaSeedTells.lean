/- SeedTells: the walk. -/
import Derived.Test.YtpfbgldpnjkdkaaSeedTaps
namespace Go.Proofs.Ytpfbgldpnjkdkaa
open Go.RowKit

/-- What Digest answers, as a value. -/
theorem digPost_form {l : List Int} {w : World} {e : Ending} {w' : World} (h : DigPost l w e w') :
    ∃ d n, e = .returned (.tuple #[.int .u64 d, .int .i64 n]) ∧ (∀ {w2 e2 w2'}, DigPost l w2 e2 w2' → e2 = .returned (.tuple #[.int .u64 d, .int .i64 n])) ∧ Below w.heap.size w w' := by
  rcases h with ⟨⟨hg, rfl⟩ | ⟨hg, rfl⟩, hb⟩
  · refine ⟨_, _, rfl, fun {w2 e2 w2'} h2 => ?_, hb⟩
    rcases h2 with ⟨⟨hg2, rfl⟩ | ⟨hg2, rfl⟩, _⟩
    · rfl
    · exact absurd hg hg2
  · refine ⟨_, _, rfl, fun {w2 e2 w2'} h2 => ?_, hb⟩
    rcases h2 with ⟨⟨hg2, rfl⟩ | ⟨hg2, rfl⟩, _⟩
    · exact absurd hg2 hg
    · rfl
theorem tapsP_form (s : ByteArray) : ∃ t n, tapsP s = .tuple #[.agg (ints .i32 t), .int .i64 n] ∧ t.length = 16 := by
  unfold tapsP
  split
  · exact ⟨_, _, rfl, tapsK_length _ _⟩
  · exact ⟨_, _, rfl, rfl⟩
theorem row_next {w w' : World} {g : Nat} {X : Obj} (h : w.heap[g]? = some X) (hb : Below w.heap.size w w') : w'.heap[g]? = some X :=
  (hb.block _ (Array.getElem?_eq_some_iff.1 h).1).trans h
theorem row_alloc {w : World} {g : Nat} {X : Obj} (h : w.heap[g]? = some X) (o : Obj) : (w.alloc o).heap[g]? = some X :=
  (Below.heap_alloc w o g (Array.getElem?_eq_some_iff.1 h).1).trans h

set_option maxHeartbeats 1000000 in
theorem tells_main (n : Nat) (hn : n < 18446744073709551616) (l : List Int) (hl : l.length = 16) (s : ByteArray) (hs : s.size ≤ 100) (w : World) :
    Calls Try.prog 12 #[.int .u64 n, .agg (ints .i32 l), .string s] w fun e w' => e = .returned (.bool true) ∧ Below w.heap.size w w' := by
  have HL := Lib.hid hl
  have HN := Lib.hid hn
  clear hl hn
  obtain ⟨T, tn, hT, hTl⟩ := tapsP_form s
  have HT := Lib.hid hT
  have HTL := Lib.hid hTl
  have hq1 : ∀ W, (Op.equalIn 10000 24 (.agg (ints .i32 T)) (.agg (ints .i32 T))).run Try.prog W = .ok true W := fun W => by
    have := eq16 T T HTL.out HTL.out W; simpa using this
  have hq2 : ∀ W, (Op.equalIn 10000 24 (.agg (ints .i32 (tapsK n 8))) (.agg (ints .i32 (tapsK n 8)))).run Try.prog W = .ok true W := fun W => by
    have := eq16 (tapsK n 8) (tapsK n 8) (tapsK_length _ _) (tapsK_length _ _) W; simpa using this
  have HQ1 := Lib.hid hq1
  have HQ2 := Lib.hid hq2
  clear hT hTl hq1 hq2
  go_enter Try.func12, Try.ntmps12
  go_wp2_with (refine wpList_load_row rfl 24 _ rfl w.heap.size rfl 24 (ints .i32 l) (0, 0) _ (heap_alloc_new w _) Try.underlying24 rfl (info24 _ HL.out) ?_)
  refine (dig_any l HL.out _).mono ?_
  rintro e w1 h1
  obtain ⟨d, dn, rfl, hd2, hb1⟩ := digPost_form h1
  have HD : Hid (∀ {w2 : World} {e2 : Ending} {w2' : World}, DigPost l w2 e2 w2' → e2 = .returned (.tuple #[.int .u64 d, .int .i64 dn])) := @hd2
  have HR1 := Lib.hid (row_next (heap_alloc_new w _) hb1)
  have HB1 := Lib.hid (((Below.refl _ _).alloc (Nat.le_refl w.heap.size) _).trans (hb1.mono (by simp)))
  clear h1 hd2 hb1
  go_wp2_with (refine wpList_load_row rfl 24 _ rfl w.heap.size rfl 24 (ints .i32 l) (0, 0) _ HR1.out Try.underlying24 rfl (info24 _ HL.out) ?_)
  refine (rdig_any l HL.out _).mono ?_
  rintro e w2 h2
  have he2 := HD.out h2
  subst he2
  have HB2 := Lib.hid (HB1.out.trans (h2.2.mono HB1.out.size))
  clear h2 HD HR1 HB1
  go_wp2_with fail
  refine (taps_any s (by omega) _).mono ?_
  rintro e w3 ⟨rfl, hb3⟩
  have HB3 := Lib.hid (HB2.out.trans (hb3.mono HB2.out.size))
  clear hb3 HB2
  rw [HT.out]
  go_wp2_with (refine wpList_store_new rfl 24 _ _ rfl _ rfl rfl 24 _ (info24 _ HTL.out) (by rw [ints_size, HTL.out]; rfl) (ints_one _ _) ?_)
  refine (rtaps_any s (by omega) _).mono ?_
  rintro e w4 ⟨rfl, hb4⟩
  have HR4 := Lib.hid (row_next (heap_alloc_new w3 _) hb4)
  have HB4 := Lib.hid ((HB3.out.alloc HB3.out.size _).trans (hb4.mono (Nat.le_trans HB3.out.size (by simp))))
  clear hb4 HB3
  rw [HT.out]
  go_wp2_with (refine wpList_store_new rfl 24 _ _ rfl _ rfl rfl 24 _ (info24 _ HTL.out) (by rw [ints_size, HTL.out]; rfl) (ints_one _ _) ?_)
  refine (of_any n HN.out _).mono ?_
  rintro e w5 ⟨rfl, hb5⟩
  have HR5 := Lib.hid (row_next (row_alloc HR4.out _) hb5)
  have HS5 := Lib.hid (row_next (heap_alloc_new w4 _) hb5)
  have HB5 := Lib.hid ((HB4.out.alloc HB4.out.size _).trans (hb5.mono (Nat.le_trans HB4.out.size (by simp))))
  clear hb5 HB4 HR4
  go_wp2_with fail
  refine (rof_any n HN.out _).mono ?_
  rintro e w6 ⟨rfl, hb6⟩
  have HR6 := Lib.hid (row_next HR5.out hb6)
  have HS6 := Lib.hid (row_next HS5.out hb6)
  have HB6 := Lib.hid (HB5.out.trans (hb6.mono HB5.out.size))
  clear hb6 HB5 HR5 HS5
  have hq1 := HQ1.out
  have hq2 := HQ2.out
  have g1 : (d == d) = true := by simp
  have g2 : (dn == dn) = true := by simp
  have g3 : (tn == tn) = true := by simp
  go_wp2_with (first
    | (refine wpList_load_row_g (by rfl) 24 (.tmp 11) rfl w3.heap.size rfl 24 (ints .i32 T) (0, 0) _ HR6.out Try.underlying24 rfl (info24 _ HTL.out) ?_)
    | (refine wpList_load_row_g (by rfl) 24 (.tmp 13) rfl w4.heap.size rfl 24 (ints .i32 T) (0, 0) _ HS6.out Try.underlying24 rfl (info24 _ HTL.out) ?_))
  go_ret
  exact ⟨rfl, HB6.out⟩

set_option maxHeartbeats 400000 in
theorem tells_calls (a : Int) (ha : (Lit.int .u64 a).wf = true) (l : List Int) (hl : l.length = 16) (_hw : ∀ x ∈ l, (Lit.int .i32 x).wf = true) (s : ByteArray) (_hs : s.size ≤ maxLen) (w : World) :
    Calls Try.prog 12 #[.int .u64 a, .agg (ints .i32 l), .string s] w fun e w' => e = .returned (.bool true) ∧ Below w.heap.size w w' := by
  obtain ⟨n, rfl, hn⟩ := u64w ha
  by_cases h : s.size ≤ 100
  · exact tells_main n hn l hl s h w
  · clear ha hl hn _hw
    go_enter Try.func12, Try.ntmps12
    go_wp2_with fail
    go_ret
    exact ⟨rfl, (Below.refl _ _).alloc (Nat.le_refl _) _⟩
end Go.Proofs.Ytpfbgldpnjkdkaa
