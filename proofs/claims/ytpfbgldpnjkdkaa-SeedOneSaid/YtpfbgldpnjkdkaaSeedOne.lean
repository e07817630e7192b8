/- SeedOne: the walk. -/
import Derived.Test.YtpfbgldpnjkdkaaSeedOneM
import Derived.Deep.RegionHeld3
namespace Go.Proofs.Ytpfbgldpnjkdkaa
open Go.RowKit

theorem range_below {w w' : World} {b o : Nat} {cs : List Value} (hb : Below w.heap.size w w') (hlt : b < w.heap.size) (h : w.rangeAt b o cs) : w'.rangeAt b o cs := fun j v hv => by
  rw [hb.cell (p := ⟨b, o + j, none⟩) hlt]; exact h j v hv

set_option maxHeartbeats 1000000 in
theorem one_main (n m : Nat) (hn : n < 18446744073709551616) (hm : m < 18446744073709551616) (l : List Int) (hl : l.length = 16) (w : World) :
    Calls Try.prog 5 #[.int .u64 n, .int .u64 m, .agg (ints .i32 l)] w fun e w' => e = .returned (.bool true) ∧ Below w.heap.size w w' := by
  have HL := Lib.hid hl
  have HQ := Lib.hid (fun W => eq16 (tapsK n 8) (tapsK m 8) (tapsK_length _ _) (tapsK_length _ _) W)
  have HI := Lib.hid (taps_inj n m hn hm)
  clear hl
  go_enter Try.func5, Try.ntmps5
  go_wp2_with fail
  refine (alive_any _).mono ?_
  rintro e w1 ⟨rfl, hb1⟩
  go_wp2_with fail
  refine (of_any n hn _).mono ?_
  rintro e w2 ⟨rfl, hb2⟩
  go_wp2_with fail
  refine (dig_any _ (tapsK_length n 8) _).mono ?_
  rintro e w3 ⟨h | h, hb3⟩
  · obtain ⟨_, rfl⟩ := h
    rw [dg_of n hn]
    have g1 : ((n : Int) != (n : Int)) = false := by simp
    go_wp2_with fail
    refine (of_any n hn _).mono ?_
    rintro e w4 ⟨rfl, hb4⟩
    go_wp2_with fail
    refine (of_any m hm _).mono ?_
    rintro e w5 ⟨rfl, hb5⟩
    have hq := HQ.out
    rw [HI.out] at hq
    have e1 : ((n == m) == ((n : Int) == (m : Int))) = true := by
      have : ((n : Int) == (m : Int)) = (n == m) := by rw [Bool.eq_iff_iff]; simp; omega
      rw [this]; simp
    have hB : Below w.heap.size w w5 := by
      have s1 := hb1.size
      have s2 := hb2.size
      have s3 := hb3.size
      have s4 := hb4.size
      simp at s1
      exact ((((((Below.refl _ _).alloc (Nat.le_refl _) _).trans (hb1.mono (by simp))).trans (hb2.mono (by omega))).trans (hb3.mono (by omega))).trans (hb4.mono (by omega))).trans (hb5.mono (by omega))
    have hrow : w5.heap[w.heap.size]? = some (.cells (ints .i32 l) 24) := by
      have s1 := hb1.size
      have s2 := hb2.size
      have s3 := hb3.size
      have s4 := hb4.size
      simp at s1
      rw [hb5.block _ (by omega), hb4.block _ (by omega), hb3.block _ (by omega), hb2.block _ (by omega), hb1.block _ (by simp)]
      exact heap_alloc_new w _
    have HR := Lib.hid hrow
    clear hrow hb1 hb2 hb3 hb4 hb5
    go_wp2_with (refine wpList_load_row rfl 24 _ rfl w.heap.size rfl 24 (ints .i32 l) (0, 0) _ HR.out Try.underlying24 rfl (info24 _ HL.out) ?_)
    refine (dig_any l HL.out _).mono ?_
    rintro e w6 ⟨⟨hg, rfl⟩ | ⟨hg, rfl⟩, hb6⟩
    · have hd := dg_lt64 l 8
      have HT := Lib.hid (taps_dg l HL.out hg)
      have hrow : w6.heap[w.heap.size]? = some (.cells (ints .i32 l) 24) := by
        rw [hb6.block _ (by have := Array.getElem?_eq_some_iff.1 HR.out; exact this.1)]
        exact HR.out
      have HR6 := Lib.hid hrow
      clear hrow hg
      generalize hd8 : dg l 8 = d at hd HT
      clear hd8
      obtain ⟨cs, hcs⟩ : ∃ cs, cs = l.map (Value.int .i32) := ⟨_, rfl⟩
      have hu := Try.underlying24
      have hi : (Try.prog.info? 24).map (·.size) = some cs.length := by
        rw [hcs, List.length_map, HL.out]; kernel_rfl
      have hc16 : cs.length = 16 := by rw [hcs, List.length_map, HL.out]
      have hone : ∀ v ∈ cs, v.oneCell' = true := by
        intro v hv
        rw [hcs] at hv
        obtain ⟨x, _, rfl⟩ := List.mem_map.1 hv
        rfl
      have hrg : w6.rangeAt w.heap.size 0 cs := fun j v hv => by
        rw [Nat.zero_add, cell_of_row w6 w.heap.size j _ _ _ HR6.out]
        rw [hcs] at hv
        simpa [ints] using hv
      have heq : ∀ W, (Op.equalIn 10000 24 (.agg (ints .i32 (tapsK d 8))) (.agg cs.toArray)).run Try.prog W = .ok true W := by
        intro W
        have h := eq16 l l HL.out HL.out W
        rw [HT.out, hcs]
        simpa [ints] using h
      have hsz : w.heap.size < w6.heap.size := (Array.getElem?_eq_some_iff.1 HR6.out).1
      have HSZ := Lib.hid hsz
      have HCS := Lib.hid hcs
      have hB6 := hB.trans (hb6.mono hB.size)
      clear hcs hsz hB hb6
      go_wp2_with fail
      go_region_held3 (fun w' => w'.rangeAt w.heap.size 0 cs) (first | go_keep_ranges | (exact range_below hb7 HSZ.out (by assumption))) (first | (go_at_call 16; refine (of_any d hd _).mono ?_; rintro e w7 ⟨rfl, hb7⟩))
      all_goals go_wp2
      go_ret
      exact ⟨rfl, (hB6.drew).trans (hb7.mono hB6.size)⟩
    · go_wp2_with fail
      go_ret
      exact ⟨rfl, hB.trans (hb6.mono hB.size)⟩
  · exact absurd (good_taps n) h.1

theorem one_calls (a : Int) (ha : (Lit.int .u64 a).wf = true) (b : Int) (hb : (Lit.int .u64 b).wf = true) (l : List Int) (hl : l.length = 16) (_hw : ∀ x ∈ l, (Lit.int .i32 x).wf = true) (w : World) :
    Calls Try.prog 5 #[.int .u64 a, .int .u64 b, .agg (ints .i32 l)] w fun e w' => e = .returned (.bool true) ∧ Below w.heap.size w w' := by
  obtain ⟨n, rfl, hn⟩ := u64_of_wf ha
  obtain ⟨m, rfl, hm⟩ := u64_of_wf hb
  exact one_main n m hn hm l hl w
end Go.Proofs.Ytpfbgldpnjkdkaa
