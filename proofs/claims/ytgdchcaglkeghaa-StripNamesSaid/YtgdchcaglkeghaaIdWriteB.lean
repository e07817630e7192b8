/- The walk of idthree.Write with a foot. -/
import Derived.Test.YtgdchcaglkeghaaIdWrite
namespace Go.Proofs.Ytgdchcaglkeghaa
open Go.RowKit
attribute [local go_sem ↓] Go.wp_at_zero Go.wp_at_succ

theorem infoB : (Try.prog.info? 22).map (fun i => (i.zero, i.size, i.bytes)) = some (some (.slice none 0 0), 1, 24) := by kernel_rfl
theorem heap_setOther (w : World) (g k : Nat) (h : k ≠ g) (j : Nat) (x : Value) : (w.setCell ⟨g, j, none⟩ x).heap[k]? = w.heap[k]? := Below.heap_setCell w ⟨g, j, none⟩ x k h

theorem two_new (w : World) (a b : Value) (t : TypeId) (g : Nat) (hg : g = w.heap.size) : ∀ (j : Nat) u, [a, b][j]? = some u → (w.alloc (.cells #[a, b] t)).cell? ((⟨g, 0, none⟩ : Addr).add j) = some u := by
  subst hg
  exact cell_two_new w a b t

set_option maxRecDepth 100000 in
set_option maxHeartbeats 4000000 in
theorem idwrite_yes (a : Option Addr) (len cap : Nat) (l : List UInt8) (w : World) (ha : BArg w a len cap l) (h50 : len ≤ 5000) :
    Calls Try.prog 48 #[.slice a len cap, .bool true] w fun e w' => ∃ A n k, e = .returned (.tuple #[.slice A n k, .int .i64 (idE len true)]) ∧ Below w.heap.size w w' ∧ (idE len true = 4 → A = none ∧ n = 0 ∧ k = 0) ∧ (idE len true = 0 → n = idN len true ∧ FRow w' w.heap.size A (idN len true) k (idTag l true)) := by
  have hll := ha.len_eq
  have hlc := ha.le
  have HA := Lib.hid ha
  have HL := Lib.hid hll
  obtain ⟨i0, hi, hz0, hz1, hz2⟩ := info_parts infoB
  have HI := Lib.hid hi
  have kc := fun (w : World) (C : Array Value) (n c : Nat) => Lib.run_convert_bytes_const (P := Try.prog) w 22 5 C n c Try.underlying22 Try.underlying5
  clear ha hll hi
  go_enter Try.func48, Try.ntmps48
  go_wp2_with fail
  refine (safe_any len (by omega) _).mono ?_
  rintro e w2 ⟨rfl, ho, hb⟩
  rw [World.size_alloc] at ho
  have HG2 := Lib.hid ((GRow.lit w w.heap.size [4, 0, 0] 3 rfl (by omega) 5 (0, 0) #[.int .u8 4, .int .u8 0, .int .u8 0] rfl (Nat.le_refl _)).below hb)
  have HO2 := Lib.hid ho
  have HB2 := Lib.hid (((Below.refl _ w).alloc (Nat.le_refl _) (.cells #[.int .u8 4, .int .u8 0, .int .u8 0] 5)).trans (hb.mono (by simp)))
  clear ho hb
  go_upto_region 4 with (at_builtin; refine wpList_append_g rfl (.tmp 9) (.tmp 12) rfl w.heap.size _ [4, 0, 0] rfl HG2.out _ 4 4 (sf len) rfl HO2.out.arg (by omega) 7 (by rfl) (by omega) HB2.out.size ?_; intro A3 c3 w3 hown hgr _; have HO3 := Lib.hid hown; have HB3 := Lib.hid (below_append_g HB2.out HG2.out (Nat.le_refl _) hgr); clear hown hgr)
  obtain ⟨g3, hg3, hg3a, hg3b⟩ := HO3.out.where_ (by omega)
  subst hg3
  obtain ⟨w4, hw4⟩ : ∃ w4, w4 = (w3.alloc (.cells #[.int .u8 73, .int .u8 68, .int .u8 51] 5 (3, 4))).alloc (.cells #[.slice (some ⟨w3.heap.size, 0, none⟩) 3 3, .slice (some ⟨g3, 0, none⟩) 7 c3, .slice a len cap] 22) := ⟨_, rfl⟩
  obtain ⟨G, hG⟩ : ∃ G, G = w3.heap.size := ⟨_, rfl⟩
  have a1 : w4.heap[G]? = some (.cells #[.int .u8 73, .int .u8 68, .int .u8 51] 5 (3, 4)) := by
    rw [hw4, hG]; exact (Below.heap_alloc _ _ _ (by simp)).trans (heap_alloc_new w3 _)
  have a2 : Owns w4 w.heap.size (.slice (some ⟨g3, 0, none⟩) 7 c3) ([4, 0, 0] ++ sf len) := by rw [hw4]; exact (HO3.out.alloc _).alloc _
  have a3 : w4.heap[G + 1]? = some (.cells #[.slice (some ⟨G, 0, none⟩) 3 3, .slice (some ⟨g3, 0, none⟩) 7 c3, .slice a len cap] 22 (0, 0)) := by
    have hs : G + 1 = (w3.alloc (.cells #[.int .u8 73, .int .u8 68, .int .u8 51] 5 (3, 4))).heap.size := by rw [hG]; simp
    rw [hw4, hs, hG]
    exact heap_alloc_new _ _
  have hB4 : Below w.heap.size w w4 := by rw [hw4]; exact (HB3.out.alloc HB3.out.size _).alloc (by have := HB3.out.size; simp; omega) _
  have hs4 : w4.heap.size = G + 1 + 1 := by rw [hw4, hG]; simp
  have hGw : w.heap.size ≤ G := by rw [hG]; exact HB3.out.size
  rw [← hw4, ← hG]
  rw [← hG] at hg3b
  have c2 := a2.cellAt (j := 2) (by omega)
  have f2 := a2.free 2
  have st := a2.stored 2 16
  clear hw4 hG HB3 HO3 HG2 HO2 HB2
  have HA1 := Lib.hid a1
  have HA3 := Lib.hid a3
  have HST := Lib.hid st
  have HB4 := Lib.hid hB4
  have c2' : w4.cell? ⟨g3, 2, none⟩ = some (.int .u8 0) := c2
  clear a1 a2 a3 st hB4 c2
  go_upto_region 5 with fail
  obtain ⟨w5, hw5⟩ : ∃ w5, w5 = w4.setCell ⟨g3, 2, none⟩ (.int .u8 16) := ⟨_, rfl⟩
  have HO5 : Hid (Owns w5 w.heap.size (.slice (some ⟨g3, 0, none⟩) 7 c3) ([4, 0, 16] ++ sf len)) := Lib.hid (by rw [hw5]; exact HST.out.1)
  have b1 : w5.heap[G]? = some (.cells #[.int .u8 73, .int .u8 68, .int .u8 51] 5 (3, 4)) := by rw [hw5, heap_setOther _ _ _ (by omega)]; exact HA1.out
  have b3 : w5.heap[G + 1]? = some (.cells #[.slice (some ⟨G, 0, none⟩) 3 3, .slice (some ⟨g3, 0, none⟩) 7 c3, .slice a len cap] 22 (0, 0)) := by rw [hw5, heap_setOther _ _ _ (by omega)]; exact HA3.out
  have hs5 : w5.heap.size = G + 1 + 1 := by rw [hw5]; simpa using hs4
  have hB5 : Below w.heap.size w w5 := by rw [hw5]; exact HB4.out.setCell (p := ⟨g3, 2, none⟩) hg3a _
  have HP5 : Hid (w5.ownsRow w.heap.size 22 1 (.slice (some ⟨G + 1, 0, none⟩) 3 3) 3 [.slice (some ⟨G, 0, none⟩) 3 3, .slice (some ⟨g3, 0, none⟩) 7 c3, .slice a len cap]) := Lib.hid
    ⟨rfl, .inr ⟨G + 1, 3, _, rfl, by omega, b3, Nat.le_refl _, by unfold maxLen; omega, rfl, rfl⟩⟩
  rw [← hw5]
  have HX1 := Lib.hid b1
  have HB5 := Lib.hid hB5
  have hi := HI.out
  have HS5 := Lib.hid hs5
  have hge : w.heap.size ≤ w5.heap.size := by omega
  clear hw5 hs5 b1 b3 hB5 HST HA1 HA3 HB4 c2' f2 hs4
  go_wp2_with (at_builtin; refine wpList_append_own _ rfl _ _ 66 rfl w.heap.size 22 i0 (.slice none 0 0) 1 24 Try.underlying66 hi hz0 hz1 hz2 rfl (by decide) _ _ _ rfl (World.ownsRow.alloc (World.ownsRow.alloc HP5.out _) _) ⟨w5.heap.size + 1, 0, none⟩ 2 2 [.slice (some ⟨w5.heap.size, 0, none⟩) 3 3, .slice (some ⟨g3, 0, none⟩) 7 c3] rfl rfl (two_new _ _ _ _ _ (by simp)) (by simp [Value.oneCell']) (by unfold maxLen; omega) (by omega) (by simp; omega) ?_; intro v6 w6 hown hgr _; have HO6 := Lib.hid hown; have HG6 : Hid (World.grownBy ((w5.alloc (.cells #[.int .u8 51, .int .u8 68, .int .u8 73] 5 (3, 4))).alloc (.cells #[.slice (some ⟨w5.heap.size, 0, none⟩) 3 3, .slice (some ⟨g3, 0, none⟩) 7 c3] 22)) w6 (some (G + 1))) := Lib.hid hgr; clear hown hgr)
  have hs5 := HS5.out
  obtain ⟨g6, c6, rfl, hg6, hc6⟩ : ∃ g6 c6, v6 = .slice (some ⟨g6, 0, none⟩) 5 c6 ∧ w.heap.size ≤ g6 ∧ 5 ≤ c6 := by
    rcases HO6.out.2 with ⟨_, h⟩ | ⟨g, cap', cur, h1, h2, h3, h4, _⟩
    · cases h
    · exact ⟨g, cap', h1, h2, h4⟩
  have x1 : w6.heap[G]? = some (.cells #[.int .u8 73, .int .u8 68, .int .u8 51] 5 (3, 4)) := by
    rw [HG6.out.block G (by simp; omega) (by simp), Below.heap_alloc _ _ _ (by simp; omega), Below.heap_alloc _ _ _ (by omega)]
    exact HX1.out
  have x2 : w6.heap[w5.heap.size]? = some (.cells #[.int .u8 51, .int .u8 68, .int .u8 73] 5 (3, 4)) := by
    rw [HG6.out.block w5.heap.size (by simp; omega) (by simp; omega), Below.heap_alloc _ _ _ (by simp)]
    exact heap_alloc_new _ _
  have x3 : Owns w6 w.heap.size (.slice (some ⟨g3, 0, none⟩) 7 c3) ([4, 0, 16] ++ sf len) := ((HO5.out.alloc _).alloc _).kept HG6.out (.inr (by simp [Value.ownBlock]; omega))
  have hB6 : Below w.heap.size w w6 := ((HB5.out.alloc hge _).alloc (by simp; omega) _).grown HG6.out (by simp; omega) (fun k hk => by cases hk; omega)
  have y1 : BArg w6 (some ⟨G, 0, none⟩) 3 3 id3 := BArg.of_row x1 rfl (Nat.le_refl _) (by omega) rfl
  have y2 : BArg w6 (some ⟨w5.heap.size, 0, none⟩) 3 3 [51, 68, 73] := BArg.of_row x2 rfl (Nat.le_refl _) (by omega) rfl
  have y3 := x3.arg
  have y4 : BArg w6 a len cap l := HA.out.below hB6
  have hP : Lib.PartsAt w6 ⟨g6, 0, none⟩ [.slice (some ⟨G, 0, none⟩) 3 3, .slice (some ⟨g3, 0, none⟩) 7 c3, .slice a len cap, .slice (some ⟨w5.heap.size, 0, none⟩) 3 3, .slice (some ⟨g3, 0, none⟩) 7 c3] [id3, [4, 0, 16] ++ sf len, l, [51, 68, 73], [4, 0, 16] ++ sf len] := by
    refine parts_mk rfl (fun i v hv => ?_) (fun i v x hv hx => ?_)
    · have hi5 : i < 5 := by
        by_cases h : i < 5
        · exact h
        · rw [List.getElem?_eq_none (by simp; omega)] at hv; cases hv
      rw [World.ownsRow.cellAt HO6.out i (by omega)]
      exact hv
    · match i, hv, hx with
      | 0, hv, hx => injection hv with hv; injection hx with hx; subst hv; subst hx; exact holds_of_arg y1
      | 1, hv, hx => injection hv with hv; injection hx with hx; subst hv; subst hx; exact holds_of_arg y3
      | 2, hv, hx => injection hv with hv; injection hx with hx; subst hv; subst hx; exact holds_of_arg y4
      | 3, hv, hx => injection hv with hv; injection hx with hx; subst hv; subst hx; exact holds_of_arg y2
      | 4, hv, hx => injection hv with hv; injection hx with hx; subst hv; subst hx; exact holds_of_arg y3
      | i + 5, hv, hx => cases hv
  have HB6 := Lib.hid hB6
  have HC := Lib.hid (Try.bytes_Join_many g6 0 5 c6 _ _ (.slice none 0 0) [] w6 rfl (by omega) hP hc6 (holds_nil w6) (by omega) (by simp [Lib.lens, id3, sf, HL.out]; omega))
  rw [join_nil5] at HC
  have hT : id3 ++ ([4, 0, 16] ++ sf len) ++ l ++ [51, 68, 73] ++ ([4, 0, 16] ++ sf len) = idTag l true := by unfold idTag midL; rw [HL.out]; simp
  rw [hT] at HC
  have hN := idTag_length l true
  rw [HL.out] at hN
  have hN2 : idN len true = len + 20 := rfl
  clear x1 x2 x3 y1 y2 y3 y4 hB6 hP hT hs5 HO6 HG6 HS5 HO5 HX1 HP5 HB5
  refine HC.out.mono ?_
  rintro e w7 ⟨v, rfl, hf, hb⟩
  obtain ⟨A5, k5, rfl, hr⟩ := fresh_row hf (by rw [hN, hN2]; omega)
  rw [hN, hN2] at hr
  rw [hN, hN2]
  have HR := Lib.hid hr
  have HB7 := Lib.hid (HB6.out.trans (hb.mono HB6.out.size))
  have HB67 := Lib.hid HB6.out.size
  clear hf hb hr hN
  by_cases hm : 4000 < len + 20
  · have HE : Hid (idE len true = 4) := Lib.hid (by unfold idE; rw [if_pos (by rw [hN2]; exact hm)])
    go_wp2_with fail
    go_ret2
    exact ⟨none, 0, 0, by rw [HE.out]; rfl, HB7.out, fun _ => ⟨rfl, rfl, rfl⟩, fun h => by rw [HE.out] at h; exact absurd h (by decide)⟩
  · have HE : Hid (idE len true = 0) := Lib.hid (by unfold idE; rw [if_neg (by rw [hN2]; exact hm)])
    go_wp2_with fail
    go_ret2
    exact ⟨A5, len + 20, k5, by rw [HE.out]; rfl, HB7.out, fun h => by rw [HE.out] at h; exact absurd h (by decide), fun _ => ⟨rfl, ⟨HR.out.1, by
      obtain ⟨g, h1, h2, h3, h4, h5⟩ := HR.out.2
      exact ⟨g, h1, Nat.le_trans HB67.out h2, h3, h4, h5⟩⟩⟩⟩

theorem idwrite_any (a : Option Addr) (len cap : Nat) (l : List UInt8) (f : Bool) (w : World) (ha : BArg w a len cap l) (h50 : len ≤ 5000) :
    Calls Try.prog 48 #[.slice a len cap, .bool f] w fun e w' => ∃ A n k, e = .returned (.tuple #[.slice A n k, .int .i64 (idE len f)]) ∧ Below w.heap.size w w' ∧ (idE len f = 4 → A = none ∧ n = 0 ∧ k = 0) ∧ (idE len f = 0 → n = idN len f ∧ FRow w' w.heap.size A (idN len f) k (idTag l f)) := by
  cases f with
  | false => exact idwrite_no a len cap l w ha h50
  | true => exact idwrite_yes a len cap l w ha h50
end Go.Proofs.Ytgdchcaglkeghaa
