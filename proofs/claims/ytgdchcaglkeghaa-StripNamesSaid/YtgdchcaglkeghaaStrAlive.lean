/- The walk of alive (layer 30). -/
import Derived.Test.YtgdchcaglkeghaaStrLawB
namespace Go.Proofs.Ytgdchcaglkeghaa
open Go.RowKit
attribute [local go_sem ↓] Go.wp_at_zero Go.wp_at_succ

theorem NArg.lit (w : World) (L : List Int) (n : Nat) (hn : L.length = n) (hb : n ≤ 9223372036854775807) (t : TypeId) (cs : Array Value) (hc : cs.toList = vi L) : NArg (w.alloc (.cells cs t)) (some ⟨w.heap.size, 0, none⟩) n L := by
  refine ⟨hn, hb, fun _ => ⟨w.heap.size, 0, rfl, by simp, fun j hj => ?_⟩⟩
  rw [World.cell?_alloc_at _ _ _ _ rfl, Nat.zero_add]
  have h2 : cs[j]? = (vi L)[j]? := by rw [← hc]; simp
  have : cs[j]? = some (.int .i64 (L.getD j 0)) := by
    rw [h2]
    simp [vi, List.getD, List.getElem?_eq_getElem (show j < L.length by omega)]
  simpa using this
theorem NArg.nil (w : World) : NArg w none 0 [] := ⟨rfl, by omega, fun h => absurd h (by omega)⟩
theorem al30a : frQ [thL 2, tgL 2 true, [84, 84, 65, 49]].flatten [12, 66] = true := by decide +kernel
theorem al30b : faQ (tgL 0 false) 12 = true := by decide +kernel
theorem al30c : bhQ (tgL 0 false) 1 = true := by decide +kernel
theorem al30d : bhQ [] 0 = true := by decide +kernel
theorem al30l : [thL 2, tgL 2 true, [84, 84, 65, 49]].flatten.length = 82 := by decide +kernel

/-- Three slices in a row that is written out. -/
theorem srow3 (w : World) (A1 A2 A3 : Option Addr) (k1 k2 k3 : Nat) (l1 l2 l3 : List UInt8) (t : TypeId) (h1 : BArg w A1 l1.length k1 l1) (h2 : BArg w A2 l2.length k2 l2) (h3 : BArg w A3 l3.length k3 l3) :
    SRow (w.alloc (.cells #[.slice A1 l1.length k1, .slice A2 l2.length k2, .slice A3 l3.length k3] t)) w.heap.size 3 [l1, l2, l3] := by
  refine ⟨rfl, by simp, fun i hi => ?_⟩
  have hb : Below w.heap.size w (w.alloc (.cells #[.slice A1 l1.length k1, .slice A2 l2.length k2, .slice A3 l3.length k3] t)) := (Below.refl _ _).alloc (Nat.le_refl _) _
  match i, hi with
  | 0, _ => exact ⟨A1, k1, by rw [World.cell?_alloc_at _ _ _ _ rfl]; rfl, h1.below hb⟩
  | 1, _ => exact ⟨A2, k2, by rw [World.cell?_alloc_at _ _ _ _ rfl]; rfl, h2.below hb⟩
  | 2, _ => exact ⟨A3, k3, by rw [World.cell?_alloc_at _ _ _ _ rfl]; rfl, h3.below hb⟩

set_option maxRecDepth 100000 in
set_option maxHeartbeats 4000000 in
theorem alive30_any (w : World) :
    Calls Try.prog 15 #[] w fun e w' => e = .returned (.bool true) ∧ Below w.heap.size w w' := by
  have kc := fun (w : World) (C : Array Value) (n c : Nat) => Lib.run_convert_bytes_const (P := Try.prog) w 22 5 C n c Try.underlying22 Try.underlying5
  go_enter Try.func15, Try.ntmps15
  go_wp2_with fail
  refine (three_any 2 (by omega) _).mono ?_
  rintro e w1 ⟨A1, k1, rfl, h1, hb⟩
  have H1 := Lib.hid h1
  have HB1 := Lib.hid hb
  clear h1 hb
  go_wp2_with fail
  refine (tag_any 2 true (by omega) _).mono ?_
  rintro e w2 ⟨A2, k2, rfl, h2, hb⟩
  have H12 := Lib.hid (H1.out.below hb)
  have H2 := Lib.hid h2
  have HB2 := Lib.hid (HB1.out.trans (hb.mono HB1.out.size))
  clear h2 hb H1
  have a1 := al30a
  have a2 := al30b
  have a3 := al30c
  have a4 := al30d
  have al := al30l
  go_wp2_with fail
  obtain ⟨w3, hw3⟩ : ∃ w3, w3 = w2.alloc (.cells #[.int .u8 84, .int .u8 84, .int .u8 65, .int .u8 49] 5 (4, 5)) := ⟨_, rfl⟩
  have hs3 : w3.heap.size = w2.heap.size + 1 := by rw [hw3]; simp
  have hr := srow3 w3 A1 A2 (some ⟨w2.heap.size, 0, none⟩) k1 k2 4 (thL 2) (tgL 2 true) [84, 84, 65, 49] 22 (by rw [hw3]; exact H12.out.alloc _) (by rw [hw3]; exact H2.out.alloc _) (by rw [hw3]; exact BArg.lit _ _ 4 rfl (by omega) _ _ _ rfl)
  have HB3 : Hid (Below w.heap.size w (w3.alloc (.cells #[.slice A1 (thL 2).length k1, .slice A2 (tgL 2 true).length k2, .slice (some ⟨w2.heap.size, 0, none⟩) 4 4] 22))) := Lib.hid (by rw [hw3]; exact (HB2.out.alloc HB2.out.size _).alloc (by have := HB2.out.size; simp; omega) _)
  rw [hs3] at hr
  have HR := Lib.hid hr
  rw [← hw3]
  clear hw3 hs3 hr H12 H2
  refine (join_any (w2.heap.size + 1) 3 3 _ _ HR.out (by rw [al]; omega) (by omega)).mono ?_
  rintro e w5 ⟨A5, k5, rfl, ho, hb⟩
  have HO5 := Lib.hid ho.arg
  have HB5 := Lib.hid (HB3.out.trans (hb.mono HB3.out.size))
  rw [al] at HO5 ⊢
  clear ho hb HR HB3
  generalize [thL 2, tgL 2 true, [84, 84, 65, 49]].flatten = J at *
  go_wp2_with fail
  refine (lfr_any _ _ _ J _ 2 2 [12, 66] _ (HO5.out.alloc _) (NArg.lit _ [12, 66] 2 rfl (by omega) _ _ rfl)).mono ?_
  rintro e w6 ⟨rfl, hb⟩
  rw [a1]
  have HB6 : Hid (Below w.heap.size w w6) := Lib.hid ((HB5.out.alloc HB5.out.size _).trans (hb.mono (by have := HB5.out.size; simp; omega)))
  clear hb
  go_wp2_with fail
  refine (tag_any 0 false (by omega) _).mono ?_
  rintro e w7 ⟨A7, k7, rfl, h7, hb⟩
  have H7 := Lib.hid h7
  have HB7 := Lib.hid (HB6.out.trans (hb.mono HB6.out.size))
  clear h7 hb
  go_wp2_with fail
  refine (lfa_any _ _ _ _ 12 _ H7.out).mono ?_
  rintro e w8 ⟨rfl, hb⟩
  rw [a2]
  have HB8 := Lib.hid (HB7.out.trans (hb.mono HB7.out.size))
  clear hb H7
  go_wp2_with fail
  refine (tag_any 0 false (by omega) _).mono ?_
  rintro e w9 ⟨A9, k9, rfl, h9, hb⟩
  have H9 := Lib.hid h9
  have HB9 := Lib.hid (HB8.out.trans (hb.mono HB8.out.size))
  clear h9 hb
  go_wp2_with fail
  refine (lbh_any _ _ _ _ 1 _ H9.out).mono ?_
  rintro e w10 ⟨rfl, hb⟩
  rw [a3]
  have HB10 := Lib.hid (HB9.out.trans (hb.mono HB9.out.size))
  clear hb H9
  go_wp2_with fail
  refine (lbh_any none 0 0 [] 0 _ (BArg.none_ _)).mono ?_
  rintro e w11 ⟨rfl, hb⟩
  rw [a4]
  have HB11 := Lib.hid (HB10.out.trans (hb.mono HB10.out.size))
  clear hb
  go_wp2_with fail
  go_ret
  exact ⟨rfl, HB11.out⟩
end Go.Proofs.Ytgdchcaglkeghaa
