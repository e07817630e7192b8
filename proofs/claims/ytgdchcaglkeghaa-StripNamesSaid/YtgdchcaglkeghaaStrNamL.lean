/- StripNames: the walk of the law. -/
import Derived.Test.YtgdchcaglkeghaaStrNamF
namespace Go.Proofs.Ytgdchcaglkeghaa
open Go.RowKit
attribute [local go_sem ↓] Go.wp_at_zero Go.wp_at_succ

theorem srow4 (w : World) (A1 A2 A3 A4 : Option Addr) (k1 k2 k3 k4 : Nat) (l1 l2 l3 l4 : List UInt8) (t : TypeId) (h1 : BArg w A1 l1.length k1 l1) (h2 : BArg w A2 l2.length k2 l2) (h3 : BArg w A3 l3.length k3 l3) (h4 : BArg w A4 l4.length k4 l4) :
    SRow (w.alloc (.cells #[.slice A1 l1.length k1, .slice A2 l2.length k2, .slice A3 l3.length k3, .slice A4 l4.length k4] t)) w.heap.size 4 [l1, l2, l3, l4] := by
  refine ⟨rfl, by simp, fun i hi => ?_⟩
  have hb : Below w.heap.size w (w.alloc (.cells #[.slice A1 l1.length k1, .slice A2 l2.length k2, .slice A3 l3.length k3, .slice A4 l4.length k4] t)) := (Below.refl _ _).alloc (Nat.le_refl _) _
  match i, hi with
  | 0, _ => exact ⟨A1, k1, by rw [World.cell?_alloc_at _ _ _ _ rfl]; rfl, h1.below hb⟩
  | 1, _ => exact ⟨A2, k2, by rw [World.cell?_alloc_at _ _ _ _ rfl]; rfl, h2.below hb⟩
  | 2, _ => exact ⟨A3, k3, by rw [World.cell?_alloc_at _ _ _ _ rfl]; rfl, h3.below hb⟩
  | 3, _ => exact ⟨A4, k4, by rw [World.cell?_alloc_at _ _ _ _ rfl]; rfl, h4.below hb⟩
theorem join2_at (w : World) (A1 A2 : Option Addr) (n1 k1 n2 k2 : Nat) (l1 l2 : List UInt8) (N g : Nat) (h1 : BArg w A1 n1 k1 l1) (h2 : BArg w A2 n2 k2 l2) (hN : [l1, l2].flatten.length = N) (hb : N ≤ 100000) (hg : w.heap.size = g) :
    Calls Try.prog 27 #[.slice (some ⟨g, 0, none⟩) 2 2] (w.alloc (.cells #[.slice A1 n1 k1, .slice A2 n2 k2] 22)) fun e w' => ∃ A k, e = .returned (.slice A N k) ∧ BArg w' A N k [l1, l2].flatten ∧ Below w.heap.size w w' := by
  subst hg
  have e1 := h1.len_eq
  subst e1
  have e2 := h2.len_eq
  subst e2
  subst hN
  refine (join_any w.heap.size 2 2 _ _ (srow2 w A1 A2 k1 k2 l1 l2 _ h1 h2) hb (by omega)).mono ?_
  rintro e w' ⟨A, k, rfl, ho, hb'⟩
  exact ⟨A, k, rfl, ho.arg, ((Below.refl _ w).alloc (Nat.le_refl _) _).trans (hb'.mono (by simp))⟩
theorem join3_at (w : World) (A1 A2 A3 : Option Addr) (n1 k1 n2 k2 n3 k3 : Nat) (l1 l2 l3 : List UInt8) (N g : Nat) (h1 : BArg w A1 n1 k1 l1) (h2 : BArg w A2 n2 k2 l2) (h3 : BArg w A3 n3 k3 l3) (hN : [l1, l2, l3].flatten.length = N) (hb : N ≤ 100000) (hg : w.heap.size = g) :
    Calls Try.prog 27 #[.slice (some ⟨g, 0, none⟩) 3 3] (w.alloc (.cells #[.slice A1 n1 k1, .slice A2 n2 k2, .slice A3 n3 k3] 22)) fun e w' => ∃ A k, e = .returned (.slice A N k) ∧ BArg w' A N k [l1, l2, l3].flatten ∧ Below w.heap.size w w' := by
  subst hg
  have e1 := h1.len_eq
  subst e1
  have e2 := h2.len_eq
  subst e2
  have e3 := h3.len_eq
  subst e3
  subst hN
  refine (join_any w.heap.size 3 3 _ _ (srow3 w A1 A2 A3 k1 k2 k3 l1 l2 l3 _ h1 h2 h3) hb (by omega)).mono ?_
  rintro e w' ⟨A, k, rfl, ho, hb'⟩
  exact ⟨A, k, rfl, ho.arg, ((Below.refl _ w).alloc (Nat.le_refl _) _).trans (hb'.mono (by simp))⟩
theorem join4_at (w : World) (A1 A2 A3 A4 : Option Addr) (n1 k1 n2 k2 n3 k3 n4 k4 : Nat) (l1 l2 l3 l4 : List UInt8) (N g : Nat) (h1 : BArg w A1 n1 k1 l1) (h2 : BArg w A2 n2 k2 l2) (h3 : BArg w A3 n3 k3 l3) (h4 : BArg w A4 n4 k4 l4) (hN : [l1, l2, l3, l4].flatten.length = N) (hb : N ≤ 100000) (hg : w.heap.size = g) :
    Calls Try.prog 27 #[.slice (some ⟨g, 0, none⟩) 4 4] (w.alloc (.cells #[.slice A1 n1 k1, .slice A2 n2 k2, .slice A3 n3 k3, .slice A4 n4 k4] 22)) fun e w' => ∃ A k, e = .returned (.slice A N k) ∧ BArg w' A N k [l1, l2, l3, l4].flatten ∧ Below w.heap.size w w' := by
  subst hg
  have e1 := h1.len_eq
  subst e1
  have e2 := h2.len_eq
  subst e2
  have e3 := h3.len_eq
  subst e3
  have e4 := h4.len_eq
  subst e4
  subst hN
  refine (join_any w.heap.size 4 4 _ _ (srow4 w A1 A2 A3 A4 k1 k2 k3 k4 l1 l2 l3 l4 _ h1 h2 h3 h4) hb (by omega)).mono ?_
  rintro e w' ⟨A, k, rfl, ho, hb'⟩
  exact ⟨A, k, rfl, ho.arg, ((Below.refl _ w).alloc (Nat.le_refl _) _).trans (hb'.mono (by simp))⟩
theorem tag_at (n m : Nat) (h : Bool) (x : Int) (w : World) (hn : n ≤ 5000) (hl : (tgL n h).length = m) (hx : x = (n : Int)) :
    Calls Try.prog 25 #[.int .i64 x, .bool h] w fun e w' => ∃ A k, e = .returned (.slice A m k) ∧ BArg w' A m k (tgL n h) ∧ Below w.heap.size w w' := by
  subst hl
  subst hx
  exact tag_any n h hn w
theorem three_at (n m : Nat) (x : Int) (w : World) (hn : n ≤ 5000) (hl : (thL n).length = m) (hx : x = (n : Int)) :
    Calls Try.prog 24 #[.int .i64 x] w fun e w' => ∃ A k, e = .returned (.slice A m k) ∧ BArg w' A m k (thL n) ∧ Below w.heap.size w w' := by
  subst hl
  subst hx
  exact three_any n hn w
theorem sfrom {w : World} {ad : Addr} {len cap : Nat} {l : List UInt8} (h : BArg w (some ad) len cap l) (p : Nat) (hp : p ≤ len) (hc : ¬ cap = p) : BArg w (some (ad.add p)) (len - p) (cap - p) (l.drop p) := by
  have := h.from_ hp
  rw [if_neg hc] at this
  exact this

set_option maxRecDepth 100000 in
set_option maxHeartbeats 8000000 in
theorem stripnames_calls (w : World) :
    Calls Try.prog 13 #[] w fun e w' => e = .returned (.bool true) ∧ Below w.heap.size w w' := by
  have kc := fun (w : World) (C : Array Value) (n c : Nat) => Lib.run_convert_bytes_const (P := Try.prog) w 22 5 C n c Try.underlying22 Try.underlying5
  have HB : Hid (Below w.heap.size w w) := Lib.hid (Below.refl _ _)
  go_enter Try.func13, Try.ntmps13
  go_wp2_with fail
  refine (tag_at 0 64 true _ _ (by omega) ll_tgL0true (by rfl)).mono ?_
  rintro e v1 ⟨A1, k1, rfl, hx, hb⟩
  replace HB := Lib.hid (HB.out.trans (hb.mono HB.out.size))
  have HX1 := Lib.hid hx
  clear hx hb
  go_wp2_with fail
  clear HX1
  refine (tag_at 9 73 true _ _ (by omega) ll_tgL9true (by rfl)).mono ?_
  rintro e v2 ⟨A2, k2, rfl, hx, hb⟩
  replace HB := Lib.hid (HB.out.trans (hb.mono HB.out.size))
  have HX2 := Lib.hid hx
  clear hx hb
  go_wp2_with fail
  clear HX2
  refine (tag_at 3 67 true _ _ (by omega) ll_tgL3true (by rfl)).mono ?_
  rintro e v3 ⟨A3, k3, rfl, hx, hb⟩
  replace HB := Lib.hid (HB.out.trans (hb.mono HB.out.size))
  have HX3 := Lib.hid hx
  clear hx hb
  go_wp2_with fail
  clear HX3
  refine (lfr_any _ _ _ ([]) none 0 0 [] _ (BArg.none_ _) (NArg.nil _)).mono ?_
  rintro e v4 ⟨rfl, hb⟩
  rw [sn0]
  replace HB := Lib.hid (HB.out.trans (hb.mono HB.out.size))
  clear hb
  go_wp2_with fail
  obtain ⟨v5, hv⟩ : ∃ v, v = v4.alloc (.cells #[.int .u8 73, .int .u8 68] 5 (2, 3)) := ⟨_, rfl⟩
  have hs : v5.heap.size = v4.heap.size + 1 := by rw [hv]; simp
  have hb : Below v4.heap.size v4 v5 := by rw [hv]; exact (Below.refl _ _).alloc (Nat.le_refl _) _
  have hx : BArg v5 (some ⟨v4.heap.size, 0, none⟩) 2 2 [73, 68] := by rw [hv]; exact BArg.lit _ _ 2 rfl (by omega) _ _ _ rfl
  rw [← hv]
  replace HB := Lib.hid (HB.out.trans (hb.mono HB.out.size))
  have HX4 := Lib.hid hx
  have HS5 := Lib.hid hs
  clear hv hs hb hx
  refine (lfr_any _ _ _ ([73, 68]) none 0 0 [] _ HX4.out (NArg.nil _)).mono ?_
  rintro e v6 ⟨rfl, hb⟩
  rw [sn1]
  replace HB := Lib.hid (HB.out.trans (hb.mono HB.out.size))
  clear HX4
  clear hb
  go_wp2_with fail
  obtain ⟨v7, hv⟩ : ∃ v, v = v6.alloc (.cells #[.int .u8 65, .int .u8 80, .int .u8 69, .int .u8 84, .int .u8 65, .int .u8 71, .int .u8 69] 5 (7, 8)) := ⟨_, rfl⟩
  have hs : v7.heap.size = v6.heap.size + 1 := by rw [hv]; simp
  have hb : Below v6.heap.size v6 v7 := by rw [hv]; exact (Below.refl _ _).alloc (Nat.le_refl _) _
  have hx : BArg v7 (some ⟨v6.heap.size, 0, none⟩) 7 7 [65, 80, 69, 84, 65, 71, 69] := by rw [hv]; exact BArg.lit _ _ 7 rfl (by omega) _ _ _ rfl
  rw [← hv]
  replace HB := Lib.hid (HB.out.trans (hb.mono HB.out.size))
  have HX5 := Lib.hid hx
  have HS7 := Lib.hid hs
  clear hv hs hb hx
  refine (lfr_any _ _ _ ([65, 80, 69, 84, 65, 71, 69]) none 0 0 [] _ HX5.out (NArg.nil _)).mono ?_
  rintro e v8 ⟨rfl, hb⟩
  rw [sn2]
  replace HB := Lib.hid (HB.out.trans (hb.mono HB.out.size))
  clear HX5
  clear hb
  go_wp2_with fail
  refine (tag_at 0 64 true _ _ (by omega) ll_tgL0true (by rfl)).mono ?_
  rintro e v9 ⟨A6, k6, rfl, hx, hb⟩
  replace HB := Lib.hid (HB.out.trans (hb.mono HB.out.size))
  have HX6 := Lib.hid hx
  obtain ⟨ad6, rfl⟩ : ∃ ad, A6 = some ad := by
    cases hA : A6 with
    | none => exact absurd (HX6.out.nil hA) (by have := HX6.out.le; omega)
    | some g => exact ⟨g, rfl⟩
  have hle6 := HX6.out.le
  have hsm6 := HX6.out.small
  have nk6 : ¬ k6 = 1 := by omega
  clear hx hb
  go_wp2_with fail
  refine (lfr_any _ _ _ ((tgL 0 true).drop 1) none 0 0 [] _ (sfrom HX6.out 1 (by omega) nk6) (NArg.nil _)).mono ?_
  rintro e v10 ⟨rfl, hb⟩
  rw [sn3]
  replace HB := Lib.hid (HB.out.trans (hb.mono HB.out.size))
  clear HX6
  clear hb
  go_wp2_with fail
  refine (tag_at 0 64 true _ _ (by omega) ll_tgL0true (by rfl)).mono ?_
  rintro e v11 ⟨A7, k7, rfl, hx, hb⟩
  replace HB := Lib.hid (HB.out.trans (hb.mono HB.out.size))
  have HX7 := Lib.hid hx
  clear hx hb
  go_wp2_with fail
  refine (tag_at 5 69 true _ _ (by omega) ll_tgL5true (by rfl)).mono ?_
  rintro e v12 ⟨A8, k8, rfl, hx, hb⟩
  replace HB := Lib.hid (HB.out.trans (hb.mono HB.out.size))
  replace HX7 := Lib.hid (HX7.out.below hb)
  have HX8 := Lib.hid hx
  clear hx hb
  go_wp2_with fail
  refine (three_at 0 10 _ _ (by omega) ll_thL0 (by rfl)).mono ?_
  rintro e v13 ⟨A9, k9, rfl, hx, hb⟩
  replace HB := Lib.hid (HB.out.trans (hb.mono HB.out.size))
  replace HX7 := Lib.hid (HX7.out.below hb)
  replace HX8 := Lib.hid (HX8.out.below hb)
  have HX9 := Lib.hid hx
  clear hx hb
  go_wp2_with fail
  obtain ⟨v14, hv⟩ : ∃ v, v = v13.alloc (.cells #[.int .u8 73] 5 (1, 2)) := ⟨_, rfl⟩
  have hs : v14.heap.size = v13.heap.size + 1 := by rw [hv]; simp
  have hb : Below v13.heap.size v13 v14 := by rw [hv]; exact (Below.refl _ _).alloc (Nat.le_refl _) _
  have hx : BArg v14 (some ⟨v13.heap.size, 0, none⟩) 1 1 [73] := by rw [hv]; exact BArg.lit _ _ 1 rfl (by omega) _ _ _ rfl
  rw [← hv]
  replace HB := Lib.hid (HB.out.trans (hb.mono HB.out.size))
  replace HX7 := Lib.hid (HX7.out.below hb)
  replace HX8 := Lib.hid (HX8.out.below hb)
  replace HX9 := Lib.hid (HX9.out.below hb)
  have HX10 := Lib.hid hx
  have HS14 := Lib.hid hs
  clear hv hs hb hx
  refine (join4_at _ _ _ _ _ _ _ _ _ _ _ _ _ (tgL 0 true) (tgL 5 true) (thL 0) ([73]) 144 _ HX7.out HX8.out HX9.out HX10.out lj0 (by omega) HS14.out).mono ?_
  rintro e v15 ⟨A11, k11, rfl, hx, hb⟩
  replace HB := Lib.hid (HB.out.trans (hb.mono HB.out.size))
  clear HX7 HX8 HX9 HX10
  have HX11 := Lib.hid hx
  clear hx hb
  go_wp2_with fail
  refine (lfr_any _ _ _ ([tgL 0 true, tgL 5 true, thL 0, [73]].flatten) _ 3 3 [64, 69, 10] _ (HX11.out.alloc _) (NArg.lit _ [64, 69, 10] 3 rfl (by omega) _ _ rfl)).mono ?_
  rintro e v16 ⟨rfl, hb⟩
  rw [sn4]
  replace HB := Lib.hid ((HB.out.alloc HB.out.size _).trans (hb.mono (by have := HB.out.size; simp; omega)))
  clear HX11
  clear hb
  go_wp2_with fail
  refine (three_at 3990 4000 _ _ (by omega) ll_thL3990 (by rfl)).mono ?_
  rintro e v17 ⟨A12, k12, rfl, hx, hb⟩
  replace HB := Lib.hid (HB.out.trans (hb.mono HB.out.size))
  have HX12 := Lib.hid hx
  clear hx hb
  go_wp2_with fail
  refine (lfr_any _ _ _ (thL 3990) _ 1 1 [4000] _ (HX12.out.alloc _) (NArg.lit _ [4000] 1 rfl (by omega) _ _ rfl)).mono ?_
  rintro e v18 ⟨rfl, hb⟩
  rw [sn5]
  replace HB := Lib.hid ((HB.out.alloc HB.out.size _).trans (hb.mono (by have := HB.out.size; simp; omega)))
  clear HX12
  clear hb
  go_wp2_with fail
  refine (tag_at 2936 3000 true _ _ (by omega) ll_tgL2936true (by rfl)).mono ?_
  rintro e v19 ⟨A13, k13, rfl, hx, hb⟩
  replace HB := Lib.hid (HB.out.trans (hb.mono HB.out.size))
  have HX13 := Lib.hid hx
  clear hx hb
  go_wp2_with fail
  refine (tag_at 936 1000 true _ _ (by omega) ll_tgL936true (by rfl)).mono ?_
  rintro e v20 ⟨A14, k14, rfl, hx, hb⟩
  replace HB := Lib.hid (HB.out.trans (hb.mono HB.out.size))
  replace HX13 := Lib.hid (HX13.out.below hb)
  have HX14 := Lib.hid hx
  clear hx hb
  go_wp2_with fail
  refine (join2_at _ _ _ _ _ _ _ (tgL 2936 true) (tgL 936 true) 4000 _ HX13.out HX14.out lj1 (by omega) rfl).mono ?_
  rintro e v21 ⟨A15, k15, rfl, hx, hb⟩
  replace HB := Lib.hid (HB.out.trans (hb.mono HB.out.size))
  clear HX13 HX14
  have HX15 := Lib.hid hx
  clear hx hb
  go_wp2_with fail
  refine (lfr_any _ _ _ ([tgL 2936 true, tgL 936 true].flatten) _ 2 2 [3000, 1000] _ (HX15.out.alloc _) (NArg.lit _ [3000, 1000] 2 rfl (by omega) _ _ rfl)).mono ?_
  rintro e v22 ⟨rfl, hb⟩
  rw [sn6]
  replace HB := Lib.hid ((HB.out.alloc HB.out.size _).trans (hb.mono (by have := HB.out.size; simp; omega)))
  clear HX15
  clear hb
  go_wp2_with fail
  obtain ⟨v23, hv⟩ : ∃ v, v = v22.alloc (.cells #[.int .u8 73, .int .u8 68, .int .u8 51] 5 (3, 4)) := ⟨_, rfl⟩
  have hs : v23.heap.size = v22.heap.size + 1 := by rw [hv]; simp
  have hb : Below v22.heap.size v22 v23 := by rw [hv]; exact (Below.refl _ _).alloc (Nat.le_refl _) _
  have hx : BArg v23 (some ⟨v22.heap.size, 0, none⟩) 3 3 [73, 68, 51] := by rw [hv]; exact BArg.lit _ _ 3 rfl (by omega) _ _ _ rfl
  rw [← hv]
  replace HB := Lib.hid (HB.out.trans (hb.mono HB.out.size))
  have HX16 := Lib.hid hx
  have HS23 := Lib.hid hs
  clear hv hs hb hx
  refine (lfa_any _ _ _ ([73, 68, 51]) 24 _ HX16.out).mono ?_
  rintro e v24 ⟨rfl, hb⟩
  rw [sn7]
  replace HB := Lib.hid (HB.out.trans (hb.mono HB.out.size))
  clear HX16
  clear hb
  go_wp2_with fail
  obtain ⟨v25, hv⟩ : ∃ v, v = v24.alloc (.cells #[.int .u8 65, .int .u8 80, .int .u8 69, .int .u8 84, .int .u8 65, .int .u8 71, .int .u8 69, .int .u8 88] 5 (8, 9)) := ⟨_, rfl⟩
  have hs : v25.heap.size = v24.heap.size + 1 := by rw [hv]; simp
  have hb : Below v24.heap.size v24 v25 := by rw [hv]; exact (Below.refl _ _).alloc (Nat.le_refl _) _
  have hx : BArg v25 (some ⟨v24.heap.size, 0, none⟩) 8 8 [65, 80, 69, 84, 65, 71, 69, 88] := by rw [hv]; exact BArg.lit _ _ 8 rfl (by omega) _ _ _ rfl
  rw [← hv]
  replace HB := Lib.hid (HB.out.trans (hb.mono HB.out.size))
  have HX17 := Lib.hid hx
  have HS25 := Lib.hid hs
  clear hv hs hb hx
  refine (lfa_any _ _ _ ([65, 80, 69, 84, 65, 71, 69, 88]) 24 _ HX17.out).mono ?_
  rintro e v26 ⟨rfl, hb⟩
  rw [sn8]
  replace HB := Lib.hid (HB.out.trans (hb.mono HB.out.size))
  clear HX17
  clear hb
  go_wp2_with fail
  refine (three_at 1 11 _ _ (by omega) ll_thL1 (by rfl)).mono ?_
  rintro e v27 ⟨A18, k18, rfl, hx, hb⟩
  replace HB := Lib.hid (HB.out.trans (hb.mono HB.out.size))
  have HX18 := Lib.hid hx
  clear hx hb
  go_wp2_with fail
  obtain ⟨v28, hv⟩ : ∃ v, v = v27.alloc (.cells #[.int .u8 73, .int .u8 68, .int .u8 51] 5 (3, 4)) := ⟨_, rfl⟩
  have hs : v28.heap.size = v27.heap.size + 1 := by rw [hv]; simp
  have hb : Below v27.heap.size v27 v28 := by rw [hv]; exact (Below.refl _ _).alloc (Nat.le_refl _) _
  have hx : BArg v28 (some ⟨v27.heap.size, 0, none⟩) 3 3 [73, 68, 51] := by rw [hv]; exact BArg.lit _ _ 3 rfl (by omega) _ _ _ rfl
  rw [← hv]
  replace HB := Lib.hid (HB.out.trans (hb.mono HB.out.size))
  replace HX18 := Lib.hid (HX18.out.below hb)
  have HX19 := Lib.hid hx
  have HS28 := Lib.hid hs
  clear hv hs hb hx
  refine (join2_at _ _ _ _ _ _ _ (thL 1) ([73, 68, 51]) 14 _ HX18.out HX19.out lj2 (by omega) HS28.out).mono ?_
  rintro e v29 ⟨A20, k20, rfl, hx, hb⟩
  replace HB := Lib.hid (HB.out.trans (hb.mono HB.out.size))
  clear HX18 HX19
  have HX20 := Lib.hid hx
  clear hx hb
  go_wp2_with fail
  refine (lfa_any _ _ _ ([thL 1, [73, 68, 51]].flatten) 24 _ HX20.out).mono ?_
  rintro e v30 ⟨rfl, hb⟩
  rw [sn9]
  replace HB := Lib.hid (HB.out.trans (hb.mono HB.out.size))
  clear HX20
  clear hb
  go_wp2_with fail
  refine (three_at 0 10 _ _ (by omega) ll_thL0 (by rfl)).mono ?_
  rintro e v31 ⟨A21, k21, rfl, hx, hb⟩
  replace HB := Lib.hid (HB.out.trans (hb.mono HB.out.size))
  have HX21 := Lib.hid hx
  clear hx hb
  go_wp2_with fail
  refine (tag_at 0 32 false _ _ (by omega) ll_tgL0false (by rfl)).mono ?_
  rintro e v32 ⟨A22, k22, rfl, hx, hb⟩
  replace HB := Lib.hid (HB.out.trans (hb.mono HB.out.size))
  replace HX21 := Lib.hid (HX21.out.below hb)
  have HX22 := Lib.hid hx
  clear hx hb
  go_wp2_with fail
  refine (join2_at _ _ _ _ _ _ _ (thL 0) (tgL 0 false) 42 _ HX21.out HX22.out lj3 (by omega) rfl).mono ?_
  rintro e v33 ⟨A23, k23, rfl, hx, hb⟩
  replace HB := Lib.hid (HB.out.trans (hb.mono HB.out.size))
  clear HX21 HX22
  have HX23 := Lib.hid hx
  clear hx hb
  go_wp2_with fail
  refine (lfa_any _ _ _ ([thL 0, tgL 0 false].flatten) 12 _ HX23.out).mono ?_
  rintro e v34 ⟨rfl, hb⟩
  rw [sn10]
  replace HB := Lib.hid (HB.out.trans (hb.mono HB.out.size))
  clear HX23
  clear hb
  go_wp2_with fail
  refine (three_at 0 10 _ _ (by omega) ll_thL0 (by rfl)).mono ?_
  rintro e v35 ⟨A24, k24, rfl, hx, hb⟩
  replace HB := Lib.hid (HB.out.trans (hb.mono HB.out.size))
  have HX24 := Lib.hid hx
  clear hx hb
  go_wp2_with fail
  refine (tag_at 9 73 true _ _ (by omega) ll_tgL9true (by rfl)).mono ?_
  rintro e v36 ⟨A25, k25, rfl, hx, hb⟩
  replace HB := Lib.hid (HB.out.trans (hb.mono HB.out.size))
  replace HX24 := Lib.hid (HX24.out.below hb)
  have HX25 := Lib.hid hx
  obtain ⟨ad25, rfl⟩ : ∃ ad, A25 = some ad := by
    cases hA : A25 with
    | none => exact absurd (HX25.out.nil hA) (by have := HX25.out.le; omega)
    | some g => exact ⟨g, rfl⟩
  have hle25 := HX25.out.le
  have hsm25 := HX25.out.small
  have mk25 : 72 ≤ k25 := by omega
  clear hx hb
  go_wp2_with fail
  refine (join2_at _ _ _ _ _ _ _ (thL 0) ((tgL 9 true).take 72) 82 _ HX24.out (HX25.out.upto (k := 72) (by omega)) lj4 (by omega) rfl).mono ?_
  rintro e v37 ⟨A26, k26, rfl, hx, hb⟩
  replace HB := Lib.hid (HB.out.trans (hb.mono HB.out.size))
  clear HX24 HX25
  have HX26 := Lib.hid hx
  clear hx hb
  go_wp2_with fail
  refine (lfa_any _ _ _ ([thL 0, (tgL 9 true).take 72].flatten) 24 _ HX26.out).mono ?_
  rintro e v38 ⟨rfl, hb⟩
  rw [sn11]
  replace HB := Lib.hid (HB.out.trans (hb.mono HB.out.size))
  clear HX26
  clear hb
  go_wp2_with fail
  refine (tag_at 2936 3000 true _ _ (by omega) ll_tgL2936true (by rfl)).mono ?_
  rintro e v39 ⟨A27, k27, rfl, hx, hb⟩
  replace HB := Lib.hid (HB.out.trans (hb.mono HB.out.size))
  have HX27 := Lib.hid hx
  clear hx hb
  go_wp2_with fail
  refine (three_at 991 1001 _ _ (by omega) ll_thL991 (by rfl)).mono ?_
  rintro e v40 ⟨A28, k28, rfl, hx, hb⟩
  replace HB := Lib.hid (HB.out.trans (hb.mono HB.out.size))
  replace HX27 := Lib.hid (HX27.out.below hb)
  have HX28 := Lib.hid hx
  clear hx hb
  go_wp2_with fail
  refine (join2_at _ _ _ _ _ _ _ (tgL 2936 true) (thL 991) 4001 _ HX27.out HX28.out lj5 (by omega) rfl).mono ?_
  rintro e v41 ⟨A29, k29, rfl, hx, hb⟩
  replace HB := Lib.hid (HB.out.trans (hb.mono HB.out.size))
  clear HX27 HX28
  have HX29 := Lib.hid hx
  clear hx hb
  go_wp2_with fail
  refine (lfa_any _ _ _ ([tgL 2936 true, thL 991].flatten) 4 _ HX29.out).mono ?_
  rintro e v42 ⟨rfl, hb⟩
  rw [sn12]
  replace HB := Lib.hid (HB.out.trans (hb.mono HB.out.size))
  clear HX29
  clear hb
  go_wp2_with fail
  refine (three_at 3990 4000 _ _ (by omega) ll_thL3990 (by rfl)).mono ?_
  rintro e v43 ⟨A30, k30, rfl, hx, hb⟩
  replace HB := Lib.hid (HB.out.trans (hb.mono HB.out.size))
  have HX30 := Lib.hid hx
  clear hx hb
  go_wp2_with fail
  refine (three_at 0 10 _ _ (by omega) ll_thL0 (by rfl)).mono ?_
  rintro e v44 ⟨A31, k31, rfl, hx, hb⟩
  replace HB := Lib.hid (HB.out.trans (hb.mono HB.out.size))
  replace HX30 := Lib.hid (HX30.out.below hb)
  have HX31 := Lib.hid hx
  clear hx hb
  go_wp2_with fail
  refine (join2_at _ _ _ _ _ _ _ (thL 3990) (thL 0) 4010 _ HX30.out HX31.out lj6 (by omega) rfl).mono ?_
  rintro e v45 ⟨A32, k32, rfl, hx, hb⟩
  replace HB := Lib.hid (HB.out.trans (hb.mono HB.out.size))
  clear HX30 HX31
  have HX32 := Lib.hid hx
  clear hx hb
  go_wp2_with fail
  refine (lfa_any _ _ _ ([thL 3990, thL 0].flatten) 4 _ HX32.out).mono ?_
  rintro e v46 ⟨rfl, hb⟩
  rw [sn13]
  replace HB := Lib.hid (HB.out.trans (hb.mono HB.out.size))
  clear HX32
  clear hb
  go_wp2_with fail
  refine (three_at 3990 4000 _ _ (by omega) ll_thL3990 (by rfl)).mono ?_
  rintro e v47 ⟨A33, k33, rfl, hx, hb⟩
  replace HB := Lib.hid (HB.out.trans (hb.mono HB.out.size))
  have HX33 := Lib.hid hx
  clear hx hb
  go_wp2_with fail
  obtain ⟨v48, hv⟩ : ∃ v, v = v47.alloc (.cells #[.int .u8 73, .int .u8 68, .int .u8 51] 5 (3, 4)) := ⟨_, rfl⟩
  have hs : v48.heap.size = v47.heap.size + 1 := by rw [hv]; simp
  have hb : Below v47.heap.size v47 v48 := by rw [hv]; exact (Below.refl _ _).alloc (Nat.le_refl _) _
  have hx : BArg v48 (some ⟨v47.heap.size, 0, none⟩) 3 3 [73, 68, 51] := by rw [hv]; exact BArg.lit _ _ 3 rfl (by omega) _ _ _ rfl
  rw [← hv]
  replace HB := Lib.hid (HB.out.trans (hb.mono HB.out.size))
  replace HX33 := Lib.hid (HX33.out.below hb)
  have HX34 := Lib.hid hx
  have HS48 := Lib.hid hs
  clear hv hs hb hx
  refine (join2_at _ _ _ _ _ _ _ (thL 3990) ([73, 68, 51]) 4003 _ HX33.out HX34.out lj7 (by omega) HS48.out).mono ?_
  rintro e v49 ⟨A35, k35, rfl, hx, hb⟩
  replace HB := Lib.hid (HB.out.trans (hb.mono HB.out.size))
  clear HX33 HX34
  have HX35 := Lib.hid hx
  clear hx hb
  go_wp2_with fail
  refine (lfa_any _ _ _ ([thL 3990, [73, 68, 51]].flatten) 24 _ HX35.out).mono ?_
  rintro e v50 ⟨rfl, hb⟩
  rw [sn14]
  replace HB := Lib.hid (HB.out.trans (hb.mono HB.out.size))
  clear HX35
  clear hb
  go_wp2_with fail
  refine (tag_at 0 64 true _ _ (by omega) ll_tgL0true (by rfl)).mono ?_
  rintro e v51 ⟨A36, k36, rfl, hx, hb⟩
  replace HB := Lib.hid (HB.out.trans (hb.mono HB.out.size))
  have HX36 := Lib.hid hx
  clear hx hb
  go_wp2_with fail
  refine (tag_at 7 39 false _ _ (by omega) ll_tgL7false (by rfl)).mono ?_
  rintro e v52 ⟨A37, k37, rfl, hx, hb⟩
  replace HB := Lib.hid (HB.out.trans (hb.mono HB.out.size))
  replace HX36 := Lib.hid (HX36.out.below hb)
  have HX37 := Lib.hid hx
  clear hx hb
  go_wp2_with fail
  refine (tag_at 1 65 true _ _ (by omega) ll_tgL1true (by rfl)).mono ?_
  rintro e v53 ⟨A38, k38, rfl, hx, hb⟩
  replace HB := Lib.hid (HB.out.trans (hb.mono HB.out.size))
  replace HX36 := Lib.hid (HX36.out.below hb)
  replace HX37 := Lib.hid (HX37.out.below hb)
  have HX38 := Lib.hid hx
  clear hx hb
  go_wp2_with fail
  refine (join3_at _ _ _ _ _ _ _ _ _ _ (tgL 0 true) (tgL 7 false) (tgL 1 true) 168 _ HX36.out HX37.out HX38.out lj8 (by omega) rfl).mono ?_
  rintro e v54 ⟨A39, k39, rfl, hx, hb⟩
  replace HB := Lib.hid (HB.out.trans (hb.mono HB.out.size))
  clear HX36 HX37 HX38
  have HX39 := Lib.hid hx
  clear hx hb
  go_wp2_with fail
  refine (lbh_any _ _ _ ([tgL 0 true, tgL 7 false, tgL 1 true].flatten) 3 _ HX39.out).mono ?_
  rintro e v55 ⟨rfl, hb⟩
  rw [sn15]
  replace HB := Lib.hid (HB.out.trans (hb.mono HB.out.size))
  clear HX39
  clear hb
  go_wp2_with fail
  obtain ⟨v56, hv⟩ : ∃ v, v = v55.alloc (.cells #[.int .u8 120] 5 (1, 2)) := ⟨_, rfl⟩
  have hs : v56.heap.size = v55.heap.size + 1 := by rw [hv]; simp
  have hb : Below v55.heap.size v55 v56 := by rw [hv]; exact (Below.refl _ _).alloc (Nat.le_refl _) _
  have hx : BArg v56 (some ⟨v55.heap.size, 0, none⟩) 1 1 [120] := by rw [hv]; exact BArg.lit _ _ 1 rfl (by omega) _ _ _ rfl
  rw [← hv]
  replace HB := Lib.hid (HB.out.trans (hb.mono HB.out.size))
  have HX40 := Lib.hid hx
  have HS56 := Lib.hid hs
  clear hv hs hb hx
  refine (tag_at 0 64 true _ _ (by omega) ll_tgL0true (by rfl)).mono ?_
  rintro e v57 ⟨A41, k41, rfl, hx, hb⟩
  replace HB := Lib.hid (HB.out.trans (hb.mono HB.out.size))
  replace HX40 := Lib.hid (HX40.out.below hb)
  have HX41 := Lib.hid hx
  clear hx hb
  go_wp2_with fail
  refine (join2_at _ _ _ _ _ _ _ ([120]) (tgL 0 true) 65 _ HX40.out HX41.out lj9 (by omega) rfl).mono ?_
  rintro e v58 ⟨A42, k42, rfl, hx, hb⟩
  replace HB := Lib.hid (HB.out.trans (hb.mono HB.out.size))
  clear HX40 HX41
  have HX42 := Lib.hid hx
  clear hx hb
  go_wp2_with fail
  refine (lbh_any _ _ _ ([[120], tgL 0 true].flatten) (-1) _ HX42.out).mono ?_
  rintro e v59 ⟨rfl, hb⟩
  rw [sn16]
  replace HB := Lib.hid (HB.out.trans (hb.mono HB.out.size))
  clear HX42
  clear hb
  go_wp2_with fail
  refine (tag_at 0 64 true _ _ (by omega) ll_tgL0true (by rfl)).mono ?_
  rintro e v60 ⟨A43, k43, rfl, hx, hb⟩
  replace HB := Lib.hid (HB.out.trans (hb.mono HB.out.size))
  have HX43 := Lib.hid hx
  clear hx hb
  go_wp2_with fail
  obtain ⟨v61, hv⟩ : ∃ v, v = v60.alloc (.cells #[.int .u8 120] 5 (1, 2)) := ⟨_, rfl⟩
  have hs : v61.heap.size = v60.heap.size + 1 := by rw [hv]; simp
  have hb : Below v60.heap.size v60 v61 := by rw [hv]; exact (Below.refl _ _).alloc (Nat.le_refl _) _
  have hx : BArg v61 (some ⟨v60.heap.size, 0, none⟩) 1 1 [120] := by rw [hv]; exact BArg.lit _ _ 1 rfl (by omega) _ _ _ rfl
  rw [← hv]
  replace HB := Lib.hid (HB.out.trans (hb.mono HB.out.size))
  replace HX43 := Lib.hid (HX43.out.below hb)
  have HX44 := Lib.hid hx
  have HS61 := Lib.hid hs
  clear hv hs hb hx
  refine (join2_at _ _ _ _ _ _ _ (tgL 0 true) ([120]) 65 _ HX43.out HX44.out lj10 (by omega) HS61.out).mono ?_
  rintro e v62 ⟨A45, k45, rfl, hx, hb⟩
  replace HB := Lib.hid (HB.out.trans (hb.mono HB.out.size))
  clear HX43 HX44
  have HX45 := Lib.hid hx
  clear hx hb
  go_wp2_with fail
  refine (lbh_any _ _ _ ([tgL 0 true, [120]].flatten) (-1) _ HX45.out).mono ?_
  rintro e v63 ⟨rfl, hb⟩
  rw [sn17]
  replace HB := Lib.hid (HB.out.trans (hb.mono HB.out.size))
  clear HX45
  clear hb
  go_wp2_with fail
  refine (three_at 0 10 _ _ (by omega) ll_thL0 (by rfl)).mono ?_
  rintro e v64 ⟨A46, k46, rfl, hx, hb⟩
  replace HB := Lib.hid (HB.out.trans (hb.mono HB.out.size))
  have HX46 := Lib.hid hx
  clear hx hb
  go_wp2_with fail
  refine (lbh_any _ _ _ (thL 0) (-1) _ HX46.out).mono ?_
  rintro e v65 ⟨rfl, hb⟩
  rw [sn18]
  replace HB := Lib.hid (HB.out.trans (hb.mono HB.out.size))
  clear HX46
  clear hb
  go_wp2_with fail
  refine (tag_at 2968 3000 false _ _ (by omega) ll_tgL2968false (by rfl)).mono ?_
  rintro e v66 ⟨A47, k47, rfl, hx, hb⟩
  replace HB := Lib.hid (HB.out.trans (hb.mono HB.out.size))
  have HX47 := Lib.hid hx
  clear hx hb
  go_wp2_with fail
  refine (tag_at 968 1000 false _ _ (by omega) ll_tgL968false (by rfl)).mono ?_
  rintro e v67 ⟨A48, k48, rfl, hx, hb⟩
  replace HB := Lib.hid (HB.out.trans (hb.mono HB.out.size))
  replace HX47 := Lib.hid (HX47.out.below hb)
  have HX48 := Lib.hid hx
  clear hx hb
  go_wp2_with fail
  refine (join2_at _ _ _ _ _ _ _ (tgL 2968 false) (tgL 968 false) 4000 _ HX47.out HX48.out lj11 (by omega) rfl).mono ?_
  rintro e v68 ⟨A49, k49, rfl, hx, hb⟩
  replace HB := Lib.hid (HB.out.trans (hb.mono HB.out.size))
  clear HX47 HX48
  have HX49 := Lib.hid hx
  clear hx hb
  go_wp2_with fail
  refine (lbh_any _ _ _ ([tgL 2968 false, tgL 968 false].flatten) 2 _ HX49.out).mono ?_
  rintro e v69 ⟨rfl, hb⟩
  rw [sn19]
  replace HB := Lib.hid (HB.out.trans (hb.mono HB.out.size))
  clear HX49
  clear hb
  go_wp2_with fail
  refine (tag_at 2968 3000 false _ _ (by omega) ll_tgL2968false (by rfl)).mono ?_
  rintro e v70 ⟨A50, k50, rfl, hx, hb⟩
  replace HB := Lib.hid (HB.out.trans (hb.mono HB.out.size))
  have HX50 := Lib.hid hx
  clear hx hb
  go_wp2_with fail
  refine (tag_at 969 1001 false _ _ (by omega) ll_tgL969false (by rfl)).mono ?_
  rintro e v71 ⟨A51, k51, rfl, hx, hb⟩
  replace HB := Lib.hid (HB.out.trans (hb.mono HB.out.size))
  replace HX50 := Lib.hid (HX50.out.below hb)
  have HX51 := Lib.hid hx
  clear hx hb
  go_wp2_with fail
  refine (join2_at _ _ _ _ _ _ _ (tgL 2968 false) (tgL 969 false) 4001 _ HX50.out HX51.out lj12 (by omega) rfl).mono ?_
  rintro e v72 ⟨A52, k52, rfl, hx, hb⟩
  replace HB := Lib.hid (HB.out.trans (hb.mono HB.out.size))
  clear HX50 HX51
  have HX52 := Lib.hid hx
  clear hx hb
  go_wp2_with fail
  refine (lbh_any _ _ _ ([tgL 2968 false, tgL 969 false].flatten) (-1) _ HX52.out).mono ?_
  rintro e v73 ⟨rfl, hb⟩
  rw [sn20]
  replace HB := Lib.hid (HB.out.trans (hb.mono HB.out.size))
  clear HX52
  clear hb
  go_wp2_with fail
  refine (tag_at 3 67 true _ _ (by omega) ll_tgL3true (by rfl)).mono ?_
  rintro e v74 ⟨A53, k53, rfl, hx, hb⟩
  replace HB := Lib.hid (HB.out.trans (hb.mono HB.out.size))
  have HX53 := Lib.hid hx
  obtain ⟨ad53, rfl⟩ : ∃ ad, A53 = some ad := by
    cases hA : A53 with
    | none => exact absurd (HX53.out.nil hA) (by have := HX53.out.le; omega)
    | some g => exact ⟨g, rfl⟩
  have hle53 := HX53.out.le
  have hsm53 := HX53.out.small
  have nk53 : ¬ k53 = 32 := by omega
  clear hx hb
  go_wp2_with fail
  refine (lbh_any _ _ _ ((tgL 3 true).drop 32) (-1) _ (sfrom HX53.out 32 (by omega) nk53)).mono ?_
  rintro e v75 ⟨rfl, hb⟩
  rw [sn21]
  replace HB := Lib.hid (HB.out.trans (hb.mono HB.out.size))
  clear HX53
  clear hb
  go_wp2_with fail
  refine (alive30_any _).mono ?_
  rintro e v76 ⟨rfl, hb⟩
  replace HB := Lib.hid (HB.out.trans (hb.mono HB.out.size))
  clear hb
  go_wp2_with fail
  go_ret
  exact ⟨rfl, HB.out⟩
end Go.Proofs.Ytgdchcaglkeghaa
