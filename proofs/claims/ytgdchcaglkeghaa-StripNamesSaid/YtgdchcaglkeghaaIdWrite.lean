/- The walk of idthree.Write. -/
import Derived.Test.YtgdchcaglkeghaaIdSize
import Derived.Test.YtgdchcaglkeghaaGRow
import Derived.Test.YtgdchcaglkeghaaJoin
import Derived.Test.YtgdchcaglkeghaaOpAt
namespace Go.Proofs.Ytgdchcaglkeghaa
open Go.RowKit
attribute [local go_sem ↓] Go.wp_at_zero Go.wp_at_succ

/-- The middle of a tag, a tag, its length, the error of one. -/
def midL (n : Nat) (f : Bool) : List UInt8 := [4, 0, if f = true then 16 else 0] ++ sf n
def idTag (l : List UInt8) (f : Bool) : List UInt8 := id3 ++ midL l.length f ++ l ++ (if f = true then [51, 68, 73] ++ midL l.length f else [])
def idN (len : Nat) (f : Bool) : Nat := if f = true then len + 20 else len + 10
def idE (len : Nat) (f : Bool) : Int := if 4000 < idN len f then 4 else 0
theorem idTag_length (l : List UInt8) (f : Bool) : (idTag l f).length = idN l.length f := by
  unfold idTag idN midL id3 sf
  cases f <;> simp <;> omega
/-- A new row of bytes. -/
def FRow (w : World) (base : Nat) (A : Option Addr) (n k : Nat) (l : List UInt8) : Prop :=
  BArg w A n k l ∧ ∃ g, A = some ⟨g, 0, none⟩ ∧ base ≤ g ∧ g < w.heap.size ∧ (∀ i, i < n → w.cell? ⟨g, i, none⟩ = some (.int .u8 ((l.getD i 0).toNat : Int))) ∧ ∀ i, i < n → w.frozen? ⟨g, i, none⟩ = false

theorem holds_of_arg {w : World} {A : Option Addr} {n k : Nat} {l : List UInt8} (h : BArg w A n k l) : Lib.HoldsBytes w (.slice A n k) l := by
  refine ⟨A, k, by rw [h.len_eq], fun hn => ?_, fun ad ha i x hi => ?_⟩
  · have := h.nil hn
    have := h.le
    exact List.length_eq_zero_iff.1 (by rw [h.len_eq]; omega)
  · have hl : i < n := by rw [← h.len_eq]; exact (List.getElem?_eq_some_iff.1 hi).1
    obtain ⟨ad', c, hae, _, _, hc, hcell⟩ := h.at_ hl
    rw [ha] at hae
    injection hae with hae
    subst hae
    rw [hi] at hc
    injection hc with hc
    subst hc
    exact hcell
theorem fresh_row {w w' : World} {v : Value} {l : List UInt8} (h : Lib.FreshBytes w.heap.size w' v l) (h0 : 0 < l.length) : ∃ A k, v = .slice A l.length k ∧ FRow w' w.heap.size A l.length k l := by
  obtain ⟨g, cap, zs, rfl, hg, hlc, hcm, hz, hr, hb, hc, hf⟩ := h
  have hcell : ∀ i, i < l.length → w'.cell? ⟨g, i, none⟩ = some (.int .u8 ((l.getD i 0).toNat : Int)) := by
    intro i hi
    have hiz : i < zs.length := by omega
    have e1 : l.getD i 0 = UInt8.ofNat (zs[i]).toNat := by
      rw [List.getD_eq_getElem?_getD]
      have : l[i]? = (Lib.bytesOf (zs.take l.length))[i]? := by rw [hb]
      rw [this]
      unfold Lib.bytesOf
      rw [List.getElem?_map, List.getElem?_take, if_pos hi, List.getElem?_eq_getElem hiz]
      rfl
    have h2 := hr (zs[i]) (List.getElem_mem hiz)
    have h3 : zs.getD i 0 = zs[i] := by simp [List.getD, List.getElem?_eq_getElem hiz]
    rw [hc i (by omega), h3, e1, UInt8.toNat_ofNat']
    congr 2
    omega
  have hgs : g < w'.heap.size := by
    have h1 := hcell 0 h0
    unfold World.cell? at h1
    by_cases hx : g < w'.heap.size
    · exact hx
    · rw [show w'.heap[(⟨g, 0, none⟩ : Addr).block]? = none from Array.getElem?_eq_none (by simpa using hx)] at h1
      cases h1
  unfold maxLen at hcm
  refine ⟨_, cap, rfl, ⟨rfl, hlc, by omega, ⟨by simp [vb], fun _ => ⟨⟨g, 0, none⟩, rfl, rfl, hgs, fun j u hu => ?_⟩⟩, fun h => by cases h⟩, g, rfl, hg, hgs, hcell, fun i hi => hf i (by omega)⟩
  rw [vb_get] at hu
  have hj : j < l.length := by
    by_cases hx : j < l.length
    · exact hx
    · rw [List.getElem?_eq_none (by omega)] at hu; cases hu
  rw [List.getElem?_eq_getElem hj] at hu
  injection hu with hu
  subst hu
  have := hcell j hj
  rw [show (⟨g, 0, none⟩ : Addr).add j = ⟨g, j, none⟩ by cases j <;> simp [Addr.add]]
  rw [this]
  simp [List.getD, List.getElem?_eq_getElem hj]

theorem join_nil3 (x y z : List UInt8) : Lib.join [x, y, z] [] = x ++ y ++ z := by simp [Lib.join, List.intercalate, List.intersperse]
theorem join_nil5 (x y z u v : List UInt8) : Lib.join [x, y, z, u, v] [] = x ++ y ++ z ++ u ++ v := by simp [Lib.join, List.intercalate, List.intersperse]
theorem holds_nil (w : World) : Lib.HoldsBytes w (.slice none 0 0) [] := ⟨none, 0, rfl, fun _ => rfl, fun a h => by cases h⟩
theorem parts_mk {w : World} {g : Nat} {vs : List Value} {ls : List (List UInt8)} (hl : vs.length = ls.length) (hc : ∀ (i : Nat) v, vs[i]? = some v → w.cell? ⟨g, i, none⟩ = some v) (hh : ∀ (i : Nat) v l, vs[i]? = some v → ls[i]? = some l → Lib.HoldsBytes w v l) : Lib.PartsAt w ⟨g, 0, none⟩ vs ls :=
  ⟨hl, fun i v h => by rw [show (⟨g, 0, none⟩ : Addr).add i = ⟨g, i, none⟩ by cases i <;> simp [Addr.add]]; exact hc i v h, hh⟩

set_option maxRecDepth 100000 in
set_option maxHeartbeats 4000000 in
theorem idwrite_no (a : Option Addr) (len cap : Nat) (l : List UInt8) (w : World) (ha : BArg w a len cap l) (h50 : len ≤ 5000) :
    Calls Try.prog 48 #[.slice a len cap, .bool false] w fun e w' => ∃ A n k, e = .returned (.tuple #[.slice A n k, .int .i64 (idE len false)]) ∧ Below w.heap.size w w' ∧ (idE len false = 4 → A = none ∧ n = 0 ∧ k = 0) ∧ (idE len false = 0 → n = idN len false ∧ FRow w' w.heap.size A (idN len false) k (idTag l false)) := by
  have hll := ha.len_eq
  have hlc := ha.le
  have HA := Lib.hid ha
  have HL := Lib.hid hll
  have kc := fun (w : World) (C : Array Value) (n c : Nat) => Lib.run_convert_bytes_const (P := Try.prog) w 22 5 C n c Try.underlying22 Try.underlying5
  clear ha hll
  go_enter Try.func48, Try.ntmps48
  go_wp2_with fail
  refine (safe_any len (by omega) _).mono ?_
  rintro e w2 ⟨rfl, ho, hb⟩
  rw [World.size_alloc] at ho
  have HG2 := Lib.hid ((GRow.lit w w.heap.size [4, 0, 0] 3 rfl (by omega) 5 (0, 0) #[.int .u8 4, .int .u8 0, .int .u8 0] rfl (Nat.le_refl _)).below hb)
  have HO2 := Lib.hid ho
  have HB2 := Lib.hid (((Below.refl _ w).alloc (Nat.le_refl _) (.cells #[.int .u8 4, .int .u8 0, .int .u8 0] 5)).trans (hb.mono (by simp)))
  clear ho hb
  go_wp2_with (at_builtin; refine wpList_append_g rfl (.tmp 9) (.tmp 12) rfl w.heap.size _ [4, 0, 0] rfl HG2.out _ 4 4 (sf len) rfl HO2.out.arg (by omega) 7 (by rfl) (by omega) HB2.out.size ?_; intro A3 c3 w3 hown hgr _; have HO3 := Lib.hid hown; have HB3 := Lib.hid (below_append_g HB2.out HG2.out (Nat.le_refl _) hgr); clear hown hgr)
  obtain ⟨w4, hw4⟩ : ∃ w4, w4 = (w3.alloc (.cells #[.int .u8 73, .int .u8 68, .int .u8 51] 5 (3, 4))).alloc (.cells #[.slice (some ⟨w3.heap.size, 0, none⟩) 3 3, .slice A3 7 c3, .slice a len cap] 22) := ⟨_, rfl⟩
  have a1 : BArg w4 (some ⟨w3.heap.size, 0, none⟩) 3 3 id3 := by rw [hw4]; exact (BArg.lit w3 id3 3 rfl (by omega) _ _ _ rfl).alloc _
  have a2 : BArg w4 A3 7 c3 ([4, 0, 0] ++ sf len) := by rw [hw4]; exact ((HO3.out.alloc _).alloc _).arg
  have hB4 : Below w.heap.size w w4 := by rw [hw4]; exact (HB3.out.alloc HB3.out.size _).alloc (by have := HB3.out.size; simp; omega) _
  have a3 : BArg w4 a len cap l := HA.out.below hB4
  have hP : Lib.PartsAt w4 ⟨w3.heap.size + 1, 0, none⟩ [.slice (some ⟨w3.heap.size, 0, none⟩) 3 3, .slice A3 7 c3, .slice a len cap] [id3, [4, 0, 0] ++ sf len, l] := by
    refine parts_mk rfl (fun i v hv => ?_) (fun i v x hv hx => ?_)
    · have hs : w3.heap.size + 1 = (w3.alloc (.cells #[.int .u8 73, .int .u8 68, .int .u8 51] 5 (3, 4))).heap.size := by simp
      rw [hw4, hs, World.cell?_alloc_at _ _ _ _ rfl]
      simpa using hv
    · match i, hv, hx with
      | 0, hv, hx => injection hv with hv; injection hx with hx; subst hv; subst hx; exact holds_of_arg a1
      | 1, hv, hx => injection hv with hv; injection hx with hx; subst hv; subst hx; exact holds_of_arg a2
      | 2, hv, hx => injection hv with hv; injection hx with hx; subst hv; subst hx; exact holds_of_arg a3
      | i + 3, hv, hx => cases hv
  have HB4 := Lib.hid hB4
  have HC := Lib.hid (Try.bytes_Join_many (w3.heap.size + 1) 0 3 3 _ _ (.slice none 0 0) [] w4 rfl (by omega) hP (Nat.le_refl _) (holds_nil w4) (by omega) (by simp [Lib.lens, id3, sf, HL.out]; omega))
  rw [join_nil3] at HC
  have hT : id3 ++ ([4, 0, 0] ++ sf len) ++ l = idTag l false := by unfold idTag midL; rw [HL.out]; simp
  rw [hT] at HC
  rw [← hw4]
  have hN := idTag_length l false
  rw [HL.out] at hN
  have hN2 : idN len false = len + 10 := rfl
  clear hw4 a1 a2 a3 hB4 hP hT
  refine HC.out.mono ?_
  rintro e w5 ⟨v, rfl, hf, hb⟩
  obtain ⟨A5, k5, rfl, hr⟩ := fresh_row hf (by rw [hN, hN2]; omega)
  rw [hN, hN2] at hr
  rw [hN, hN2]
  have HR := Lib.hid hr
  have HB5 := Lib.hid (HB4.out.trans (hb.mono HB4.out.size))
  have HB45 := Lib.hid HB4.out.size
  clear hf hb hr hN
  by_cases hm : 4000 < len + 10
  · have HE : Hid (idE len false = 4) := Lib.hid (by unfold idE; rw [if_pos (by rw [hN2]; exact hm)])
    go_wp2_with fail
    go_ret2
    exact ⟨none, 0, 0, by rw [HE.out]; rfl, HB5.out, fun _ => ⟨rfl, rfl, rfl⟩, fun h => by rw [HE.out] at h; exact absurd h (by decide)⟩
  · have HE : Hid (idE len false = 0) := Lib.hid (by unfold idE; rw [if_neg (by rw [hN2]; exact hm)])
    go_wp2_with fail
    go_ret2
    exact ⟨A5, len + 10, k5, by rw [HE.out]; rfl, HB5.out, fun h => by rw [HE.out] at h; exact absurd h (by decide), fun _ => ⟨rfl, ⟨HR.out.1, by
      obtain ⟨g, h1, h2, h3, h4, h5⟩ := HR.out.2
      exact ⟨g, h1, Nat.le_trans HB45.out h2, h3, h4, h5⟩⟩⟩⟩
end Go.Proofs.Ytgdchcaglkeghaa
