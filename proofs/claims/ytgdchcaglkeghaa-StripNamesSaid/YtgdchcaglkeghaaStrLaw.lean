/- The walks of the laws' three, tag, join, front, fails, behind (layer 30). -/
import Derived.Test.YtgdchcaglkeghaaStrFrontsL
import Derived.Test.YtgdchcaglkeghaaIdWriteB
import Derived.Test.YtgdchcaglkeghaaApeWrite
import Derived.Test.YtgdchcaglkeghaaApeLaws
namespace Go.Proofs.Ytgdchcaglkeghaa
open Go.RowKit
attribute [local go_sem ↓] Go.wp_at_zero Go.wp_at_succ

/-- An ID3v2 tag of so many zeros, or nothing; an APEv2 tag. -/
def thL (n : Nat) : List UInt8 := if idE n false = 0 then idTag (List.replicate n 0) false else []
def tgL (n : Nat) (h : Bool) : List UInt8 := awL (List.replicate n 0) 1 h
theorem thL_length (n : Nat) : (thL n).length = if idE n false = 0 then n + 10 else 0 := by
  unfold thL
  split
  · rw [idTag_length, List.length_replicate]; rfl
  · rfl
theorem awL_length (l : List UInt8) (c : Int) (h : Bool) : (awL l c h).length = awN l.length c h := by
  unfold awL awN
  split
  · rw [tagL_length]
  · rfl

set_option maxHeartbeats 1000000 in
theorem three_any (n : Nat) (hn : n ≤ 5000) (w : World) :
    Calls Try.prog 24 #[.int .i64 (n : Int)] w fun e w' => ∃ A k, e = .returned (.slice A (thL n).length k) ∧ BArg w' A (thL n).length k (thL n) ∧ Below w.heap.size w w' := by
  have hmk := run_make_bytes n (by omega) w
  have HO := Lib.hid (Owns.made w w.heap.size n (Nat.le_refl _) (by omega))
  have hE : idE n false = 0 ∨ idE n false = 4 := by unfold idE; split; exact .inr rfl; exact .inl rfl
  have HTL := Lib.hid (thL_length n)
  have HT : Hid (thL n = if idE n false = 0 then idTag (List.replicate n 0) false else []) := Lib.hid rfl
  have hz : ¬ ((n : Int) < 0) := by omega
  go_enter Try.func24, Try.ntmps24
  go_wp2_with fail
  refine (idwrite_any _ n n _ false _ HO.out.arg hn).mono ?_
  rintro e w2 ⟨A, m, k, rfl, hb, h1, h2⟩
  have HB : Hid (Below w.heap.size w w2) := Lib.hid (((Below.refl _ w).alloc (Nat.le_refl _) _).trans (hb.mono (by simp)))
  rcases hE with hE | hE
  · obtain ⟨rfl, hr⟩ := h2 hE
    rw [hE, if_pos rfl] at HTL HT
    have hN : idN n false = n + 10 := rfl
    rw [hN] at hr ⊢
    have HR := Lib.hid hr.1
    clear hb h1 h2 hr hmk HO hE
    go_wp2_with fail
    go_ret
    exact ⟨A, k, by rw [HTL.out]; rfl, by rw [HTL.out, HT.out]; exact HR.out, HB.out⟩
  · obtain ⟨rfl, rfl, rfl⟩ := h1 hE
    rw [hE, if_neg (by decide)] at HTL HT
    clear hb h1 h2 hmk HO hE
    go_wp2_with fail
    go_ret
    exact ⟨none, 0, by rw [HTL.out]; rfl, by rw [HTL.out, HT.out]; exact BArg.none_ _, HB.out⟩

set_option maxHeartbeats 1000000 in
theorem tag_any (n : Nat) (h : Bool) (hn : n ≤ 5000) (w : World) :
    Calls Try.prog 25 #[.int .i64 (n : Int), .bool h] w fun e w' => ∃ A k, e = .returned (.slice A (tgL n h).length k) ∧ BArg w' A (tgL n h).length k (tgL n h) ∧ Below w.heap.size w w' := by
  have hmk := run_make_bytes n (by omega) w
  have HO := Lib.hid (Owns.made w w.heap.size n (Nat.le_refl _) (by omega))
  have HTL : Hid ((tgL n h).length = awN n 1 h) := Lib.hid (by unfold tgL; rw [awL_length, List.length_replicate])
  have HT : Hid (tgL n h = awL (List.replicate n 0) 1 h) := Lib.hid rfl
  generalize tgL n h = TG at *
  have hz : ¬ ((n : Int) < 0) := by omega
  go_enter Try.func25, Try.ntmps25
  go_wp2_with fail
  refine (awrite_any _ n n _ 1 h _ HO.out.arg).mono ?_
  rintro e w2 ⟨A, k, rfl, ho, hb⟩
  have HB : Hid (Below w.heap.size w w2) := Lib.hid (((Below.refl _ w).alloc (Nat.le_refl _) _).trans (hb.mono (by simp)))
  rw [← HT.out] at ho
  have HR := Lib.hid ho.arg
  clear hb ho hmk HO
  go_wp2_with fail
  go_ret
  exact ⟨A, k, by rw [HTL.out]; rfl, by rw [HTL.out]; exact HR.out, HB.out⟩

/-- Slices of bytes in a row. -/
def SRow (w : World) (g n : Nat) (ls : List (List UInt8)) : Prop :=
  ls.length = n ∧ g < w.heap.size ∧ ∀ i, i < n → ∃ A k, w.cell? ⟨g, i, none⟩ = some (.slice A (ls.getD i []).length k) ∧ BArg w A (ls.getD i []).length k (ls.getD i [])
theorem flat_take (ls : List (List UInt8)) (k : Nat) (h : k < ls.length) : (ls.take (k + 1)).flatten = (ls.take k).flatten ++ ls.getD k [] := by
  rw [List.take_succ_eq_append_getElem h, List.flatten_append]
  simp [List.getD, List.getElem?_eq_getElem h]
theorem flat_len (ls : List (List UInt8)) (k : Nat) : (ls.take k).flatten.length ≤ ls.flatten.length := by
  conv => rhs; rw [← List.take_append_drop k ls, List.flatten_append, List.length_append]
  omega

set_option maxRecDepth 100000 in
set_option maxHeartbeats 1000000 in
theorem join_any (g n c : Nat) (ls : List (List UInt8)) (w : World) (hs : SRow w g n ls) (hb : ls.flatten.length ≤ 100000) (hn : n ≤ 1000) :
    Calls Try.prog 27 #[.slice (some ⟨g, 0, none⟩) n c] w fun e w' => ∃ A k, e = .returned (.slice A ls.flatten.length k) ∧ Owns w' w.heap.size (.slice A ls.flatten.length k) ls.flatten ∧ Below w.heap.size w w' := by
  obtain ⟨hl, hg, hc⟩ := hs
  have HC := Lib.hid hc
  have HL := Lib.hid hl
  clear hc hl
  go_enter Try.func27, Try.ntmps27
  go_wp2_with fail
  go_loopw [3, 4] (fun s i wr => ∃ (k : Nat) (A : Option Addr) (m d : Nat), k ≤ n ∧ i = .int .i64 k ∧ s = .slice A m d ∧ Hid (Owns wr w.heap.size (.slice A m d) (ls.take k).flatten) ∧ Hid (Below w.heap.size w wr)) (fun _ i _ => n - (intOf i).toNat)
  case atStart => exact ⟨0, none, 0, 0, by omega, rfl, rfl, Lib.hid (Owns.nil _ _), Lib.hid (Below.refl _ _)⟩
  case round =>
    obtain ⟨k, A, m, d, hk, rfl, rfl, HO, HB⟩ := hrel
    by_cases hlt : k < n
    · obtain ⟨A1, k1, h1, h2⟩ := HC.out k hlt
      have c1 := (HB.out.cell (p := ⟨g, k, none⟩) hg).trans h1
      have H2 := Lib.hid (h2.below HB.out)
      have HF := Lib.hid (flat_take ls k (by rw [HL.out]; exact hlt))
      have hf := flat_len ls (k + 1)
      rw [HF.out, List.length_append, HO.out.len] at hf
      have HM := Lib.hid HO.out.len
      generalize ls.getD k [] = x at *
      clear h1 h2
      go_wp2_with (at_builtin; refine wpList_append_bytes rfl (.tmp 11) (.tmp 15) rfl w.heap.size _ _ rfl HO.out A1 x.length k1 x rfl H2.out _ (by rw [HM.out]) (by omega) HB.out.size ?_; intro A3 c3 w3 hown hgr _; have HO3 := Lib.hid hown; have HB3 := Lib.hid (below_append HB.out HO.out (Nat.le_refl _) hgr); clear hown hgr)
      go_roundw
      case rel => exact ⟨k + 1, _, _, _, by omega, by go_num, rfl, Lib.hid (by rw [HF.out]; exact HO3.out), HB3⟩
      case measure => simp [intOf]; omega
    · obtain rfl : k = n := by omega
      have hfl : (ls.take k).flatten = ls.flatten := by rw [List.take_of_length_le (by rw [HL.out]; omega)]
      rw [hfl] at HO
      have hm := HO.out.len
      subst hm
      clear hfl
      go_wp2_with fail
      go_ret
      exact ⟨A, d, rfl, HO.out, HB.out⟩
end Go.Proofs.Ytgdchcaglkeghaa
