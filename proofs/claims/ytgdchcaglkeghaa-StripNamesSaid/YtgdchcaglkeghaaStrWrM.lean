/- StripWritten: what is written one behind the other (plain), and three rows beside each other. -/
import Derived.Test.YtgdchcaglkeghaaStrLeftL
import Derived.Test.YtgdchcaglkeghaaIdLaws
import Derived.Lib.OwnKind
namespace Go.Proofs.Ytgdchcaglkeghaa
open Go.RowKit

def tta : List UInt8 := [84, 84, 65, 49]
theorem tagP_tta : (tagP tta).2 = 6 := by decide +kernel
theorem frontP_th (n : Nat) (hn : n ≤ 500) (r : List UInt8) : tagP (thL n ++ r) = (((thL n).length : Int), 0) ∧ (thL n).length = n + 10 := by
  have he : idE n false = 0 := by unfold idE idN; rw [if_neg (by simp; omega)]
  have hl : (thL n).length = n + 10 := by rw [thL_length, if_pos he]
  refine ⟨?_, hl⟩
  have e : thL n = idTag (List.replicate n 0) false := by unfold thL; rw [if_pos he]
  have hN : idN (List.replicate n (0 : UInt8)).length false = n + 10 := by rw [List.length_replicate]; rfl
  have hs := siz_tag (List.replicate n 0) r false (by rw [hN]; omega)
  rw [hN] at hs
  unfold tagP
  rw [hl, e, hs, if_neg (show ¬ ((0 : Int) = 6) by decide)]
theorem tg_eq (n : Nat) (h : Bool) (hn : n ≤ 500) : tgL n h = tagL (List.replicate n 0) 1 h ∧ (tgL n h).length = if h = true then n + 64 else n + 32 := by
  have he : apeE n 1 = 0 := by
    unfold apeE
    simp
    omega
  have e : tgL n h = tagL (List.replicate n 0) 1 h := by
    unfold tgL awL
    rw [List.length_replicate, if_pos he]
    rfl
  exact ⟨e, by rw [e, tagL_length, List.length_replicate]⟩
theorem ape_not_id (l : List UInt8) (h : hp l apeM = true) : hp l id3 = false := by
  unfold hp at h
  simp only [Bool.and_eq_true, beq_iff_eq] at h
  have h3 : l.take 3 = [65, 80, 69] := by
    have := congrArg (fun x : List UInt8 => x.take 3) h.2
    simpa [apeM, List.take_take] using this
  unfold hp
  rw [show id3.length = 3 from rfl, h3]
  simp [id3]
theorem tagP_tg (n : Nat) (hn : n ≤ 500) (r : List UInt8) : tagP (tgL n true ++ r) = (((tgL n true).length : Int), 0) := by
  obtain ⟨e, _⟩ := tg_eq n true hn
  have hf := front_tag (List.replicate n 0) r 1 (by rw [List.length_replicate]; omega) (by omega)
  have h6 : (sizP (tgL n true ++ r)).2 = 6 := by
    rw [siz_hp, e]
    refine ape_not_id _ ?_
    have ee : tagL (List.replicate n 0) 1 true ++ r = endL (List.replicate n (0 : UInt8)).length 1 2684354560 ++ (List.replicate n 0 ++ endL (List.replicate n (0 : UInt8)).length 1 2147483648 ++ r) := by simp [tagL, flN]
    rw [ee]
    exact end_hp _ _ _ _
  unfold tagP
  rw [if_pos h6, e, hf]
theorem bh_tg (n : Nat) (h : Bool) (hn : n ≤ 500) : bh (tgL n h) = some 1 := by
  obtain ⟨e, hl⟩ := tg_eq n h hn
  have hb := back_tag [] (List.replicate n 0) 1 h (by rw [List.length_replicate]; omega) (by omega)
  rw [List.nil_append, ← e] at hb
  rw [bh_step (tgL n h) (tgL n h).length (by rw [hb]) (by rw [hl]; split <;> omega) (Nat.le_refl _), Nat.sub_self, List.take_zero, bh_nil]
  rfl
/-- What stands behind the loop's rounds. -/
def Wrt (k : Nat) (all apes : List UInt8) (want : List Int) (x : Nat) : Prop :=
  (all.length ≤ 4000 → ∀ r, sq (all ++ r) 0 = want.map (fun y => (y, (0 : Int))) ++ sq (all ++ r) all.length) ∧ bh apes = some x ∧ all.length ≤ 564 * k ∧ apes.length ≤ 564 * k ∧ want.length ≤ k ∧ x ≤ k
theorem Wrt.start : Wrt 0 [] [] [] 0 := ⟨fun _ _ => rfl, rfl, Nat.le_refl _, Nat.le_refl _, Nat.le_refl _, Nat.le_refl _⟩
theorem wrt_more {all : List UInt8} {want : List Int} (t : List UInt8) (h : all.length ≤ 4000 → ∀ r, sq (all ++ r) 0 = want.map (fun y => (y, (0 : Int))) ++ sq (all ++ r) all.length)
    (ht : ∀ r, tagP (t ++ r) = ((t.length : Int), 0)) : (all ++ t).length ≤ 4000 → ∀ r, sq ((all ++ t) ++ r) 0 = (want ++ [(t.length : Int)]).map (fun y => (y, (0 : Int))) ++ sq ((all ++ t) ++ r) (all ++ t).length := by
  intro h4 r
  rw [List.length_append] at h4 ⊢
  have h1 := h (by omega) (t ++ r)
  rw [← List.append_assoc] at h1
  rw [h1, sq_next ((all ++ t) ++ r) all.length t.length (by rw [List.append_assoc, List.drop_left]; exact ht r) (by simp only [List.length_append]; omega) h4]
  simp
theorem Wrt.three {k : Nat} {all apes : List UInt8} {want : List Int} {x : Nat} (h : Wrt k all apes want x) (n : Nat) (hn : n ≤ 500) : Wrt (k + 1) (all ++ thL n) apes (want ++ [(n : Int) + 10]) x := by
  have hl := (frontP_th n hn []).2
  refine ⟨?_, h.2.1, by have := h.2.2.1; rw [List.length_append, hl]; omega, by have := h.2.2.2.1; omega, by have := h.2.2.2.2.1; simp; omega, by have := h.2.2.2.2.2; omega⟩
  have := wrt_more (thL n) h.1 (fun r => (frontP_th n hn r).1)
  rwa [hl, show ((n + 10 : Nat) : Int) = (n : Int) + 10 by omega] at this
theorem Wrt.ape {k : Nat} {all apes : List UInt8} {want : List Int} {x : Nat} (h : Wrt k all apes want x) (n : Nat) (b : Bool) (hn : n ≤ 500) : bh (apes ++ tgL n b) = some (x + 1) ∧ (apes ++ tgL n b).length ≤ 564 * (k + 1) := by
  have hl := (tg_eq n b hn).2
  refine ⟨bh_append apes x h.2.1 _ _ 1 (Nat.le_refl _) (bh_tg n b hn), ?_⟩
  have := h.2.2.2.1
  rw [List.length_append, hl]
  split <;> omega
theorem Wrt.foot {k : Nat} {all apes : List UInt8} {want : List Int} {x : Nat} (h : Wrt k all apes want x) (n : Nat) (hn : n ≤ 500) : Wrt (k + 1) all (apes ++ tgL n false) want (x + 1) := by
  obtain ⟨h1, h2⟩ := h.ape n false hn
  exact ⟨h.1, h1, by have := h.2.2.1; omega, h2, by have := h.2.2.2.2.1; omega, by have := h.2.2.2.2.2; omega⟩
theorem Wrt.both {k : Nat} {all apes : List UInt8} {want : List Int} {x : Nat} (h : Wrt k all apes want x) (n : Nat) (hn : n ≤ 500) : Wrt (k + 1) (all ++ tgL n true) (apes ++ tgL n true) (want ++ [(n : Int) + 64]) (x + 1) := by
  obtain ⟨h1, h2⟩ := h.ape n true hn
  have hl : (tgL n true).length = n + 64 := (tg_eq n true hn).2
  refine ⟨?_, h1, by have := h.2.2.1; rw [List.length_append, hl]; omega, h2, by have := h.2.2.2.2.1; simp; omega, by have := h.2.2.2.2.2; omega⟩
  have := wrt_more (tgL n true) h.1 (fun r => tagP_tg n hn r)
  rwa [hl, show ((n + 64 : Nat) : Int) = (n : Int) + 64 by omega] at this
theorem Wrt.front {k : Nat} {all apes : List UInt8} {want : List Int} {x : Nat} (h : Wrt k all apes want x) (h4 : all.length ≤ 4000) : frQ [all, tta].flatten want = true := by
  have e : [all, tta].flatten = all ++ tta := by simp
  have h1 := h.1 h4 tta
  rw [sq_end (all ++ tta) all.length (by simp) (by rw [List.drop_left]; exact tagP_tta), List.append_nil] at h1
  have h0 : sqE (sq (all ++ tta) 0) = 0 := by
    rw [h1]
    refine sqE_zero _ fun y hy => ?_
    obtain ⟨z, _, rfl⟩ := List.mem_map.1 hy
    rfl
  have hp : ptsL (all ++ tta) = want := by
    unfold ptsL
    rw [if_pos h0, h1, List.map_map]
    simp [Function.comp_def]
  unfold frQ
  rw [e, hp, show ptsE (all ++ tta) = 0 from h0]
  simp
theorem Wrt.behind {k : Nat} {all apes : List UInt8} {want : List Int} {x : Nat} (h : Wrt k all apes want x) (h4 : ¬ 4000 < apes.length) : bhQ apes (x : Int) = true := by
  unfold bhQ
  rw [bhP_some apes h4 x h.2.1, if_neg (by omega)]
  simp

/-- Three rows that grow, each in a block of its own. -/
structure Tri (w : World) (v1 v2 v3 : Value) (all apes : List UInt8) (want : List Int) (wr : World) : Prop where
  o1 : Owns wr w.heap.size v1 all
  o2 : Owns wr w.heap.size v2 apes
  o3 : IOwns wr w.heap.size v3 want
  ap : v1.ownBlock = none ∨ v1.ownBlock ≠ v2.ownBlock
  below : Below w.heap.size w wr
theorem kinds_apart {w : World} {B : Nat} {v1 v3 : Value} {l : List UInt8} {L : List Int} (h1 : Owns w B v1 l) (h3 : IOwns w B v3 L) : (v1.ownBlock = none ∨ v1.ownBlock ≠ v3.ownBlock) ∧ (v3.ownBlock = none ∨ v3.ownBlock ≠ v1.ownBlock) := by
  have hne : v1.ownBlock = none ∨ v1.ownBlock ≠ v3.ownBlock := by
    cases hb : v1.ownBlock with
    | none => exact .inl rfl
    | some g =>
      refine .inr fun he => ?_
      obtain ⟨c, z, e1⟩ := Lib.ownsRow_kind h1 g hb
      obtain ⟨c', z', e2⟩ := Lib.ownsRow_kind h3 g he.symm
      rw [e1] at e2
      injection e2 with e2
      injection e2 with _ e2 _
      exact absurd e2 (by decide)
  refine ⟨hne, ?_⟩
  cases hb : v3.ownBlock with
  | none => exact .inl rfl
  | some g =>
    refine .inr fun he => ?_
    rcases hne with h | h
    · rw [h] at he; cases he
    · exact h (by rw [← he, hb])
theorem Tri.start (w wr : World) (hb : Below w.heap.size w wr) : Tri w (.slice none 0 0) (.slice none 0 0) (.slice none 0 0) [] [] [] wr := ⟨Owns.nil _ _, Owns.nil _ _, IOwns.nil _ _, .inl rfl, hb⟩
theorem Tri.still {w wr w' : World} {v1 v2 v3 : Value} {all apes : List UInt8} {want : List Int} (h : Tri w v1 v2 v3 all apes want wr) (hb : Below wr.heap.size wr w') : Tri w v1 v2 v3 all apes want w' :=
  ⟨h.o1.below hb, h.o2.below hb, h.o3.below hb, h.ap, h.below.trans (hb.mono h.below.size)⟩
theorem Tri.all {w wr w' : World} {v1 v2 v3 v1' : Value} {all apes all' : List UInt8} {want : List Int} (h : Tri w v1 v2 v3 all apes want wr) (ho : Owns w' w.heap.size v1' all') (hg : wr.grownBy w' v1.ownBlock)
    (hv : v1'.ownBlock = v1.ownBlock ∨ v1'.ownBlock = some wr.heap.size) : Tri w v1' v2 v3 all' apes want w' := by
  have ap' : v2.ownBlock = none ∨ v2.ownBlock ≠ v1.ownBlock := by
    cases hb : v2.ownBlock with
    | none => exact .inl rfl
    | some g =>
      refine .inr fun he => ?_
      rcases h.ap with h | h
      · rw [h] at he; cases he
      · exact h (by rw [← he, hb])
  refine ⟨ho, h.o2.kept hg ap', World.ownsRow.kept h.o3 hg (kinds_apart h.o1 h.o3).2, ?_, below_append h.below h.o1 (Nat.le_refl _) hg⟩
  rcases hv with e | e
  · rw [e]; exact h.ap
  · refine .inr fun he => ?_
    rw [e] at he
    have := (World.ownsRow.lt h.o2 _ he.symm).2
    omega
theorem Tri.apes {w wr w' : World} {v1 v2 v3 v2' : Value} {all apes apes' : List UInt8} {want : List Int} (h : Tri w v1 v2 v3 all apes want wr) (ho : Owns w' w.heap.size v2' apes') (hg : wr.grownBy w' v2.ownBlock)
    (hv : v2'.ownBlock = v2.ownBlock ∨ v2'.ownBlock = some wr.heap.size) : Tri w v1 v2' v3 all apes' want w' := by
  refine ⟨h.o1.kept hg h.ap, ho, World.ownsRow.kept h.o3 hg (kinds_apart h.o2 h.o3).2, ?_, below_append h.below h.o2 (Nat.le_refl _) hg⟩
  rcases hv with e | e
  · rw [e]; exact h.ap
  · cases hb : v1.ownBlock with
    | none => exact .inl rfl
    | some g =>
      refine .inr fun he => ?_
      rw [e] at he
      injection he with he
      have := (World.ownsRow.lt h.o1 _ hb).2
      omega
theorem Tri.want {w wr w' : World} {v1 v2 v3 v3' : Value} {all apes : List UInt8} {want want' : List Int} (h : Tri w v1 v2 v3 all apes want wr) (ho : IOwns w' w.heap.size v3' want') (hg : wr.grownBy w' v3.ownBlock) :
    Tri w v1 v2 v3' all apes want' w' :=
  ⟨h.o1.kept hg (kinds_apart h.o1 h.o3).1, h.o2.kept hg (kinds_apart h.o2 h.o3).1, ho, h.ap, h.below.grown hg h.below.size (fun k hk => (World.ownsRow.lt h.o3 k hk).1)⟩
/-- Two slices in a row that is written out. -/
theorem srow2 (w : World) (A1 A2 : Option Addr) (k1 k2 : Nat) (l1 l2 : List UInt8) (t : TypeId) (h1 : BArg w A1 l1.length k1 l1) (h2 : BArg w A2 l2.length k2 l2) :
    SRow (w.alloc (.cells #[.slice A1 l1.length k1, .slice A2 l2.length k2] t)) w.heap.size 2 [l1, l2] := by
  refine ⟨rfl, by simp, fun i hi => ?_⟩
  have hb : Below w.heap.size w (w.alloc (.cells #[.slice A1 l1.length k1, .slice A2 l2.length k2] t)) := (Below.refl _ _).alloc (Nat.le_refl _) _
  match i, hi with
  | 0, _ => exact ⟨A1, k1, by rw [World.cell?_alloc_at _ _ _ _ rfl]; rfl, h1.below hb⟩
  | 1, _ => exact ⟨A2, k2, by rw [World.cell?_alloc_at _ _ _ _ rfl]; rfl, h2.below hb⟩
end Go.Proofs.Ytgdchcaglkeghaa
