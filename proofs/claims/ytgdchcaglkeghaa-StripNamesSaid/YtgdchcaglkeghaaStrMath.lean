/- Plain laws of layer 30: the tags in front of bytes, and behind. -/
import Derived.Test.YtgdchcaglkeghaaIdSize
import Derived.Test.YtgdchcaglkeghaaApeFront
import Derived.Test.YtgdchcaglkeghaaApeBack
namespace Go.Proofs.Ytgdchcaglkeghaa
open Go.RowKit

/-- What size answers. -/
def tagP (l : List UInt8) : Int × Int := if (sizP l).2 = 6 then frontP l else sizP l
theorem siz_cases (l : List UInt8) : (∃ n : Nat, sizP l = ((n : Int), 0) ∧ 10 ≤ n ∧ n ≤ l.length ∧ n ≤ 4000) ∨ (∃ e : Int, sizP l = (0, e) ∧ 0 < e ∧ e < 25) := by
  unfold sizP
  repeat' split
  all_goals first
    | exact .inr ⟨_, rfl, by decide, by decide⟩
    | (refine .inl ⟨_, rfl, ?_, ?_, ?_⟩
       · unfold headN; omega
       · omega
       · omega)
theorem front_cases (l : List UInt8) : (∃ n : Nat, frontP l = ((n : Int), 0) ∧ 10 ≤ n ∧ n ≤ l.length ∧ n ≤ 4000) ∨ (∃ e : Int, frontP l = (0, e) ∧ 0 < e ∧ e < 25) := by
  unfold frontP
  repeat' split
  all_goals first
    | exact .inr ⟨_, rfl, by decide, by decide⟩
    | (have := tN_le (l.take 32)
       refine .inl ⟨_, rfl, ?_, ?_, ?_⟩ <;> omega)
theorem tag_cases (l : List UInt8) : (∃ n : Nat, tagP l = ((n : Int), 0) ∧ 10 ≤ n ∧ n ≤ l.length ∧ n ≤ 4000) ∨ (∃ e : Int, tagP l = (0, e) ∧ 0 < e ∧ e < 25) := by
  unfold tagP
  split
  · exact front_cases l
  · exact siz_cases l
theorem back_cases (l : List UInt8) : (∃ n : Nat, backP l = ((n : Int), 0) ∧ 32 ≤ n ∧ n ≤ l.length) ∨ (∃ e : Int, backP l = (0, e) ∧ 0 < e ∧ e < 25) := by
  unfold backP backQ
  repeat' split
  all_goals first
    | exact .inr ⟨_, rfl, by decide, by decide⟩
    | (refine .inl ⟨_, rfl, ?_, ?_⟩ <;> omega)

/-- How many tags bytes are, from behind: none where they are none. -/
def bhF : Nat → List UInt8 → Option Nat
  | 0, l => if l.length = 0 then some 0 else none
  | f + 1, l => if l.length = 0 then some 0 else if (backP l).1 = 0 then none else (bhF f (l.take (l.length - (backP l).1.toNat))).map (· + 1)
def bh (l : List UInt8) : Option Nat := bhF l.length l
theorem bhF_more (f : Nat) : ∀ (g : Nat) (l : List UInt8), l.length ≤ f → l.length ≤ g → bhF f l = bhF g l := by
  induction f with
  | zero =>
    intro g l h1 h2
    have h0 : l.length = 0 := by omega
    cases g with
    | zero => rfl
    | succ g => unfold bhF; rw [if_pos h0, if_pos h0]
  | succ f ih =>
    intro g l h1 h2
    cases g with
    | zero =>
      have h0 : l.length = 0 := by omega
      unfold bhF; rw [if_pos h0, if_pos h0]
    | succ g =>
      unfold bhF
      by_cases h0 : l.length = 0
      · rw [if_pos h0, if_pos h0]
      · rw [if_neg h0, if_neg h0]
        by_cases hb : (backP l).1 = 0
        · rw [if_pos hb, if_pos hb]
        · rw [if_neg hb, if_neg hb]
          rcases back_cases l with ⟨n, e, h3, h4⟩ | ⟨e, he, _⟩
          · rw [e]
            have hl : (l.take (l.length - n)).length = l.length - n := by simp
            rw [show ((n : Int), (0 : Int)).1.toNat = n from rfl, ih g _ (by omega) (by omega)]
          · rw [he] at hb; exact absurd rfl hb
theorem bh_nil : bh [] = some 0 := rfl
theorem bh_none (l : List UInt8) (h : l.length ≠ 0) (hb : (backP l).1 = 0) : bh l = none := by
  unfold bh
  cases hl : l.length with
  | zero => exact absurd hl h
  | succ f => unfold bhF; rw [if_neg h, if_pos hb]
theorem bh_step (l : List UInt8) (n : Nat) (hb : (backP l).1 = (n : Int)) (h32 : 32 ≤ n) (hn : n ≤ l.length) : bh l = (bh (l.take (l.length - n))).map (· + 1) := by
  have h0 : l.length ≠ 0 := by omega
  have hl : (l.take (l.length - n)).length = l.length - n := by simp
  have e : bh l = bhF (l.length - 1 + 1) l := bhF_more _ _ _ (Nat.le_refl _) (by omega)
  rw [e]
  unfold bhF
  rw [if_neg h0, if_neg (by rw [hb]; omega), hb, show (n : Int).toNat = n from rfl]
  unfold bh
  rw [bhF_more (l.length - 1) (l.take (l.length - n)).length _ (by omega) (Nat.le_refl _)]
/-- What Behind answers. -/
def bhP (l : List UInt8) : Int × Int := if 4000 < l.length then (0, 38) else match bh l with | some k => ((k : Int), 0) | none => (0, 38)
theorem bhP_long (l : List UInt8) (h : 4000 < l.length) : bhP l = (0, 38) := by unfold bhP; rw [if_pos h]
theorem bhP_none (l : List UInt8) (h : bh l = none) : bhP l = (0, 38) := by unfold bhP; rw [h]; split <;> rfl
theorem bhP_some (l : List UInt8) (h : ¬ 4000 < l.length) (k : Nat) (hk : bh l = some k) : bhP l = ((k : Int), 0) := by unfold bhP; rw [if_neg h, hk]

/-- What tags hands out, from an index on. -/
def sqF : Nat → List UInt8 → Nat → List (Int × Int)
  | 0, _, _ => []
  | f + 1, l, p => if (tagP (l.drop p)).2 = 6 then [] else if (tagP (l.drop p)).2 ≠ 0 then [tagP (l.drop p)]
    else if 4000 < p + (tagP (l.drop p)).1.toNat then [((tagP (l.drop p)).1, 4)] else tagP (l.drop p) :: sqF f l (p + (tagP (l.drop p)).1.toNat)
def sq (l : List UInt8) (p : Nat) : List (Int × Int) := sqF (l.length + 1 - p) l p
theorem sqF_more (f : Nat) : ∀ (g : Nat) (l : List UInt8) (p : Nat), l.length + 1 ≤ f + p → l.length + 1 ≤ g + p → p ≤ l.length → sqF f l p = sqF g l p := by
  induction f with
  | zero => intro g l p h1 h2 h3; omega
  | succ f ih =>
    intro g l p h1 h2 h3
    cases g with
    | zero => omega
    | succ g =>
      unfold sqF
      rcases tag_cases (l.drop p) with ⟨n, e, h10, hn, _⟩ | ⟨e, he, _, _⟩
      · rw [e]
        have hd : (l.drop p).length = l.length - p := by simp
        rw [show ((n : Int), (0 : Int)).1.toNat = n from rfl, ih g l (p + n) (by omega) (by omega) (by omega)]
      · rw [he]
        by_cases h6 : e = 6
        · subst h6; rfl
        · rw [if_neg h6, if_neg h6, if_pos (by show ¬ e = 0; omega), if_pos (by show ¬ e = 0; omega)]
theorem sq_end (l : List UInt8) (p : Nat) (hp : p ≤ l.length) (h : (tagP (l.drop p)).2 = 6) : sq l p = [] := by
  unfold sq
  rw [sqF_more _ (l.length - p + 1) l p (by omega) (by omega) hp]
  unfold sqF
  rw [if_pos h]
theorem sq_bad (l : List UInt8) (p : Nat) (hp : p ≤ l.length) (e : Int) (h : tagP (l.drop p) = (0, e)) (h6 : e ≠ 6) (h0 : e ≠ 0) : sq l p = [(0, e)] := by
  unfold sq
  rw [sqF_more _ (l.length - p + 1) l p (by omega) (by omega) hp]
  unfold sqF
  rw [h, if_neg h6, if_pos h0]
theorem sq_many (l : List UInt8) (p : Nat) (hp : p ≤ l.length) (n : Nat) (h : tagP (l.drop p) = ((n : Int), 0)) (hm : 4000 < p + n) : sq l p = [((n : Int), 4)] := by
  unfold sq
  rw [sqF_more _ (l.length - p + 1) l p (by omega) (by omega) hp]
  unfold sqF
  rw [h, if_neg (show ¬ ((0 : Int) = 6) by decide), if_neg (by simp), if_pos (by simpa using hm)]
theorem sq_next (l : List UInt8) (p : Nat) (n : Nat) (h : tagP (l.drop p) = ((n : Int), 0)) (hn : p + n ≤ l.length) (hm : p + n ≤ 4000) : sq l p = ((n : Int), 0) :: sq l (p + n) := by
  unfold sq
  rw [sqF_more _ (l.length - p + 1) l p (by omega) (by omega) (by omega)]
  conv => lhs; unfold sqF
  rw [h, if_neg (show ¬ ((0 : Int) = 6) by decide), if_neg (by simp), if_neg (by simpa using hm), show ((n : Int), (0 : Int)).1.toNat = n from rfl]
  congr 1
  rcases tag_cases (l.drop p) with ⟨m, e, h10, hm', _⟩ | ⟨e, he, _, _⟩
  · rw [e] at h
    have hd : (l.drop p).length = l.length - p := by simp
    injection h with h1 h2
    exact sqF_more _ _ l (p + n) (by omega) (by omega) hn
  · rw [he] at h
    injection h with h1 h2
    omega
/-- The error of what is handed out. -/
def sqE (L : List (Int × Int)) : Int := ((L.find? fun x => x.2 != 0).map (·.2)).getD 0
theorem sqE_nil : sqE [] = 0 := rfl
theorem sqE_zero (L : List (Int × Int)) (h : ∀ x ∈ L, x.2 = 0) : sqE L = 0 := by
  unfold sqE
  rw [List.find?_eq_none.2 (fun x hx => by simp [h x hx])]
  rfl
theorem sqE_hit (L M : List (Int × Int)) (x : Int × Int) (h : ∀ y ∈ L, y.2 = 0) (hx : x.2 ≠ 0) : sqE (L ++ [x] ++ M) = x.2 := by
  unfold sqE
  rw [List.append_assoc, List.find?_append, List.find?_eq_none.2 (fun y hy => by simp [h y hy])]
  simp [hx]
/-- What Parts, what Front answers. -/
def ptsL (l : List UInt8) : List Int := if sqE (sq l 0) = 0 then (sq l 0).map (·.1) else []
def ptsE (l : List UInt8) : Int := sqE (sq l 0)
def sumL (L : List Int) : Int := L.foldl (· + ·) 0
theorem sumL_snoc (L : List Int) (x : Int) : sumL (L ++ [x]) = sumL L + x := by simp [sumL]
/-- The sum of what is handed out grows with the index. -/
theorem sq_sum (l : List UInt8) : ∀ (k p : Nat), l.length - p ≤ k → p ≤ l.length → p ≤ 4000 → sqE (sq l p) = 0 → ∃ n : Nat, sumL ((sq l p).map (·.1)) = (n : Int) ∧ p + n ≤ l.length ∧ p + n ≤ 4000 ∧ (∀ x ∈ sq l p, x.2 = 0 ∧ 10 ≤ x.1) ∧ (tagP (l.drop (p + n))).2 = 6 := by
  intro k
  induction k with
  | zero =>
    intro p hk hp hm h0
    rcases tag_cases (l.drop p) with ⟨n, e, h10, hn, _⟩ | ⟨e, he, h1, h2⟩
    · have hd : (l.drop p).length = l.length - p := by simp
      omega
    · by_cases h6 : e = 6
      · subst h6
        rw [sq_end l p hp (by rw [he])]
        exact ⟨0, rfl, by omega, by omega, (fun x hx => by cases hx), by rw [Nat.add_zero, he]⟩
      · rw [sq_bad l p hp e he h6 (by omega)] at h0
        exfalso
        have : sqE [((0 : Int), e)] = e := by unfold sqE; simp [show (e == 0) = false from beq_eq_false_iff_ne.2 (by omega), bne]
        omega
  | succ k ih =>
    intro p hk hp hm h0
    rcases tag_cases (l.drop p) with ⟨n, e, h10, hn, _⟩ | ⟨e, he, h1, h2⟩
    · have hd : (l.drop p).length = l.length - p := by simp
      by_cases h4 : 4000 < p + n
      · rw [sq_many l p hp n e h4] at h0
        exact absurd h0 (by simp [sqE])
      · have hs := sq_next l p n e (by omega) (by omega)
        rw [hs] at h0 ⊢
        have h0' : sqE (sq l (p + n)) = 0 := by
          unfold sqE at h0 ⊢
          simpa using h0
        obtain ⟨m, hm1, hm2, hm3, hm4, hm5⟩ := ih (p + n) (by omega) (by omega) (by omega) h0'
        refine ⟨n + m, ?_, by omega, by omega, ?_, by rw [← Nat.add_assoc]; exact hm5⟩
        · have gen : ∀ (L : List Int) (a : Int), L.foldl (· + ·) a = a + L.foldl (· + ·) 0 := by
            intro L
            induction L with
            | nil => intro a; simp
            | cons x L ihL => intro a; rw [List.foldl_cons, List.foldl_cons, ihL, ihL (0 + x)]; omega
          unfold sumL at hm1 ⊢
          rw [List.map_cons, List.foldl_cons, gen, hm1]
          simp
        · intro x hx
          rcases List.mem_cons.1 hx with rfl | hx
          · exact ⟨rfl, by show (10 : Int) ≤ (n : Int); omega⟩
          · exact hm4 x hx
    · by_cases h6 : e = 6
      · subst h6
        rw [sq_end l p hp (by rw [he])]
        exact ⟨0, rfl, by omega, by omega, (fun x hx => by cases hx), by rw [Nat.add_zero, he]⟩
      · rw [sq_bad l p hp e he h6 (by omega)] at h0
        exfalso
        have : sqE [((0 : Int), e)] = e := by unfold sqE; simp [show (e == 0) = false from beq_eq_false_iff_ne.2 (by omega), bne]
        omega
end Go.Proofs.Ytgdchcaglkeghaa
