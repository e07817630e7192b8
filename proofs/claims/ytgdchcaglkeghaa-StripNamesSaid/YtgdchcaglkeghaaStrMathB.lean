/- Plain laws of layer 30: a tag does not depend on what is behind it, nor on what is in front of one that is read from behind. -/
import Derived.Test.YtgdchcaglkeghaaStrMath
namespace Go.Proofs.Ytgdchcaglkeghaa
open Go.RowKit

theorem pair_no {a b c d : Int} {p : Prop} (h : (a, b) = (c, d)) (hn : b ≠ d) : p := absurd (congrArg Prod.snd h) hn
theorem hp_take (l l' r : List UInt8) (n : Nat) (hr : r.length ≤ n) (h : l.take n = l'.take n) (h1 : n ≤ l.length) (h2 : n ≤ l'.length) : hp l' r = hp l r := by
  unfold hp
  have e : l.take r.length = l'.take r.length := by
    have := congrArg (fun x : List UInt8 => x.take r.length) h
    simpa [List.take_take, Nat.min_eq_left hr] using this
  rw [e, decide_eq_true (show r.length ≤ l.length by omega), decide_eq_true (show r.length ≤ l'.length by omega)]
theorem take_less (l l' : List UInt8) (n k : Nat) (hk : k ≤ n) (h : l.take n = l'.take n) : l'.take k = l.take k := by
  have := congrArg (fun x : List UInt8 => x.take k) h
  simp only [List.take_take, Nat.min_eq_left hk] at this
  exact this.symm
theorem getD_take (l l' : List UInt8) (n i : Nat) (hi : i < n) (h : l.take n = l'.take n) : l'.getD i 0 = l.getD i 0 := by
  have := congrArg (fun x : List UInt8 => x[i]?) h
  simp only [List.getElem?_take, if_pos hi] at this
  rw [List.getD_eq_getElem?_getD, List.getD_eq_getElem?_getD, this]
theorem siz_hp (l : List UInt8) : (sizP l).2 = 6 ↔ hp l id3 = false := by
  constructor
  · intro h
    cases hq : hp l id3 with
    | false => rfl
    | true =>
      exfalso
      unfold sizP at h
      rw [if_neg (by rw [hq]; simp)] at h
      repeat' split at h
      all_goals (dsimp only at h; omega)
  · intro h
    unfold sizP; rw [if_pos h]
theorem front_hp (l : List UInt8) : (frontP l).2 = 6 ↔ hp l apeM = false := by
  constructor
  · intro h
    cases hq : hp l apeM with
    | false => rfl
    | true =>
      exfalso
      unfold frontP at h
      rw [if_neg (by rw [hq]; simp)] at h
      repeat' split at h
      all_goals (dsimp only at h; omega)
  · intro h
    unfold frontP; rw [if_pos h]
/-- Do bytes begin as a tag does? -/
def begB (l : List UInt8) : Bool := hp l id3 || hp l apeM
theorem tag_beg (l : List UInt8) : (tagP l).2 = 6 ↔ begB l = false := by
  unfold tagP begB
  rw [Bool.or_eq_false_iff, ← siz_hp, ← front_hp]
  split
  · rename_i h; simp [h]
  · rename_i h; simp [h]
theorem siz_local (l l' : List UInt8) (n : Nat) (h : sizP l = ((n : Int), 0)) (ht : l.take n = l'.take n) (hn : n ≤ l'.length) : sizP l' = ((n : Int), 0) := by
  have h10 : 10 ≤ n ∧ n ≤ l.length := by
    rcases siz_cases l with ⟨m, e, h1, h2, _⟩ | ⟨e, he, h1, _⟩
    · rw [e] at h; injection h with h3 _; omega
    · rw [he] at h; injection h with _ h3; omega
  obtain ⟨h10, hnl⟩ := h10
  have e10 := take_less l l' n 10 h10 ht
  have e3 := getD_take l l' n 3 (by omega) ht
  have e4 := getD_take l l' n 4 (by omega) ht
  have e5 := getD_take l l' n 5 (by omega) ht
  have eh : hp l' id3 = hp l id3 := hp_take l l' id3 n (by show 3 ≤ n; omega) ht hnl hn
  have eN : headN l' = headN l := by unfold headN; rw [e10, e5]
  have eB : headB l' = headB l := by unfold headB; rw [e10, e3, e4, e5]
  have key : headN l = n ∨ ¬ (sizP l = ((n : Int), 0)) := by
    by_cases hk : headN l = n
    · exact .inl hk
    · right
      intro h
      unfold sizP at h
      repeat' split at h
      all_goals (injection h with h1 h2; first | exact absurd h2 (by decide) | omega)
  have hN : headN l = n := by
    rcases key with k | k
    · exact k
    · exact absurd h k
  have eF : footB l' (headN l) = footB l (headN l) := by unfold footB; rw [hN, ← ht, e10]
  unfold sizP at h ⊢
  rw [eh, eN, eB, e5, eF]
  rw [hN] at h ⊢
  by_cases c1 : hp l id3 = false
  · rw [if_pos c1] at h; exact pair_no h (by decide)
  rw [if_neg c1] at h ⊢
  rw [if_neg (show ¬ l'.length < 10 by omega)]
  rw [if_neg (show ¬ l.length < 10 by omega)] at h
  by_cases c2 : headB l = false
  · rw [if_pos c2] at h; exact pair_no h (by decide)
  rw [if_neg c2] at h ⊢
  by_cases c3 : 4000 < n
  · rw [if_pos c3] at h; exact pair_no h (by decide)
  rw [if_neg c3] at h ⊢
  rw [if_neg (show ¬ l'.length < n by omega)]
  rw [if_neg (show ¬ l.length < n by omega)] at h
  exact h
theorem front_local (l l' : List UInt8) (n : Nat) (h : frontP l = ((n : Int), 0)) (ht : l.take n = l'.take n) (hn : n ≤ l'.length) : frontP l' = ((n : Int), 0) := by
  unfold frontP at h
  by_cases c1 : hp l apeM = false
  · rw [if_pos c1] at h; exact pair_no h (by decide)
  rw [if_neg c1] at h
  by_cases c2 : l.length < 32
  · rw [if_pos c2] at h; exact pair_no h (by decide)
  rw [if_neg c2] at h
  by_cases c3 : tOk (l.take 32) 2684354560 = false
  · rw [if_pos c3] at h; exact pair_no h (by decide)
  rw [if_neg c3] at h
  by_cases c4 : l.length < tN (l.take 32) + 64
  · rw [if_pos c4] at h; exact pair_no h (by decide)
  rw [if_neg c4] at h
  by_cases c5 : ((l.take (tN (l.take 32) + 64)).drop (tN (l.take 32) + 32) == endL (tN (l.take 32)) (tC (l.take 32)) 2147483648) = false
  · rw [if_pos c5] at h; exact pair_no h (by decide)
  rw [if_neg c5] at h
  have hN : tN (l.take 32) + 64 = n := by injection h with h1 _; omega
  have e32 := take_less l l' n 32 (by omega) ht
  have eh : hp l' apeM = hp l apeM := hp_take l l' apeM n (by show 8 ≤ n; omega) ht (by omega) hn
  unfold frontP
  rw [eh, e32, hN, ← ht, if_neg c1, if_neg (by omega), if_neg c3, if_neg (by omega)]
  rw [hN] at c5
  rw [if_neg c5]
theorem tag_local (l l' : List UInt8) (n : Nat) (h : tagP l = ((n : Int), 0)) (ht : l.take n = l'.take n) (hn : n ≤ l'.length) : tagP l' = ((n : Int), 0) := by
  have h10 : 10 ≤ n ∧ n ≤ l.length := by
    rcases tag_cases l with ⟨m, e, h1, h2, _⟩ | ⟨e, he, h1, _⟩
    · rw [e] at h; injection h with h3 _; omega
    · rw [he] at h; injection h with _ h3; omega
  have eh : hp l' id3 = hp l id3 := hp_take l l' id3 n (by show 3 ≤ n; omega) ht h10.2 hn
  unfold tagP at h ⊢
  by_cases h6 : (sizP l).2 = 6
  · rw [if_pos h6] at h
    rw [if_pos ((siz_hp l').2 (eh.trans ((siz_hp l).1 h6)))]
    exact front_local l l' n h ht hn
  · rw [if_neg h6] at h
    have := siz_local l l' n h ht hn
    rw [this, if_neg (show ¬ ((0 : Int) = 6) by decide)]
theorem back_local (l o : List UInt8) (n : Nat) (h : backP l = ((n : Int), 0)) : backP (o ++ l) = ((n : Int), 0) := by
  unfold backP at h ⊢
  by_cases c1 : l.length < 32
  · rw [if_pos c1] at h; exact pair_no h (by decide)
  rw [if_neg c1] at h
  have el : (o ++ l).length = o.length + l.length := by simp
  have eL : (o ++ l).drop ((o ++ l).length - 32) = l.drop (l.length - 32) := by
    rw [el, show o.length + l.length - 32 = o.length + (l.length - 32) by omega, ← List.drop_drop, List.drop_left]
  rw [if_neg (by omega), eL]
  generalize l.drop (l.length - 32) = L at h ⊢
  unfold backQ at h ⊢
  by_cases c2 : hp L apeM = false
  · rw [if_pos c2] at h; exact pair_no h (by decide)
  rw [if_neg c2] at h ⊢
  by_cases c3 : tOk L 0 = true
  · rw [if_pos c3] at h ⊢
    by_cases c4 : l.length < tN L + 32
    · rw [if_pos c4] at h; exact pair_no h (by decide)
    · rw [if_neg c4] at h
      rw [if_neg (by omega)]
      exact h
  rw [if_neg c3] at h ⊢
  by_cases c4 : tOk L 2147483648 = false
  · rw [if_pos c4] at h; exact pair_no h (by decide)
  rw [if_neg c4] at h ⊢
  by_cases c5 : l.length < tN L + 64
  · rw [if_pos c5] at h; exact pair_no h (by decide)
  rw [if_neg c5] at h
  rw [if_neg (by omega)]
  have ek : ((o ++ l).take ((o ++ l).length - (tN L + 64) + 32)).drop ((o ++ l).length - (tN L + 64)) = (l.take (l.length - (tN L + 64) + 32)).drop (l.length - (tN L + 64)) := by
    rw [el, show o.length + l.length - (tN L + 64) + 32 = o.length + (l.length - (tN L + 64) + 32) by omega, show o.length + l.length - (tN L + 64) = o.length + (l.length - (tN L + 64)) by omega, List.take_append, List.take_of_length_le (by omega), show o.length + (l.length - (tN L + 64) + 32) - o.length = l.length - (tN L + 64) + 32 by omega, ← List.drop_drop, List.drop_left]
  rw [ek]
  exact h
/-- Tags behind tags, from behind. -/
theorem bh_append (a : List UInt8) (n : Nat) (ha : bh a = some n) : ∀ (k : Nat) (b : List UInt8) (m : Nat), b.length ≤ k → bh b = some m → bh (a ++ b) = some (n + m) := by
  intro k
  induction k with
  | zero =>
    intro b m hk hb
    obtain rfl : b = [] := List.length_eq_zero_iff.1 (by omega)
    rw [bh_nil] at hb
    injection hb with hb
    subst hb
    rw [List.append_nil]
    exact ha
  | succ k ih =>
    intro b m hk hb
    by_cases h0 : b.length = 0
    · obtain rfl : b = [] := List.length_eq_zero_iff.1 h0
      rw [bh_nil] at hb
      injection hb with hb
      subst hb
      rw [List.append_nil]
      exact ha
    · rcases back_cases b with ⟨q, e, h1, h2⟩ | ⟨e, he, _⟩
      · have e' := back_local b a q e
        rw [bh_step b q (by rw [e]) h1 h2] at hb
        rw [bh_step (a ++ b) q (by rw [e']) h1 (by simp; omega)]
        cases hc : bh (b.take (b.length - q)) with
        | none => rw [hc] at hb; cases hb
        | some c =>
          rw [hc] at hb
          have hb : c + 1 = m := by simpa using hb
          have e2 : (a ++ b).take ((a ++ b).length - q) = a ++ b.take (b.length - q) := by
            rw [List.length_append, List.take_append, List.take_of_length_le (by omega)]
            congr 2
            omega
          rw [e2, ih _ c (by simp; omega) hc]
          show some (n + c + 1) = _
          congr 1
          omega
      · rw [bh_none b h0 (by rw [he])] at hb
        cases hb
/-- What is handed out up to the end of the tags does not depend on what is behind. -/
theorem sq_walk (l l' : List UInt8) : ∀ (k p N : Nat), l.length - p ≤ k → p ≤ l.length → p ≤ 4000 → sqE (sq l p) = 0 → (p : Int) + sumL ((sq l p).map (·.1)) = (N : Int) → l.take N = l'.take N → N ≤ l'.length → sq l' p = sq l p ++ sq l' N := by
  intro k
  induction k with
  | zero =>
    intro p N hk hp hm h0 hN ht hl
    rcases tag_cases (l.drop p) with ⟨n, e, h10, hn, _⟩ | ⟨e, he, h1, h2⟩
    · have hd : (l.drop p).length = l.length - p := by simp
      omega
    · by_cases h6 : e = 6
      · subst h6
        have hs := sq_end l p hp (by rw [he])
        rw [hs] at hN ⊢
        have : N = p := by simp [sumL] at hN; omega
        subst this
        rfl
      · rw [sq_bad l p hp e he h6 (by omega)] at h0
        exfalso
        have : sqE [((0 : Int), e)] = e := by unfold sqE; simp [show (e == 0) = false from beq_eq_false_iff_ne.2 (by omega), bne]
        omega
  | succ k ih =>
    intro p N hk hp hm h0 hN ht hl
    rcases tag_cases (l.drop p) with ⟨n, e, h10, hn, _⟩ | ⟨e, he, h1, h2⟩
    · have hd : (l.drop p).length = l.length - p := by simp
      by_cases h4 : 4000 < p + n
      · rw [sq_many l p hp n e h4] at h0
        exact absurd h0 (by simp [sqE])
      · have hs := sq_next l p n e (by omega) (by omega)
        rw [hs] at h0 hN ⊢
        have h0' : sqE (sq l (p + n)) = 0 := by
          unfold sqE at h0 ⊢
          simpa using h0
        obtain ⟨m, hm1, hm2, hm3, _, _⟩ := sq_sum l k (p + n) (by omega) (by omega) (by omega) h0'
        have hN' : ((p + n : Nat) : Int) + sumL ((sq l (p + n)).map (·.1)) = (N : Int) := by
          have gen : ∀ (L : List Int) (a : Int), L.foldl (· + ·) a = a + L.foldl (· + ·) 0 := by
            intro L
            induction L with
            | nil => intro a; simp
            | cons x L ihL => intro a; rw [List.foldl_cons, List.foldl_cons, ihL, ihL (0 + x)]; omega
          unfold sumL at hN ⊢
          rw [List.map_cons, List.foldl_cons, gen] at hN
          rw [← hN]
          simp
          omega
        have hNn : p + n ≤ N := by rw [hm1] at hN'; omega
        have e' : tagP (l'.drop p) = ((n : Int), 0) := by
          refine tag_local (l.drop p) (l'.drop p) n e ?_ (by simp; omega)
          have := take_less l l' N (p + n) hNn ht
          have tk : ∀ x : List UInt8, (x.drop p).take n = (x.take (p + n)).drop p := fun x => by rw [List.drop_take, Nat.add_sub_cancel_left]
          rw [tk, tk, this]
        rw [sq_next l' p n e' (by omega) (by omega), ih (p + n) N (by omega) (by omega) (by omega) h0' hN' ht hl]
        rfl
    · by_cases h6 : e = 6
      · subst h6
        have hs := sq_end l p hp (by rw [he])
        rw [hs] at hN ⊢
        have : N = p := by simp [sumL] at hN; omega
        subst this
        rfl
      · rw [sq_bad l p hp e he h6 (by omega)] at h0
        exfalso
        have : sqE [((0 : Int), e)] = e := by unfold sqE; simp [show (e == 0) = false from beq_eq_false_iff_ne.2 (by omega), bne]
        omega
end Go.Proofs.Ytgdchcaglkeghaa
