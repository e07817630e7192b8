/- Plain laws of layer 30: tags behind tags, in front. -/
import Derived.Test.YtgdchcaglkeghaaStrMathB
namespace Go.Proofs.Ytgdchcaglkeghaa
open Go.RowKit

theorem foldl_gen (L : List Int) : ∀ a : Int, L.foldl (· + ·) a = a + L.foldl (· + ·) 0 := by
  induction L with
  | nil => intro a; simp
  | cons x L ihL => intro a; rw [List.foldl_cons, List.foldl_cons, ihL, ihL (0 + x)]; omega
theorem sumL_cons (x : Int) (L : List Int) : sumL (x :: L) = x + sumL L := by
  unfold sumL
  rw [List.foldl_cons, foldl_gen]
  omega
theorem sumL_append (L M : List Int) : sumL (L ++ M) = sumL L + sumL M := by
  unfold sumL
  rw [List.foldl_append, foldl_gen]
theorem sqE_cons0 (x : Int) (L : List (Int × Int)) : sqE ((x, 0) :: L) = sqE L := by
  unfold sqE
  simp
theorem sqE_append0 (L M : List (Int × Int)) (hz : ∀ x ∈ L, x.2 = 0) : sqE (L ++ M) = sqE M := by
  unfold sqE
  rw [List.find?_append, List.find?_eq_none.2 (fun y hy => by simp [hz y hy])]
  rfl
theorem drop_app (a b : List UInt8) (q : Nat) : (a ++ b).drop (a.length + q) = b.drop q := by
  rw [← List.drop_drop, List.drop_left]
theorem sq_shift (a b : List UInt8) : ∀ (k q : Nat), b.length - q ≤ k → q ≤ b.length → q ≤ 4000 → a.length + q ≤ 4000 → sqE (sq b q) = 0 →
    ((a.length : Int) + q + sumL ((sq b q).map (·.1)) ≤ 4000 → sq (a ++ b) (a.length + q) = sq b q) ∧ (4000 < (a.length : Int) + q + sumL ((sq b q).map (·.1)) → sqE (sq (a ++ b) (a.length + q)) = 4) := by
  intro k
  induction k with
  | zero =>
    intro q hk hp hm hm2 h0
    have hdr := drop_app a b q
    rcases tag_cases (b.drop q) with ⟨n, e, h10, hn, _⟩ | ⟨e, he, h1, h2⟩
    · have hd : (b.drop q).length = b.length - q := by simp
      omega
    · by_cases h6 : e = 6
      · subst h6
        rw [sq_end b q hp (by rw [he]), sq_end (a ++ b) (a.length + q) (by simp; omega) (by rw [hdr, he])]
        refine ⟨fun _ => rfl, fun h => ?_⟩
        simp [sumL] at h
        omega
      · rw [sq_bad b q hp e he h6 (by omega)] at h0
        exfalso
        have : sqE [((0 : Int), e)] = e := by unfold sqE; simp [show (e == 0) = false from beq_eq_false_iff_ne.2 (by omega), bne]
        omega
  | succ k ih =>
    intro q hk hp hm hm2 h0
    have hdr := drop_app a b q
    rcases tag_cases (b.drop q) with ⟨n, e, h10, hn, _⟩ | ⟨e, he, h1, h2⟩
    · have hd : (b.drop q).length = b.length - q := by simp
      by_cases h4 : 4000 < q + n
      · rw [sq_many b q hp n e h4] at h0
        exact absurd h0 (by simp [sqE])
      · have hs := sq_next b q n e (by omega) (by omega)
        rw [hs] at h0 ⊢
        rw [sqE_cons0] at h0
        rw [List.map_cons, sumL_cons]
        obtain ⟨m, hm1, _, _, _, _⟩ := sq_sum b k (q + n) (by omega) (by omega) (by omega) h0
        by_cases h5 : 4000 < a.length + q + n
        · rw [sq_many (a ++ b) (a.length + q) (by simp; omega) n (by rw [hdr, e]) h5]
          rw [hm1]
          refine ⟨fun h => ?_, fun _ => by simp [sqE]⟩
          exfalso
          simp only at h
          omega
        · obtain ⟨i1, i2⟩ := ih (q + n) (by omega) (by omega) (by omega) (by omega) h0
          rw [sq_next (a ++ b) (a.length + q) n (by rw [hdr, e]) (by simp; omega) (by omega), Nat.add_assoc, sqE_cons0]
          rw [hm1] at i1 i2 ⊢
          refine ⟨fun h => ?_, fun h => ?_⟩
          · rw [i1 (by simp only at h; push_cast; omega)]
          · exact i2 (by simp only at h; push_cast; omega)
    · by_cases h6 : e = 6
      · subst h6
        rw [sq_end b q hp (by rw [he]), sq_end (a ++ b) (a.length + q) (by simp; omega) (by rw [hdr, he])]
        refine ⟨fun _ => rfl, fun h => ?_⟩
        simp [sumL] at h
        omega
      · rw [sq_bad b q hp e he h6 (by omega)] at h0
        exfalso
        have : sqE [((0 : Int), e)] = e := by unfold sqE; simp [show (e == 0) = false from beq_eq_false_iff_ne.2 (by omega), bne]
        omega
/-- What Front answers, as a pair. -/
def frtP (l : List UInt8) : Int × Int := (sumL (ptsL l), ptsE l)
/-- Tags behind tags, in front. -/
theorem frt_join (a b : List UInt8) (ha : ptsE a = 0) (hb : ptsE b = 0) (hx : (frtP a).1 = (a.length : Int)) :
    ((frtP a).1 + (frtP b).1 ≤ 4000 → frtP (a ++ b) = ((frtP a).1 + (frtP b).1, 0)) ∧ (4000 < (frtP a).1 + (frtP b).1 → (frtP (a ++ b)).2 = 4) := by
  have pa : ptsL a = (sq a 0).map (·.1) := by unfold ptsL; exact if_pos ha
  have pb : ptsL b = (sq b 0).map (·.1) := by unfold ptsL; exact if_pos hb
  have ha' : sqE (sq a 0) = 0 := ha
  have hb' : sqE (sq b 0) = 0 := hb
  have hx' : sumL ((sq a 0).map (·.1)) = (a.length : Int) := by rw [← pa]; exact hx
  obtain ⟨n, hn, _, hn4, hz, _⟩ := sq_sum a a.length 0 (by omega) (by omega) (by omega) ha'
  rw [Nat.zero_add] at hn4
  have hna : n = a.length := by rw [hn] at hx'; omega
  have hw := sq_walk a (a ++ b) a.length 0 a.length (by omega) (by omega) (by omega) ha' (by rw [hx']; simp) (by simp) (by simp)
  have hsh := sq_shift a b b.length 0 (by omega) (by omega) (by omega) (by omega) hb'
  obtain ⟨s1, s2⟩ := hsh
  have e1 : (frtP a).1 = (a.length : Int) := hx
  have e2 : (frtP b).1 = sumL ((sq b 0).map (·.1)) := by show sumL (ptsL b) = _; rw [pb]
  rw [Nat.add_zero] at s1 s2
  have hE : sqE (sq (a ++ b) 0) = sqE (sq (a ++ b) a.length) := by
    rw [hw]; exact sqE_append0 _ _ (fun x hx => (hz x hx).1)
  refine ⟨fun h => ?_, fun h => ?_⟩
  · have s := s1 (by rw [e1, e2] at h; simpa using h)
    have hE0 : sqE (sq (a ++ b) 0) = 0 := by rw [hE, s]; exact hb'
    show (sumL (ptsL (a ++ b)), ptsE (a ++ b)) = _
    have pab : ptsL (a ++ b) = (sq (a ++ b) 0).map (·.1) := by unfold ptsL; exact if_pos hE0
    rw [pab, hw, s, List.map_append, sumL_append, hx', e1, e2]
    congr 1
  · have s := s2 (by rw [e1, e2] at h; simpa using h)
    show ptsE (a ++ b) = 4
    unfold ptsE
    rw [hE]
    exact s
/-- What is left behind the tags in front does not matter, if it is no tag. -/
theorem frt_left (b o : List UInt8) (n : Nat) (hb : ptsE b = 0) (hn : (frtP b).1 = (n : Int)) (ho : begB o = false) : frtP (b.take n ++ o) = ((n : Int), 0) := by
  have hb' : sqE (sq b 0) = 0 := hb
  have pb : ptsL b = (sq b 0).map (·.1) := by unfold ptsL; exact if_pos hb
  have hn' : sumL ((sq b 0).map (·.1)) = (n : Int) := by rw [← pb]; exact hn
  obtain ⟨m, hm, hml, hm4, hz, _⟩ := sq_sum b b.length 0 (by omega) (by omega) (by omega) hb'
  have hmn : m = n := by rw [hm] at hn'; omega
  subst hmn
  rw [Nat.zero_add] at hml hm4
  have hl : (b.take m).length = m := by simp; omega
  have hw := sq_walk b (b.take m ++ o) b.length 0 m (by omega) (by omega) (by omega) hb' (by rw [hn']; simp) (by rw [List.take_append_of_le_length (by omega), List.take_take, Nat.min_self]) (by simp; omega)
  have he : sq (b.take m ++ o) m = [] := by
    refine sq_end _ _ (by simp; omega) ?_
    have := drop_app (b.take m) o 0
    rw [hl, Nat.add_zero, List.drop_zero] at this
    rw [this]
    exact (tag_beg o).2 ho
  rw [he, List.append_nil] at hw
  show (sumL (ptsL _), ptsE _) = _
  have e0 : ptsE (b.take m ++ o) = 0 := by unfold ptsE; rw [hw]; exact hb'
  have pab : ptsL (b.take m ++ o) = (sq (b.take m ++ o) 0).map (·.1) := by unfold ptsL; exact if_pos e0
  rw [e0, pab, hw, hn']
/-- What is left has no tags in front. -/
theorem frt_rest (b : List UInt8) (n : Nat) (hb : ptsE b = 0) (hn : (frtP b).1 = (n : Int)) : n ≤ b.length ∧ n ≤ 4000 ∧ begB (b.drop n) = false ∧ ptsL (b.drop n) = [] ∧ ptsE (b.drop n) = 0 ∧ ∀ x ∈ ptsL b, 10 ≤ x := by
  have hb' : sqE (sq b 0) = 0 := hb
  have pb : ptsL b = (sq b 0).map (·.1) := by unfold ptsL; exact if_pos hb
  have hn' : sumL ((sq b 0).map (·.1)) = (n : Int) := by rw [← pb]; exact hn
  obtain ⟨m, hm, hml, hm4, hz, ht⟩ := sq_sum b b.length 0 (by omega) (by omega) (by omega) hb'
  have hmn : m = n := by rw [hm] at hn'; omega
  subst hmn
  rw [Nat.zero_add] at hml hm4 ht
  have he : sq (b.drop m) 0 = [] := sq_end _ _ (by omega) (by rw [List.drop_zero]; exact ht)
  refine ⟨hml, hm4, (tag_beg _).1 ht, ?_, ?_, ?_⟩
  · unfold ptsL; rw [he]; rfl
  · unfold ptsE; rw [he]; rfl
  · intro x hx
    rw [pb] at hx
    obtain ⟨y, hy, rfl⟩ := List.mem_map.1 hx
    exact (hz y hy).2
end Go.Proofs.Ytgdchcaglkeghaa
