/- Plain laws of layer 32: what Read answers at forms. -/
import Derived.Test.YtjcemacgiehklaaDoorFmtRead
namespace Go.Proofs.YtjcemacgiehklaaDoor
open Go.RowKit

theorem formK_part (F : Nat → Nat) (t : List UInt8) (n j : Nat) (h : j < n) : ((formK F n ++ t).take (wsum (j + 1))).drop (wsum j) = Le.bs (F j) (wdN j) := by
  induction n generalizing t with
  | zero => omega
  | succ n ih =>
    rcases Nat.eq_or_lt_of_le (Nat.le_of_lt_succ h) with he | he
    · subst he
      have l1 := formK_length F j
      have l2 := Le.bs_length (F j) (wdN j)
      show ((formK F j ++ Le.bs (F j) (wdN j) ++ t).take (wsum j + wdN j)).drop (wsum j) = _
      rw [List.drop_take, Nat.add_sub_cancel_left, List.append_assoc, ← l1, List.drop_left, List.take_append_of_le_length (by omega), List.take_of_length_le (by omega)]
    · show ((formK F n ++ Le.bs (F n) (wdN n) ++ t).take (wsum (j + 1))).drop (wsum j) = _
      rw [List.append_assoc]
      exact ih _ he
theorem wsum_mono (j n : Nat) (h : j ≤ n) : wsum j ≤ wsum n := by
  induction n with
  | zero => rw [Nat.le_zero.1 h]; exact Nat.le_refl _
  | succ n ih =>
    rcases Nat.eq_or_lt_of_le h with he | he
    · subst he; exact Nat.le_refl _
    · exact Nat.le_trans (ih (by omega)) (Nat.le_add_right _ _)
/-- A form tells its parts. -/
theorem rdN_form (c b r : Nat) (wide : Bool) (m j : Nat) (hj : j < lastN wide) (h1 : c ≤ 6) (h2 : b ≤ 24) (h3 : r ≤ 1048576) (hm : m < 4294967296) : rdN (formL c b r wide m) j = partN c b r wide m j := by
  have hj9 : j < 9 := by cases wide <;> simp [lastN] at hj <;> omega
  have hl : wsum (j + 1) ≤ (formL c b r wide m).length := by
    unfold formL
    rw [List.length_append, formK_length]
    exact Nat.le_trans (wsum_mono _ _ hj) (Nat.le_add_right _ _)
  rw [rdN_yes _ _ hl]
  unfold formL
  rw [formK_part _ _ _ _ hj]
  exact Le.val_bs _ _ (partN_lt c b r wide m j hj9 h1 h2 h3 hm)
/-- A plain form, a wide form is read as its sound. -/
theorem readB_form (c b r : Nat) (wide : Bool) (m : Nat) (hs : sndB c b r = true) (hm : m < 4294967296) : readB (formL c b r wide m) = true ∧ rdN (formL c b r wide m) 1 = c ∧ rdN (formL c b r wide m) 5 = b ∧ rdN (formL c b r wide m) 2 = r := by
  have hr : c ≤ 6 ∧ b ≤ 24 ∧ r ≤ 1048576 := by unfold sndB at hs; simp only [decide_eq_true_eq] at hs; omega
  obtain ⟨h1, h2, h3⟩ := hr
  have p := fun j hj => rdN_form c b r wide m j hj h1 h2 h3 hm
  have hl6 : 6 ≤ lastN wide := by cases wide <;> decide
  have e0 : rdN (formL c b r wide m) 0 = if wide = true then 65534 else 1 := p 0 (by omega)
  have e1 : rdN (formL c b r wide m) 1 = c := p 1 (by omega)
  have e2 : rdN (formL c b r wide m) 2 = r := p 2 (by omega)
  have e5 : rdN (formL c b r wide m) 5 = b := p 5 (by omega)
  refine ⟨?_, e1, e5, e2⟩
  unfold readB
  rw [e0, e1, e2, e5, hs, Bool.true_and]
  cases wide with
  | false =>
    have : (((if false = true then 65534 else 1 : Nat) : Int) == 65534) = false := by decide
    rw [this, beq_iff_eq]
    rw [show formL c b r false m = formK (partN c b r false m) 6 ++ [] from rfl, show formL c b r false (rdN (formK (partN c b r false m) 6 ++ []) 8) = formK (partN c b r false (rdN (formK (partN c b r false m) 6 ++ []) 8)) 6 ++ [] from rfl]
    rfl
  | true =>
    have : (((if true = true then 65534 else 1 : Nat) : Int) == 65534) = true := by decide
    have e8 : rdN (formL c b r true m) 8 = m := p 8 (by decide)
    rw [this, e8, beq_self_eq_true]
end Go.Proofs.YtjcemacgiehklaaDoor
