/- Plain laws of layer 29: what Front and Back answer at tags that were written. -/
import Derived.Test.YtgdchcaglkeghaaApeRefD
namespace Go.Proofs.Ytgdchcaglkeghaa
open Go.RowKit

theorem end_tell (N C fl : Nat) (hN : N ≤ 3000) (hC : C ≤ 1000) : tellV (endL N C fl) = N + 32 ∧ tellC (endL N C fl) = C := by
  have e : endL N C fl = (apeM ++ Le.bs 2000 4) ++ (Le.bs (N + 32) 4 ++ (Le.bs C 4 ++ (Le.bs fl 4 ++ List.replicate 8 0))) := by
    rw [endL_parts]; simp only [List.append_assoc]
  have l1 : (apeM ++ Le.bs 2000 4).length = 12 := by simp [Le.bs_length, apeM]
  have b1 := Le.bs_length (N + 32) 4
  have b2 := Le.bs_length C 4
  constructor
  · unfold tellV
    rw [List.drop_take, e, List.drop_append_of_le_length (by omega), List.drop_eq_nil_of_le (by omega), List.nil_append, List.take_append_of_le_length (by omega), List.take_of_length_le (by omega)]
    exact Le.val_bs _ _ (by omega)
  · unfold tellC
    have l2 : (apeM ++ Le.bs 2000 4 ++ Le.bs (N + 32) 4).length = 16 := by rw [List.length_append]; omega
    rw [List.drop_take, e, ← List.append_assoc, List.drop_append_of_le_length (by omega), List.drop_eq_nil_of_le (by omega), List.nil_append, List.take_append_of_le_length (by omega), List.take_of_length_le (by omega)]
    exact Le.val_bs _ _ (by omega)
theorem end_N (N C fl : Nat) (hN : N ≤ 3000) (hC : C ≤ 1000) : tellB (endL N C fl) = true ∧ tN (endL N C fl) = N ∧ tC (endL N C fl) = C := by
  obtain ⟨h1, h2⟩ := end_tell N C fl hN hC
  have hb : tellB (endL N C fl) = true := by
    unfold tellB
    rw [h1, h2]
    simp only [decide_eq_true_eq]
    omega
  refine ⟨hb, ?_, ?_⟩
  · unfold tN; rw [hb, if_pos rfl, h1]; omega
  · unfold tC; rw [hb, if_pos rfl, h2]
theorem end_ok (N C fl fl' : Nat) (hN : N ≤ 3000) (hC : C ≤ 1000) : tOk (endL N C fl) fl' = (endL N C fl == endL N C fl') := by
  obtain ⟨h1, h2, h3⟩ := end_N N C fl hN hC
  unfold tOk
  rw [h1, h2, h3, Bool.true_and]
theorem end_hp (N C fl : Nat) (r : List UInt8) : hp (endL N C fl ++ r) apeM = true := by
  have e : endL N C fl ++ r = apeM ++ (Le.bs 2000 4 ++ (Le.bs (N + 32) 4 ++ (Le.bs C 4 ++ (Le.bs fl 4 ++ (List.replicate 8 0 ++ r))))) := by
    rw [endL_parts]; simp only [List.append_assoc]
  rw [e]
  unfold hp
  rw [List.take_left, decide_eq_true (by rw [List.length_append]; omega), Bool.true_and, beq_self_eq_true]
theorem end_hp0 (N C fl : Nat) : hp (endL N C fl) apeM = true := by
  have := end_hp N C fl []
  rwa [List.append_nil] at this
theorem end_ne (N C : Nat) : (endL N C 0 == endL N C 2147483648) = false ∧ (endL N C 2147483648 == endL N C 0) = false := by
  have h := endL_ne N C
  constructor
  · rw [beq_eq_false_iff_ne]; exact h
  · rw [beq_eq_false_iff_ne]; exact fun e => h e.symm

/-- The last 32 bytes. -/
theorem drop_last (o E : List UInt8) (h : E.length = 32) : (o ++ E).drop ((o ++ E).length - 32) = E := by
  rw [show (o ++ E).length - 32 = o.length by simp; omega, List.drop_left]

/-- Bytes that end with a foot without a head. -/
theorem back_plain (o : List UInt8) (N C : Nat) (hN : N ≤ 3000) (hC : C ≤ 1000) :
    backP (o ++ endL N C 0) = if o.length < N then (0, 24) else (((N + 32 : Nat) : Int), 0) := by
  have hl := endL_length N C 0
  obtain ⟨h1, h2, h3⟩ := end_N N C 0 hN hC
  unfold backP
  rw [if_neg (by simp; omega), drop_last _ _ hl]
  unfold backQ
  rw [if_neg (by rw [end_hp0]; simp), if_pos (by rw [end_ok _ _ _ _ hN hC, beq_self_eq_true]), h2]
  by_cases h : o.length < N
  · rw [if_pos h, if_pos (by rw [List.length_append]; omega)]
  · rw [if_neg h, if_neg (by rw [List.length_append]; omega)]
/-- Bytes that end with a foot that says that there is a head. -/
theorem back_headed (o : List UInt8) (N C : Nat) (hN : N ≤ 3000) (hC : C ≤ 1000) :
    backP (o ++ endL N C 2147483648) = if o.length < N + 32 then (0, 24) else if (((o ++ endL N C 2147483648).take (o.length - (N + 32) + 32)).drop (o.length - (N + 32)) == endL N C 2684354560) = false then (0, 12) else (((N + 64 : Nat) : Int), 0) := by
  have hl := endL_length N C 2147483648
  obtain ⟨h1, h2, h3⟩ := end_N N C 2147483648 hN hC
  unfold backP
  rw [if_neg (by simp; omega), drop_last _ _ hl]
  unfold backQ
  rw [if_neg (by rw [end_hp0]; simp), if_neg (by rw [end_ok _ _ _ _ hN hC, (end_ne N C).2]; simp), if_neg (by rw [end_ok _ _ _ _ hN hC, beq_self_eq_true]; simp), h2, h3]
  have e : (o ++ endL N C 2147483648).length - (N + 64) = o.length - (N + 32) := by rw [List.length_append]; omega
  by_cases h : o.length < N + 32
  · rw [if_pos h, if_pos (by rw [List.length_append]; omega)]
  · rw [if_neg h, if_neg (by rw [List.length_append]; omega), e]

theorem tagL_length (it : List UInt8) (c : Nat) (h : Bool) : (tagL it c h).length = if h = true then it.length + 64 else it.length + 32 := by
  unfold tagL
  cases h
  · simp [endL_length]
  · simp [endL_length]; omega
/-- What is written has its size from behind, whatever is in front of it. -/
theorem back_tag (o it : List UInt8) (c : Nat) (h : Bool) (hN : it.length ≤ 3000) (hC : c ≤ 1000) : backP (o ++ tagL it c h) = (((tagL it c h).length : Int), 0) := by
  rw [tagL_length]
  cases h with
  | false =>
    have e : o ++ tagL it c false = (o ++ it) ++ endL it.length c 0 := by simp [tagL, flN]
    rw [e, back_plain _ _ _ hN hC, if_neg (by rw [List.length_append]; omega)]
    rfl
  | true =>
    have e : o ++ tagL it c true = (o ++ endL it.length c 2684354560 ++ it) ++ endL it.length c 2147483648 := by simp [tagL, flN]
    have hl := endL_length it.length c 2684354560
    rw [e, back_headed _ _ _ hN hC, if_neg (by simp only [List.length_append]; omega)]
    have e2 : (o ++ endL it.length c 2684354560 ++ it).length - (it.length + 32) = o.length := by simp only [List.length_append]; omega
    rw [e2]
    have e3 : ((o ++ endL it.length c 2684354560 ++ it ++ endL it.length c 2147483648).take (o.length + 32)).drop o.length = endL it.length c 2684354560 := by
      rw [List.drop_take, List.append_assoc, List.append_assoc, List.drop_left, show o.length + 32 - o.length = 32 by omega, List.take_append_of_le_length (by omega), List.take_of_length_le (by omega)]
    rw [e3, if_neg (by rw [beq_self_eq_true]; simp)]
    rfl
/-- Bytes that begin with a head. -/
theorem front_head (r : List UInt8) (N C : Nat) (hN : N ≤ 3000) (hC : C ≤ 1000) :
    frontP (endL N C 2684354560 ++ r) = if r.length < N + 32 then (0, 24) else if (((endL N C 2684354560 ++ r).take (N + 64)).drop (N + 32) == endL N C 2147483648) = false then (0, 12) else (((N + 64 : Nat) : Int), 0) := by
  have hl := endL_length N C 2684354560
  obtain ⟨h1, h2, h3⟩ := end_N N C 2684354560 hN hC
  have ht : (endL N C 2684354560 ++ r).take 32 = endL N C 2684354560 := by
    rw [List.take_append_of_le_length (by omega), List.take_of_length_le (by omega)]
  unfold frontP
  rw [if_neg (by rw [end_hp]; simp), if_neg (by rw [List.length_append]; omega), ht, if_neg (by rw [end_ok _ _ _ _ hN hC, beq_self_eq_true]; simp), h2, h3]
  by_cases h : r.length < N + 32
  · rw [if_pos h, if_pos (by rw [List.length_append]; omega)]
  · rw [if_neg h, if_neg (by rw [List.length_append]; omega)]
/-- What is written with a head has its size from the front, whatever is behind it. -/
theorem front_tag (it o : List UInt8) (c : Nat) (hN : it.length ≤ 3000) (hC : c ≤ 1000) : frontP (tagL it c true ++ o) = (((tagL it c true).length : Int), 0) := by
  rw [tagL_length]
  have e : tagL it c true ++ o = endL it.length c 2684354560 ++ (it ++ endL it.length c 2147483648 ++ o) := by simp [tagL, flN]
  have hl := endL_length it.length c 2684354560
  have hl2 := endL_length it.length c 2147483648
  rw [e, front_head _ _ _ hN hC, if_neg (by simp only [List.length_append]; omega)]
  have e3 : ((endL it.length c 2684354560 ++ (it ++ endL it.length c 2147483648 ++ o)).take (it.length + 64)).drop (it.length + 32) = endL it.length c 2147483648 := by
    have e4 : endL it.length c 2684354560 ++ (it ++ endL it.length c 2147483648 ++ o) = (endL it.length c 2684354560 ++ it) ++ (endL it.length c 2147483648 ++ o) := by simp only [List.append_assoc]
    rw [List.drop_take, e4, show it.length + 32 = (endL it.length c 2684354560 ++ it).length by simp; omega, List.drop_left, show it.length + 64 - (endL it.length c 2684354560 ++ it).length = 32 by simp; omega, List.take_append_of_le_length (by omega), List.take_of_length_le (by omega)]
  rw [e3, if_neg (by rw [beq_self_eq_true]; simp)]
  rfl
/-- A tag that is cut at its beginning. -/
theorem back_cut (it : List UInt8) (c : Nat) (h : Bool) (hN : it.length ≤ 3000) (hC : c ≤ 1000) (at_ : Nat) (h0 : 0 < at_) (h1 : at_ < (tagL it c h).length) :
    backP ((tagL it c h).drop at_) = (0, 24) ∨ backP ((tagL it c h).drop at_) = (0, 6) := by
  have hlen := tagL_length it c h
  by_cases hs : (tagL it c h).length - at_ < 32
  · right
    unfold backP
    rw [if_pos (by simp; omega)]
  · left
    cases h with
    | false =>
      rw [if_neg (by decide)] at hlen
      have e : tagL it c false = it ++ endL it.length c 0 := by simp [tagL, flN]
      have hl := endL_length it.length c 0
      rw [e, List.drop_append_of_le_length (by omega), back_plain _ _ _ hN hC, if_pos (by rw [List.length_drop]; omega)]
    | true =>
      rw [if_pos rfl] at hlen
      have e : tagL it c true = (endL it.length c 2684354560 ++ it) ++ endL it.length c 2147483648 := by simp [tagL, flN]
      have hl := endL_length it.length c 2684354560
      rw [e, List.drop_append_of_le_length (by simp; omega), back_headed _ _ _ hN hC, if_pos (by rw [List.length_drop, List.length_append]; omega)]
/-- A tag that is cut at its end. -/
theorem front_cut (it : List UInt8) (c : Nat) (hN : it.length ≤ 3000) (hC : c ≤ 1000) (at_ : Nat) (h1 : at_ < (tagL it c true).length) :
    frontP ((tagL it c true).take at_) = if at_ < 8 then (0, 6) else (0, 24) := by
  have hlen := tagL_length it c true
  rw [if_pos rfl] at hlen
  have hl := endL_length it.length c 2684354560
  have e : tagL it c true = endL it.length c 2684354560 ++ (it ++ endL it.length c 2147483648) := by simp [tagL, flN]
  by_cases h8 : at_ < 8
  · rw [if_pos h8]
    unfold frontP
    rw [if_pos (hp8_short _ (by rw [List.length_take]; omega))]
  · rw [if_neg h8]
    by_cases h32 : at_ < 32
    · have hh : hp ((tagL it c true).take at_) apeM = true := by
        have e2 : tagL it c true = apeM ++ (Le.bs 2000 4 ++ (Le.bs (it.length + 32) 4 ++ (Le.bs c 4 ++ (Le.bs 2684354560 4 ++ (List.replicate 8 0 ++ (it ++ endL it.length c 2147483648)))))) := by
          rw [e, endL_parts it.length c 2684354560]; simp only [List.append_assoc]
        rw [e2, hp8 _ (by simp [Le.bs_length, apeM]; omega), List.take_take, Nat.min_eq_left (by omega), List.take_append_of_le_length (by simp [apeM]), List.take_of_length_le (by simp [apeM])]
        rfl
      unfold frontP
      rw [if_neg (by rw [hh]; simp), if_pos (by rw [List.length_take]; omega)]
    · rw [e, List.take_append, List.take_of_length_le (by omega), front_head _ _ _ hN hC, if_pos (by rw [List.length_take]; omega)]
end Go.Proofs.Ytgdchcaglkeghaa
