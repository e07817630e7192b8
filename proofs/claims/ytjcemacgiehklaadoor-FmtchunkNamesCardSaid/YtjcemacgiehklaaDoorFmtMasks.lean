/- Plain laws of layer 32: forms with masks. -/
import Derived.Test.YtjcemacgiehklaaDoorFmtAgainL
import Derived.Test.YtjcemacgiehklaaDoorFmtRefB
namespace Go.Proofs.YtjcemacgiehklaaDoor
open Go.RowKit

theorem firstL_length (c b r t : Nat) : (firstL c b r t).length = 16 := by
  unfold firstL
  simp [Le.bs_length]
theorem formL_take (c b r m : Nat) : (formL c b r true m).take 20 = firstL c b r 65534 ++ [22, 0] ++ Le.bs b 2 := by
  have h1 := firstL_length c b r 65534
  have h2 := Le.bs_length b 2
  rw [formL_wide, List.append_assoc, List.take_append_of_le_length (by simp; omega), List.take_of_length_le (by simp; omega)]
theorem formL_drop (c b r m : Nat) : (formL c b r true m).drop 24 = guidL := by
  have h1 := firstL_length c b r 65534
  have h2 := Le.bs_length b 2
  have h3 := Le.bs_length m 4
  rw [formL_wide]
  exact List.drop_left' (by simp; omega)
/-- Two wide forms of a sound are alike but for the mask. -/
theorem formL_like (c b r m m' i : Nat) (h : i < 20 ∨ 24 ≤ i) : (formL c b r true m)[i]? = (formL c b r true m')[i]? := by
  rcases h with h | h
  · have e := congrArg (fun l : List UInt8 => l[i]?) ((formL_take c b r m).trans (formL_take c b r m').symm)
    (try dsimp only at e)
    rwa [List.getElem?_take, List.getElem?_take, if_pos h, if_pos h] at e
  · have e := congrArg (fun l : List UInt8 => l[i - 24]?) ((formL_drop c b r m).trans (formL_drop c b r m').symm)
    (try dsimp only at e)
    rwa [List.getElem?_drop, List.getElem?_drop, show 24 + (i - 24) = i by omega] at e
/-- A wide form in which a byte off the mask is another one is not read as its sound. -/
theorem rds_masked (c b r m i : Nat) (x : UInt8) (h : i < 20 ∨ 24 ≤ i) (hi : i < 40) (hx : x ≠ (formL c b r true m).getD i 0) : rdsB ((formL c b r true m).set i x) c b r = false := by
  have hl := formL_length c b r true m
  have hl40 : formN true = 40 := rfl
  rw [hl40] at hl
  cases hq : rdsB ((formL c b r true m).set i x) c b r with
  | false => rfl
  | true =>
    exfalso
    unfold rdsB readB at hq
    simp only [Bool.and_eq_true, beq_iff_eq, Int.natCast_inj] at hq
    obtain ⟨⟨_, h2⟩, h3, h4, h5⟩ := hq
    rw [h3, h4, h5] at h2
    have hln := congrArg List.length h2
    rw [List.length_set, hl, formL_length] at hln
    cases hw : ((rdN ((formL c b r true m).set i x) 0 : Int) == 65534) with
    | false => rw [hw] at hln; exact absurd hln (by decide)
    | true =>
      rw [hw] at h2
      have e := congrArg (fun l : List UInt8 => l[i]?) h2
      (try dsimp only at e)
      rw [List.getElem?_set_self (by omega), ← formL_like c b r m _ i h] at e
      apply hx
      rw [List.getD_eq_getElem?_getD, ← e]
      rfl
theorem rds_form (c b r m : Nat) (wide : Bool) (hs : sndB c b r = true) (hm : m < 4294967296) : rdsB (formL c b r wide m) c b r = true := by
  obtain ⟨h1, h2, h3, h4⟩ := readB_form c b r wide m hs hm
  unfold rdsB
  rw [h1, h2, h3, h4]
  simp
end Go.Proofs.YtjcemacgiehklaaDoor
