/- Plain laws of layer 28: what Size answers at tags that are written, that are cut. -/
import Derived.Test.YtgdchcaglkeghaaIdWrite
namespace Go.Proofs.Ytgdchcaglkeghaa
open Go.RowKit

theorem vl_sf (n : Nat) (hn : n < 268435456) : vl (sf n) = n := by
  have e0 := sfb_nat n 0
  have e1 := sfb_nat n 1
  have e2 := sfb_nat n 2
  have e3 := sfb_nat n 3
  simp only [Nat.reduceMul, Nat.reducePow, Nat.pow_zero, Nat.mul_zero, Nat.div_one] at e0 e1 e2 e3
  simp only [vl, sf, List.foldl_cons, List.foldl_nil, e0, e1, e2, e3]
  omega
theorem idv_sf (n : Nat) (hn : n < 268435456) : idvP (sf n) = ((n : Int), 0) := by
  unfold idvP
  rw [if_pos (show (sf n).length = 4 from rfl), if_pos ?_, vl_sf n hn]
  intro c hc
  simp only [sf, List.mem_cons, List.not_mem_nil, or_false] at hc
  rcases hc with h | h | h | h <;> (subst h; rw [sfb_nat]; omega)
/-- A head. -/
def hdL (v fl : UInt8) (n : Nat) : List UInt8 := [73, 68, 51, v, 0, fl] ++ sf n
theorem hdL_length (v fl : UInt8) (n : Nat) : (hdL v fl n).length = 10 := rfl
theorem hd_take (v fl : UInt8) (n : Nat) (R : List UInt8) : (hdL v fl n ++ R).take 10 = hdL v fl n := by
  rw [List.take_append_of_le_length (by rw [hdL_length]; omega), List.take_of_length_le (by rw [hdL_length]; omega)]
theorem hd_hp (v fl : UInt8) (n : Nat) (R : List UInt8) : hp (hdL v fl n ++ R) id3 = true := by
  unfold hp hdL id3
  simp
theorem siz_head (v fl : UInt8) (n : Nat) (R : List UInt8) (hn : n < 268435456) (hv : fitsB v.toNat fl.toNat = true) :
    sizP (hdL v fl n ++ R) = if 4000 < n + 10 + (if fl.toNat = 16 then 10 else 0) then (0, 4) else if (hdL v fl n ++ R).length < n + 10 + (if fl.toNat = 16 then 10 else 0) then (0, 24)
      else if fl.toNat = 16 ∧ footB (hdL v fl n ++ R) (n + 10 + (if fl.toNat = 16 then 10 else 0)) = false then (0, 12) else (((n + 10 + (if fl.toNat = 16 then 10 else 0) : Nat) : Int), 0) := by
  have e3 : (hdL v fl n ++ R).getD 3 0 = v := rfl
  have e4 : (hdL v fl n ++ R).getD 4 0 = 0 := rfl
  have e5 : (hdL v fl n ++ R).getD 5 0 = fl := rfl
  have e6 : ((hdL v fl n ++ R).take 10).drop 6 = sf n := by rw [hd_take]; rfl
  have hN : headN (hdL v fl n ++ R) = n + 10 + (if fl.toNat = 16 then 10 else 0) := by unfold headN; rw [e6, e5, vl_sf n hn]
  have hB : headB (hdL v fl n ++ R) = true := by unfold headB; rw [e6, e3, e4, e5, idv_sf n hn, hv]; rfl
  unfold sizP
  rw [hN, hB, e5, if_neg (by rw [hd_hp]; simp), if_neg (by rw [List.length_append, hdL_length]; omega), if_neg (show ¬ (true = false) by simp)]
theorem tag_eq (l : List UInt8) (f : Bool) : idTag l f = hdL 4 (if f = true then 16 else 0) l.length ++ (l ++ (if f = true then [51, 68, 73] ++ midL l.length f else [])) := by
  unfold idTag hdL midL id3
  cases f <;> simp
theorem sfN (f : Bool) : fitsB (4 : UInt8).toNat (if f = true then (16 : UInt8) else 0).toNat = true := by cases f <;> decide
theorem flN16 (f : Bool) : ((if f = true then (16 : UInt8) else 0).toNat = 16) = (f = true) := by cases f <;> decide
theorem idN_eq (n : Nat) (f : Bool) : n + 10 + (if (if f = true then (16 : UInt8) else 0).toNat = 16 then 10 else 0) = idN n f := by
  cases f <;> rfl
/-- A tag that is written has its size, whatever is behind it. -/
theorem siz_tag (l o : List UInt8) (f : Bool) (h : idN l.length f ≤ 4000) : sizP (idTag l f ++ o) = ((idN l.length f : Int), 0) := by
  have hn : l.length < 268435456 := by unfold idN at h; split at h <;> omega
  have hl := idTag_length l f
  rw [tag_eq] at hl ⊢
  rw [List.append_assoc, siz_head _ _ _ _ hn (sfN f), idN_eq, if_neg (by omega), if_neg (by rw [← List.append_assoc, List.length_append, hl]; omega), if_neg ?_]
  rintro ⟨h1, h2⟩
  rw [flN16] at h1
  subst h1
  have hN : idN l.length true = 10 + l.length + 10 := by unfold idN; simp; omega
  have hF : ((hdL 4 16 l.length ++ (l ++ ([51, 68, 73] ++ midL l.length true) ++ o)).take (10 + l.length + 10)).drop (10 + l.length) = [51, 68, 73] ++ midL l.length true := by
    have e : hdL 4 16 l.length ++ (l ++ ([51, 68, 73] ++ midL l.length true) ++ o) = (hdL 4 16 l.length ++ l) ++ (([51, 68, 73] ++ midL l.length true) ++ o) := by simp
    have h1 : (hdL 4 16 l.length ++ l).length = 10 + l.length := by rw [List.length_append, hdL_length]
    rw [e, List.drop_take, ← h1, List.drop_left, Nat.add_sub_cancel_left]
    exact List.take_left' rfl
  have hM : ((hdL 4 16 l.length ++ (l ++ ([51, 68, 73] ++ midL l.length true) ++ o)).take 10).drop 3 = midL l.length true := by
    rw [hd_take]; rfl
  simp only [if_pos] at h2
  unfold footB at h2
  rw [hN, show 10 + l.length + 10 - 10 = 10 + l.length by omega, hF, hM] at h2
  simp at h2
theorem siz_tag0 (l : List UInt8) (f : Bool) (h : idN l.length f ≤ 4000) : sizP (idTag l f) = ((idN l.length f : Int), 0) := by
  have := siz_tag l [] f h
  rwa [List.append_nil] at this
/-- A tag that is cut has none. -/
theorem siz_cut (l : List UInt8) (f : Bool) (h : idN l.length f ≤ 4000) (k : Nat) (hk : k < idN l.length f) : sizP ((idTag l f).take k) = if k < 3 then (0, 6) else (0, 24) := by
  have hn : l.length < 268435456 := by unfold idN at h; split at h <;> omega
  have hl := idTag_length l f
  have hlk : ((idTag l f).take k).length = k := by simp; omega
  by_cases h3 : k < 3
  · rw [if_pos h3]
    unfold sizP
    rw [if_pos]
    unfold hp
    rw [decide_eq_false (by rw [hlk]; show ¬ 3 ≤ k; omega), Bool.false_and]
  · rw [if_neg h3]
    by_cases h10 : k < 10
    · have hpk : hp ((idTag l f).take k) id3 = true := by
        unfold hp
        rw [hlk, decide_eq_true (show id3.length ≤ k by show 3 ≤ k; omega), Bool.true_and, List.take_take, Nat.min_eq_left (by show 3 ≤ k; omega)]
        rfl
      unfold sizP
      rw [if_neg (by rw [hpk]; simp), if_pos (by rw [hlk]; exact h10)]
    · have e : (idTag l f).take k = hdL 4 (if f = true then 16 else 0) l.length ++ (l ++ (if f = true then [51, 68, 73] ++ midL l.length f else [])).take (k - 10) := by
        rw [tag_eq, List.take_append, List.take_of_length_le (by rw [hdL_length]; omega), hdL_length]
      rw [e] at hlk ⊢
      rw [siz_head _ _ _ _ hn (sfN f), idN_eq, if_neg (by omega), if_pos (by rw [hlk]; exact hk)]
/-- The version of a tag without a foot does not matter. -/
theorem siz_ver (l : List UInt8) (z : UInt8) (h : idN l.length false ≤ 4000) (h2 : 2 ≤ z.toNat) (h4 : z.toNat ≤ 4) : sizP ((idTag l false).set 3 z) = ((idN l.length false : Int), 0) := by
  have hn : l.length < 268435456 := by unfold idN at h; split at h <;> omega
  have hl := idTag_length l false
  have e : (idTag l false).set 3 z = hdL z 0 l.length ++ l := by
    rw [tag_eq]
    unfold hdL
    simp
  have hl2 : (hdL z 0 l.length ++ l).length = idN l.length false := by rw [← e, List.length_set, hl]
  have hN : l.length + 10 + (if (0 : UInt8).toNat = 16 then 10 else 0) = idN l.length false := rfl
  rw [e, siz_head z 0 _ _ hn (by unfold fitsB; rw [if_pos (show (0 : UInt8).toNat = 0 from rfl)]; simp; omega), hN, if_neg (by omega), if_neg (by rw [hl2]; omega), if_neg (by rintro ⟨h1, _⟩; exact absurd h1 (by decide))]
end Go.Proofs.Ytgdchcaglkeghaa
