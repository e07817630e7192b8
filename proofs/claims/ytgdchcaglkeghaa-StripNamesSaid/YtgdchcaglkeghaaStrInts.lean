/- The walk of the reference's SameInts; slices of numbers that are read. -/
import Derived.Test.YtgdchcaglkeghaaStrParts
import Derived.Deep.QuietTactic
import Derived.BigQuiet
namespace Go.Proofs.Ytgdchcaglkeghaa
open Go.RowKit
attribute [local go_sem ↓] Go.wp_at_zero Go.wp_at_succ

/-- A slice of numbers that can be read. -/
def NArg (w : World) (A : Option Addr) (n : Nat) (L : List Int) : Prop :=
  L.length = n ∧ n ≤ 9223372036854775807 ∧ (0 < n → ∃ g o, A = some ⟨g, o, none⟩ ∧ g < w.heap.size ∧ ∀ j, j < n → w.cell? ⟨g, o + j, none⟩ = some (.int .i64 (L.getD j 0)))
theorem NArg.below {w w' : World} {A : Option Addr} {n : Nat} {L : List Int} (h : NArg w A n L) (hb : Below w.heap.size w w') : NArg w' A n L :=
  ⟨h.1, h.2.1, fun h0 => by
    obtain ⟨g, o, h1, h2, h3⟩ := h.2.2 h0
    exact ⟨g, o, h1, Nat.lt_of_lt_of_le h2 hb.size, fun j hj => (hb.cell (p := ⟨g, o + j, none⟩) h2).trans (h3 j hj)⟩⟩
theorem IOwns.form {w : World} {base : Nat} {v : Value} {L : List Int} (h : IOwns w base v L) : ∃ A c, v = .slice A L.length c ∧ NArg w A L.length L := by
  have hh := h
  rcases h.2 with ⟨rfl, h0⟩ | ⟨g, cap, cur, rfl, hb, hg, hnc, hcm, hcs, hx⟩
  · rw [h0]
    exact ⟨none, 0, rfl, h0, by omega, fun h => absurd h (by omega)⟩
  · unfold maxLen at hcm
    refine ⟨_, cap, rfl, rfl, by omega, fun h0 => ⟨g, 0, rfl, (Array.getElem?_eq_some_iff.1 hg).1, fun j hj => ?_⟩⟩
    unfold IOwns at hh
    rw [Nat.zero_add, World.ownsRow.cellAt hh j (by omega)]
    simp [vi, List.getD, List.getElem?_eq_getElem hj]
theorem IOwns.below {w w' : World} {base : Nat} {v : Value} {L : List Int} (h : IOwns w base v L) (hb : Below w.heap.size w w') : IOwns w' base v L := by
  refine h.kept (grown_of_below hb none) ?_
  cases hv : v.ownBlock with
  | none => exact .inl rfl
  | some k => exact .inr (by simp)
theorem IOwns.nil (w : World) (base : Nat) : IOwns w base (.slice none 0 0) [] := World.ownsRow_nil w base _ 1
theorem take_more (L M : List Int) (k : Nat) (h : L.take k = M.take k) (h1 : k < L.length) (h2 : k < M.length) (he : L.getD k 0 = M.getD k 0) : L.take (k + 1) = M.take (k + 1) := by
  rw [List.take_succ_eq_append_getElem h1, List.take_succ_eq_append_getElem h2, h]
  simp [List.getD, List.getElem?_eq_getElem h1, List.getElem?_eq_getElem h2] at he
  rw [he]

set_option maxHeartbeats 1000000 in
theorem sameints_any (A : Option Addr) (n c : Nat) (L : List Int) (B : Option Addr) (m d : Nat) (M : List Int) (w : World) (ha : NArg w A n L) (hb : NArg w B m M) :
    Calls Try.prog 41 #[.slice A n c, .slice B m d] w fun e w' => e = .returned (.bool (L == M)) ∧ Below w.heap.size w w' := by
  obtain ⟨hl1, hn1, hc1⟩ := ha
  obtain ⟨hl2, hn2, hc2⟩ := hb
  by_cases hnm : n = m
  · subst hnm
    have b0 : ((n : Int) != (n : Int)) = false := by simp
    by_cases h0 : 0 < n
    · obtain ⟨g, o, rfl, hg, hca⟩ := hc1 h0
      obtain ⟨g2, o2, rfl, hg2, hcb⟩ := hc2 h0
      have HA := Lib.hid hca
      have HB := Lib.hid hcb
      have HL := Lib.hid hl1
      have HM := Lib.hid hl2
      clear hca hcb hl1 hl2 hc1 hc2 h0 hg hg2
      go_enter Try.func41, Try.ntmps41
      go_wp2_with fail
      go_loopw [5] (fun i wr => ∃ (k q : Nat), k ≤ n ∧ i = .int .i64 k ∧ wr = w.drewN q ∧ Hid (L.take k = M.take k)) (fun i _ => n - (intOf i).toNat)
      case atStart => exact ⟨0, 0, by omega, rfl, rfl, Lib.hid rfl⟩
      case round =>
        obtain ⟨k, q, hk, rfl, rfl, HT⟩ := hrel
        by_cases hlt : k < n
        · have c1 : ∀ j, (w.drewN j).cell? ⟨g, o + k, none⟩ = some (.int .i64 (L.getD k 0)) := fun j => HA.out k hlt
          have c2 : ∀ j, (w.drewN j).cell? ⟨g2, o2 + k, none⟩ = some (.int .i64 (M.getD k 0)) := fun j => HB.out k hlt
          have HX : Hid (L.getD k 0 = M.getD k 0 → L.take (k + 1) = M.take (k + 1)) := Lib.hid (fun he => take_more L M k HT.out (by rw [HL.out]; exact hlt) (by rw [HM.out]; exact hlt) he)
          have HY : Hid (L.getD k 0 ≠ M.getD k 0 → (L == M) = false) := Lib.hid (fun he => by
            rw [beq_eq_false_iff_ne]; intro h; exact he (by rw [h]))
          generalize L.getD k 0 = x at *
          generalize M.getD k 0 = y at *
          by_cases hxy : x = y
          · subst hxy
            have HN := Lib.hid (HX.out rfl)
            have g1 : (x != x) = false := by simp
            go_wp2_with fail
            go_quiet (fail)
            go_wp2_with fail
            go_roundw
            case rel => exact ⟨k + 1, _, by omega, by go_num, rfl, HN⟩
            case measure => simp [intOf]; omega
          · have HN := Lib.hid (HY.out hxy)
            have g1 : (x != y) = true := by simpa using hxy
            clear hxy
            go_wp2_with fail
            go_quiet (fail)
            go_wp2_with fail
            go_ret
            exact ⟨by rw [HN.out]; rfl, below_drewN' (below_drewN' (Below.refl _ _) _) _⟩
        · obtain rfl : k = n := by omega
          have HN : Hid ((L == M) = true) := Lib.hid (by
            have := HT.out
            rw [List.take_of_length_le (by rw [HL.out]; omega), List.take_of_length_le (by rw [HM.out]; omega)] at this
            rw [this]; simp)
          go_wp2_with fail
          go_ret
          exact ⟨by rw [HN.out]; rfl, below_drewN' (Below.refl _ _) _⟩
    · obtain rfl : n = 0 := by omega
      have HN : Hid ((L == M) = true) := Lib.hid (by rw [List.length_eq_zero_iff.1 hl1, List.length_eq_zero_iff.1 hl2]; rfl)
      clear hl1 hl2 hc1 hc2 h0
      go_enter Try.func41, Try.ntmps41
      go_wp2_with fail
      go_loop [5] (fun i => i = .int .i64 0) (fun _ => 0)
      case atStart => rfl
      case round =>
        obtain rfl := hrel
        go_wp2_with fail
        go_ret
        exact ⟨by rw [HN.out]; rfl, Below.refl _ _⟩
  · have HN : Hid ((L == M) = false) := Lib.hid (by rw [beq_eq_false_iff_ne]; intro h; rw [h] at hl1; omega)
    have b0 : ((n : Int) != (m : Int)) = true := by simp; omega
    have b1 : (n != m) = true := by simp; omega
    clear hl1 hl2 hc1 hc2
    go_enter Try.func41, Try.ntmps41
    go_wp2_with fail
    go_ret
    exact ⟨by rw [HN.out]; rfl, Below.refl _ _⟩
end Go.Proofs.Ytgdchcaglkeghaa
