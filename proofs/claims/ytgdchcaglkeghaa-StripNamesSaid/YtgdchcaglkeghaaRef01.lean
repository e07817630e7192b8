/- The walks of the reference of layer 1: Written, Of. -/
import Derived.Test.YtgdchcaglkeghaaLeBytes
namespace Go.Proofs.Ytgdchcaglkeghaa
open Go.RowKit

theorem bs_snoc (n k : Nat) : Le.bs n (k + 1) = Le.bs n k ++ [Le.byt n k] := by
  apply List.ext_getElem?
  intro i
  rcases Nat.lt_or_ge i k with h | h
  · rw [List.getElem?_append_left (by rw [Le.bs_length]; exact h), Le.bs_get _ _ _ (by omega), Le.bs_get _ _ _ h]
  · rw [List.getElem?_append_right (by rw [Le.bs_length]; exact h), Le.bs_length]
    rcases Nat.eq_or_lt_of_le h with h | h
    · subst h; rw [Le.bs_get _ _ _ (by omega), Nat.sub_self]; rfl
    · rw [List.getElem?_eq_none (by rw [Le.bs_length]; omega), List.getElem?_eq_none (by simp; omega)]
theorem byt_mod (n k : Nat) : ((n / 256 ^ k : Nat) : Int) % 256 = ((Le.byt n k).toNat : Int) := by
  unfold Le.byt
  rw [UInt8.toNat_ofNat']
  omega

set_option maxHeartbeats 400000 in
theorem written_any (n k : Nat) (hn : n < 18446744073709551616) (h8 : k ≤ 8) (w : World) :
    Calls Try.prog 69 #[.int .u64 (n : Int), .int .i64 (k : Int)] w fun e w' => ∃ A cap, e = .returned (.slice A k cap) ∧ Owns w' w.heap.size (.slice A k cap) (Le.bs n k) ∧ Below w.heap.size w w' := by
  have HN := Lib.hid hn
  clear hn
  go_enter Try.func69, Try.ntmps69
  go_wp2
  go_loopw [0, 5, 6] (fun d o i wr => ∃ (j m : Nat) (A : Option Addr) (c : Nat), j ≤ k ∧ i = .int .i64 j ∧ d = .int .u64 (m : Int) ∧ m < 18446744073709551616 ∧ o = .slice A j c ∧ Hid (m = n / 256 ^ j) ∧ Hid (Owns wr w.heap.size (.slice A j c) (Le.bs n j)) ∧ Hid (Below w.heap.size w wr)) (fun _ _ i _ => k - (intOf i).toNat)
  case atStart => exact ⟨0, n, none, 0, by omega, rfl, rfl, HN.out, rfl, Lib.hid (by simp), Lib.hid (Owns.nil _ _), Lib.hid (Below.refl _ _)⟩
  case round =>
    obtain ⟨j, m, A, c, hj, rfl, rfl, hm64, rfl, HM, HO, HB⟩ := hrel
    rename_i wr
    by_cases hlt : j < k
    · obtain ⟨z, hz⟩ : ∃ z : UInt8, (m : Int) % 256 = (z.toNat : Int) := ⟨Le.byt n j, by rw [HM.out]; exact byt_mod n j⟩
      have HZ : Hid (z = Le.byt n j) := Lib.hid (by
        apply UInt8.toNat_inj.1
        have := byt_mod n j
        rw [← HM.out, hz] at this
        omega)
      go_wp2_with (at_builtin; refine wpList_append_bytes rfl (.tmp 12) (.tmp 16) rfl w.heap.size (.slice A j c) (Le.bs n j) rfl (HO.out.alloc _) (some ⟨wr.heap.size, 0, none⟩) 1 1 [z] rfl (BArg.lit wr [z] 1 rfl (by omega) 5 (0, 0) _ rfl) (j + 1) (by rw [Le.bs_length]) (by omega) (Nat.le_trans HB.out.size (by simp)) ?_; intro A1 c1 w1 hown1 hgr1 hat1; clear hat1)
      have HO1 := Lib.hid hown1
      have HB1 := Lib.hid (below_append (HB.out.alloc HB.out.size _) (HO.out.alloc _) (Nat.le_refl _) hgr1)
      go_roundw
      case rel =>
        refine ⟨j + 1, m / 256, A1, c1, by omega, by go_num, by simp, by omega, rfl, Lib.hid ?_, ?_, HB1⟩
        · rw [HM.out, Nat.pow_succ, Nat.div_div_eq_div_mul]
        · rw [bs_snoc, ← HZ.out]; exact HO1
      case measure => simp [intOf]; omega
    · obtain rfl : j = k := by omega
      go_wp2
      go_ret
      exact ⟨A, c, rfl, HO.out, HB.out⟩

theorem val_drop (l : List UInt8) (k : Nat) (c : UInt8) (h : l[k]? = some c) : Le.val (l.drop k) = 256 * Le.val (l.drop (k + 1)) + c.toNat := by
  obtain ⟨hk, rfl⟩ := List.getElem?_eq_some_iff.1 h
  rw [List.drop_eq_getElem_cons hk]
  simp only [Le.val]
  omega

set_option maxHeartbeats 400000 in
theorem of_le_any (a : Option Addr) (len cap : Nat) (l : List UInt8) (w : World) (ha : BArg w a len cap l) (h8 : len ≤ 8) :
    Calls Try.prog 62 #[.slice a len cap] w fun e w' => e = .returned (.int .u64 (Le.val l : Int)) ∧ w = w' := by
  have HL := Lib.hid ha.len_eq
  have HA := Lib.hid ha
  clear ha
  go_enter Try.func62, Try.ntmps62
  go_wp2
  go_loop [3, 4] (fun n i => ∃ (j m : Nat), j ≤ len ∧ i = .int .i64 ((j : Int) - 1) ∧ n = .int .u64 (m : Int) ∧ Hid (m = Le.val (l.drop j))) (fun _ i => (intOf i + 1).toNat)
  case atStart => exact ⟨len, 0, by omega, rfl, rfl, Lib.hid (by rw [List.drop_of_length_le (by rw [HL.out]; omega)]; rfl)⟩
  case round =>
    obtain ⟨j, m, hj, rfl, rfl, HM⟩ := hrel
    by_cases hlt : 1 ≤ j
    · obtain ⟨i, rfl⟩ : ∃ i, j = i + 1 := ⟨j - 1, by omega⟩
      have e1 : ((i + 1 : Nat) : Int) - 1 = (i : Int) := by omega
      rw [e1]
      obtain ⟨ad, c, rfl, hs, hblk, hcl, hcell⟩ := HA.out.at_ (show i < len by omega)
      have HS := Lib.hid (val_drop l i c hcl)
      have hc8 := c.toNat_lt
      have hb : 256 * m + c.toNat < 18446744073709551616 := by
        rw [HM.out, ← val_drop l i c hcl]
        have h1 := Le.val_lt (l.drop i)
        have h2 := pow256_le (l.drop i).length (by simp [HL.out]; omega)
        omega
      clear hcl hblk hs e1
      go_wp2
      go_round
      case rel => exact ⟨i, 256 * m + c.toNat, by omega, by go_num, by congr 1, Lib.hid (by rw [HS.out, HM.out])⟩
      case measure => simp [intOf]
    · obtain rfl : j = 0 := by omega
      have e1 : ((0 : Nat) : Int) - 1 = -1 := by omega
      rw [e1]
      go_wp2
      go_ret
      exact ⟨by rw [HM.out, List.drop_zero]; rfl, rfl⟩
end Go.Proofs.Ytgdchcaglkeghaa
