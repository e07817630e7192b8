/- The walks of the reference's Tag and Write (layer 28). -/
import Derived.Test.YtncmebhgnpeblaaIdWrite
import Derived.Test.YtncmebhgnpeblaaIdRSafe
import Derived.Lib.AppendStr
namespace Go.Proofs.Ytncmebhgnpeblaa
open Go.RowKit
attribute [local go_sem ↓] Go.wp_at_zero Go.wp_at_succ

theorem le_alloc (w : World) (o : Obj) : w.heap.size ≤ (w.alloc o).heap.size := by simp
theorem apart {v3 v4 : Value} {S : Nat} (h3 : ∀ k, v3.ownBlock = some k → k < S) (h4 : ∀ k, v4.ownBlock = some k → S ≤ k) : v3.ownBlock = none ∨ v3.ownBlock ≠ v4.ownBlock := by
  cases h : v3.ownBlock with
  | none => exact .inl rfl
  | some k =>
    refine .inr fun he => ?_
    have a := h3 k h
    have b := h4 k he.symm
    omega
theorem wpList_append_str {ops : Array Oper} {rest : List Oper} {o : Oper} {a : Act} {w : World} {Q : Exit → Act → World → Prop} (hgd : o.guard = none) (s x : Operand)
    (ho : o.op = .call { callee := .builtin .append, args := #[s, x], argTypes := #[22, 9] })
    (base : Nat) (v : Value) (l : List UInt8) (hs : a.eval s = v) (hown : Owns w base v l) (t : ByteArray) (hx : a.eval x = .string t)
    (N : Nat) (hN : l.length + t.size = N) (h0 : 0 < N) (hsum : N ≤ 140737488355328) (hbase : base ≤ w.heap.size)
    (h : ∀ A' cap' w', Owns w' base (.slice A' N cap') (l ++ sb t) → w.grownBy w' v.ownBlock → wpList Try.prog ops Q rest (a.put o.dst (.slice A' N cap')) w') : wpList Try.prog ops Q (o :: rest) a w := by
  obtain ⟨i, hi, hz, h1, h2⟩ := info_parts infoU8
  refine Lib.wpList_append_own_string w hgd s x 22 9 ho base 5 i Try.underlying22 Try.underlying9 hi hz h1 h2 v l.length (vb l) hs hown t hx (by unfold maxLen; omega) (by omega) hbase fun v' w' h3 h4 _ => ?_
  have hl : (l ++ sb t).length = l.length + t.size := by rw [List.length_append, sb_size]
  have h5 : Owns w' base v' (l ++ sb t) := by
    unfold Owns
    rw [hl, vb_append]
    exact h3
  obtain ⟨A', c', rfl, _⟩ := h5.form
  rw [hl, hN] at h5 ⊢
  exact h A' c' w' h5 h4

set_option maxRecDepth 100000 in
set_option maxHeartbeats 4000000 in
theorem rtag_any (a : Option Addr) (len cap : Nat) (l : List UInt8) (f : Bool) (w : World) (ha : BArg w a len cap l) (h50 : len ≤ 5000) :
    Calls Try.prog 26 #[.slice a len cap, .bool f] w fun e w' => ∃ A k, e = .returned (.slice A (idN len f) k) ∧ Owns w' w.heap.size (.slice A (idN len f) k) (idTag l f) ∧ Below w.heap.size w w' := by
  have hll := ha.len_eq
  have hlc := ha.le
  have HA := Lib.hid ha
  have HL := Lib.hid hll
  have kc := fun (w : World) (C : Array Value) (n c : Nat) => Lib.run_convert_bytes_const (P := Try.prog) w 22 5 C n c Try.underlying22 Try.underlying5
  clear ha hll
  cases f with
  | false =>
    have hT : id3 ++ ([4, 0, 0] ++ sf len) ++ l = idTag l false := by unfold idTag midL; rw [HL.out]; simp
    have HT := Lib.hid hT
    have hN : idN len false = len + 10 := rfl
    rw [hN]
    have hs7 : ([4, 0, 0] ++ sf len).length = 7 := rfl
    clear hT hN
    go_enter Try.func26, Try.ntmps26
    go_wp2_with fail
    refine (rsafe_any len (by omega) _).mono ?_
    rintro e w2 ⟨rfl, ho, hb⟩
    rw [World.size_alloc] at ho
    have HG2 := Lib.hid ((GRow.lit w w.heap.size [4, 0, 0] 3 rfl (by omega) 5 (0, 0) #[.int .u8 4, .int .u8 0, .int .u8 0] rfl (Nat.le_refl _)).below hb)
    have HO2 := Lib.hid ho
    have HB2 := Lib.hid (((Below.refl _ w).alloc (Nat.le_refl _) (.cells #[.int .u8 4, .int .u8 0, .int .u8 0] 5)).trans (hb.mono (by simp)))
    clear ho hb
    have HS7 := Lib.hid hs7
    clear hs7
    go_wp2_with (first
      | (at_builtin; refine wpList_append_g rfl (.tmp 10) (.tmp 13) rfl w.heap.size _ [4, 0, 0] rfl HG2.out _ 4 4 (sf len) rfl HO2.out.arg (by omega) 7 (by rfl) (by omega) HB2.out.size ?_; intro A3 c3 w3 hown hgr _; have HO3 := Lib.hid hown; have HB3 := Lib.hid (below_append_g HB2.out HG2.out (Nat.le_refl _) hgr); clear hown hgr HG2)
      | (at_builtin; refine wpList_append_g rfl (.tmp 16) (.tmp 17) rfl w.heap.size _ id3 rfl (GRow.lit w3 w.heap.size id3 3 rfl (by omega) 5 (3, 4) #[.int .u8 73, .int .u8 68, .int .u8 51] rfl HB3.out.size) _ 7 c3 ([4, 0, 0] ++ sf len) rfl (HO3.out.alloc _).arg (by omega) 10 (by rfl) (by omega) (by have := HB3.out.size; simp; omega) ?_; intro A4 c4 w4 hown hgr _; have HO4 := Lib.hid hown; have HB4 := Lib.hid (below_append_g (HB3.out.alloc HB3.out.size _) (GRow.lit w3 w.heap.size id3 3 rfl (by omega) 5 (3, 4) #[.int .u8 73, .int .u8 68, .int .u8 51] rfl HB3.out.size) (Nat.le_refl _) hgr); clear hown hgr HO3)
      | (at_builtin; refine wpList_append_bytes rfl (.tmp 19) (.tmp 20) rfl w.heap.size _ (id3 ++ ([4, 0, 0] ++ sf len)) rfl HO4.out _ len cap l rfl (HA.out.below HB4.out) (len + 10) (by simp [id3, sf] <;> omega) (by omega) HB4.out.size ?_; intro A5 c5 w5 hown hgr _; have HO5 := Lib.hid hown; have HB5 := Lib.hid (below_append HB4.out HO4.out (Nat.le_refl _) hgr); clear hown hgr HO4))
    go_ret
    exact ⟨A5, c5, rfl, by rw [← HT.out]; exact HO5.out, HB5.out⟩
  | true =>
    have hT : id3 ++ ([4, 0, 16] ++ sf len) ++ l ++ sb ⟨#[51, 68, 73]⟩ ++ ([4, 0, 16] ++ sf len) = idTag l true := by unfold idTag midL; rw [HL.out]; simp [sb]
    have HT := Lib.hid hT
    have hN : idN len true = len + 20 := rfl
    rw [hN]
    clear hT hN
    go_enter Try.func26, Try.ntmps26
    go_wp2_with fail
    refine (rsafe_any len (by omega) _).mono ?_
    rintro e w2 ⟨rfl, ho, hb⟩
    rw [World.size_alloc] at ho
    have HG2 := Lib.hid ((GRow.lit w w.heap.size [4, 0, 16] 3 rfl (by omega) 5 (0, 0) #[.int .u8 4, .int .u8 0, .int .u8 16] rfl (Nat.le_refl _)).below hb)
    have HO2 := Lib.hid ho
    have HB2 := Lib.hid (((Below.refl _ w).alloc (Nat.le_refl _) (.cells #[.int .u8 4, .int .u8 0, .int .u8 16] 5)).trans (hb.mono (by simp)))
    clear ho hb
    go_wp2_with (first
      | (at_builtin; refine wpList_append_g rfl (.tmp 10) (.tmp 13) rfl w.heap.size _ [4, 0, 16] rfl HG2.out _ 4 4 (sf len) rfl HO2.out.arg (by omega) 7 (by rfl) (by omega) HB2.out.size ?_; intro A3 c3 w3 hown hgr _; have HO3 := Lib.hid hown; have HB3 := Lib.hid (below_append_g HB2.out HG2.out (Nat.le_refl _) hgr); have HL3 := Lib.hid (fun k hk => (hown.lt k hk).2); have hS3 := HB3.out.size; clear hown hgr HG2)
      | (at_builtin; refine wpList_append_g rfl (.tmp 16) (.tmp 17) rfl w3.heap.size _ id3 rfl (GRow.lit w3 w3.heap.size id3 3 rfl (by omega) 5 (3, 4) #[.int .u8 73, .int .u8 68, .int .u8 51] rfl (Nat.le_refl _)) _ 7 c3 ([4, 0, 16] ++ sf len) rfl (HO3.out.alloc _).arg (by omega) 10 (by rfl) (by omega) (by simp) ?_; intro A4 c4 w4 hown hgr _; have HO4 := Lib.hid hown; have HB4 := Lib.hid ((HB3.out.alloc hS3 _).grown hgr (Nat.le_trans hS3 (le_alloc w3 _)) (fun k hk => Nat.le_trans hS3 (Nat.le_of_eq (Option.some.inj hk)))); have HM4 := Lib.hid ((HO3.out.alloc _).kept hgr (apart (v4 := .slice (some ⟨w3.heap.size, 0, none⟩) 3 3) HL3.out (fun k hk => Nat.le_of_eq (Option.some.inj hk)))); have hS4 : w3.heap.size ≤ w4.heap.size := Nat.le_trans (le_alloc w3 _) hgr.size; clear hown hgr HO3)
      | (at_builtin; refine wpList_append_bytes rfl (.tmp 19) (.tmp 20) rfl w3.heap.size _ (id3 ++ ([4, 0, 16] ++ sf len)) rfl HO4.out _ len cap l rfl (HA.out.below HB4.out) (len + 10) (by simp [id3, sf] <;> omega) (by omega) hS4 ?_; intro A5 c5 w5 hown hgr _; have HO5 := Lib.hid hown; have HB5 := Lib.hid (HB4.out.grown hgr HB4.out.size (fun k hk => Nat.le_trans hS3 (HO4.out.lt k hk).1)); have HM5 := Lib.hid (HM4.out.kept hgr (apart HL3.out (fun k hk => (HO4.out.lt k hk).1))); have hS5 : w3.heap.size ≤ w5.heap.size := Nat.le_trans (by assumption) hgr.size; clear hown hgr HO4 HM4)
      | (at_builtin; refine wpList_append_str rfl (.tmp 23) (.const (.string ⟨#[51, 68, 73]⟩)) rfl w3.heap.size _ (id3 ++ ([4, 0, 16] ++ sf len) ++ l) rfl HO5.out ⟨#[51, 68, 73]⟩ rfl (len + 13) (by have h1 := HL.out; have h2 : (⟨#[51, 68, 73]⟩ : ByteArray).size = 3 := rfl; rw [h2]; simp [id3, sf] <;> omega) (by omega) (by omega) hS5 ?_; intro A6 c6 w6 hown hgr; have HO6 := Lib.hid hown; have HB6 := Lib.hid (HB5.out.grown hgr HB5.out.size (fun k hk => Nat.le_trans hS3 (HO5.out.lt k hk).1)); have HM6 := Lib.hid (HM5.out.kept hgr (apart HL3.out (fun k hk => (HO5.out.lt k hk).1))); have hS6 : w3.heap.size ≤ w6.heap.size := Nat.le_trans (by assumption) hgr.size; clear hown hgr HO5 HM5)
      | (at_builtin; refine wpList_append_bytes rfl (.tmp 24) (.tmp 25) rfl w3.heap.size _ (id3 ++ ([4, 0, 16] ++ sf len) ++ l ++ sb ⟨#[51, 68, 73]⟩) rfl HO6.out _ 7 c3 ([4, 0, 16] ++ sf len) rfl HM6.out.arg (len + 20) (by have h1 := HL.out; simp [id3, sf, sb] <;> omega) (by omega) hS6 ?_; intro A7 c7 w7 hown hgr _; have HO7 := Lib.hid hown; have HB7 := Lib.hid (HB6.out.grown hgr HB6.out.size (fun k hk => Nat.le_trans hS3 (HO6.out.lt k hk).1)); clear hown hgr HO6 HM6))
    go_ret
    exact ⟨A7, c7, rfl, by rw [← HT.out]; exact HO7.out.mono hS3, HB7.out⟩

set_option maxRecDepth 100000 in
set_option maxHeartbeats 1000000 in
theorem ridwrite_any (a : Option Addr) (len cap : Nat) (l : List UInt8) (f : Bool) (w : World) (ha : BArg w a len cap l) (h50 : len ≤ 5000) :
    Calls Try.prog 17 #[.slice a len cap, .bool f] w fun e w' => ∃ A n k, e = .returned (.tuple #[.slice A n k, .int .i64 (idE len f)]) ∧ Below w.heap.size w w' ∧ (idE len f = 4 → A = none ∧ n = 0 ∧ k = 0) ∧ (idE len f = 0 → n = idN len f ∧ Owns w' w.heap.size (.slice A (idN len f) k) (idTag l f)) := by
  have HT := Lib.hid (rtag_any a len cap l f w ha h50)
  have hlc := ha.le
  have hcs := ha.small
  clear ha
  cases f with
  | false =>
    have hN : idN len false = len + 10 := rfl
    by_cases hm : 4000 < 10 + len
    · have HE : Hid (idE len false = 4) := Lib.hid (by unfold idE; rw [if_pos (by rw [hN]; omega)])
      clear hN
      go_enter Try.func17, Try.ntmps17
      go_wp2_with fail
      go_ret2
      exact ⟨none, 0, 0, by rw [HE.out]; rfl, Below.refl _ _, fun _ => ⟨rfl, rfl, rfl⟩, fun h => by rw [HE.out] at h; exact absurd h (by decide)⟩
    · have HE : Hid (idE len false = 0) := Lib.hid (by unfold idE; rw [if_neg (by rw [hN]; omega)])
      rw [hN] at HT ⊢
      clear hN
      go_enter Try.func17, Try.ntmps17
      go_wp2_with fail
      refine HT.out.mono ?_
      rintro e w2 ⟨A, k, rfl, ho, hb⟩
      have HO := Lib.hid ho
      have HB := Lib.hid hb
      clear ho hb
      go_wp2_with fail
      go_ret2
      exact ⟨A, len + 10, k, by rw [HE.out]; rfl, HB.out, fun h => by rw [HE.out] at h; exact absurd h (by decide), fun _ => ⟨rfl, HO.out⟩⟩
  | true =>
    have hN : idN len true = len + 20 := rfl
    by_cases hm : 4000 < 10 + len + 10
    · have HE : Hid (idE len true = 4) := Lib.hid (by unfold idE; rw [if_pos (by rw [hN]; omega)])
      clear hN
      go_enter Try.func17, Try.ntmps17
      go_wp2_with fail
      go_ret2
      exact ⟨none, 0, 0, by rw [HE.out]; rfl, Below.refl _ _, fun _ => ⟨rfl, rfl, rfl⟩, fun h => by rw [HE.out] at h; exact absurd h (by decide)⟩
    · have HE : Hid (idE len true = 0) := Lib.hid (by unfold idE; rw [if_neg (by rw [hN]; omega)])
      rw [hN] at HT ⊢
      clear hN
      go_enter Try.func17, Try.ntmps17
      go_wp2_with fail
      refine HT.out.mono ?_
      rintro e w2 ⟨A, k, rfl, ho, hb⟩
      have HO := Lib.hid ho
      have HB := Lib.hid hb
      clear ho hb
      go_wp2_with fail
      go_ret2
      exact ⟨A, len + 20, k, by rw [HE.out]; rfl, HB.out, fun h => by rw [HE.out] at h; exact absurd h (by decide), fun _ => ⟨rfl, HO.out⟩⟩
end Go.Proofs.Ytncmebhgnpeblaa
