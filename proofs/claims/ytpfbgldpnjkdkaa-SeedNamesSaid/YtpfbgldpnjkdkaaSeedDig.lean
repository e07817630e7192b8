/- The walk of seed.Digest: the number with some taps. -/
import Derived.Test.YtpfbgldpnjkdkaaSeedMixed
namespace Go.Proofs.Ytpfbgldpnjkdkaa
open Go.RowKit

/-- Tap i may stand there. -/
def okAt (l : List Int) (i : Nat) : Prop := (8 ≤ i → l.getD i 0 = 0) ∧ -128 ≤ l.getD i 0 ∧ l.getD i 0 ≤ 127
instance (l : List Int) (i : Nat) : Decidable (okAt l i) := by unfold okAt; infer_instance
/-- All taps may stand there. -/
def good (l : List Int) : Prop := ∀ i, i < 16 → okAt l i
/-- The number of the first k taps. -/
def dg (l : List Int) : Nat → Nat
  | 0 => 0
  | k + 1 => if k < 8 then dg l k + (l.getD k 0 % 256).toNat * 2 ^ (8 * k) else dg l k
theorem dg_lt (l : List Int) (k : Nat) (hk : k ≤ 8) : dg l k < 2 ^ (8 * k) := by
  induction k with
  | zero => simp [dg]
  | succ k ih =>
    have h := ih (by omega)
    simp only [dg]
    rw [if_pos (by omega)]
    have e : 2 ^ (8 * (k + 1)) = 256 * 2 ^ (8 * k) := by rw [Nat.mul_add, Nat.pow_add]; omega
    rw [e]
    have hb : (l.getD k 0 % 256).toNat ≤ 255 := by omega
    have := Nat.mul_le_mul_right (2 ^ (8 * k)) hb
    omega
theorem dg_lt64 (l : List Int) (k : Nat) : dg l k < 18446744073709551616 := by
  induction k with
  | zero => simp [dg]
  | succ k ih =>
    by_cases h : k < 8
    · have h1 := dg_lt l (k + 1) (by omega)
      have h2 : 2 ^ (8 * (k + 1)) ≤ 2 ^ 64 := Nat.pow_le_pow_right (by decide) (by omega)
      omega
    · simp only [dg]; rw [if_neg h]; exact ih
theorem dg_step (l : List Int) (k : Nat) (hk : k < 8) :
    bits .or .u64 (dg l k : Int) (IntKind.u64.wrap ((l.getD k 0 % 256) * 2 ^ (8 * k))) = (dg l (k + 1) : Int) := by
  obtain ⟨b, hb⟩ : ∃ b : Nat, l.getD k 0 % 256 = b := ⟨(l.getD k 0 % 256).toNat, by omega⟩
  have hb8 : b < 256 := by omega
  have h0 := dg_lt l k (by omega)
  have hp := pow8_le k (by omega)
  have h2 : b * 2 ^ (8 * k) ≤ 255 * 2 ^ (8 * k) := Nat.mul_le_mul_right _ (by omega)
  have e : IntKind.u64.wrap ((b : Int) * 2 ^ (8 * k)) = ((b * 2 ^ (8 * k) : Nat) : Int) := by
    rw [IntKind.wrap_u64]
    have : ((b * 2 ^ (8 * k) : Nat) : Int) = (b : Int) * 2 ^ (8 * k) := by simp
    rw [← this]
    omega
  rw [hb, e, u64_or_nat _ _ (dg_lt64 l k) (by omega)]
  have h3 := Nat.two_pow_add_eq_or_of_lt h0 b
  simp only [dg]
  rw [if_pos hk, hb, Nat.or_comm, Nat.mul_comm b, ← h3]
  simp [Nat.add_comm, Nat.mul_comm]

/-- An element of an array by value. -/
theorem run_index_arr {P : Program} (t e : TypeId) (n : Nat) (k k' : IntKind) (ht : P.underlying t = some (.array n e)) (he : P.underlying e = some (.int k')) (hs : (P.info? e).map (·.size) = some 1)
    (l : List Int) (hl : l.length = n) (i : Nat) (hi : i < n) (w : World) : (Instr.index t (.agg (ints k l)) (.int .i64 (i : Int))).run P w = .ok (.int k (l.getD i 0)) w := by
  have hz : (Go.sizeOf e).run P w = .ok 1 w := by
    cases hq : P.info? e with
    | none => simp [hq] at hs
    | some i => simp [hq] at hs; simp [Go.sizeOf, typeInfo, hq, hs]
  have hp := run_part_int (P := P) w e k k' he l i (l.getD i 0) (by simp [List.getD, List.getElem?_eq_getElem (show i < l.length by omega)])
  simp only [List.getD] at hp
  simp [Instr.index, run_underlying ht, asIntOf, hi, hz, hp]

/-- What seed.Digest answers. -/
def DigPost (l : List Int) (w : World) (e : Ending) (w' : World) : Prop :=
  ((good l ∧ e = .returned (.tuple #[.int .u64 (dg l 8), .int .i64 0])) ∨ (¬ good l ∧ e = .returned (.tuple #[.int .u64 0, .int .i64 16]))) ∧ Below w.heap.size w w'
theorem dg_more (l : List Int) (k : Nat) (h : 8 ≤ k) : dg l k = dg l 8 := by
  induction k with
  | zero => omega
  | succ k ih =>
    by_cases h8 : 8 ≤ k
    · simp only [dg]; rw [if_neg (by omega), ih h8]; simp [dg]
    · obtain rfl : k = 7 := by omega
      rfl
theorem or_zero_u64 (n : Nat) (h : n < 18446744073709551616) : bits .or .u64 (n : Int) 0 = (n : Int) := by
  have := u64_or_nat n 0 h (by omega)
  simpa using this

set_option maxHeartbeats 1000000 in
theorem dig_any (l : List Int) (hl : l.length = 16) (w : World) :
    Calls Try.prog 17 #[.agg (ints .i32 l)] w (DigPost l w) := by
  have hix := fun (i : Nat) (hi : i < 16) (W : World) => run_index_arr (P := Try.prog) 24 21 16 .i32 .i32 Try.underlying24 Try.underlying21 (by kernel_rfl) l hl i hi W
  have HL := Lib.hid hl
  have HX := Lib.hid hix
  clear hl hix
  go_enter Try.func17, Try.ntmps17
  go_wp2_with (refine wpList_load_row rfl 24 _ rfl w.heap.size rfl 24 (ints .i32 l) (0, 0) _ (heap_alloc_new w _) Try.underlying24 rfl (info24 _ HL.out) ?_)
  go_loop [4, 8] (fun o i => ∃ k : Nat, k ≤ 16 ∧ i = .int .i64 k ∧ o = .int .u64 (dg l k : Nat) ∧ Hid (∀ j, j < k → okAt l j)) (fun _ i => 16 - (intOf i).toNat)
  case atStart => exact ⟨0, by omega, rfl, rfl, fun j hj => absurd hj (by omega)⟩
  case round =>
    obtain ⟨k, hk, rfl, rfl, hok⟩ := hrel
    by_cases hlt : k < 16
    · have hx := HX.out k hlt
      have hd := dg_lt64 l k
      have HS := Lib.hid (dg_step l k)
      have HM := Lib.hid (dg_more l k)
      have HM1 := Lib.hid (dg_more l (k + 1))
      have HOK : Hid (okAt l k ↔ ((8 ≤ k → l.getD k 0 = 0) ∧ -128 ≤ l.getD k 0 ∧ l.getD k 0 ≤ 127)) := Iff.rfl
      generalize l.getD k 0 = x at *
      have hc : decide ((k : Int) < 16) = true := by simp; omega
      by_cases h1 : x < -128
      · have g0 : ¬ okAt l k := fun h => by have := HOK.out.1 h; omega
        have G0 := Lib.hid g0
        have g1 : decide (x < -128) = true := by simpa using h1
        clear g0 h1
        by_cases h8 : 8 ≤ k
        · have g3 : (x != 0) = true := by simp at g1; simp; omega
          have g4 : decide ((8 : Int) ≤ (k : Int)) = true := by simp; omega
          go_wp2
          go_ret2
          exact ⟨.inr ⟨fun h => G0.out (h k hlt), rfl⟩, (Below.refl _ _).alloc (Nat.le_refl _) _⟩
        · have g4 : decide ((8 : Int) ≤ (k : Int)) = false := by simp; omega
          go_wp2
          go_ret2
          exact ⟨.inr ⟨fun h => G0.out (h k hlt), rfl⟩, (Below.refl _ _).alloc (Nat.le_refl _) _⟩
      · have g1 : decide (x < -128) = false := by simpa using h1
        by_cases h2 : 127 < x
        · have g0 : ¬ okAt l k := fun h => by have := HOK.out.1 h; omega
          have G0 := Lib.hid g0
          have g2 : decide (127 < x) = true := by simpa using h2
          have g3 : (x != 0) = true := by simp; omega
          clear g0 h1 h2
          by_cases h8 : 8 ≤ k
          · have g4 : decide ((8 : Int) ≤ (k : Int)) = true := by simp; omega
            go_wp2
            go_ret2
            exact ⟨.inr ⟨fun h => G0.out (h k hlt), rfl⟩, (Below.refl _ _).alloc (Nat.le_refl _) _⟩
          · have g4 : decide ((8 : Int) ≤ (k : Int)) = false := by simp; omega
            go_wp2
            go_ret2
            exact ⟨.inr ⟨fun h => G0.out (h k hlt), rfl⟩, (Below.refl _ _).alloc (Nat.le_refl _) _⟩
        · have g2 : decide (127 < x) = false := by simpa using h2
          by_cases h8 : 8 ≤ k
          · have g4 : decide ((8 : Int) ≤ (k : Int)) = true := by simp; omega
            by_cases h0 : x = 0
            · have G0 := Lib.hid (HOK.out.2 ⟨fun _ => h0, by omega, by omega⟩)
              subst h0
              have e1 := or_zero_u64 (dg l k) hd
              clear g1 g2 h1 h2
              go_wp2
              go_round
              case rel =>
                refine ⟨k + 1, by omega, by go_num, ?_, fun j hj => ?_⟩
                · rw [HM.out h8, HM1.out (by omega)]
                · rcases Nat.lt_or_ge j k with h | h
                  · exact hok.out j h
                  · obtain rfl : j = k := by omega
                    exact G0.out
              case measure => simp [intOf]; omega
            · have g0 : ¬ okAt l k := fun h => h0 ((HOK.out.1 h).1 h8)
              have G0 := Lib.hid g0
              have g3 : (x != 0) = true := by simpa using h0
              clear g0 h0
              go_wp2
              go_ret2
              exact ⟨.inr ⟨fun h => G0.out (h k hlt), rfl⟩, (Below.refl _ _).alloc (Nat.le_refl _) _⟩
          · have g4 : decide ((8 : Int) ≤ (k : Int)) = false := by simp; omega
            have G0 := Lib.hid (HOK.out.2 ⟨fun h => absurd h h8, by omega, by omega⟩)
            go_wp2
            go_round
            case rel =>
              refine ⟨k + 1, by omega, by go_num, ?_, fun j hj => ?_⟩
              · have e8 : k % 8 = k := by omega
                rw [e8, HS.out (by omega)]
              · rcases Nat.lt_or_ge j k with h | h
                · exact hok.out j h
                · obtain rfl : j = k := by omega
                  exact G0.out
            case measure => simp [intOf]; omega
    · obtain rfl : k = 16 := by omega
      go_wp2
      go_ret2
      exact ⟨.inl ⟨hok.out, by rw [dg_more l 16 (by omega)]; rfl⟩, (Below.refl _ _).alloc (Nat.le_refl _) _⟩
end Go.Proofs.Ytpfbgldpnjkdkaa
