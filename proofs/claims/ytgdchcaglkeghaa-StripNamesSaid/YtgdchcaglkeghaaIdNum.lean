/- Synchsafe numbers: the walks of idthree.safe, Synchsafe, Value and of their references. -/
import Derived.Test.YtgdchcaglkeghaaBytes
import Derived.Laws.BitsAllLaws
namespace Go.Proofs.Ytgdchcaglkeghaa
open Go.RowKit

/-- Part i of a number, seven bits. -/
def sfb (n i : Nat) : UInt8 := UInt8.ofNat (n / 2 ^ (7 * i) % 128)
theorem sfb_nat (n i : Nat) : (sfb n i).toNat = n / 2 ^ (7 * i) % 128 := by
  unfold sfb; rw [UInt8.toNat_ofNat']; omega
/-- The four bytes of a synchsafe number. -/
def sf (n : Nat) : List UInt8 := [sfb n 3, sfb n 2, sfb n 1, sfb n 0]
/-- The last k of them. -/
def sfK (n : Nat) : Nat → List UInt8
  | 0 => [0, 0, 0, 0]
  | 1 => [0, 0, 0, sfb n 0]
  | 2 => [0, 0, sfb n 1, sfb n 0]
  | 3 => [0, sfb n 2, sfb n 1, sfb n 0]
  | _ => sf n
theorem sfK_set (n k : Nat) (h : k < 4) : (sfK n k).set (3 - k) (sfb n k) = sfK n (k + 1) := by
  have : k = 0 ∨ k = 1 ∨ k = 2 ∨ k = 3 := by omega
  rcases this with h | h | h | h <;> subst h <;> rfl
theorem ofInt_i64' (a : Nat) (ha : a < 9223372036854775808) : (BitVec.ofInt 64 (a : Int)).toNat = a := by
  rw [BitVec.ofInt_natCast, BitVec.toNat_ofNat]; exact Nat.mod_eq_of_lt (by omega)
theorem and127 (a : Nat) (ha : a < 9223372036854775808) : bits .and .i64 (a : Int) 127 = ((a % 128 : Nat) : Int) := by
  show IntKind.i64.wrap ((BitVec.ofInt 64 (a : Int) &&& BitVec.ofInt 64 ((127 : Nat) : Int)).toNat : Int) = _
  rw [BitVec.toNat_and, ofInt_i64' a ha, ofInt_i64' 127 (by omega), nat_mask7, IntKind.wrap_i64]
  omega
theorem or_i64 (a b : Nat) (ha : a < 9223372036854775808) (hb : b < 9223372036854775808) : bits .or .i64 (a : Int) (b : Int) = ((a ||| b : Nat) : Int) := by
  have hx : a ||| b < 2 ^ 63 := Nat.or_lt_two_pow (by omega) (by omega)
  show IntKind.i64.wrap ((BitVec.ofInt 64 (a : Int) ||| BitVec.ofInt 64 (b : Int)).toNat : Int) = _
  rw [BitVec.toNat_or, ofInt_i64' a ha, ofInt_i64' b hb, IntKind.wrap_i64]
  omega
theorem sfb_int (n k : Nat) (hn : n < 9223372036854775808) : bits .and .i64 ((n : Int) / 2 ^ (7 * k)) 127 = ((sfb n k).toNat : Int) := by
  have e : (n : Int) / 2 ^ (7 * k) = ((n / 2 ^ (7 * k) : Nat) : Int) := by simp
  rw [e, and127 _ (Nat.lt_of_le_of_lt (Nat.div_le_self _ _) hn), sfb_nat]
theorem mk4 (W : World) : (Instr.makeSlice 22 (.int .i64 4) (.int .i64 4)).run Try.prog W = .ok (.slice (some ⟨W.heap.size, 0, none⟩) 4 4) (W.alloc (.cells (zb 4) 5)) := run_make_bytes 4 (by omega) W

set_option maxHeartbeats 400000 in
theorem safe_any (n : Nat) (hn : n < 9223372036854775808) (w : World) :
    Calls Try.prog 59 #[.int .i64 (n : Int)] w fun e w' => e = .returned (.slice (some ⟨w.heap.size, 0, none⟩) 4 4) ∧ Owns w' w.heap.size (.slice (some ⟨w.heap.size, 0, none⟩) 4 4) (sf n) ∧ Below w.heap.size w w' := by
  have hmk := mk4
  go_enter Try.func59, Try.ntmps59
  go_wp2
  clear hmk
  go_loopw [6] (fun i wr => ∃ k : Nat, k ≤ 4 ∧ i = .int .i64 k ∧ Hid (Owns wr w.heap.size (.slice (some ⟨w.heap.size, 0, none⟩) 4 4) (sfK n k)) ∧ Hid (Below w.heap.size w wr)) (fun i _ => 4 - (intOf i).toNat)
  case atStart => exact ⟨0, by omega, rfl, Lib.hid (Owns.made w _ 4 (Nat.le_refl _) (by omega)), Lib.hid ((Below.refl _ _).alloc (Nat.le_refl _) _)⟩
  case round =>
    obtain ⟨k, hk, rfl, HO, HB⟩ := hrel
    by_cases hlt : k < 4
    · have c1 := HO.out.cellAt (j := 3 - k) (by omega)
      have c2 := HO.out.free (3 - k)
      have HS := Lib.hid (HO.out.stored (3 - k) (sfb n k))
      have HE := Lib.hid (sfK_set n k hlt)
      have hx := sfb_int n k hn
      have hz8 := (sfb n k).toNat_lt
      generalize sfb n k = z at *
      go_wp2
      go_roundw
      case rel => exact ⟨k + 1, by omega, by go_num, Lib.hid (by rw [← HE.out]; exact HS.out.1), Lib.hid (HB.out.grown HS.out.2 HB.out.size (fun j hj => by cases hj; exact Nat.le_refl _))⟩
      case measure => simp [intOf]; omega
    · obtain rfl : k = 4 := by omega
      go_wp2
      go_ret
      exact ⟨rfl, HO.out, HB.out⟩

/-- The number of some bytes of seven bits. -/
def vl (l : List UInt8) : Nat := l.foldl (fun n c => n * 128 + c.toNat) 0
theorem vl_snoc (l : List UInt8) (c : UInt8) : vl (l ++ [c]) = vl l * 128 + c.toNat := by simp [vl]
/-- What Value answers. -/
def idvP (l : List UInt8) : Int × Int :=
  if l.length = 4 then (if ∀ c ∈ l, c.toNat ≤ 127 then ((vl l : Int), 0) else (0, 12)) else (0, 2)
theorem vl_fold_lt (l : List UInt8) : ∀ (n k : Nat), (∀ c ∈ l, c.toNat ≤ 127) → n < 128 ^ k → l.foldl (fun n c => n * 128 + c.toNat) n < 128 ^ (k + l.length) := by
  induction l with
  | nil => intro n k _ hn; exact hn
  | cons x l ih =>
    intro n k h hn
    have hx := h x (by simp)
    have := ih (n * 128 + x.toNat) (k + 1) (fun c hc => h c (by simp [hc])) (by rw [Nat.pow_succ]; omega)
    simp only [List.foldl_cons, List.length_cons]
    rw [show k + (l.length + 1) = k + 1 + l.length by omega]
    exact this
theorem vl_lt (l : List UInt8) (h : ∀ c ∈ l, c.toNat ≤ 127) : vl l < 128 ^ l.length := by
  have := vl_fold_lt l 0 0 h (by decide)
  rwa [Nat.zero_add] at this
theorem pow128_le (k : Nat) (h : k ≤ 4) : 128 ^ k ≤ 268435456 := by
  have : (128 : Nat) ^ k ≤ 128 ^ 4 := Nat.pow_le_pow_right (by decide) h
  have e : (128 : Nat) ^ 4 = 268435456 := by decide
  omega
theorem take_snoc (l : List UInt8) (k : Nat) (c : UInt8) (h : l[k]? = some c) : l.take (k + 1) = l.take k ++ [c] := by
  obtain ⟨hk, rfl⟩ := List.getElem?_eq_some_iff.1 h
  rw [List.take_succ_eq_append_getElem hk]

set_option maxHeartbeats 1000000 in
theorem idval_any (a : Option Addr) (len cap : Nat) (l : List UInt8) (w : World) (ha : BArg w a len cap l) :
    Calls Try.prog 70 #[.slice a len cap] w fun e w' => e = .returned (.tuple #[.int .i64 (idvP l).1, .int .i64 (idvP l).2]) ∧ w = w' := by
  have hll := ha.len_eq
  have HA := Lib.hid ha
  clear ha
  by_cases h4 : len = 4
  · subst h4
    have HL := Lib.hid hll
    clear hll
    go_enter Try.func70, Try.ntmps70
    go_wp2
    go_loop [4, 12] (fun n i => ∃ (k v : Nat), k ≤ 4 ∧ i = .int .i64 k ∧ n = .int .i64 (v : Int) ∧ v < 268435456 ∧ Hid (v = vl (l.take k)) ∧ Hid (∀ c ∈ l.take k, c.toNat ≤ 127)) (fun _ i => 4 - (intOf i).toNat)
    case atStart => exact ⟨0, 0, by omega, rfl, rfl, by omega, Lib.hid rfl, Lib.hid (fun c hc => by simp at hc)⟩
    case round =>
      obtain ⟨k, v, hk, rfl, rfl, hv, HV, HG⟩ := hrel
      by_cases hlt : k < 4
      · obtain ⟨ad, c, rfl, hs, hblk, hcl, hcell⟩ := HA.out.at_ hlt
        have hts := take_snoc l k c hcl
        by_cases h127 : c.toNat ≤ 127
        · have g1 : decide ((127 : Int) < (c.toNat : Int)) = false := by simp; omega
          have hv3 : v < 2097152 := by
            rw [HV.out]
            have := vl_lt (l.take k) HG.out
            have hl : (l.take k).length = k := by simp; rw [HL.out]; omega
            rw [hl] at this
            have h3 : (128 : Nat) ^ k ≤ 128 ^ 3 := Nat.pow_le_pow_right (by decide) (by omega)
            have e : (128 : Nat) ^ 3 = 2097152 := by decide
            omega
          have hor : bits .or .i64 ((v : Int) * 128) (c.toNat : Int) = ((v * 128 + c.toNat : Nat) : Int) := by
            have e : (v : Int) * 128 = ((v * 128 : Nat) : Int) := by simp
            rw [e, or_i64 _ _ (by omega) (by omega)]
            have h := Nat.two_pow_add_eq_or_of_lt (i := 7) (b := c.toNat) (by omega) v
            have e128 : 2 ^ 7 * v = v * 128 := by omega
            rw [e128] at h
            rw [← h]
          have HN : Hid (v * 128 + c.toNat = vl (l.take (k + 1))) := Lib.hid (by rw [hts, vl_snoc, HV.out])
          have HG1 : Hid (∀ c ∈ l.take (k + 1), c.toNat ≤ 127) := Lib.hid (by
            rw [hts]; intro d hd
            rcases List.mem_append.1 hd with h | h
            · exact HG.out d h
            · simp at h; rw [h]; exact h127)
          have hc8 := c.toNat_lt
          clear hcl hblk hs hts
          obtain ⟨z, hz⟩ : ∃ z, z = v * 128 + c.toNat := ⟨_, rfl⟩
          rw [← hz] at hor HN
          have hz2 : z < 268435456 := by rw [hz]; omega
          clear hz h127
          go_wp2
          go_round
          case rel => exact ⟨k + 1, z, by omega, by go_num, rfl, hz2, HN, HG1⟩
          case measure => simp [intOf]; omega
        · have g1 : decide ((127 : Int) < (c.toNat : Int)) = true := by simp; omega
          have HP : Hid (idvP l = (0, 12)) := Lib.hid (by
            unfold idvP
            rw [if_pos HL.out, if_neg (fun h => h127 (h c (List.mem_of_getElem? hcl)))])
          clear hcl hblk hs hts h127
          go_wp2
          go_ret2
          exact ⟨by rw [HP.out]; rfl, rfl⟩
      · obtain rfl : k = 4 := by omega
        have HP : Hid (idvP l = ((v : Int), 0)) := Lib.hid (by
          have hg := HG.out
          rw [List.take_of_length_le (by rw [HL.out]; omega)] at hg
          unfold idvP
          rw [if_pos HL.out, if_pos hg, HV.out, List.take_of_length_le (by rw [HL.out]; omega)])
        go_wp2
        go_ret2
        exact ⟨by rw [HP.out]; rfl, rfl⟩
  · have HP : Hid (idvP l = (0, 2)) := Lib.hid (by unfold idvP; rw [if_neg (by omega)])
    have g1 : ((len : Int) != 4) = true := by simp; omega
    clear hll h4
    go_enter Try.func70, Try.ntmps70
    go_wp2
    go_ret2
    exact ⟨by rw [HP.out]; rfl, rfl⟩

set_option maxHeartbeats 1000000 in
theorem ridval_any (a : Option Addr) (len cap : Nat) (l : List UInt8) (w : World) (ha : BArg w a len cap l) :
    Calls Try.prog 64 #[.slice a len cap] w fun e w' => e = .returned (.tuple #[.int .i64 (idvP l).1, .int .i64 (idvP l).2]) ∧ w = w' := by
  have hll := ha.len_eq
  have HA := Lib.hid ha
  clear ha
  by_cases h4 : len = 4
  · subst h4
    have HL := Lib.hid hll
    clear hll
    go_enter Try.func64, Try.ntmps64
    go_wp2
    go_loop [4, 5] (fun n i => ∃ (k v : Nat), k ≤ 4 ∧ i = .int .i64 k ∧ n = .int .i64 (v : Int) ∧ v < 268435456 ∧ Hid (v = vl (l.take k)) ∧ Hid (∀ c ∈ l.take k, c.toNat ≤ 127)) (fun _ i => 4 - (intOf i).toNat)
    case atStart => exact ⟨0, 0, by omega, rfl, rfl, by omega, Lib.hid rfl, Lib.hid (fun c hc => by simp at hc)⟩
    case round =>
      obtain ⟨k, v, hk, rfl, rfl, hv, HV, HG⟩ := hrel
      by_cases hlt : k < 4
      · obtain ⟨ad, c, rfl, hs, hblk, hcl, hcell⟩ := HA.out.at_ hlt
        have hts := take_snoc l k c hcl
        by_cases h127 : c.toNat ≤ 127
        · have g1 : decide ((128 : Int) ≤ (c.toNat : Int)) = false := by simp; omega
          have hv3 : v < 2097152 := by
            rw [HV.out]
            have := vl_lt (l.take k) HG.out
            have hl : (l.take k).length = k := by simp; rw [HL.out]; omega
            rw [hl] at this
            have h3 : (128 : Nat) ^ k ≤ 128 ^ 3 := Nat.pow_le_pow_right (by decide) (by omega)
            have e : (128 : Nat) ^ 3 = 2097152 := by decide
            omega
          have HN : Hid (v * 128 + c.toNat = vl (l.take (k + 1))) := Lib.hid (by rw [hts, vl_snoc, HV.out])
          have HG1 : Hid (∀ c ∈ l.take (k + 1), c.toNat ≤ 127) := Lib.hid (by
            rw [hts]; intro d hd
            rcases List.mem_append.1 hd with h | h
            · exact HG.out d h
            · simp at h; rw [h]; exact h127)
          have hc8 := c.toNat_lt
          clear hcl hblk hs hts
          go_wp2
          go_round
          case rel => exact ⟨k + 1, v * 128 + c.toNat, by omega, by go_num, by congr 1; omega, by omega, HN, HG1⟩
          case measure => simp [intOf]; omega
        · have g1 : decide ((128 : Int) ≤ (c.toNat : Int)) = true := by simp; omega
          have HP : Hid (idvP l = (0, 12)) := Lib.hid (by
            unfold idvP
            rw [if_pos HL.out, if_neg (fun h => h127 (h c (List.mem_of_getElem? hcl)))])
          clear hcl hblk hs hts h127
          go_wp2
          go_ret2
          exact ⟨by rw [HP.out]; rfl, rfl⟩
      · obtain rfl : k = 4 := by omega
        have HP : Hid (idvP l = ((v : Int), 0)) := Lib.hid (by
          have hg := HG.out
          rw [List.take_of_length_le (by rw [HL.out]; omega)] at hg
          unfold idvP
          rw [if_pos HL.out, if_pos hg, HV.out, List.take_of_length_le (by rw [HL.out]; omega)])
        go_wp2
        go_ret2
        exact ⟨by rw [HP.out]; rfl, rfl⟩
  · have HP : Hid (idvP l = (0, 2)) := Lib.hid (by unfold idvP; rw [if_neg (by omega)])
    have g1 : ((len : Int) != 4) = true := by simp; omega
    clear hll h4
    go_enter Try.func64, Try.ntmps64
    go_wp2
    go_ret2
    exact ⟨by rw [HP.out]; rfl, rfl⟩
end Go.Proofs.Ytgdchcaglkeghaa
