/- LeBytes: the walk. -/
import Derived.Test.YtodieokchglajaaLeBase
import Derived.StillTailTactics
import Derived.Deep.RegionWith
import Derived.Deep.DeepCutAuto
import Derived.Test.YtodieokchglajaaOpAt
import Derived.Deep.QuietTactic
import Derived.BigQuiet
namespace Go.Proofs.Ytodieokchglajaa
open Go.RowKit
attribute [local go_sem ↓] Go.wp_at_zero Go.wp_at_succ

/-- Is one of the bytes from p up to k not 0? -/
def ovr (l : List UInt8) (p : Nat) : Nat → Bool
  | 0 => false
  | k + 1 => ovr l p k || (decide (p ≤ k) && !(l.getD k 0 == 0))
theorem ovr_low (l : List UInt8) (p k : Nat) (h : k ≤ p) : ovr l p k = false := by
  induction k with
  | zero => rfl
  | succ k ih => simp [ovr, ih (by omega), show ¬ p ≤ k by omega]
theorem val_zeros (l : List UInt8) (h : ∀ i, i < l.length → l.getD i 0 = 0) : Le.val l = 0 := by
  induction l with
  | nil => rfl
  | cons x l ih =>
    have h0 := h 0 (by simp)
    have e : x = 0 := by simpa [List.getD] using h0
    have := ih (fun i hi => by have := h (i + 1) (by simp; omega); simpa [List.getD] using this)
    simp only [Le.val, this, e]; rfl
theorem ovr_iff (l : List UInt8) (p k : Nat) : ovr l p k = false ↔ ∀ i, p ≤ i → i < k → l.getD i 0 = 0 := by
  induction k with
  | zero => simp [ovr]
  | succ k ih =>
    simp only [ovr, Bool.or_eq_false_iff, ih, Bool.and_eq_false_iff, decide_eq_false_iff_not]
    constructor
    · rintro ⟨h1, h2⟩ i hp hi
      rcases Nat.lt_or_ge i k with h | h
      · exact h1 i hp h
      · obtain rfl : i = k := by omega
        rcases h2 with h2 | h2
        · exact absurd hp h2
        · simpa using h2
    · intro h
      refine ⟨fun i hp hi => h i hp (by omega), ?_⟩
      by_cases hp : p ≤ k
      · right; have := h k hp (by omega); simpa using this
      · left; exact hp
theorem ovr_step (l : List UInt8) (p k : Nat) (c : UInt8) (hp : p ≤ k) (hc : l[k]? = some c) : ovr l p (k + 1) = (ovr l p k || !((c.toNat : Int) == 0)) := by
  have e : l.getD k 0 = c := by simp [List.getD, hc]
  have e2 : (c == 0) = ((c.toNat : Int) == 0) := by
    rw [Bool.eq_iff_iff]; simp only [beq_iff_eq]
    exact ⟨fun h => by rw [h]; rfl, fun h => UInt8.toNat_inj.1 (by show c.toNat = 0; omega)⟩
  simp only [ovr]
  rw [e, e2, decide_eq_true hp, Bool.true_and]
theorem val_split (l : List UInt8) (p : Nat) : Le.val l = Le.val (l.take p) + 256 ^ (l.take p).length * Le.val (l.drop p) := by
  rw [← Le.val_append, List.take_append_drop]
/-- It fits a smaller width just if the bytes behind are 0; then its bytes are the first ones. -/
theorem fit_small (l : List UInt8) (p : Nat) (hp : p < l.length) : (Le.val l < 256 ^ p ↔ ovr l p l.length = false) ∧ (Le.val l < 256 ^ p → Le.bs (Le.val l) p = l.take p) := by
  have hs := val_split l p
  have hl : (l.take p).length = p := by simp; omega
  have h1 := Le.val_lt (l.take p)
  rw [hl] at hs h1
  have hz : Le.val l < 256 ^ p → Le.val (l.drop p) = 0 := fun h => by
    rcases Nat.eq_zero_or_pos (Le.val (l.drop p)) with h0 | h0
    · exact h0
    · have : 256 ^ p * 1 ≤ 256 ^ p * Le.val (l.drop p) := Nat.mul_le_mul_left _ h0
      omega
  have hd : Le.val (l.drop p) = 0 → ∀ i, p ≤ i → i < l.length → l.getD i 0 = 0 := fun h i h1 h2 => by
    have e : l.drop p = List.replicate (l.drop p).length 0 := by
      apply Le.val_inj
      · simp
      · rw [h, val_zeros (List.replicate _ 0) (fun i hi => by rw [List.getD, List.getElem?_replicate, if_pos (by simpa using hi)]; rfl)]
    have e2 := congrArg (fun k => k.getD (i - p) 0) e
    simp only [List.getD, List.getElem?_drop, show p + (i - p) = i by omega] at e2
    rw [List.getD, e2, List.getElem?_replicate, if_pos (by simp; omega)]; rfl
  refine ⟨⟨fun h => (ovr_iff l p l.length).2 (hd (hz h)), fun h => ?_⟩, fun h => ?_⟩
  · have h2 := (ovr_iff l p l.length).1 h
    have : Le.val (l.drop p) = 0 := val_zeros _ (fun i hi => by
      have := h2 (p + i) (by omega) (by simp at hi; omega)
      simpa [List.getD, List.getElem?_drop] using this)
    rw [this, Nat.mul_zero, Nat.add_zero] at hs
    omega
  · have h0 := hz h
    rw [h0, Nat.mul_zero, Nat.add_zero] at hs
    rw [hs]
    have := Le.bs_val (l.take p)
    rw [hl] at this
    exact this
/-- With a greater width there are zeros behind. -/
theorem fit_great (l : List UInt8) (p : Nat) (hp : l.length ≤ p) : Le.bs (Le.val l) p = l ++ List.replicate (p - l.length) 0 := by
  apply Le.val_inj
  · simp [Le.bs_length]; omega
  · have hv := Le.val_lt l
    have hm : (256 : Nat) ^ l.length ≤ 256 ^ p := Nat.pow_le_pow_right (by decide) hp
    rw [Le.val_bs _ _ (by omega), Le.val_append, val_zeros (List.replicate _ 0) (fun i hi => by rw [List.getD, List.getElem?_replicate, if_pos (by simpa using hi)]; rfl)]
    simp
theorem val_take_lt (l : List UInt8) (k : Nat) (hk : k ≤ l.length) : Le.val (l.take k) < 256 ^ k := by
  have := Le.val_lt (l.take k)
  have hl : (l.take k).length = k := by simp; omega
  rwa [hl] at this
theorem val_take_snoc (l : List UInt8) (k : Nat) (c : UInt8) (h : l[k]? = some c) : Le.val (l.take (k + 1)) = Le.val (l.take k) + 256 ^ k * c.toNat := by
  obtain ⟨hk, rfl⟩ := List.getElem?_eq_some_iff.1 h
  rw [List.take_succ_eq_append_getElem hk, Le.val_snoc]
  have hl : (l.take k).length = k := by simp; omega
  rw [hl, Nat.mul_comm]

set_option maxRecDepth 100000 in
set_option maxHeartbeats 4000000 in
theorem lebytes_main (a : Option Addr) (len cap : Nat) (l : List UInt8) (k : Nat) (w : World) (ha : BArg w a len cap l) (h1 : 1 ≤ len) (h8 : len ≤ 8) (k1 : 1 ≤ k) (k8 : k ≤ 8) :
    Calls Try.prog 3 #[.slice a len cap, .int .i64 (k : Int)] w fun e w' => e = .returned (.bool true) ∧ Below w.heap.size w w' := by
  have hll := ha.len_eq
  have hcc := ha.le
  have hcs := ha.small
  have HA := Lib.hid ha
  have HV : Hid (valP l = .tuple #[.int .u64 (Le.val l : Int), .int .i64 0]) := Lib.hid (by unfold valP; rw [if_pos (by omega)])
  have hv64 : Le.val l < 18446744073709551616 := by
    have h := Le.val_lt l
    have h2 := pow256_le l.length (by omega)
    omega
  have HF : Hid (Le.val l < 256 ^ len) := Lib.hid (by have := Le.val_lt l; rwa [hll] at this)
  have HBS : Hid (Le.bs (Le.val l) len = l) := Lib.hid (by have := Le.bs_val l; rwa [hll] at this)
  have HL := Lib.hid hll
  clear ha hll
  go_enter Try.func3, Try.ntmps3
  go_wp2_with fail
  refine (width_yes (len : Int) (by omega) (by omega) _).mono ?_
  rintro e w1 ⟨rfl, rfl⟩
  go_wp2_with fail
  refine (width_yes (k : Int) (by omega) (by omega) _).mono ?_
  rintro e w1 ⟨rfl, rfl⟩
  go_wp2_with fail
  refine (value_any a len cap l _ HA.out).mono ?_
  rintro e w1 ⟨rfl, rfl⟩
  rw [HV.out]
  go_wp2_with fail
  refine (bytes_ok (Le.val l) len h1 h8 HF.out _).mono ?_
  rintro e w1 ⟨rfl, ho1, hb1⟩
  rw [HBS.out] at ho1
  have HO1 := Lib.hid ho1
  have HB1 := Lib.hid hb1
  clear ho1 hb1
  go_wp2_with fail
  go_loop [9, 10, 11] (fun s b i => ∃ (j x y : Nat), j ≤ len ∧ i = .int .i64 j ∧ s = .int .u64 (x : Int) ∧ b = .int .u64 (y : Int) ∧ Hid (x = Le.val (l.take j)) ∧ Hid (y = 256 ^ j % 18446744073709551616)) (fun _ _ i => len - (intOf i).toNat)
  case atStart => exact ⟨0, 0, 1, by omega, rfl, rfl, rfl, Lib.hid rfl, Lib.hid rfl⟩
  case round =>
    obtain ⟨j, x, y, hj, rfl, rfl, rfl, HX, HY⟩ := hrel
    by_cases hlt : j < len
    · obtain ⟨ad, c, rfl, hs, hblk, hcl, hcell⟩ := HA.out.at_ hlt
      have hcell1 : w1.cell? (ad.add j) = some (.int .u8 (c.toNat : Int)) := by
        rw [HB1.out.cell (by rw [block_of_add]; exact hblk)]; exact hcell
      have hy : y = 256 ^ j := by
        rw [HY.out]
        exact Nat.mod_eq_of_lt (Nat.lt_of_lt_of_le (Nat.pow_lt_pow_right (by decide) (show j < 8 by omega)) (by decide))
      have HS : Hid (Le.val (l.take (j + 1)) = x + y * c.toNat) := Lib.hid (by rw [val_take_snoc l j c hcl, HX.out, hy])
      have hb : x + y * c.toNat < 18446744073709551616 := by
        rw [← HS.out]
        have h := val_take_lt l (j + 1) (by rw [HL.out]; omega)
        have h2 := pow256_le (j + 1) (by omega)
        omega
      have HY1 : Hid (IntKind.u64.wrap ((y : Int) * 256) = ((256 ^ (j + 1) % 18446744073709551616 : Nat) : Int)) := Lib.hid (by
        rw [IntKind.wrap_u64, hy, Nat.pow_succ]; omega)
      have hyc : (y : Int) * (c.toNat : Int) = ((y * c.toNat : Nat) : Int) := by simp
      have hyc2 : IntKind.u64.wrap ((y : Int) * (c.toNat : Int)) = ((y * c.toNat : Nat) : Int) := by
        rw [IntKind.wrap_u64, hyc]; omega
      generalize hz : y * c.toNat = z at *
      have hc8 := c.toNat_lt
      clear hcl hblk hs hcell hy hz hyc
      go_wp2_with fail
      go_round
      case rel => exact ⟨j + 1, x + z, _, by omega, by go_num, by congr 1, by rw [HY1.out], Lib.hid HS.out.symm, Lib.hid rfl⟩
      case measure => simp [intOf]; omega
    · obtain rfl : j = len := by omega
      obtain rfl : x = Le.val l := by rw [HX.out, List.take_of_length_le (by rw [HL.out]; omega)]
      have t1 := (HA.out.below HB1.out).text
      have t2 := HO1.out.arg.text
      have q1 : ((Le.val l : Int) != (Le.val l : Int)) = false := by simp
      clear hlt
      by_cases hkl : k < j
      · obtain ⟨f1, f2⟩ := fit_small l k (by rw [HL.out]; exact hkl)
        have HOV : Hid (∀ q, ovr l k q = true → q ≤ j → ovr l k j = true) := Lib.hid (by
          intro q hq hqj
          cases ho : ovr l k j with
          | true => rfl
          | false =>
            have h2 := (ovr_iff l k j).1 ho
            have h3 := (ovr_iff l k q).2 (fun i a b => h2 i a (by omega))
            rw [hq] at h3; cases h3)
        rw [HL.out] at f1
        have F1 := Lib.hid f1
        have F2 := Lib.hid f2
        clear f1 f2
        by_cases hfit : Le.val l < 256 ^ k
        · have C := Lib.hid (bytes_ok (Le.val l) k k1 k8 hfit)
          rw [F2.out hfit] at C
          have HE : Hid (ovr l k j = false) := Lib.hid (F1.out.1 hfit)
          have g0 : decide (k < j) = true := by simpa using hkl
          have g0' : decide ((k : Int) < (j : Int)) = true := by simp; omega
          clear hfit
          go_wp2_with fail
          refine (C.out _).mono ?_
          rintro e w2 ⟨rfl, ho2, hb2⟩
          have HO2 := Lib.hid ho2
          have HB2 := Lib.hid (HB1.out.trans (hb2.mono HB1.out.size))
          clear ho2 hb2 HB1 t1 t2
          go_wp2_with fail
          go_loop [14, 15] (fun o i => ∃ q : Nat, k ≤ q ∧ q ≤ j ∧ i = .int .i64 q ∧ o = .bool false) (fun _ i => j - (intOf i).toNat)
          case atStart => exact ⟨k, by omega, by omega, rfl, rfl⟩
          case round =>
            obtain ⟨q, hkq, hqj, rfl, rfl⟩ := hrel
            by_cases hq : q < j
            · obtain ⟨ad, c, rfl, hs, hblk, hcl, hcell⟩ := HA.out.at_ hq
              have hcell2 : w2.cell? (ad.add q) = some (.int .u8 (c.toNat : Int)) := by
                rw [HB2.out.cell (by rw [block_of_add]; exact hblk)]; exact hcell
              have hc0 : c = 0 := by
                have := (ovr_iff l k j).1 HE.out q hkq hq
                simpa [List.getD, hcl] using this
              subst hc0
              clear hcl hblk hs hcell
              go_wp2_with fail
              go_round
              case rel => exact ⟨q + 1, by omega, by omega, by go_num, rfl⟩
              case measure => simp [intOf]; omega
            · obtain rfl : q = j := by omega
              have t1 := HO2.out.arg.text
              have t2 := ((HA.out.below HB2.out).upto (k := k) (by omega)).text
              have t1d := HO2.out.drew.arg.text
              have t2d := ((HA.out.below HB2.out).drew.upto (k := k) (by omega)).text
              have hkc : k ≤ cap := by omega
              go_wp2_with fail
              go_still_tail 17, (by kernel_rfl)
              change wpList _ _ _ _ _ w2.drew
              have HB2d : Hid (Below w.heap.size w w2.drew) := Lib.hid HB2.out.drew
              generalize w2.drew = w3 at *
              clear t1 t2 t1d t2d
              go_wp2_with fail
              refine (lealive_any _).mono ?_
              rintro e w4 ⟨rfl, hb4⟩
              go_wp2_with fail
              go_ret
              exact ⟨rfl, HB2d.out.trans (hb4.mono HB2d.out.size)⟩
        · have C := Lib.hid (bytes_range (Le.val l) hv64 k k1 k8 hfit)
          have HE : Hid (ovr l k j = true) := Lib.hid (by
            cases ho : ovr l k j with
            | true => rfl
            | false => exact absurd (F1.out.2 ho) hfit)
          have g0 : decide (k < j) = true := by simpa using hkl
          have g0' : decide ((k : Int) < (j : Int)) = true := by simp; omega
          clear hfit
          go_wp2_with fail
          refine (C.out _).mono ?_
          rintro e w2 ⟨rfl, rfl⟩
          clear t1 t2
          go_wp2_with fail
          go_loop [14, 15] (fun o i => ∃ (q : Nat) (b : Bool), k ≤ q ∧ q ≤ j ∧ i = .int .i64 q ∧ o = .bool b ∧ Hid (b = ovr l k q)) (fun _ i => j - (intOf i).toNat)
          case atStart => exact ⟨k, false, by omega, by omega, rfl, rfl, Lib.hid (ovr_low l k k (Nat.le_refl _)).symm⟩
          case round =>
            obtain ⟨q, b, hkq, hqj, rfl, rfl, HBV⟩ := hrel
            by_cases hq : q < j
            · obtain ⟨ad, c, rfl, hs, hblk, hcl, hcell⟩ := HA.out.at_ hq
              have hcell2 : w1.cell? (ad.add q) = some (.int .u8 (c.toNat : Int)) := by
                rw [HB1.out.cell (by rw [block_of_add]; exact hblk)]; exact hcell
              have HN := Lib.hid (ovr_step l k q c hkq hcl)
              rw [← HBV.out] at HN
              clear hcl hblk hs hcell
              cases b with
              | true =>
                go_wp2_with fail
                go_round
                case rel => exact ⟨q + 1, true, by omega, by omega, by go_num, rfl, Lib.hid (by rw [HN.out]; rfl)⟩
                case measure => simp [intOf]; omega
              | false =>
                go_wp2_with fail
                go_round
                case rel => exact ⟨q + 1, _, by omega, by omega, by go_num, rfl, Lib.hid (by rw [HN.out]; simp [bne])⟩
                case measure => simp [intOf]; omega
            · obtain rfl : q = j := by omega
              obtain rfl : b = true := by rw [HBV.out, HE.out]
              clear HBV HE HOV F1 F2 C HV HF HBS
              go_upto_region 20 with fail
              refine wp_region_held_drew (S := (fun w' => Below w1.heap.size w1 w')) (by kernel_rfl) ?_ (fun hHeld => ?_)
              · (try dsimp only); (first | exact (Below.refl _ _).drew | exact hHeld | exact hHeld.trans (hb.mono hHeld.size))
              refine wpAnyH_take (i := 0) (v := ?_) (op_at (pre := [])) (by kernel_rfl) (by kernel_rfl) (by kernel_rfl) (fun _ _ _ h => h) (Or.inl ⟨by rfl, ?_⟩) (by assumption) ?_
              rotate_left
              · intro w' hSw; (try dsimp only at hSw); go_simp; (try with_reducible rfl)
              simp only [Act.put, List.setIfInBounds_toArray, List.set_cons_zero, List.set_cons_succ]
              refine wpAnyH_take (i := 1) (v := ?_) (op_at (pre := [_])) (by kernel_rfl) (by kernel_rfl) (by kernel_rfl) (fun _ _ _ h => h) (Or.inl ⟨by rfl, ?_⟩) (by assumption) ?_
              rotate_left
              · intro w' hSw; (try dsimp only at hSw); go_simp; (try with_reducible rfl)
              simp only [Act.put, List.setIfInBounds_toArray, List.set_cons_zero, List.set_cons_succ]
              refine wpAnyH_take (i := 2) (v := ?_) (op_at (pre := [_, _])) (by kernel_rfl) (by kernel_rfl) (by kernel_rfl) (fun _ _ _ h => h) (Or.inl ⟨by rfl, ?_⟩) (by assumption) ?_
              rotate_left
              · intro w' hSw; (try dsimp only at hSw); go_simp; (try with_reducible rfl)
              simp only [Act.put, List.setIfInBounds_toArray, List.set_cons_zero, List.set_cons_succ]
              refine wpAnyH_take (i := 3) (v := ?_) (op_at (pre := [_, _, _])) (by kernel_rfl) (by kernel_rfl) (by kernel_rfl) (fun _ _ _ h => h) (Or.inl ⟨by rfl, ?_⟩) (by assumption) ?_
              rotate_left
              · intro w' hSw; (try dsimp only at hSw); go_simp; (try with_reducible rfl)
              simp only [Act.put, List.setIfInBounds_toArray, List.set_cons_zero, List.set_cons_succ]
              refine wpAnyH_take (i := 4) (v := ?_) (op_at (pre := [_, _, _, _])) (by kernel_rfl) (by kernel_rfl) (by kernel_rfl) (fun _ _ _ h => h) (Or.inl ⟨by rfl, ?_⟩) (by assumption) ?_
              rotate_left
              · intro w' hSw; (try dsimp only at hSw); go_simp; (try with_reducible rfl)
              simp only [Act.put, List.setIfInBounds_toArray, List.set_cons_zero, List.set_cons_succ]
              refine wpAnyH_take (i := 5) (v := ?_) (op_at (pre := [_, _, _, _, _])) (by kernel_rfl) (by kernel_rfl) (by kernel_rfl) (fun _ _ _ h => h) (Or.inl ⟨by rfl, ?_⟩) (by assumption) ?_
              rotate_left
              · intro w' hSw; (try dsimp only at hSw); go_simp; (try with_reducible rfl)
              simp only [Act.put, List.setIfInBounds_toArray, List.set_cons_zero, List.set_cons_succ]
              refine wpAnyH_take (i := 6) (v := ?_) (op_at (pre := [_, _, _, _, _, _])) (by kernel_rfl) (by kernel_rfl) (by kernel_rfl) (fun _ _ _ h => h) (Or.inl ⟨by rfl, ?_⟩) (by assumption) ?_
              rotate_left
              · intro w' hSw; (try dsimp only at hSw); go_simp; (try with_reducible rfl)
              simp only [Act.put, List.setIfInBounds_toArray, List.set_cons_zero, List.set_cons_succ]
              refine wpAnyH_take (i := 7) (v := undef) (op_at (pre := [_, _, _, _, _, _, _])) (by kernel_rfl) (by kernel_rfl) (by kernel_rfl) (fun _ _ _ h => h) (Or.inr ⟨by rfl, rfl⟩) (by assumption) ?_
              simp only [Act.put, List.setIfInBounds_toArray, List.set_cons_zero, List.set_cons_succ]
              refine wpAnyH_take (i := 8) (v := undef) (op_at (pre := [_, _, _, _, _, _, _, _])) (by kernel_rfl) (by kernel_rfl) (by kernel_rfl) (fun _ _ _ h => h) (Or.inr ⟨by rfl, rfl⟩) (by assumption) ?_
              simp only [Act.put, List.setIfInBounds_toArray, List.set_cons_zero, List.set_cons_succ]
              refine wpAnyH_take (i := 9) (v := undef) (op_at (pre := [_, _, _, _, _, _, _, _, _])) (by kernel_rfl) (by kernel_rfl) (by kernel_rfl) (fun _ _ _ h => h) (Or.inr ⟨by rfl, rfl⟩) (by assumption) ?_
              simp only [Act.put, List.setIfInBounds_toArray, List.set_cons_zero, List.set_cons_succ]
              refine wpAnyH_take (i := 10) (v := undef) (op_at (pre := [_, _, _, _, _, _, _, _, _, _])) (by kernel_rfl) (by kernel_rfl) (by kernel_rfl) (fun _ _ _ h => h) (Or.inr ⟨by rfl, rfl⟩) (by assumption) ?_
              simp only [Act.put, List.setIfInBounds_toArray, List.set_cons_zero, List.set_cons_succ]
              refine wpAnyH_take (i := 11) (v := undef) (op_at (pre := [_, _, _, _, _, _, _, _, _, _, _])) (by kernel_rfl) (by kernel_rfl) (by kernel_rfl) (fun _ _ _ h => h) (Or.inr ⟨by rfl, rfl⟩) (by assumption) ?_
              simp only [Act.put, List.setIfInBounds_toArray, List.set_cons_zero, List.set_cons_succ]
              refine wpAnyH_take (i := 12) (v := undef) (op_at (pre := [_, _, _, _, _, _, _, _, _, _, _, _])) (by kernel_rfl) (by kernel_rfl) (by kernel_rfl) (fun _ _ _ h => h) (Or.inr ⟨by rfl, rfl⟩) (by assumption) ?_
              simp only [Act.put, List.setIfInBounds_toArray, List.set_cons_zero, List.set_cons_succ]
              refine wpAnyH_take (i := 13) (v := undef) (op_at (pre := [_, _, _, _, _, _, _, _, _, _, _, _, _])) (by kernel_rfl) (by kernel_rfl) (by kernel_rfl) (fun _ _ _ h => h) (Or.inr ⟨by rfl, rfl⟩) (by assumption) ?_
              simp only [Act.put, List.setIfInBounds_toArray, List.set_cons_zero, List.set_cons_succ]
              refine wpAnyH_take (i := 14) (v := ?_) (op_at (pre := [_, _, _, _, _, _, _, _, _, _, _, _, _, _])) (by kernel_rfl) (by kernel_rfl) (by kernel_rfl) (fun _ _ _ h => h) (Or.inl ⟨by rfl, ?_⟩) (by assumption) ?_
              rotate_left
              · intro w' hSw; (try dsimp only at hSw); go_simp; (try with_reducible rfl)
              simp only [Act.put, List.setIfInBounds_toArray, List.set_cons_zero, List.set_cons_succ]
              refine wpAnyH_take (i := 15) (v := ?_) (op_at (pre := [_, _, _, _, _, _, _, _, _, _, _, _, _, _, _])) (by kernel_rfl) (by kernel_rfl) (by kernel_rfl) (fun _ _ _ h => h) (Or.inl ⟨by rfl, ?_⟩) (by assumption) ?_
              rotate_left
              · intro w' hSw; (try dsimp only at hSw); go_simp; (try with_reducible rfl)
              simp only [Act.put, List.setIfInBounds_toArray, List.set_cons_zero, List.set_cons_succ]
              refine wpAnyH_take (i := 16) (v := ?_) (op_at (pre := [_, _, _, _, _, _, _, _, _, _, _, _, _, _, _, _])) (by kernel_rfl) (by kernel_rfl) (by kernel_rfl) (fun _ _ _ h => h) (Or.inl ⟨by rfl, ?_⟩) (by assumption) ?_
              rotate_left
              · intro w' hSw; (try dsimp only at hSw); go_simp; (try with_reducible rfl)
              simp only [Act.put, List.setIfInBounds_toArray, List.set_cons_zero, List.set_cons_succ]
              refine wpAnyH_ready (rs := [17]) (by kernel_rfl) (by simp) ?_
              refine AllReadyH.cons (op_at (pre := [_, _, _, _, _, _, _, _, _, _, _, _, _, _, _, _, _])) (fun K hK => ?_) AllReadyH.nil
              go_simp
              refine (lealive_any _).mono ?_
              rintro e w9 ⟨rfl, hb⟩
              go_wp2_with fail
              refine hK.out _ _ ?_ (fun hHeld => ?_)
              · (try dsimp only); (first | exact (Below.refl _ _).drew | exact hHeld | exact hHeld.trans (hb.mono hHeld.size))
              clear hK K
              refine wpAnyH_take (i := 18) (v := ?_) (op_at (pre := [_, _, _, _, _, _, _, _, _, _, _, _, _, _, _, _, _, _])) (by kernel_rfl) (by kernel_rfl) (by kernel_rfl) (fun _ _ _ h => h) (Or.inl ⟨by rfl, ?_⟩) (by assumption) ?_
              rotate_left
              · intro w' hSw; (try dsimp only at hSw); go_simp; (try with_reducible rfl)
              simp only [Act.put, List.setIfInBounds_toArray, List.set_cons_zero, List.set_cons_succ]
              refine wpAnyH_take (i := 19) (v := ?_) (op_at (pre := [_, _, _, _, _, _, _, _, _, _, _, _, _, _, _, _, _, _, _])) (by kernel_rfl) (by kernel_rfl) (by kernel_rfl) (fun _ _ _ h => h) (Or.inl ⟨by rfl, ?_⟩) (by assumption) ?_
              rotate_left
              · intro w' hSw; (try dsimp only at hSw); go_simp; (try with_reducible rfl)
              simp only [Act.put, List.setIfInBounds_toArray, List.set_cons_zero, List.set_cons_succ]
              refine wpAnyH_done (by kernel_rfl) ?_ _
              go_wp2_with fail
              go_ret
              exact ⟨rfl, HB1.out.trans (hHeld.mono HB1.out.size)⟩
      · have hjk : j ≤ k := by omega
        have e := fit_great l k (by rw [HL.out]; exact hjk)
        have C := Lib.hid (bytes_ok (Le.val l) k k1 k8 (Nat.lt_of_lt_of_le HF.out (Nat.pow_le_pow_right (by decide) hjk)))
        rw [e, HL.out] at C
        have g0 : decide (k < j) = false := by simp; omega
        have g0' : decide ((k : Int) < (j : Int)) = false := by simp; omega
        clear e hkl
        go_wp2_with fail
        refine (C.out _).mono ?_
        rintro e w2 ⟨rfl, ho2, hb2⟩
        have HO2 := Lib.hid ho2
        have HB2 := Lib.hid (HB1.out.trans (hb2.mono HB1.out.size))
        clear ho2 hb2 HB1 t1 t2
        have t1 := (HA.out.below HB2.out).text
        have t1d := (HA.out.below HB2.out).drew.text
        have HU := HO2.out.arg.upto (k := j) hjk
        have eU : (l ++ List.replicate (k - j) 0).take j = l := by
          rw [List.take_append_of_le_length (by rw [HL.out]; omega), List.take_of_length_le (by rw [HL.out]; omega)]
        rw [eU] at HU
        have t2 := HU.text
        have t2d := HU.drew.text
        have q2 : ((k : Int) != (k : Int)) = false := by simp
        have HUW := Lib.hid HU
        clear HU eU
        have hz : ∀ i, j ≤ i → i < k → w2.drew.cell? ⟨w1.heap.size, i, none⟩ = some (.int .u8 0) := fun i h1 h2 => by
          have hc := HO2.out.cellAt (j := i) h2
          have e0 : (l ++ List.replicate (k - j) 0).getD i 0 = 0 := by
            rw [List.getD_eq_getElem?_getD, List.getElem?_append_right (by rw [HL.out]; exact h1), List.getElem?_replicate, if_pos (by rw [HL.out]; omega)]
            rfl
          rw [e0] at hc
          exact hc
        have HZ := Lib.hid hz
        clear hz t1 t2 t1d t2d
        have u1 : ∀ w', Below w2.heap.size w2 w' → (convert 22 9 (.slice a j cap)).run Try.prog w' = .ok (.string ⟨l.toArray⟩) w' := fun w' h => ((HA.out.below HB2.out).below h).text
        have u2 : ∀ w', Below w2.heap.size w2 w' → (convert 22 9 (.slice (some ⟨w1.heap.size, 0, none⟩) j k)).run Try.prog w' = .ok (.string ⟨l.toArray⟩) w' := fun w' h => (HUW.out.below h).text
        go_upto_region 21 with fail
        refine wp_region_held_drew (S := (fun w' => Below w2.heap.size w2 w')) (by kernel_rfl) ?_ (fun hHeld => ?_)
        · (try dsimp only); (first | exact (Below.refl _ _).drew | exact hHeld | exact hHeld.trans (hb.mono hHeld.size))
        refine wpAnyH_take (i := 0) (v := ?_) (op_at (pre := [])) (by kernel_rfl) (by kernel_rfl) (by kernel_rfl) (fun _ _ _ h => h) (Or.inl ⟨by rfl, ?_⟩) (by assumption) ?_
        rotate_left
        · intro w' hSw; (try dsimp only at hSw); go_simp; (try with_reducible rfl)
        simp only [Act.put, List.setIfInBounds_toArray, List.set_cons_zero, List.set_cons_succ]
        refine wpAnyH_take (i := 1) (v := ?_) (op_at (pre := [_])) (by kernel_rfl) (by kernel_rfl) (by kernel_rfl) (fun _ _ _ h => h) (Or.inl ⟨by rfl, ?_⟩) (by assumption) ?_
        rotate_left
        · intro w' hSw; (try dsimp only at hSw); go_simp; (try with_reducible rfl)
        simp only [Act.put, List.setIfInBounds_toArray, List.set_cons_zero, List.set_cons_succ]
        refine wpAnyH_take (i := 2) (v := ?_) (op_at (pre := [_, _])) (by kernel_rfl) (by kernel_rfl) (by kernel_rfl) (fun _ _ _ h => h) (Or.inl ⟨by rfl, ?_⟩) (by assumption) ?_
        rotate_left
        · intro w' hSw; (try dsimp only at hSw); go_simp; (try with_reducible rfl)
        simp only [Act.put, List.setIfInBounds_toArray, List.set_cons_zero, List.set_cons_succ]
        refine wpAnyH_take (i := 3) (v := ?_) (op_at (pre := [_, _, _])) (by kernel_rfl) (by kernel_rfl) (by kernel_rfl) (fun _ _ _ h => h) (Or.inl ⟨by rfl, ?_⟩) (by assumption) ?_
        rotate_left
        · intro w' hSw; (try dsimp only at hSw); go_simp; (try with_reducible rfl)
        simp only [Act.put, List.setIfInBounds_toArray, List.set_cons_zero, List.set_cons_succ]
        refine wpAnyH_take (i := 4) (v := ?_) (op_at (pre := [_, _, _, _])) (by kernel_rfl) (by kernel_rfl) (by kernel_rfl) (fun _ _ _ h => h) (Or.inl ⟨by rfl, ?_⟩) (by assumption) ?_
        rotate_left
        · intro w' hSw; (try dsimp only at hSw); go_simp; (try with_reducible rfl)
        simp only [Act.put, List.setIfInBounds_toArray, List.set_cons_zero, List.set_cons_succ]
        refine wpAnyH_take (i := 5) (v := ?_) (op_at (pre := [_, _, _, _, _])) (by kernel_rfl) (by kernel_rfl) (by kernel_rfl) (fun _ _ _ h => h) (Or.inl ⟨by rfl, ?_⟩) (by assumption) ?_
        rotate_left
        · intro w' hSw; (try dsimp only at hSw); go_simp; (try with_reducible rfl)
        simp only [Act.put, List.setIfInBounds_toArray, List.set_cons_zero, List.set_cons_succ]
        refine wpAnyH_take (i := 6) (v := ?_) (op_at (pre := [_, _, _, _, _, _])) (by kernel_rfl) (by kernel_rfl) (by kernel_rfl) (fun _ _ _ h => h) (Or.inl ⟨by rfl, ?_⟩) (by assumption) ?_
        rotate_left
        · intro w' hSw; (try dsimp only at hSw); go_simp; (try with_reducible rfl)
        simp only [Act.put, List.setIfInBounds_toArray, List.set_cons_zero, List.set_cons_succ]
        refine wpAnyH_take (i := 7) (v := ?_) (op_at (pre := [_, _, _, _, _, _, _])) (by kernel_rfl) (by kernel_rfl) (by kernel_rfl) (fun _ _ _ h => h) (Or.inl ⟨by rfl, ?_⟩) (by assumption) ?_
        rotate_left
        · intro w' hSw; (try dsimp only at hSw); go_simp; (try with_reducible rfl)
        simp only [Act.put, List.setIfInBounds_toArray, List.set_cons_zero, List.set_cons_succ]
        refine wpAnyH_take (i := 8) (v := ?_) (op_at (pre := [_, _, _, _, _, _, _, _])) (by kernel_rfl) (by kernel_rfl) (by kernel_rfl) (fun _ _ _ h => h) (Or.inl ⟨by rfl, ?_⟩) (by assumption) ?_
        rotate_left
        · intro w' hSw; (try dsimp only at hSw); go_simp; (try with_reducible rfl)
        simp only [Act.put, List.setIfInBounds_toArray, List.set_cons_zero, List.set_cons_succ]
        refine wpAnyH_take (i := 9) (v := ?_) (op_at (pre := [_, _, _, _, _, _, _, _, _])) (by kernel_rfl) (by kernel_rfl) (by kernel_rfl) (fun _ _ _ h => h) (Or.inl ⟨by rfl, ?_⟩) (by assumption) ?_
        rotate_left
        · intro w' hSw; (try dsimp only at hSw); go_simp; (try with_reducible rfl)
        simp only [Act.put, List.setIfInBounds_toArray, List.set_cons_zero, List.set_cons_succ]
        refine wpAnyH_take (i := 10) (v := ?_) (op_at (pre := [_, _, _, _, _, _, _, _, _, _])) (by kernel_rfl) (by kernel_rfl) (by kernel_rfl) (fun _ _ _ h => h) (Or.inl ⟨by rfl, ?_⟩) (by assumption) ?_
        rotate_left
        · intro w' hSw; (try dsimp only at hSw); go_simp; (try with_reducible rfl)
        simp only [Act.put, List.setIfInBounds_toArray, List.set_cons_zero, List.set_cons_succ]
        refine wpAnyH_take (i := 11) (v := ?_) (op_at (pre := [_, _, _, _, _, _, _, _, _, _, _])) (by kernel_rfl) (by kernel_rfl) (by kernel_rfl) (fun _ _ _ h => h) (Or.inl ⟨by rfl, ?_⟩) (by assumption) ?_
        rotate_left
        · intro w' hSw; (try dsimp only at hSw); go_simp; (try with_reducible rfl)
        simp only [Act.put, List.setIfInBounds_toArray, List.set_cons_zero, List.set_cons_succ]
        refine wpAnyH_take (i := 12) (v := ?_) (op_at (pre := [_, _, _, _, _, _, _, _, _, _, _, _])) (by kernel_rfl) (by kernel_rfl) (by kernel_rfl) (fun _ _ _ h => h) (Or.inl ⟨by rfl, ?_⟩) (by assumption) ?_
        rotate_left
        · intro w' hSw; (try dsimp only at hSw); go_simp; (try with_reducible rfl)
        simp only [Act.put, List.setIfInBounds_toArray, List.set_cons_zero, List.set_cons_succ]
        refine wpAnyH_take (i := 13) (v := ?_) (op_at (pre := [_, _, _, _, _, _, _, _, _, _, _, _, _])) (by kernel_rfl) (by kernel_rfl) (by kernel_rfl) (fun _ _ _ h => h) (Or.inl ⟨by rfl, ?_⟩) (by assumption) ?_
        rotate_left
        · intro w' hSw; (try dsimp only at hSw); go_simp; (try with_reducible rfl)
        simp only [Act.put, List.setIfInBounds_toArray, List.set_cons_zero, List.set_cons_succ]
        refine wpAnyH_take (i := 14) (v := ?_) (op_at (pre := [_, _, _, _, _, _, _, _, _, _, _, _, _, _])) (by kernel_rfl) (by kernel_rfl) (by kernel_rfl) (fun _ _ _ h => h) (Or.inl ⟨by rfl, ?_⟩) (by assumption) ?_
        rotate_left
        · intro w' hSw; (try dsimp only at hSw); go_simp; (try with_reducible rfl)
        simp only [Act.put, List.setIfInBounds_toArray, List.set_cons_zero, List.set_cons_succ]
        refine wpAnyH_take (i := 15) (v := ?_) (op_at (pre := [_, _, _, _, _, _, _, _, _, _, _, _, _, _, _])) (by kernel_rfl) (by kernel_rfl) (by kernel_rfl) (fun _ _ _ h => h) (Or.inl ⟨by rfl, ?_⟩) (by assumption) ?_
        rotate_left
        · intro w' hSw; (try dsimp only at hSw); go_simp; (try with_reducible rfl)
        simp only [Act.put, List.setIfInBounds_toArray, List.set_cons_zero, List.set_cons_succ]
        refine wpAnyH_take (i := 16) (v := ?_) (op_at (pre := [_, _, _, _, _, _, _, _, _, _, _, _, _, _, _, _])) (by kernel_rfl) (by kernel_rfl) (by kernel_rfl) (fun _ _ _ h => h) (Or.inl ⟨by rfl, ?_⟩) (by assumption) ?_
        rotate_left
        · intro w' hSw; (try dsimp only at hSw); go_simp; (try with_reducible rfl)
        simp only [Act.put, List.setIfInBounds_toArray, List.set_cons_zero, List.set_cons_succ]
        refine wpAnyH_take (i := 17) (v := ?_) (op_at (pre := [_, _, _, _, _, _, _, _, _, _, _, _, _, _, _, _, _])) (by kernel_rfl) (by kernel_rfl) (by kernel_rfl) (fun _ _ _ h => h) (Or.inl ⟨by rfl, ?_⟩) (by assumption) ?_
        rotate_left
        · intro w' hSw; (try dsimp only at hSw); go_simp; (try with_reducible rfl)
        simp only [Act.put, List.setIfInBounds_toArray, List.set_cons_zero, List.set_cons_succ]
        refine wpAnyH_done (by kernel_rfl) ?_ _
        go_wp2_with fail
        go_loop [16] (fun i => ∃ q : Nat, j ≤ q ∧ q ≤ k ∧ i = .int .i64 q) (fun i => k - (intOf i).toNat)
        case atStart => exact ⟨j, by omega, by omega, rfl⟩
        case round =>
          obtain ⟨q, hjq, hqk, rfl⟩ := hrel
          by_cases hq : q < k
          · have hc := HZ.out q hjq hq
            go_wp2_with fail
            go_round
            case rel => exact ⟨q + 1, by omega, by omega, by go_num⟩
            case measure => simp [intOf]; omega
          · obtain rfl : q = k := by omega
            go_wp2_with fail
            refine (lealive_any _).mono ?_
            rintro e w4 ⟨rfl, hb4⟩
            go_wp2_with fail
            go_ret
            exact ⟨rfl, HB2.out.drew.trans (hb4.mono HB2.out.drew.size)⟩
end Go.Proofs.Ytodieokchglajaa
