/- The walk of ape.Front. -/
import Derived.Test.YtgdchcaglkeghaaApeTells
import Derived.Test.YtgdchcaglkeghaaHasPrefix
namespace Go.Proofs.Ytgdchcaglkeghaa
open Go.RowKit
attribute [local go_sem ↓] Go.wp_at_zero Go.wp_at_succ

/-- What tells answers: how many bytes of items, how many items, whether it is an end with these flags. -/
def tN (l : List UInt8) : Nat := if tellB l = true then tellV l - 32 else 0
def tC (l : List UInt8) : Nat := if tellB l = true then tellC l else 0
def tOk (l : List UInt8) (fl : Nat) : Bool := tellB l && l == endL (tN l) (tC l) fl
theorem tN_le (l : List UInt8) : tN l ≤ 3000 := by
  unfold tN
  split
  · rename_i h
    unfold tellB at h
    simp only [decide_eq_true_eq] at h
    omega
  · omega
theorem tC_le (l : List UInt8) : tC l ≤ 1000 := by
  unfold tC
  split
  · rename_i h
    unfold tellB at h
    simp only [decide_eq_true_eq] at h
    omega
  · omega
theorem tells_any (a : Option Addr) (cap : Nat) (l : List UInt8) (fl : Nat) (hfl : fl < 4294967296) (w : World) (ha : BArg w a 32 cap l) :
    Calls Try.prog 50 #[.slice a 32 cap, .int .u64 (fl : Int)] w fun e w' => e = .returned (.tuple #[.agg #[.int .i64 (tN l : Int), .int .i64 (tC l : Int)], .bool (tOk l fl)]) ∧ Below w.heap.size w w' := by
  cases ht : tellB l with
  | false =>
    have e1 : tN l = 0 := by unfold tN; rw [ht]; rfl
    have e2 : tC l = 0 := by unfold tC; rw [ht]; rfl
    have e3 : tOk l fl = false := by unfold tOk; rw [ht]; rfl
    rw [e1, e2, e3]
    exact tells_no a cap l fl w ha ht
  | true =>
    have e1 : tN l = tellV l - 32 := by unfold tN; rw [ht]; rfl
    have e2 : tC l = tellC l := by unfold tC; rw [ht]; rfl
    have e3 : tOk l fl = (l == endL (tellV l - 32) (tellC l) fl) := by unfold tOk; rw [ht, e1, e2]; rfl
    rw [e1, e2, e3]
    exact tells_yes a cap l fl hfl w ha ht

/-- What Front answers. -/
def frontP (l : List UInt8) : Int × Int :=
  if hp l apeM = false then (0, 6)
  else if l.length < 32 then (0, 24)
  else if tOk (l.take 32) 2684354560 = false then (0, 12)
  else if l.length < tN (l.take 32) + 64 then (0, 24)
  else if ((l.take (tN (l.take 32) + 64)).drop (tN (l.take 32) + 32) == endL (tN (l.take 32)) (tC (l.take 32)) 2147483648) = false then (0, 12)
  else (((tN (l.take 32) + 64 : Nat) : Int), 0)

set_option maxRecDepth 100000 in
set_option maxHeartbeats 2000000 in
theorem front_any (a : Option Addr) (len cap : Nat) (l : List UInt8) (w : World) (ha : BArg w a len cap l) :
    Calls Try.prog 30 #[.slice a len cap] w fun e w' => e = .returned (.tuple #[.int .i64 (frontP l).1, .int .i64 (frontP l).2]) ∧ Below w.heap.size w w' := by
  have hll := ha.len_eq
  have hlc := ha.le
  have hcs := ha.small
  have HA := Lib.hid ha
  have HL := Lib.hid hll
  have kc := fun (w : World) (C : Array Value) (n c : Nat) => Lib.run_convert_bytes_const (P := Try.prog) w 22 5 C n c Try.underlying22 Try.underlying5
  clear ha hll
  go_enter Try.func30, Try.ntmps30
  go_wp2_with fail
  obtain ⟨w1, hw1⟩ : ∃ w1, w1 = w.alloc (.cells #[.int .u8 65, .int .u8 80, .int .u8 69, .int .u8 84, .int .u8 65, .int .u8 71, .int .u8 69, .int .u8 88] 5 (8, 9)) := ⟨_, rfl⟩
  rw [← hw1]
  have HB1 : Hid (Below w.heap.size w w1) := Lib.hid (by rw [hw1]; exact (Below.refl _ _).alloc (Nat.le_refl _) _)
  have HP1 : Hid (BArg w1 (some ⟨w.heap.size, 0, none⟩) 8 8 apeM) := Lib.hid (by rw [hw1]; exact BArg.lit w apeM 8 rfl (by omega) _ _ _ rfl)
  have HA1 := Lib.hid (HA.out.below HB1.out)
  clear hw1 kc
  refine (hasPrefix_any a len cap l _ 8 8 apeM _ HA1.out HP1.out).mono ?_
  rintro e w2 ⟨rfl, rfl⟩
  cases hpre : hp l apeM with
  | false =>
    have HS : Hid (frontP l = (0, 6)) := Lib.hid (by unfold frontP; rw [if_pos hpre])
    clear hpre
    go_wp2_with fail
    go_ret2
    exact ⟨by rw [HS.out]; rfl, HB1.out⟩
  | true =>
    have HQ := Lib.hid hpre
    clear hpre
    by_cases h32 : len < 32
    · have HS : Hid (frontP l = (0, 24)) := Lib.hid (by unfold frontP; rw [if_neg (by rw [HQ.out]; simp), if_pos (by rw [HL.out]; exact h32)])
      go_wp2_with fail
      go_ret2
      exact ⟨by rw [HS.out]; rfl, HB1.out⟩
    · have hc32 : 32 ≤ cap := by omega
      have HU := Lib.hid (HA1.out.upto (k := 32) (by omega))
      have hSF : tOk (l.take 32) 2684354560 = false → frontP l = (0, 12) := fun h => by
        unfold frontP; rw [if_neg (by rw [HQ.out]; simp), if_neg (by rw [HL.out]; exact h32), if_pos h]
      have hSS : tOk (l.take 32) 2684354560 = true → l.length < tN (l.take 32) + 64 → frontP l = (0, 24) := fun h h' => by
        unfold frontP; rw [if_neg (by rw [HQ.out]; simp), if_neg (by rw [HL.out]; exact h32), if_neg (by rw [h]; simp), if_pos h']
      have hST : tOk (l.take 32) 2684354560 = true → ¬ l.length < tN (l.take 32) + 64 → frontP l = if ((l.take (tN (l.take 32) + 64)).drop (tN (l.take 32) + 32) == endL (tN (l.take 32)) (tC (l.take 32)) 2147483648) = false then (0, 12) else (((tN (l.take 32) + 64 : Nat) : Int), 0) := fun h h' => by
        unfold frontP; rw [if_neg (by rw [HQ.out]; simp), if_neg (by rw [HL.out]; exact h32), if_neg (by rw [h]; simp), if_neg h']
      have hN := tN_le (l.take 32)
      have hC := tC_le (l.take 32)
      have C := Lib.hid (tells_any a cap (l.take 32) 2684354560 (by omega) w1 HU.out)
      generalize tOk (l.take 32) 2684354560 = ok at *
      generalize tN (l.take 32) = N at *
      generalize tC (l.take 32) = K at *
      have HSF := Lib.hid hSF
      have HSS := Lib.hid hSS
      have HST := Lib.hid hST
      clear hSF hSS hST
      go_wp2_with fail
      refine C.out.mono ?_
      rintro e w2 ⟨rfl, hb2⟩
      have HB2 := Lib.hid (HB1.out.trans (hb2.mono HB1.out.size))
      have HA2 := Lib.hid (HA1.out.below hb2)
      clear hb2
      cases ok with
      | false =>
        have HS := Lib.hid (HSF.out rfl)
        go_wp2_with fail
        go_ret2
        exact ⟨by rw [HS.out]; rfl, HB2.out.alloc HB2.out.size _⟩
      | true =>
        by_cases hn : len < N + 64
        · have HS := Lib.hid (HSS.out rfl (by rw [HL.out]; exact hn))
          go_wp2_with fail
          go_ret2
          exact ⟨by rw [HS.out]; rfl, HB2.out.alloc HB2.out.size _⟩
        · have HS := Lib.hid (HST.out rfl (by rw [HL.out]; exact hn))
          obtain ⟨ad, _, hae, _, _, _, _⟩ := HA2.out.at_ (k := 0) (by omega)
          subst hae
          go_upto_region 11 with fail
          obtain ⟨M, hM⟩ : ∃ M, M = N + 64 := ⟨_, rfl⟩
          obtain ⟨D, hD⟩ : ∃ D, D = N + 32 := ⟨_, rfl⟩
          have HS2 : Hid (frontP l = if ((l.take M).drop D == endL N K 2147483648) = false then (0, 12) else ((M : Int), 0)) := Lib.hid (by rw [hM, hD]; exact HS.out)
          rw [show (N : Int) + 64 = (M : Int) by omega]
          have hcut := HA2.out.cut (i := D) (j := M) (by omega) (by omega)
          rw [if_neg (by omega), show M - D = 32 by omega] at hcut
          simp only [Option.map_some] at hcut
          obtain ⟨W, hW⟩ : ∃ W, W = w2.alloc (.cells #[.int .i64 (N : Int), .int .i64 (K : Int)] 68) := ⟨_, rfl⟩
          rw [← hW]
          have f0 : W.cell? ⟨w2.heap.size, 0, none⟩ = some (.int .i64 (N : Int)) := by rw [hW, World.cell?_alloc_at _ _ _ _ rfl]; rfl
          have f1 : W.cell? ⟨w2.heap.size, 1, none⟩ = some (.int .i64 (K : Int)) := by rw [hW, World.cell?_alloc_at _ _ _ _ rfl]; rfl
          have HBW : Hid (Below w.heap.size w W) := Lib.hid (by rw [hW]; exact HB2.out.alloc HB2.out.size _)
          have HCW : Hid (BArg W (some (ad.add D)) 32 (cap - D) ((l.take M).drop D)) := Lib.hid (by rw [hW]; exact hcut.alloc _)
          have hlt : w2.heap.size < W.heap.size := by rw [hW]; simp
          generalize (l.take M).drop D = F at HS2 HCW
          have e10 : (M : Int) - 32 = (D : Int) := by omega
          have hwD : IntKind.i64.wrap (D : Int) = (D : Int) := by rw [IntKind.wrap_i64]; omega
          have k0 : (0 : Int) ≤ (D : Int) := by omega
          have kM : (D : Int) ≤ (M : Int) := by omega
          have kN : (M : Int) ≤ (cap : Int) := by omega
          have j0 : D ≤ M := by omega
          have j1 : ¬ cap = D := by omega
          have j2 : M ≤ cap := by omega
          have j3 : M - D = 32 := by omega
          clear hcut hW hn h32 hc32 hM hD HS HA1 HU HSF HSS HST HP1
          go_region_held3 (fun w' => w'.cell? ⟨w2.heap.size, 0, none⟩ = some (.int .i64 (N : Int)) ∧ w'.cell? ⟨w2.heap.size, 1, none⟩ = some (.int .i64 (K : Int))) (go_keep) ((first | (go_at_call 46; refine (end_any N K 2147483648 hN hC (by omega) _).mono ?_; rintro e w3 ⟨A, c1, rfl, ho, hb⟩; have f0' := (hb.cell (p := ⟨w2.heap.size, 0, none⟩) (by simp; omega)).trans f0; have f1' := (hb.cell (p := ⟨w2.heap.size, 1, none⟩) (by simp; omega)).trans f1; have HO := Lib.hid ho; have HBx := Lib.hid (HBW.out.drew.trans (hb.mono HBW.out.drew.size)); have HC3 := Lib.hid (HCW.out.drew.below hb); clear ho hb) | (go_at_call 51; refine (equal_any _ 32 _ F _ 32 _ (endL N K 2147483648) _ HC3.out HO.out.arg).mono ?_; rintro e w4 ⟨rfl, rfl⟩)))
          cases hq : F == endL N K 2147483648 with
          | false =>
            have HS3 := Lib.hid (HS2.out.trans (if_pos hq))
            clear hq
            go_wp2_with fail
            go_ret2
            exact ⟨by rw [HS3.out]; rfl, HBx.out⟩
          | true =>
            have HS3 := Lib.hid (HS2.out.trans (if_neg (by rw [hq]; simp)))
            clear hq
            go_wp2_with fail
            go_ret2
            exact ⟨by rw [HS3.out]; rfl, HBx.out⟩
end Go.Proofs.Ytgdchcaglkeghaa
