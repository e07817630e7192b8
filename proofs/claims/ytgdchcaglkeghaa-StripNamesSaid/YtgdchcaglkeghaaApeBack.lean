/- The walk of ape.Back. -/
import Derived.Test.YtgdchcaglkeghaaApeFront
namespace Go.Proofs.Ytgdchcaglkeghaa
open Go.RowKit
attribute [local go_sem ↓] Go.wp_at_zero Go.wp_at_succ

/-- What Back answers, by the last 32 bytes. -/
def backQ (l L : List UInt8) : Int × Int :=
  if hp L apeM = false then (0, 6)
  else if tOk L 0 = true then (if l.length < tN L + 32 then (0, 24) else (((tN L + 32 : Nat) : Int), 0))
  else if tOk L 2147483648 = false then (0, 12)
  else if l.length < tN L + 64 then (0, 24)
  else if ((l.take (l.length - (tN L + 64) + 32)).drop (l.length - (tN L + 64)) == endL (tN L) (tC L) 2684354560) = false then (0, 12)
  else (((tN L + 64 : Nat) : Int), 0)
def backP (l : List UInt8) : Int × Int := if l.length < 32 then (0, 6) else backQ l (l.drop (l.length - 32))

set_option maxRecDepth 100000 in
set_option maxHeartbeats 2000000 in
theorem back_any (a : Option Addr) (len cap : Nat) (l : List UInt8) (w : World) (ha : BArg w a len cap l) :
    Calls Try.prog 32 #[.slice a len cap] w fun e w' => e = .returned (.tuple #[.int .i64 (backP l).1, .int .i64 (backP l).2]) ∧ Below w.heap.size w w' := by
  have hll := ha.len_eq
  have hlc := ha.le
  have hcs := ha.small
  by_cases h32 : len < 32
  · have HS : Hid (backP l = (0, 6)) := Lib.hid (by unfold backP; rw [if_pos (by omega)])
    clear ha hll
    go_enter Try.func32, Try.ntmps32
    go_wp2_with fail
    go_ret2
    exact ⟨by rw [HS.out]; rfl, Below.refl _ _⟩
  · have HP : Hid (backP l = backQ l (l.drop (len - 32))) := Lib.hid (by unfold backP; rw [if_neg (by omega), hll])
    have HA := Lib.hid ha
    have HL := Lib.hid hll
    obtain ⟨ad, _, hae, _, _, _, _⟩ := ha.at_ (k := 0) (by omega)
    subst hae
    obtain ⟨T, hT⟩ : ∃ T, T = len - 32 := ⟨_, rfl⟩
    rw [← hT] at HP
    have hcut := ha.cut (i := T) (j := len) (by omega) (by omega)
    rw [if_neg (by omega), show len - T = 32 by omega, List.take_of_length_le (by omega)] at hcut
    simp only [Option.map_some] at hcut
    have kc := fun (w : World) (C : Array Value) (n c : Nat) => Lib.run_convert_bytes_const (P := Try.prog) w 22 5 C n c Try.underlying22 Try.underlying5
    generalize l.drop T = L at *
    have HU := Lib.hid hcut
    have eT : (len : Int) - 32 = (T : Int) := by omega
    have j0 : T ≤ cap := by omega
    have j1 : ¬ cap = T := by omega
    have j2 : len - T = 32 := by omega
    have kT : (T : Int) ≤ (len : Int) := by omega
    have HQ0 : hp L apeM = false → backP l = (0, 6) := fun h => by rw [HP.out]; unfold backQ; rw [if_pos h]
    have HQ1 : hp L apeM = true → tOk L 0 = true → l.length < tN L + 32 → backP l = (0, 24) := fun h h1 h2 => by rw [HP.out]; unfold backQ; rw [if_neg (by rw [h]; simp), if_pos h1, if_pos h2]
    have HQ2 : hp L apeM = true → tOk L 0 = true → ¬ l.length < tN L + 32 → backP l = (((tN L + 32 : Nat) : Int), 0) := fun h h1 h2 => by rw [HP.out]; unfold backQ; rw [if_neg (by rw [h]; simp), if_pos h1, if_neg h2]
    have HQ3 : hp L apeM = true → tOk L 0 = false → tOk L 2147483648 = false → backP l = (0, 12) := fun h h1 h2 => by rw [HP.out]; unfold backQ; rw [if_neg (by rw [h]; simp), if_neg (by rw [h1]; simp), if_pos h2]
    have HQ4 : hp L apeM = true → tOk L 0 = false → tOk L 2147483648 = true → l.length < tN L + 64 → backP l = (0, 24) := fun h h1 h2 h3 => by rw [HP.out]; unfold backQ; rw [if_neg (by rw [h]; simp), if_neg (by rw [h1]; simp), if_neg (by rw [h2]; simp), if_pos h3]
    have HQ5 : hp L apeM = true → tOk L 0 = false → tOk L 2147483648 = true → ¬ l.length < tN L + 64 → backP l = if ((l.take (l.length - (tN L + 64) + 32)).drop (l.length - (tN L + 64)) == endL (tN L) (tC L) 2684354560) = false then (0, 12) else (((tN L + 64 : Nat) : Int), 0) := fun h h1 h2 h3 => by rw [HP.out]; unfold backQ; rw [if_neg (by rw [h]; simp), if_neg (by rw [h1]; simp), if_neg (by rw [h2]; simp), if_neg h3]
    have hN := tN_le L
    have hC := tC_le L
    have C0 := Lib.hid (fun W => tells_any (some (ad.add T)) (cap - T) L 0 (by omega) W)
    have C1 := Lib.hid (fun W => tells_any (some (ad.add T)) (cap - T) L 2147483648 (by omega) W)
    have HP8 := Lib.hid (fun W b h h' => hasPrefix_any (some (ad.add T)) 32 (cap - T) L b 8 8 apeM W h h')
    generalize hp L apeM = hpB at *
    generalize tOk L 0 = ok0 at *
    generalize tOk L 2147483648 = ok1 at *
    generalize tN L = N at *
    generalize tC L = K at *
    have G0 := Lib.hid HQ0
    have G1 := Lib.hid HQ1
    have G2 := Lib.hid HQ2
    have G3 := Lib.hid HQ3
    have G4 := Lib.hid HQ4
    have G5 := Lib.hid HQ5
    clear HQ0 HQ1 HQ2 HQ3 HQ4 HQ5 HP ha hll hcut hT
    go_enter Try.func32, Try.ntmps32
    go_wp2_with fail
    obtain ⟨w1, hw1⟩ : ∃ w1, w1 = w.alloc (.cells #[.int .u8 65, .int .u8 80, .int .u8 69, .int .u8 84, .int .u8 65, .int .u8 71, .int .u8 69, .int .u8 88] 5 (8, 9)) := ⟨_, rfl⟩
    rw [← hw1]
    have HB1 : Hid (Below w.heap.size w w1) := Lib.hid (by rw [hw1]; exact (Below.refl _ _).alloc (Nat.le_refl _) _)
    have HP1 : Hid (BArg w1 (some ⟨w.heap.size, 0, none⟩) 8 8 apeM) := Lib.hid (by rw [hw1]; exact BArg.lit w apeM 8 rfl (by omega) _ _ _ rfl)
    have HA1 := Lib.hid (HA.out.below HB1.out)
    have HU1 := Lib.hid (HU.out.below HB1.out)
    clear hw1 kc
    refine (HP8.out _ _ HU1.out HP1.out).mono ?_
    rintro e w2 ⟨rfl, rfl⟩
    cases hpB with
    | false =>
      have HS := Lib.hid (G0.out (by simp))
      go_wp2_with fail
      go_ret2
      exact ⟨by rw [HS.out]; rfl, HB1.out⟩
    | true =>
      go_wp2_with fail
      refine (C0.out _ HU1.out).mono ?_
      rintro e w2 ⟨rfl, hb2⟩
      have HB2 := Lib.hid (HB1.out.trans (hb2.mono HB1.out.size))
      have HA2 := Lib.hid (HA1.out.below hb2)
      have HU2 := Lib.hid (HU1.out.below hb2)
      clear hb2
      cases ok0 with
      | true =>
        by_cases hn : len < N + 32
        · have HS := Lib.hid (G1.out (by simp) (by simp) (by rw [HL.out]; exact hn))
          have g1 : decide ((T : Int) < (N : Int)) = true := by simp; omega
          have g2 : decide (T < N) = true := by simp; omega
          clear hn
          go_wp2_with fail
          go_ret2
          exact ⟨by rw [HS.out]; rfl, HB2.out.alloc HB2.out.size _⟩
        · have HS := Lib.hid (G2.out (by simp) (by simp) (by rw [HL.out]; exact hn))
          have g1 : decide ((T : Int) < (N : Int)) = false := by simp; omega
          have g2 : decide (T < N) = false := by simp; omega
          clear hn
          go_wp2_with fail
          go_ret2
          exact ⟨by rw [HS.out]; rfl, HB2.out.alloc HB2.out.size _⟩
      | false =>
        go_wp2_with fail
        obtain ⟨w3, hw3⟩ : ∃ w3, w3 = w2.alloc (.cells #[.int .i64 (N : Int), .int .i64 (K : Int)] 68) := ⟨_, rfl⟩
        rw [← hw3]
        have HB3 : Hid (Below w.heap.size w w3) := Lib.hid (by rw [hw3]; exact HB2.out.alloc HB2.out.size _)
        have HA3 : Hid (BArg w3 (some ad) len cap l) := Lib.hid (by rw [hw3]; exact HA2.out.alloc _)
        have HU3 : Hid (BArg w3 (some (ad.add T)) 32 (cap - T) L) := Lib.hid (by rw [hw3]; exact HU2.out.alloc _)
        clear hw3
        refine (C1.out _ HU3.out).mono ?_
        rintro e w4 ⟨rfl, hb4⟩
        have HB4 := Lib.hid (HB3.out.trans (hb4.mono HB3.out.size))
        have HA4 := Lib.hid (HA3.out.below hb4)
        clear hb4
        cases ok1 with
        | false =>
          have HS := Lib.hid (G3.out (by simp) (by simp) (by simp))
          go_wp2_with fail
          go_ret2
          exact ⟨by rw [HS.out]; rfl, HB4.out.alloc HB4.out.size _⟩
        | true =>
          by_cases hn : len < N + 64
          · have HS := Lib.hid (G4.out (by simp) (by simp) (by simp) (by rw [HL.out]; exact hn))
            go_wp2_with fail
            go_ret2
            exact ⟨by rw [HS.out]; rfl, HB4.out.alloc HB4.out.size _⟩
          · have HS := Lib.hid (G5.out (by simp) (by simp) (by simp) (by rw [HL.out]; exact hn))
            clear G0 G1 G2 G3 G4 G5 C0 C1 HU3 HU2 HU1 HA1 HA2 HA3 HP1 HP8
            go_upto_region 15 with fail
            obtain ⟨M, hM⟩ : ∃ M, M = N + 64 := ⟨_, rfl⟩
            obtain ⟨D, hD⟩ : ∃ D, D = len - M := ⟨_, rfl⟩
            obtain ⟨E, hE⟩ : ∃ E, E = D + 32 := ⟨_, rfl⟩
            have HS2 : Hid (backP l = if ((l.take E).drop D == endL N K 2684354560) = false then (0, 12) else ((M : Int), 0)) := Lib.hid (by rw [hE, hD, hM, ← HL.out]; exact HS.out)
            rw [show (N : Int) + 64 = (M : Int) by omega]
            have hcut := HA4.out.cut (i := D) (j := E) (by omega) (by omega)
            rw [if_neg (by omega), show E - D = 32 by omega] at hcut
            simp only [Option.map_some] at hcut
            obtain ⟨W, hW⟩ : ∃ W, W = w4.alloc (.cells #[.int .i64 (N : Int), .int .i64 (K : Int)] 68) := ⟨_, rfl⟩
            rw [← hW]
            have f0 : W.cell? ⟨w4.heap.size, 0, none⟩ = some (.int .i64 (N : Int)) := by rw [hW, World.cell?_alloc_at _ _ _ _ rfl]; rfl
            have f1 : W.cell? ⟨w4.heap.size, 1, none⟩ = some (.int .i64 (K : Int)) := by rw [hW, World.cell?_alloc_at _ _ _ _ rfl]; rfl
            have HBW : Hid (Below w.heap.size w W) := Lib.hid (by rw [hW]; exact HB4.out.alloc HB4.out.size _)
            have HCW : Hid (BArg W (some (ad.add D)) 32 (cap - D) ((l.take E).drop D)) := Lib.hid (by rw [hW]; exact hcut.alloc _)
            have hlt : w4.heap.size < W.heap.size := by rw [hW]; simp
            generalize (l.take E).drop D = F at HS2 HCW
            have e10 : (len : Int) - (M : Int) = (D : Int) := by omega
            have e11 : (D : Int) + 32 = (E : Int) := by omega
            have hwD : IntKind.i64.wrap (D : Int) = (D : Int) := by rw [IntKind.wrap_i64]; omega
            have hwE : IntKind.i64.wrap (E : Int) = (E : Int) := by rw [IntKind.wrap_i64]; omega
            have k0 : (0 : Int) ≤ (D : Int) := by omega
            have kM : (D : Int) ≤ (E : Int) := by omega
            have kN : (E : Int) ≤ (cap : Int) := by omega
            have i0 : D ≤ E := by omega
            have i1 : ¬ cap = D := by omega
            have i2 : E ≤ cap := by omega
            have i3 : E - D = 32 := by omega
            clear hcut hW hn h32 hM hD hE HS
            go_region_held3 (fun w' => w'.cell? ⟨w4.heap.size, 0, none⟩ = some (.int .i64 (N : Int)) ∧ w'.cell? ⟨w4.heap.size, 1, none⟩ = some (.int .i64 (K : Int))) (go_keep) ((first | (go_at_call 46; refine (end_any N K 2684354560 hN hC (by omega) _).mono ?_; rintro e w5 ⟨A, c1, rfl, ho, hb⟩; have f0' := (hb.cell (p := ⟨w4.heap.size, 0, none⟩) (by simp; omega)).trans f0; have f1' := (hb.cell (p := ⟨w4.heap.size, 1, none⟩) (by simp; omega)).trans f1; have HO := Lib.hid ho; have HBx := Lib.hid (HBW.out.drew.trans (hb.mono HBW.out.drew.size)); have HC3 := Lib.hid (HCW.out.drew.below hb); clear ho hb) | (go_at_call 51; refine (equal_any _ 32 _ F _ 32 _ (endL N K 2684354560) _ HC3.out HO.out.arg).mono ?_; rintro e w6 ⟨rfl, rfl⟩)))
            cases hq : F == endL N K 2684354560 with
            | false =>
              have HS3 := Lib.hid (HS2.out.trans (if_pos hq))
              clear hq
              go_wp2_with fail
              go_ret2
              exact ⟨by rw [HS3.out]; rfl, HBx.out⟩
            | true =>
              have HS3 := Lib.hid (HS2.out.trans (if_neg (by rw [hq]; simp)))
              clear hq
              go_wp2_with fail
              go_ret2
              exact ⟨by rw [HS3.out]; rfl, HBx.out⟩
end Go.Proofs.Ytgdchcaglkeghaa
