/- The walk of the reference of layer 29: Front. -/
import Derived.Test.YtgdchcaglkeghaaApeRefB
import Derived.Deep.QuietTactic
import Derived.BigQuiet
import Derived.Test.YtgdchcaglkeghaaOpAt
namespace Go.Proofs.Ytgdchcaglkeghaa
open Go.RowKit
attribute [local go_sem ↓] Go.wp_at_zero Go.wp_at_succ

theorem hp8 (l : List UInt8) (h : 8 ≤ l.length) : hp l apeM = (l.take 8 == [65, 80, 69, 84, 65, 71, 69, 88]) := by
  unfold hp
  rw [show apeM.length = 8 from rfl, decide_eq_true h, Bool.true_and]
  rfl
theorem hp8_short (l : List UInt8) (h : l.length < 8) : hp l apeM = false := by
  unfold hp
  rw [decide_eq_false (show ¬ apeM.length ≤ l.length by show ¬ 8 ≤ l.length; omega), Bool.false_and]

set_option maxRecDepth 100000 in
set_option maxHeartbeats 2000000 in
theorem rfront_any (a : Option Addr) (len cap : Nat) (l : List UInt8) (w : World) (ha : BArg w a len cap l) :
    Calls Try.prog 31 #[.slice a len cap] w fun e w' => e = .returned (.tuple #[.int .i64 (frontP l).1, .int .i64 (frontP l).2]) ∧ Below w.heap.size w w' := by
  have hll := ha.len_eq
  have hlc := ha.le
  have hcs := ha.small
  have HA := Lib.hid ha
  have HL := Lib.hid hll
  clear ha
  by_cases h8 : len < 8
  · have HS : Hid (frontP l = (0, 6)) := Lib.hid (by unfold frontP; rw [if_pos (hp8_short l (by omega))])
    have i8 : decide ((len : Int) < 8) = true := by simp; omega
    clear hll
    go_enter Try.func31, Try.ntmps31
    go_wp2_with fail
    go_ret2
    exact ⟨by rw [HS.out]; rfl, Below.refl _ _⟩
  · have i8 : decide ((len : Int) < 8) = false := by simp; omega
    have hc8 : 8 ≤ cap := by omega
    have HQ0 := Lib.hid (hp8 l (by omega))
    have t8 := (HA.out.upto (k := 8) (by omega)).text
    clear hll
    cases hT : (l.take 8 == [65, 80, 69, 84, 65, 71, 69, 88]) with
    | false =>
      have HS : Hid (frontP l = (0, 6)) := Lib.hid (by unfold frontP; rw [if_pos (by rw [HQ0.out, hT])])
      clear HQ0
      generalize l.take 8 = T8 at *
      go_enter Try.func31, Try.ntmps31
      go_wp2_with fail
      go_ret2
      exact ⟨by rw [HS.out]; rfl, Below.refl _ _⟩
    | true =>
      have HQ : Hid (hp l apeM = true) := Lib.hid (by rw [HQ0.out, hT])
      clear HQ0
      generalize l.take 8 = T8 at *
      by_cases h32 : len < 32
      · have HS : Hid (frontP l = (0, 24)) := Lib.hid (by unfold frontP; rw [if_neg (by rw [HQ.out]; simp), if_pos (by rw [HL.out]; exact h32)])
        go_enter Try.func31, Try.ntmps31
        go_wp2_with fail
        go_ret2
        exact ⟨by rw [HS.out]; rfl, Below.refl _ _⟩
      · have hc32 : 32 ≤ cap := by omega
        have i32 : (32 : Int) ≤ (cap : Int) := by omega
        obtain ⟨ad, _, hae, _, _, _, _⟩ := HA.out.at_ (k := 0) (by omega)
        subst hae
        have HU := Lib.hid (HA.out.upto (k := 32) (by omega))
        have hSF : tOk (l.take 32) 2684354560 = false → frontP l = (0, 12) := fun h => by
          unfold frontP; rw [if_neg (by rw [HQ.out]; simp), if_neg (by rw [HL.out]; exact h32), if_pos h]
        have hSS : tOk (l.take 32) 2684354560 = true → l.length < tN (l.take 32) + 64 → frontP l = (0, 24) := fun h h' => by
          unfold frontP; rw [if_neg (by rw [HQ.out]; simp), if_neg (by rw [HL.out]; exact h32), if_neg (by rw [h]; simp), if_pos h']
        have hST : tOk (l.take 32) 2684354560 = true → ¬ l.length < tN (l.take 32) + 64 → frontP l = if ((l.take (tN (l.take 32) + 64)).drop (tN (l.take 32) + 32) == endL (tN (l.take 32)) (tC (l.take 32)) 2147483648) = false then (0, 12) else (((tN (l.take 32) + 64 : Nat) : Int), 0) := fun h h' => by
          unfold frontP; rw [if_neg (by rw [HQ.out]; simp), if_neg (by rw [HL.out]; exact h32), if_neg (by rw [h]; simp), if_neg h']
        have hO : tOk (l.take 32) 2684354560 = (tellB (l.take 32) && l.take 32 == endL (tN (l.take 32)) (tC (l.take 32)) 2684354560) := rfl
        have hN := tN_le (l.take 32)
        have hC := tC_le (l.take 32)
        have C := Lib.hid (told_any (some ad) cap (l.take 32) w HU.out)
        generalize tOk (l.take 32) 2684354560 = ok at *
        generalize tN (l.take 32) = N at *
        generalize tC (l.take 32) = K at *
        have hE1 := rhead_any N K hN hC
        have hE2 := rfoot_any N K true hN hC
        have e2 : endL N K (flN true) = endL N K 2147483648 := rfl
        rw [e2] at hE2
        generalize endL N K 2684354560 = E1 at *
        generalize endL N K 2147483648 = E2 at *
        have CH := Lib.hid hE1
        have CF := Lib.hid hE2
        clear e2 hE1 hE2
        generalize l.take 32 = L at *
        generalize tellB L = tb at *
        have HSF := Lib.hid hSF
        have HSS := Lib.hid hSS
        have HST := Lib.hid hST
        have HOK := Lib.hid hO
        clear hSF hSS hST hO
        go_enter Try.func31, Try.ntmps31
        go_wp2_with fail
        refine C.out.mono ?_
        rintro e w2 ⟨rfl, rfl⟩
        clear t8
        cases tb with
        | false =>
          have HS := Lib.hid (HSF.out (by rw [HOK.out]; rfl))
          go_upto_region 6 with fail
          go_quiet (fail)
          go_wp2_with fail
          go_ret2
          exact ⟨by rw [HS.out]; rfl, below_drewN' (Below.refl _ _) _⟩
        | true =>
          have tU := HU.out.drew.text
          go_upto_region 6 with fail
          refine wp_region_held_drew (S := (fun w' => (convert 22 9 (.slice (some ad) 32 cap)).run Try.prog w' = .ok (.string ⟨L.toArray⟩) w')) (by kernel_rfl) ?_ (fun hHeld => ?_)
          · (try dsimp only); (first | assumption | go_keep)
          refine wpAnyH_take (i := 0) (v := ?_) (op_at (pre := [])) (by kernel_rfl) (by kernel_rfl) (by kernel_rfl) (fun _ _ _ h => h) (Or.inl ⟨by rfl, ?_⟩) (by assumption) ?_
          rotate_left
          · intro w' hSw; (try dsimp only at hSw); go_simp; (try with_reducible rfl)
          simp only [Act.put, List.setIfInBounds_toArray, List.set_cons_zero, List.set_cons_succ]
          refine wpAnyH_take (i := 1) (v := ?_) (op_at (pre := [_])) (by kernel_rfl) (by kernel_rfl) (by kernel_rfl) (fun _ _ _ h => h) (Or.inl ⟨by rfl, ?_⟩) (by assumption) ?_
          rotate_left
          · intro w' hSw; (try dsimp only at hSw); go_simp; (try with_reducible rfl)
          simp only [Act.put, List.setIfInBounds_toArray, List.set_cons_zero, List.set_cons_succ]
          refine wpAnyH_take (i := 2) (v := ?_) (op_at (pre := [_, _])) (by kernel_rfl) (by kernel_rfl) (by kernel_rfl) (fun _ _ _ h => h) (Or.inl ⟨by rfl, ?_⟩) (by assumption) ?_
          rotate_left
          · intro w' hSw; (try dsimp only at hSw); go_simp; (try with_reducible rfl)
          simp only [Act.put, List.setIfInBounds_toArray, List.set_cons_zero, List.set_cons_succ]
          refine wpAnyH_take (i := 3) (v := ?_) (op_at (pre := [_, _, _])) (by kernel_rfl) (by kernel_rfl) (by kernel_rfl) (fun _ _ _ h => h) (Or.inl ⟨by rfl, ?_⟩) (by assumption) ?_
          rotate_left
          · intro w' hSw; (try dsimp only at hSw); go_simp; (try with_reducible rfl)
          simp only [Act.put, List.setIfInBounds_toArray, List.set_cons_zero, List.set_cons_succ]
          refine wpAnyH_take (i := 4) (v := ?_) (op_at (pre := [_, _, _, _])) (by kernel_rfl) (by kernel_rfl) (by kernel_rfl) (fun _ _ _ h => h) (Or.inl ⟨by rfl, ?_⟩) (by assumption) ?_
          rotate_left
          · intro w' hSw; (try dsimp only at hSw); go_simp; (try with_reducible rfl)
          simp only [Act.put, List.setIfInBounds_toArray, List.set_cons_zero, List.set_cons_succ]
          refine wpAnyH_take (i := 5) (v := ?_) (op_at (pre := [_, _, _, _, _])) (by kernel_rfl) (by kernel_rfl) (by kernel_rfl) (fun _ _ _ h => h) (Or.inl ⟨by rfl, ?_⟩) (by assumption) ?_
          rotate_left
          · intro w' hSw; (try dsimp only at hSw); go_simp; (try with_reducible rfl)
          simp only [Act.put, List.setIfInBounds_toArray, List.set_cons_zero, List.set_cons_succ]
          refine wpAnyH_take (i := 6) (v := ?_) (op_at (pre := [_, _, _, _, _, _])) (by kernel_rfl) (by kernel_rfl) (by kernel_rfl) (fun _ _ _ h => h) (Or.inl ⟨by rfl, ?_⟩) (by assumption) ?_
          rotate_left
          · intro w' hSw; (try dsimp only at hSw); go_simp; (try with_reducible rfl)
          simp only [Act.put, List.setIfInBounds_toArray, List.set_cons_zero, List.set_cons_succ]
          refine wpAnyH_take (i := 7) (v := ?_) (op_at (pre := [_, _, _, _, _, _, _])) (by kernel_rfl) (by kernel_rfl) (by kernel_rfl) (fun _ _ _ h => h) (Or.inl ⟨by rfl, ?_⟩) (by assumption) ?_
          rotate_left
          · intro w' hSw; (try dsimp only at hSw); go_simp; (try with_reducible rfl)
          simp only [Act.put, List.setIfInBounds_toArray, List.set_cons_zero, List.set_cons_succ]
          refine wpAnyH_ready (rs := [8]) (by kernel_rfl) (by simp) ?_
          refine AllReadyH.cons (op_at (pre := [_, _, _, _, _, _, _, _])) (fun K hK => ?_) AllReadyH.nil
          go_simp
          refine (CH.out _).mono ?_
          rintro e w3 ⟨A3, c3, rfl, ho, hb⟩
          have HB3 := Lib.hid ((Below.refl w.heap.size w).drew.trans (hb.mono (by simp)))
          have tE := ho.arg.text
          have tU3 := (HU.out.drew.below hb).text
          clear ho hb
          go_wp2_with fail
          refine hK.out _ _ ?_ (fun hHeld => ?_)
          · (try dsimp only); (first | assumption | go_keep)
          clear hK K
          refine wpAnyH_ready (rs := [9]) (by kernel_rfl) (by simp) ?_
          refine AllReadyH.cons (op_at (pre := [_, _, _, _, _, _, _, _, _])) (fun K hK => ?_) AllReadyH.nil
          go_simp
          refine hK.out _ _ ?_ (fun hHeld => ?_)
          · (try dsimp only); (first | assumption | go_keep)
          clear hK K
          refine wpAnyH_take (i := 10) (v := ?_) (op_at (pre := [_, _, _, _, _, _, _, _, _, _])) (by kernel_rfl) (by kernel_rfl) (by kernel_rfl) (fun _ _ _ h => h) (Or.inl ⟨by rfl, ?_⟩) (by assumption) ?_
          rotate_left
          · intro w' hSw; (try dsimp only at hSw); go_simp; (try with_reducible rfl)
          simp only [Act.put, List.setIfInBounds_toArray, List.set_cons_zero, List.set_cons_succ]
          refine wpAnyH_take (i := 11) (v := ?_) (op_at (pre := [_, _, _, _, _, _, _, _, _, _, _])) (by kernel_rfl) (by kernel_rfl) (by kernel_rfl) (fun _ _ _ h => h) (Or.inl ⟨by rfl, ?_⟩) (by assumption) ?_
          rotate_left
          · intro w' hSw; (try dsimp only at hSw); go_simp; (try with_reducible rfl)
          simp only [Act.put, List.setIfInBounds_toArray, List.set_cons_zero, List.set_cons_succ]
          refine wpAnyH_done (by kernel_rfl) ?_ _
          have HA3 := Lib.hid (HA.out.below HB3.out)
          cases hq : L == E1 with
          | false =>
            have HS := Lib.hid (HSF.out (by rw [HOK.out, hq]; rfl))
            go_wp2_with fail
            go_ret2
            exact ⟨by rw [HS.out]; rfl, HB3.out⟩
          | true =>
            have HOT : Hid (ok = true) := Lib.hid (by rw [HOK.out, hq]; rfl)
            by_cases hn : len < N + 64
            · have HS := Lib.hid (HSS.out HOT.out (by rw [HL.out]; exact hn))
              have g2 : decide ((len : Int) < 64 + (N : Int)) = true := by simp; omega
              have g3 : decide ((len : Int) < (N : Int) + 64) = true := by simp; omega
              go_wp2_with fail
              go_ret2
              exact ⟨by rw [HS.out]; rfl, HB3.out⟩
            · have HS := Lib.hid (HST.out HOT.out (by rw [HL.out]; exact hn))
              go_upto_region 11 with fail
              obtain ⟨M, hM⟩ : ∃ M, M = N + 64 := ⟨_, rfl⟩
              obtain ⟨D, hD⟩ : ∃ D, D = N + 32 := ⟨_, rfl⟩
              have HS2 : Hid (frontP l = if ((l.take M).drop D == E2) = false then (0, 12) else ((M : Int), 0)) := Lib.hid (by rw [hM, hD]; exact HS.out)
              rw [show 64 + (N : Int) = (M : Int) by omega]
              have hcut := HA3.out.cut (i := D) (j := M) (by omega) (by omega)
              rw [if_neg (by omega), show M - D = 32 by omega] at hcut
              simp only [Option.map_some] at hcut
              have HCW := Lib.hid hcut
              have tF := hcut.drew.text
              generalize (l.take M).drop D = F at HS2 HCW tF hcut
              have e10 : (M : Int) - 32 = (D : Int) := by omega
              have hwD : IntKind.i64.wrap (D : Int) = (D : Int) := by rw [IntKind.wrap_i64]; omega
              have k0 : (0 : Int) ≤ (D : Int) := by omega
              have kM : (D : Int) ≤ (M : Int) := by omega
              have kN : (M : Int) ≤ (cap : Int) := by omega
              have j0 : D ≤ M := by omega
              have j1 : ¬ cap = D := by omega
              have j2 : M ≤ cap := by omega
              have j3 : M - D = 32 := by omega
              clear hcut hn h32 hc32 i32 hM hD HS HU HSF HSS HST HOK HOT tE tU3
              refine wp_region_held_drew (S := (fun w' => (convert 22 9 (.slice (some (ad.add D)) 32 (cap - D))).run Try.prog w' = .ok (.string ⟨F.toArray⟩) w')) (by kernel_rfl) ?_ (fun hHeld => ?_)
              · (try dsimp only); (first | assumption | go_keep)
              refine wpAnyH_take (i := 0) (v := ?_) (op_at (pre := [])) (by kernel_rfl) (by kernel_rfl) (by kernel_rfl) (fun _ _ _ h => h) (Or.inl ⟨by rfl, ?_⟩) (by assumption) ?_
              rotate_left
              · intro w' hSw; (try dsimp only at hSw); go_simp; (try with_reducible rfl)
              simp only [Act.put, List.setIfInBounds_toArray, List.set_cons_zero, List.set_cons_succ]
              refine wpAnyH_take (i := 1) (v := ?_) (op_at (pre := [_])) (by kernel_rfl) (by kernel_rfl) (by kernel_rfl) (fun _ _ _ h => h) (Or.inl ⟨by rfl, ?_⟩) (by assumption) ?_
              rotate_left
              · intro w' hSw; (try dsimp only at hSw); go_simp; (try with_reducible rfl)
              simp only [Act.put, List.setIfInBounds_toArray, List.set_cons_zero, List.set_cons_succ]
              refine wpAnyH_take (i := 2) (v := ?_) (op_at (pre := [_, _])) (by kernel_rfl) (by kernel_rfl) (by kernel_rfl) (fun _ _ _ h => h) (Or.inl ⟨by rfl, ?_⟩) (by assumption) ?_
              rotate_left
              · intro w' hSw; (try dsimp only at hSw); go_simp; (try with_reducible rfl)
              simp only [Act.put, List.setIfInBounds_toArray, List.set_cons_zero, List.set_cons_succ]
              refine wpAnyH_take (i := 3) (v := ?_) (op_at (pre := [_, _, _])) (by kernel_rfl) (by kernel_rfl) (by kernel_rfl) (fun _ _ _ h => h) (Or.inl ⟨by rfl, ?_⟩) (by assumption) ?_
              rotate_left
              · intro w' hSw; (try dsimp only at hSw); go_simp; (try with_reducible rfl)
              simp only [Act.put, List.setIfInBounds_toArray, List.set_cons_zero, List.set_cons_succ]
              refine wpAnyH_take (i := 4) (v := ?_) (op_at (pre := [_, _, _, _])) (by kernel_rfl) (by kernel_rfl) (by kernel_rfl) (fun _ _ _ h => h) (Or.inl ⟨by rfl, ?_⟩) (by assumption) ?_
              rotate_left
              · intro w' hSw; (try dsimp only at hSw); go_simp; (try with_reducible rfl)
              simp only [Act.put, List.setIfInBounds_toArray, List.set_cons_zero, List.set_cons_succ]
              refine wpAnyH_take (i := 5) (v := ?_) (op_at (pre := [_, _, _, _, _])) (by kernel_rfl) (by kernel_rfl) (by kernel_rfl) (fun _ _ _ h => h) (Or.inl ⟨by rfl, ?_⟩) (by assumption) ?_
              rotate_left
              · intro w' hSw; (try dsimp only at hSw); go_simp; (try with_reducible rfl)
              simp only [Act.put, List.setIfInBounds_toArray, List.set_cons_zero, List.set_cons_succ]
              refine wpAnyH_take (i := 6) (v := ?_) (op_at (pre := [_, _, _, _, _, _])) (by kernel_rfl) (by kernel_rfl) (by kernel_rfl) (fun _ _ _ h => h) (Or.inl ⟨by rfl, ?_⟩) (by assumption) ?_
              rotate_left
              · intro w' hSw; (try dsimp only at hSw); go_simp; (try with_reducible rfl)
              simp only [Act.put, List.setIfInBounds_toArray, List.set_cons_zero, List.set_cons_succ]
              refine wpAnyH_take (i := 7) (v := ?_) (op_at (pre := [_, _, _, _, _, _, _])) (by kernel_rfl) (by kernel_rfl) (by kernel_rfl) (fun _ _ _ h => h) (Or.inl ⟨by rfl, ?_⟩) (by assumption) ?_
              rotate_left
              · intro w' hSw; (try dsimp only at hSw); go_simp; (try with_reducible rfl)
              simp only [Act.put, List.setIfInBounds_toArray, List.set_cons_zero, List.set_cons_succ]
              refine wpAnyH_ready (rs := [8]) (by kernel_rfl) (by simp) ?_
              refine AllReadyH.cons (op_at (pre := [_, _, _, _, _, _, _, _])) (fun K hK => ?_) AllReadyH.nil
              go_simp
              refine (CF.out _).mono ?_
              rintro e w4 ⟨A4, c4, rfl, ho, hb⟩
              have HBx := Lib.hid (HB3.out.drew.trans (hb.mono HB3.out.drew.size))
              have tE := ho.arg.text
              have tU4 := (HCW.out.drew.below hb).text
              clear ho hb
              go_wp2_with fail
              refine hK.out _ _ ?_ (fun hHeld => ?_)
              · (try dsimp only); (first | assumption | go_keep)
              clear hK K
              refine wpAnyH_ready (rs := [9]) (by kernel_rfl) (by simp) ?_
              refine AllReadyH.cons (op_at (pre := [_, _, _, _, _, _, _, _, _])) (fun K hK => ?_) AllReadyH.nil
              go_simp
              refine hK.out _ _ ?_ (fun hHeld => ?_)
              · (try dsimp only); (first | assumption | go_keep)
              clear hK K
              refine wpAnyH_take (i := 10) (v := ?_) (op_at (pre := [_, _, _, _, _, _, _, _, _, _])) (by kernel_rfl) (by kernel_rfl) (by kernel_rfl) (fun _ _ _ h => h) (Or.inl ⟨by rfl, ?_⟩) (by assumption) ?_
              rotate_left
              · intro w' hSw; (try dsimp only at hSw); go_simp; (try with_reducible rfl)
              simp only [Act.put, List.setIfInBounds_toArray, List.set_cons_zero, List.set_cons_succ]
              refine wpAnyH_done (by kernel_rfl) ?_ _
              cases hq : F == E2 with
              | false =>
                have HS3 := Lib.hid (HS2.out.trans (if_pos hq))
                go_wp2_with fail
                go_ret2
                exact ⟨by rw [HS3.out]; rfl, HBx.out⟩
              | true =>
                have HS3 := Lib.hid (HS2.out.trans (if_neg (by rw [hq]; simp)))
                go_wp2_with fail
                go_ret2
                exact ⟨by rw [HS3.out]; rfl, HBx.out⟩
end Go.Proofs.Ytgdchcaglkeghaa
