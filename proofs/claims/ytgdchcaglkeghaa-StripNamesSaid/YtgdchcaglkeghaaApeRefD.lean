/- The walk of the reference of layer 29: Back. -/
import Derived.Test.YtgdchcaglkeghaaApeRefC
namespace Go.Proofs.Ytgdchcaglkeghaa
open Go.RowKit
attribute [local go_sem ↓] Go.wp_at_zero Go.wp_at_succ

theorem endL_ne (it ct : Nat) : endL it ct 0 ≠ endL it ct 2147483648 := by
  intro h
  rw [endL_parts, endL_parts] at h
  have h1 := List.append_cancel_right h
  have h2 := List.append_cancel_left h1
  revert h2
  decide

set_option maxRecDepth 100000 in
set_option maxHeartbeats 4000000 in
theorem rback_any (a : Option Addr) (len cap : Nat) (l : List UInt8) (w : World) (ha : BArg w a len cap l) :
    Calls Try.prog 33 #[.slice a len cap] w fun e w' => e = .returned (.tuple #[.int .i64 (backP l).1, .int .i64 (backP l).2]) ∧ Below w.heap.size w w' := by
  have hll := ha.len_eq
  have hlc := ha.le
  have hcs := ha.small
  by_cases h32 : len < 32
  · have HS : Hid (backP l = (0, 6)) := Lib.hid (by unfold backP; rw [if_pos (by omega)])
    clear ha hll
    go_enter Try.func33, Try.ntmps33
    go_wp2_with fail
    go_ret2
    exact ⟨by rw [HS.out]; rfl, Below.refl _ _⟩
  · have HP : Hid (backP l = backQ l (l.drop (len - 32))) := Lib.hid (by unfold backP; rw [if_neg (by omega), hll])
    have HA := Lib.hid ha
    have HL := Lib.hid hll
    obtain ⟨ad, _, hae, _, _, _, _⟩ := ha.at_ (k := 0) (by omega)
    subst hae
    obtain ⟨T, hT⟩ : ∃ T, T = len - 32 := ⟨_, rfl⟩
    obtain ⟨T8, hT8⟩ : ∃ T8, T8 = T + 8 := ⟨_, rfl⟩
    rw [← hT] at HP
    have hcut := ha.cut (i := T) (j := len) (by omega) (by omega)
    rw [if_neg (by omega), show len - T = 32 by omega, List.take_of_length_le (by omega)] at hcut
    simp only [Option.map_some] at hcut
    have hcut8 := ha.cut (i := T) (j := T8) (by omega) (by omega)
    rw [if_neg (by omega), show T8 - T = 8 by omega, show (l.take T8).drop T = (l.drop T).take 8 by rw [List.drop_take, show T8 - T = 8 by omega]] at hcut8
    simp only [Option.map_some] at hcut8
    have hlen32 : (l.drop T).length = 32 := by simp; omega
    generalize l.drop T = L at *
    have HU := Lib.hid hcut
    have eT : (len : Int) - 32 = (T : Int) := by omega
    have e8 : (T : Int) + 8 = (T8 : Int) := by omega
    have hwT : IntKind.i64.wrap (T : Int) = (T : Int) := by rw [IntKind.wrap_i64]; omega
    have j0 : T ≤ cap := by omega
    have j1 : ¬ cap = T := by omega
    have j2 : len - T = 32 := by omega
    have j3 : T8 ≤ cap := by omega
    have j4 : T ≤ T8 := by omega
    have j5 : T8 - T = 8 := by omega
    have kT : (T : Int) ≤ (len : Int) := by omega
    have k8 : (T8 : Int) ≤ (cap : Int) := by omega
    have k9 : (T : Int) ≤ (T8 : Int) := by omega
    have k0 : (0 : Int) ≤ (T : Int) := by omega
    have t8 := hcut8.text
    have hH8 := hp8 L (by omega)
    have HQ0 : hp L apeM = false → backP l = (0, 6) := fun h => by rw [HP.out]; unfold backQ; rw [if_pos h]
    have HQ1 : hp L apeM = true → tOk L 0 = true → l.length < tN L + 32 → backP l = (0, 24) := fun h h1 h2 => by rw [HP.out]; unfold backQ; rw [if_neg (by rw [h]; simp), if_pos h1, if_pos h2]
    have HQ2 : hp L apeM = true → tOk L 0 = true → ¬ l.length < tN L + 32 → backP l = (((tN L + 32 : Nat) : Int), 0) := fun h h1 h2 => by rw [HP.out]; unfold backQ; rw [if_neg (by rw [h]; simp), if_pos h1, if_neg h2]
    have HQ3 : hp L apeM = true → tOk L 0 = false → tOk L 2147483648 = false → backP l = (0, 12) := fun h h1 h2 => by rw [HP.out]; unfold backQ; rw [if_neg (by rw [h]; simp), if_neg (by rw [h1]; simp), if_pos h2]
    have HQ4 : hp L apeM = true → tOk L 0 = false → tOk L 2147483648 = true → l.length < tN L + 64 → backP l = (0, 24) := fun h h1 h2 h3 => by rw [HP.out]; unfold backQ; rw [if_neg (by rw [h]; simp), if_neg (by rw [h1]; simp), if_neg (by rw [h2]; simp), if_pos h3]
    have HQ5 : hp L apeM = true → tOk L 0 = false → tOk L 2147483648 = true → ¬ l.length < tN L + 64 → backP l = if ((l.take (l.length - (tN L + 64) + 32)).drop (l.length - (tN L + 64)) == endL (tN L) (tC L) 2684354560) = false then (0, 12) else (((tN L + 64 : Nat) : Int), 0) := fun h h1 h2 h3 => by rw [HP.out]; unfold backQ; rw [if_neg (by rw [h]; simp), if_neg (by rw [h1]; simp), if_neg (by rw [h2]; simp), if_neg h3]
    have hO0 : tOk L 0 = (tellB L && L == endL (tN L) (tC L) 0) := rfl
    have hO1 : tOk L 2147483648 = (tellB L && L == endL (tN L) (tC L) 2147483648) := rfl
    have hne := endL_ne (tN L) (tC L)
    have hN := tN_le L
    have hC := tC_le L
    have C := Lib.hid (told_any (some (ad.add T)) (cap - T) L w HU.out)
    have CH := Lib.hid (rhead_any (tN L) (tC L) hN hC)
    have CF1 := Lib.hid (rfoot_any (tN L) (tC L) true hN hC)
    have CF0 := Lib.hid (rfoot_any (tN L) (tC L) false hN hC)
    have x1 : endL (tN L) (tC L) (flN true) = endL (tN L) (tC L) 2147483648 := rfl
    have x0 : endL (tN L) (tC L) (flN false) = endL (tN L) (tC L) 0 := rfl
    rw [x1] at CF1
    rw [x0] at CF0
    clear x1 x0
    generalize tOk L 0 = ok0 at *
    generalize tOk L 2147483648 = ok1 at *
    generalize tN L = N at *
    generalize tC L = K at *
    generalize endL N K 2684354560 = EH at *
    generalize endL N K 2147483648 = E1 at *
    generalize endL N K 0 = E0 at *
    generalize tellB L = tb at *
    have HNE := Lib.hid hne
    have G0 := Lib.hid HQ0
    have G1 := Lib.hid HQ1
    have G2 := Lib.hid HQ2
    have G3 := Lib.hid HQ3
    have G4 := Lib.hid HQ4
    have G5 := Lib.hid HQ5
    have O0 := Lib.hid hO0
    have O1 := Lib.hid hO1
    have HH8 := Lib.hid hH8
    clear HQ0 HQ1 HQ2 HQ3 HQ4 HQ5 HP ha hll hcut hcut8 hO0 hO1 hne hT hT8 hlen32 hH8
    cases hq8 : (L.take 8 == [65, 80, 69, 84, 65, 71, 69, 88]) with
    | false =>
      have HS := Lib.hid (G0.out (by rw [HH8.out, hq8]))
      generalize L.take 8 = L8 at *
      go_enter Try.func33, Try.ntmps33
      go_wp2_with fail
      go_ret2
      exact ⟨by rw [HS.out]; rfl, Below.refl _ _⟩
    | true =>
      have HH : Hid (hp L apeM = true) := Lib.hid (by rw [HH8.out, hq8])
      clear HH8
      generalize L.take 8 = L8 at *
      go_enter Try.func33, Try.ntmps33
      go_wp2_with fail
      refine C.out.mono ?_
      rintro e w2 ⟨rfl, rfl⟩
      clear t8 hq8
      cases tb with
      | false =>
        have HS := Lib.hid (G3.out HH.out (by rw [O0.out]; rfl) (by rw [O1.out]; rfl))
        go_wp2_with fail
        go_ret2
        exact ⟨by rw [HS.out]; rfl, Below.refl _ _⟩
      | true =>
        have tU := HU.out.drew.text
        have HB0 := Lib.hid (Below.refl w.heap.size w)
        go_upto_region 7 with fail
        refine wp_region_held_drew (S := (fun w' => (convert 22 9 (.slice (some (ad.add T)) 32 (cap - T))).run Try.prog w' = .ok (.string ⟨L.toArray⟩) w')) (by kernel_rfl) ?_ (fun hHeld => ?_)
        · (try dsimp only); (first | assumption | go_keep)
        refine wpAnyH_take (i := 0) (v := ?_) (op_at (pre := [])) (by kernel_rfl) (by kernel_rfl) (by kernel_rfl) (fun _ _ _ h => h) (Or.inl ⟨by rfl, ?_⟩) (by assumption) ?_
        rotate_left
        · intro w' hSw; (try dsimp only at hSw); go_simp; (try with_reducible rfl)
        simp only [Act.put, List.setIfInBounds_toArray, List.set_cons_zero, List.set_cons_succ]
        refine wpAnyH_take (i := 1) (v := ?_) (op_at (pre := [_])) (by kernel_rfl) (by kernel_rfl) (by kernel_rfl) (fun _ _ _ h => h) (Or.inl ⟨by rfl, ?_⟩) (by assumption) ?_
        rotate_left
        · intro w' hSw; (try dsimp only at hSw); go_simp; (try with_reducible rfl)
        simp only [Act.put, List.setIfInBounds_toArray, List.set_cons_zero, List.set_cons_succ]
        refine wpAnyH_take (i := 2) (v := ?_) (op_at (pre := [_, _])) (by kernel_rfl) (by kernel_rfl) (by kernel_rfl) (fun _ _ _ h => h) (Or.inl ⟨by rfl, ?_⟩) (by assumption) ?_
        rotate_left
        · intro w' hSw; (try dsimp only at hSw); go_simp; (try with_reducible rfl)
        simp only [Act.put, List.setIfInBounds_toArray, List.set_cons_zero, List.set_cons_succ]
        refine wpAnyH_take (i := 3) (v := ?_) (op_at (pre := [_, _, _])) (by kernel_rfl) (by kernel_rfl) (by kernel_rfl) (fun _ _ _ h => h) (Or.inl ⟨by rfl, ?_⟩) (by assumption) ?_
        rotate_left
        · intro w' hSw; (try dsimp only at hSw); go_simp; (try with_reducible rfl)
        simp only [Act.put, List.setIfInBounds_toArray, List.set_cons_zero, List.set_cons_succ]
        refine wpAnyH_ready (rs := [4]) (by kernel_rfl) (by simp) ?_
        refine AllReadyH.cons (op_at (pre := [_, _, _, _])) (fun K hK => ?_) AllReadyH.nil
        go_simp
        refine (CF1.out _).mono ?_
        rintro e w3 ⟨A3, c3, rfl, ho, hb⟩
        have HB3 := Lib.hid (HB0.out.drew.trans (hb.mono HB0.out.drew.size))
        have tE3 := ho.arg.text
        have HU3 := Lib.hid (HU.out.drew.below hb)
        have tU3 := HU3.out.text
        clear ho hb
        go_wp2_with fail
        refine hK.out _ _ ?_ (fun hHeld => ?_)
        · (try dsimp only); (first | assumption | go_keep)
        clear hK K
        refine wpAnyH_ready (rs := [5]) (by kernel_rfl) (by simp) ?_
        refine AllReadyH.cons (op_at (pre := [_, _, _, _, _])) (fun K hK => ?_) AllReadyH.nil
        go_simp
        refine hK.out _ _ ?_ (fun hHeld => ?_)
        · (try dsimp only); (first | assumption | go_keep)
        clear hK K
        refine wpAnyH_take (i := 6) (v := ?_) (op_at (pre := [_, _, _, _, _, _])) (by kernel_rfl) (by kernel_rfl) (by kernel_rfl) (fun _ _ _ h => h) (Or.inl ⟨by rfl, ?_⟩) (by assumption) ?_
        rotate_left
        · intro w' hSw; (try dsimp only at hSw); go_simp; (try with_reducible rfl)
        simp only [Act.put, List.setIfInBounds_toArray, List.set_cons_zero, List.set_cons_succ]
        refine wpAnyH_take (i := 7) (v := ?_) (op_at (pre := [_, _, _, _, _, _, _])) (by kernel_rfl) (by kernel_rfl) (by kernel_rfl) (fun _ _ _ h => h) (Or.inl ⟨by rfl, ?_⟩) (by assumption) ?_
        rotate_left
        · intro w' hSw; (try dsimp only at hSw); go_simp; (try with_reducible rfl)
        simp only [Act.put, List.setIfInBounds_toArray, List.set_cons_zero, List.set_cons_succ]
        refine wpAnyH_done (by kernel_rfl) ?_ _
        have HA3 := Lib.hid (HA.out.below HB3.out)
        clear tU
        cases hq : L == E1 with
        | true =>
          have HE1 : Hid (ok1 = true) := Lib.hid (by rw [O1.out, hq]; rfl)
          have HE0 : Hid (ok0 = false) := Lib.hid (by
            rw [O0.out]
            cases h0 : L == E0 with
            | false => rfl
            | true => exact absurd ((eq_of_beq h0).symm.trans (eq_of_beq hq)) HNE.out)
          clear hq
          go_upto_region 8 with fail
          go_quiet (fail)
          go_upto_region 11 with fail
          have HBd : ∃ wd, wd = w3.drewN nq := ⟨_, rfl⟩
          obtain ⟨wq, hwq⟩ := HBd
          rw [← hwq]
          have HBq : Hid (Below w.heap.size w wq) := Lib.hid (by rw [hwq]; exact below_drewN' HB3.out _)
          have HAq : Hid (BArg wq (some ad) len cap l) := Lib.hid (by rw [hwq]; exact HA3.out.drewN _)
          clear hwq
          by_cases hn : len < N + 64
          · have HS := Lib.hid (G4.out HH.out HE0.out HE1.out (by rw [HL.out]; exact hn))
            go_wp2_with fail
            go_ret2
            exact ⟨by rw [HS.out]; rfl, HBq.out⟩
          · have HS := Lib.hid (G5.out HH.out HE0.out HE1.out (by rw [HL.out]; exact hn))
            go_upto_region 15 with fail
            obtain ⟨M, hM⟩ : ∃ M, M = N + 64 := ⟨_, rfl⟩
            obtain ⟨D, hD⟩ : ∃ D, D = len - M := ⟨_, rfl⟩
            obtain ⟨E, hE⟩ : ∃ E, E = D + 32 := ⟨_, rfl⟩
            have HS2 : Hid (backP l = if ((l.take E).drop D == EH) = false then (0, 12) else ((M : Int), 0)) := Lib.hid (by rw [hE, hD, hM, ← HL.out]; exact HS.out)
            rw [show 32 + (N : Int) + 32 = (M : Int) by omega]
            have hcut := HAq.out.cut (i := D) (j := E) (by omega) (by omega)
            rw [if_neg (by omega), show E - D = 32 by omega] at hcut
            simp only [Option.map_some] at hcut
            have tF := hcut.drew.text
            have HCW := Lib.hid hcut
            generalize (l.take E).drop D = F at HS2 HCW hcut tF
            have e10 : (len : Int) - (M : Int) = (D : Int) := by omega
            have e11 : (D : Int) + 32 = (E : Int) := by omega
            have hwD : IntKind.i64.wrap (D : Int) = (D : Int) := by rw [IntKind.wrap_i64]; omega
            have hwE : IntKind.i64.wrap (E : Int) = (E : Int) := by rw [IntKind.wrap_i64]; omega
            have m0 : (0 : Int) ≤ (D : Int) := by omega
            have mM : (D : Int) ≤ (E : Int) := by omega
            have mN : (E : Int) ≤ (cap : Int) := by omega
            have i0 : D ≤ E := by omega
            have i1 : ¬ cap = D := by omega
            have i2 : E ≤ cap := by omega
            have i3 : E - D = 32 := by omega
            clear hcut hn h32 hM hD hE HS HA3 eT e8 hwT j0 j1 j2 j3 j4 j5 kT k8 k9 k0
            refine wp_region_held_drew (S := (fun w' => (convert 22 9 (.slice (some (ad.add D)) 32 (cap - D))).run Try.prog w' = .ok (.string ⟨F.toArray⟩) w')) (by kernel_rfl) ?_ (fun hHeld => ?_)
            · (try dsimp only); (first | assumption | go_keep)
            refine wpAnyH_take (i := 0) (v := ?_) (op_at (pre := [])) (by kernel_rfl) (by kernel_rfl) (by kernel_rfl) (fun _ _ _ h => h) (Or.inl ⟨by rfl, ?_⟩) (by assumption) ?_
            rotate_left
            · intro w' hSw; (try dsimp only at hSw); go_simp; (try with_reducible rfl)
            simp only [Act.put, List.setIfInBounds_toArray, List.set_cons_zero, List.set_cons_succ]
            refine wpAnyH_take (i := 1) (v := ?_) (op_at (pre := [_])) (by kernel_rfl) (by kernel_rfl) (by kernel_rfl) (fun _ _ _ h => h) (Or.inl ⟨by rfl, ?_⟩) (by assumption) ?_
            rotate_left
            · intro w' hSw; (try dsimp only at hSw); go_simp; (try with_reducible rfl)
            simp only [Act.put, List.setIfInBounds_toArray, List.set_cons_zero, List.set_cons_succ]
            refine wpAnyH_take (i := 2) (v := ?_) (op_at (pre := [_, _])) (by kernel_rfl) (by kernel_rfl) (by kernel_rfl) (fun _ _ _ h => h) (Or.inl ⟨by rfl, ?_⟩) (by assumption) ?_
            rotate_left
            · intro w' hSw; (try dsimp only at hSw); go_simp; (try with_reducible rfl)
            simp only [Act.put, List.setIfInBounds_toArray, List.set_cons_zero, List.set_cons_succ]
            refine wpAnyH_take (i := 3) (v := ?_) (op_at (pre := [_, _, _])) (by kernel_rfl) (by kernel_rfl) (by kernel_rfl) (fun _ _ _ h => h) (Or.inl ⟨by rfl, ?_⟩) (by assumption) ?_
            rotate_left
            · intro w' hSw; (try dsimp only at hSw); go_simp; (try with_reducible rfl)
            simp only [Act.put, List.setIfInBounds_toArray, List.set_cons_zero, List.set_cons_succ]
            refine wpAnyH_take (i := 4) (v := ?_) (op_at (pre := [_, _, _, _])) (by kernel_rfl) (by kernel_rfl) (by kernel_rfl) (fun _ _ _ h => h) (Or.inl ⟨by rfl, ?_⟩) (by assumption) ?_
            rotate_left
            · intro w' hSw; (try dsimp only at hSw); go_simp; (try with_reducible rfl)
            simp only [Act.put, List.setIfInBounds_toArray, List.set_cons_zero, List.set_cons_succ]
            refine wpAnyH_take (i := 5) (v := ?_) (op_at (pre := [_, _, _, _, _])) (by kernel_rfl) (by kernel_rfl) (by kernel_rfl) (fun _ _ _ h => h) (Or.inl ⟨by rfl, ?_⟩) (by assumption) ?_
            rotate_left
            · intro w' hSw; (try dsimp only at hSw); go_simp; (try with_reducible rfl)
            simp only [Act.put, List.setIfInBounds_toArray, List.set_cons_zero, List.set_cons_succ]
            refine wpAnyH_take (i := 6) (v := ?_) (op_at (pre := [_, _, _, _, _, _])) (by kernel_rfl) (by kernel_rfl) (by kernel_rfl) (fun _ _ _ h => h) (Or.inl ⟨by rfl, ?_⟩) (by assumption) ?_
            rotate_left
            · intro w' hSw; (try dsimp only at hSw); go_simp; (try with_reducible rfl)
            simp only [Act.put, List.setIfInBounds_toArray, List.set_cons_zero, List.set_cons_succ]
            refine wpAnyH_take (i := 7) (v := ?_) (op_at (pre := [_, _, _, _, _, _, _])) (by kernel_rfl) (by kernel_rfl) (by kernel_rfl) (fun _ _ _ h => h) (Or.inl ⟨by rfl, ?_⟩) (by assumption) ?_
            rotate_left
            · intro w' hSw; (try dsimp only at hSw); go_simp; (try with_reducible rfl)
            simp only [Act.put, List.setIfInBounds_toArray, List.set_cons_zero, List.set_cons_succ]
            refine wpAnyH_take (i := 8) (v := ?_) (op_at (pre := [_, _, _, _, _, _, _, _])) (by kernel_rfl) (by kernel_rfl) (by kernel_rfl) (fun _ _ _ h => h) (Or.inl ⟨by rfl, ?_⟩) (by assumption) ?_
            rotate_left
            · intro w' hSw; (try dsimp only at hSw); go_simp; (try with_reducible rfl)
            simp only [Act.put, List.setIfInBounds_toArray, List.set_cons_zero, List.set_cons_succ]
            refine wpAnyH_take (i := 9) (v := ?_) (op_at (pre := [_, _, _, _, _, _, _, _, _])) (by kernel_rfl) (by kernel_rfl) (by kernel_rfl) (fun _ _ _ h => h) (Or.inl ⟨by rfl, ?_⟩) (by assumption) ?_
            rotate_left
            · intro w' hSw; (try dsimp only at hSw); go_simp; (try with_reducible rfl)
            simp only [Act.put, List.setIfInBounds_toArray, List.set_cons_zero, List.set_cons_succ]
            refine wpAnyH_take (i := 10) (v := ?_) (op_at (pre := [_, _, _, _, _, _, _, _, _, _])) (by kernel_rfl) (by kernel_rfl) (by kernel_rfl) (fun _ _ _ h => h) (Or.inl ⟨by rfl, ?_⟩) (by assumption) ?_
            rotate_left
            · intro w' hSw; (try dsimp only at hSw); go_simp; (try with_reducible rfl)
            simp only [Act.put, List.setIfInBounds_toArray, List.set_cons_zero, List.set_cons_succ]
            refine wpAnyH_take (i := 11) (v := ?_) (op_at (pre := [_, _, _, _, _, _, _, _, _, _, _])) (by kernel_rfl) (by kernel_rfl) (by kernel_rfl) (fun _ _ _ h => h) (Or.inl ⟨by rfl, ?_⟩) (by assumption) ?_
            rotate_left
            · intro w' hSw; (try dsimp only at hSw); go_simp; (try with_reducible rfl)
            simp only [Act.put, List.setIfInBounds_toArray, List.set_cons_zero, List.set_cons_succ]
            refine wpAnyH_take (i := 12) (v := ?_) (op_at (pre := [_, _, _, _, _, _, _, _, _, _, _, _])) (by kernel_rfl) (by kernel_rfl) (by kernel_rfl) (fun _ _ _ h => h) (Or.inl ⟨by rfl, ?_⟩) (by assumption) ?_
            rotate_left
            · intro w' hSw; (try dsimp only at hSw); go_simp; (try with_reducible rfl)
            simp only [Act.put, List.setIfInBounds_toArray, List.set_cons_zero, List.set_cons_succ]
            refine wpAnyH_take (i := 13) (v := ?_) (op_at (pre := [_, _, _, _, _, _, _, _, _, _, _, _, _])) (by kernel_rfl) (by kernel_rfl) (by kernel_rfl) (fun _ _ _ h => h) (Or.inl ⟨by rfl, ?_⟩) (by assumption) ?_
            rotate_left
            · intro w' hSw; (try dsimp only at hSw); go_simp; (try with_reducible rfl)
            simp only [Act.put, List.setIfInBounds_toArray, List.set_cons_zero, List.set_cons_succ]
            refine wpAnyH_take (i := 14) (v := ?_) (op_at (pre := [_, _, _, _, _, _, _, _, _, _, _, _, _, _])) (by kernel_rfl) (by kernel_rfl) (by kernel_rfl) (fun _ _ _ h => h) (Or.inl ⟨by rfl, ?_⟩) (by assumption) ?_
            rotate_left
            · intro w' hSw; (try dsimp only at hSw); go_simp; (try with_reducible rfl)
            simp only [Act.put, List.setIfInBounds_toArray, List.set_cons_zero, List.set_cons_succ]
            refine wpAnyH_take (i := 15) (v := ?_) (op_at (pre := [_, _, _, _, _, _, _, _, _, _, _, _, _, _, _])) (by kernel_rfl) (by kernel_rfl) (by kernel_rfl) (fun _ _ _ h => h) (Or.inl ⟨by rfl, ?_⟩) (by assumption) ?_
            rotate_left
            · intro w' hSw; (try dsimp only at hSw); go_simp; (try with_reducible rfl)
            simp only [Act.put, List.setIfInBounds_toArray, List.set_cons_zero, List.set_cons_succ]
            refine wpAnyH_ready (rs := [16]) (by kernel_rfl) (by simp) ?_
            refine AllReadyH.cons (op_at (pre := [_, _, _, _, _, _, _, _, _, _, _, _, _, _, _, _])) (fun K hK => ?_) AllReadyH.nil
            go_simp
            refine (CH.out _).mono ?_
            rintro e w5 ⟨A5, c5, rfl, ho, hb⟩
            have HB5 := Lib.hid (HBq.out.drew.trans (hb.mono HBq.out.drew.size))
            have tE5 := ho.arg.text
            have tU5 := (HCW.out.drew.below hb).text
            clear ho hb
            go_wp2_with fail
            refine hK.out _ _ ?_ (fun hHeld => ?_)
            · (try dsimp only); (first | assumption | go_keep)
            clear hK K
            refine wpAnyH_ready (rs := [17]) (by kernel_rfl) (by simp) ?_
            refine AllReadyH.cons (op_at (pre := [_, _, _, _, _, _, _, _, _, _, _, _, _, _, _, _, _])) (fun K hK => ?_) AllReadyH.nil
            go_simp
            refine hK.out _ _ ?_ (fun hHeld => ?_)
            · (try dsimp only); (first | assumption | go_keep)
            clear hK K
            refine wpAnyH_take (i := 18) (v := ?_) (op_at (pre := [_, _, _, _, _, _, _, _, _, _, _, _, _, _, _, _, _, _])) (by kernel_rfl) (by kernel_rfl) (by kernel_rfl) (fun _ _ _ h => h) (Or.inl ⟨by rfl, ?_⟩) (by assumption) ?_
            rotate_left
            · intro w' hSw; (try dsimp only at hSw); go_simp; (try with_reducible rfl)
            simp only [Act.put, List.setIfInBounds_toArray, List.set_cons_zero, List.set_cons_succ]
            refine wpAnyH_take (i := 19) (v := ?_) (op_at (pre := [_, _, _, _, _, _, _, _, _, _, _, _, _, _, _, _, _, _, _])) (by kernel_rfl) (by kernel_rfl) (by kernel_rfl) (fun _ _ _ h => h) (Or.inl ⟨by rfl, ?_⟩) (by assumption) ?_
            rotate_left
            · intro w' hSw; (try dsimp only at hSw); go_simp; (try with_reducible rfl)
            simp only [Act.put, List.setIfInBounds_toArray, List.set_cons_zero, List.set_cons_succ]
            refine wpAnyH_done (by kernel_rfl) ?_ _
            cases hq : F == EH with
            | false =>
              have HS3 := Lib.hid (HS2.out.trans (if_pos hq))
              go_wp2_with fail
              go_ret2
              exact ⟨by rw [HS3.out]; rfl, HB5.out⟩
            | true =>
              have HS3 := Lib.hid (HS2.out.trans (if_neg (by rw [hq]; simp)))
              go_wp2_with fail
              go_ret2
              exact ⟨by rw [HS3.out]; rfl, HB5.out⟩
        | false =>
          have HE1 : Hid (ok1 = false) := Lib.hid (by rw [O1.out, hq]; rfl)
          clear hq
          have tU := HU3.out.drew.text
          go_upto_region 8 with fail
          refine wp_region_held_drew (S := (fun w' => (convert 22 9 (.slice (some (ad.add T)) 32 (cap - T))).run Try.prog w' = .ok (.string ⟨L.toArray⟩) w')) (by kernel_rfl) ?_ (fun hHeld => ?_)
          · (try dsimp only); (first | assumption | go_keep)
          refine wpAnyH_take (i := 0) (v := ?_) (op_at (pre := [])) (by kernel_rfl) (by kernel_rfl) (by kernel_rfl) (fun _ _ _ h => h) (Or.inl ⟨by rfl, ?_⟩) (by assumption) ?_
          rotate_left
          · intro w' hSw; (try dsimp only at hSw); go_simp; (try with_reducible rfl)
          simp only [Act.put, List.setIfInBounds_toArray, List.set_cons_zero, List.set_cons_succ]
          refine wpAnyH_take (i := 1) (v := ?_) (op_at (pre := [_])) (by kernel_rfl) (by kernel_rfl) (by kernel_rfl) (fun _ _ _ h => h) (Or.inl ⟨by rfl, ?_⟩) (by assumption) ?_
          rotate_left
          · intro w' hSw; (try dsimp only at hSw); go_simp; (try with_reducible rfl)
          simp only [Act.put, List.setIfInBounds_toArray, List.set_cons_zero, List.set_cons_succ]
          refine wpAnyH_take (i := 2) (v := ?_) (op_at (pre := [_, _])) (by kernel_rfl) (by kernel_rfl) (by kernel_rfl) (fun _ _ _ h => h) (Or.inl ⟨by rfl, ?_⟩) (by assumption) ?_
          rotate_left
          · intro w' hSw; (try dsimp only at hSw); go_simp; (try with_reducible rfl)
          simp only [Act.put, List.setIfInBounds_toArray, List.set_cons_zero, List.set_cons_succ]
          refine wpAnyH_take (i := 3) (v := ?_) (op_at (pre := [_, _, _])) (by kernel_rfl) (by kernel_rfl) (by kernel_rfl) (fun _ _ _ h => h) (Or.inl ⟨by rfl, ?_⟩) (by assumption) ?_
          rotate_left
          · intro w' hSw; (try dsimp only at hSw); go_simp; (try with_reducible rfl)
          simp only [Act.put, List.setIfInBounds_toArray, List.set_cons_zero, List.set_cons_succ]
          refine wpAnyH_take (i := 4) (v := ?_) (op_at (pre := [_, _, _, _])) (by kernel_rfl) (by kernel_rfl) (by kernel_rfl) (fun _ _ _ h => h) (Or.inl ⟨by rfl, ?_⟩) (by assumption) ?_
          rotate_left
          · intro w' hSw; (try dsimp only at hSw); go_simp; (try with_reducible rfl)
          simp only [Act.put, List.setIfInBounds_toArray, List.set_cons_zero, List.set_cons_succ]
          refine wpAnyH_take (i := 5) (v := ?_) (op_at (pre := [_, _, _, _, _])) (by kernel_rfl) (by kernel_rfl) (by kernel_rfl) (fun _ _ _ h => h) (Or.inl ⟨by rfl, ?_⟩) (by assumption) ?_
          rotate_left
          · intro w' hSw; (try dsimp only at hSw); go_simp; (try with_reducible rfl)
          simp only [Act.put, List.setIfInBounds_toArray, List.set_cons_zero, List.set_cons_succ]
          refine wpAnyH_take (i := 6) (v := ?_) (op_at (pre := [_, _, _, _, _, _])) (by kernel_rfl) (by kernel_rfl) (by kernel_rfl) (fun _ _ _ h => h) (Or.inl ⟨by rfl, ?_⟩) (by assumption) ?_
          rotate_left
          · intro w' hSw; (try dsimp only at hSw); go_simp; (try with_reducible rfl)
          simp only [Act.put, List.setIfInBounds_toArray, List.set_cons_zero, List.set_cons_succ]
          refine wpAnyH_ready (rs := [7]) (by kernel_rfl) (by simp) ?_
          refine AllReadyH.cons (op_at (pre := [_, _, _, _, _, _, _])) (fun K hK => ?_) AllReadyH.nil
          go_simp
          refine (CF0.out _).mono ?_
          rintro e w4 ⟨A4, c4, rfl, ho, hb⟩
          have HB4 := Lib.hid (HB3.out.drew.trans (hb.mono HB3.out.drew.size))
          have tE4 := ho.arg.text
          have HU4 := Lib.hid (HU3.out.drew.below hb)
          have tU4 := HU4.out.text
          clear ho hb
          go_wp2_with fail
          refine hK.out _ _ ?_ (fun hHeld => ?_)
          · (try dsimp only); (first | assumption | go_keep)
          clear hK K
          refine wpAnyH_ready (rs := [8]) (by kernel_rfl) (by simp) ?_
          refine AllReadyH.cons (op_at (pre := [_, _, _, _, _, _, _, _])) (fun K hK => ?_) AllReadyH.nil
          go_simp
          refine hK.out _ _ ?_ (fun hHeld => ?_)
          · (try dsimp only); (first | assumption | go_keep)
          clear hK K
          refine wpAnyH_take (i := 9) (v := ?_) (op_at (pre := [_, _, _, _, _, _, _, _, _])) (by kernel_rfl) (by kernel_rfl) (by kernel_rfl) (fun _ _ _ h => h) (Or.inl ⟨by rfl, ?_⟩) (by assumption) ?_
          rotate_left
          · intro w' hSw; (try dsimp only at hSw); go_simp; (try with_reducible rfl)
          simp only [Act.put, List.setIfInBounds_toArray, List.set_cons_zero, List.set_cons_succ]
          refine wpAnyH_take (i := 10) (v := ?_) (op_at (pre := [_, _, _, _, _, _, _, _, _, _])) (by kernel_rfl) (by kernel_rfl) (by kernel_rfl) (fun _ _ _ h => h) (Or.inl ⟨by rfl, ?_⟩) (by assumption) ?_
          rotate_left
          · intro w' hSw; (try dsimp only at hSw); go_simp; (try with_reducible rfl)
          simp only [Act.put, List.setIfInBounds_toArray, List.set_cons_zero, List.set_cons_succ]
          refine wpAnyH_done (by kernel_rfl) ?_ _
          clear tU
          cases hq : L == E0 with
          | false =>
            have HE0 : Hid (ok0 = false) := Lib.hid (by rw [O0.out, hq]; rfl)
            have HS := Lib.hid (G3.out HH.out HE0.out HE1.out)
            go_wp2_with fail
            go_ret2
            exact ⟨by rw [HS.out]; rfl, HB4.out⟩
          | true =>
            have HE0 : Hid (ok0 = true) := Lib.hid (by rw [O0.out, hq]; rfl)
            clear hq
            by_cases hn : len < N + 32
            · have HS := Lib.hid (G1.out HH.out HE0.out (by rw [HL.out]; exact hn))
              go_wp2_with fail
              go_ret2
              exact ⟨by rw [HS.out]; rfl, HB4.out⟩
            · have HS := Lib.hid (G2.out HH.out HE0.out (by rw [HL.out]; exact hn))
              go_upto_region 15 with fail
              go_quiet (fail)
              go_wp2_with fail
              go_ret2
              exact ⟨by rw [HS.out]; simp; omega, below_drewN' HB4.out _⟩
end Go.Proofs.Ytgdchcaglkeghaa
