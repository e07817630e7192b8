/- The walk of the reference's Size. -/
import Derived.Test.YtgdchcaglkeghaaIdSize
import Derived.Test.YtgdchcaglkeghaaOpAt
namespace Go.Proofs.Ytgdchcaglkeghaa
open Go.RowKit
attribute [local go_sem ↓] Go.wp_at_zero Go.wp_at_succ

theorem cat_mk (a b : List UInt8) : (⟨a.toArray⟩ : ByteArray) ++ ⟨b.toArray⟩ = ⟨(a ++ b).toArray⟩ := by
  apply ByteArray.ext
  simp [ByteArray.data_append]
theorem hp3 (l : List UInt8) (h : 3 ≤ l.length) : hp l id3 = (l.take 3 == [73, 68, 51]) := by
  unfold hp id3
  rw [show ([73, 68, 51] : List UInt8).length = 3 from rfl, decide_eq_true h, Bool.true_and]
theorem fitsB_eq (v f : Nat) : fitsB v f = (decide (2 ≤ v) && decide (v ≤ 4) && (decide (f = 0) || (decide (f = 16) && decide (v = 4)))) := by
  unfold fitsB
  by_cases h0 : f = 0
  · rw [if_pos h0, Bool.eq_iff_iff]; simp [h0]
  · rw [if_neg h0]
    by_cases h1 : f = 16
    · rw [if_pos h1, Bool.eq_iff_iff]; simp [h1]; omega
    · rw [if_neg h1, Bool.eq_iff_iff]; simp [h0, h1]
theorem foot_eq (F B7 : List UInt8) (h : F.length = 10) : (F != [51, 68, 73] ++ B7) = !(F.take 3 == [51, 68, 73] && F.drop 3 == B7) := by
  rw [Bool.eq_iff_iff]
  have e : F = F.take 3 ++ F.drop 3 := (List.take_append_drop 3 F).symm
  constructor
  · intro h1
    simp only [bne_iff_ne, ne_eq] at h1
    simp only [Bool.not_eq_true', Bool.and_eq_false_iff, beq_eq_false_iff_ne, ne_eq]
    by_cases ha : F.take 3 = [51, 68, 73]
    · right
      intro hb
      exact h1 (by rw [← ha, ← hb]; exact e)
    · exact .inl ha
  · intro h1 
    simp only [bne_iff_ne, ne_eq]
    intro h2
    subst h2
    simp at h1

set_option maxRecDepth 100000 in
set_option maxHeartbeats 2000000 in
theorem rsize_any (a : Option Addr) (len cap : Nat) (l : List UInt8) (w : World) (ha : BArg w a len cap l) :
    Calls Try.prog 55 #[.slice a len cap] w fun e w' => e = .returned (.tuple #[.int .i64 (sizP l).1, .int .i64 (sizP l).2]) ∧ Below w.heap.size w w' := by
  have hll := ha.len_eq
  have hlc := ha.le
  have hcs := ha.small
  have HA := Lib.hid ha
  have HL := Lib.hid hll
  clear ha hll
  by_cases h3 : len < 3
  · have HS : Hid (sizP l = (0, 6)) := Lib.hid (by
      unfold sizP hp; rw [if_pos]; rw [decide_eq_false (by rw [HL.out]; show ¬ 3 ≤ len; omega), Bool.false_and])
    go_enter Try.func55, Try.ntmps55
    go_wp2_with fail
    go_ret2
    exact ⟨by rw [HS.out]; rfl, Below.refl _ _⟩
  · have i3 : decide ((len : Int) < 3) = false := by simp; omega
    have hc3 : 3 ≤ cap := by omega
    have H3 := Lib.hid (HA.out.upto (k := 3) (by omega))
    have HQ0 := Lib.hid (hp3 l (by rw [HL.out]; omega))
    cases hT : (l.take 3 == [73, 68, 51]) with
    | false =>
      have HS : Hid (sizP l = (0, 6)) := Lib.hid (by unfold sizP; rw [if_pos (by rw [HQ0.out, hT])])
      have t3 := H3.out.text
      clear HQ0
      generalize l.take 3 = T3 at *
      go_enter Try.func55, Try.ntmps55
      go_wp2_with fail
      go_ret2
      exact ⟨by rw [HS.out]; rfl, Below.refl _ _⟩
    | true =>
      have HQ : Hid (hp l id3 = true) := Lib.hid (by rw [HQ0.out, hT])
      have t3 := H3.out.text
      clear HQ0
      generalize l.take 3 = T3 at *
      by_cases h10 : len < 10
      · have HS : Hid (sizP l = (0, 24)) := Lib.hid (by unfold sizP; rw [if_neg (by rw [HQ.out]; simp), if_pos (by rw [HL.out]; exact h10)])
        go_enter Try.func55, Try.ntmps55
        go_wp2_with fail
        go_ret2
        exact ⟨by rw [HS.out]; rfl, Below.refl _ _⟩
      · obtain ⟨ad, c3, hae, hs3, hblk, hl3, hc3'⟩ := HA.out.at_ (k := 3) (by omega)
        subst hae
        obtain ⟨ad', c4, hae, _, _, hl4, hc4⟩ := HA.out.at_ (k := 4) (by omega)
        injection hae with hae
        subst hae
        obtain ⟨ad', c5, hae, _, _, hl5, hc5⟩ := HA.out.at_ (k := 5) (by omega)
        injection hae with hae
        subst hae
        have HG3 : Hid (l.getD 3 0 = c3) := Lib.hid (by simp [List.getD, hl3])
        have HG4 : Hid (l.getD 4 0 = c4) := Lib.hid (by simp [List.getD, hl4])
        have HG5 : Hid (l.getD 5 0 = c5) := Lib.hid (by simp [List.getD, hl5])
        have d3 : w.cell? ⟨ad.block, ad.off + 3, none⟩ = some (.int .u8 (c3.toNat : Int)) := hc3'
        have d4 : w.cell? ⟨ad.block, ad.off + 4, none⟩ = some (.int .u8 (c4.toNat : Int)) := hc4
        have d5 : w.cell? ⟨ad.block, ad.off + 5, none⟩ = some (.int .u8 (c5.toNat : Int)) := hc5
        have hcut2 := HA.out.cut (i := 6) (j := 10) (by omega) (by omega)
        have hn6 : ¬ cap = 6 := by omega
        rw [if_neg hn6] at hcut2
        have HV := Lib.hid hcut2
        have i10 : (10 : Int) ≤ (len : Int) := by omega
        clear hcut2 hl3 hl4 hl5 hs3 hc3' hc4 hc5
        obtain ⟨v1, v2, hv, hv28⟩ := idv_form ((l.take 10).drop 6) (by simp; rw [HL.out]; omega)
        have HH : Hid (headB l = (decide (v2 = 0) && decide (c4.toNat = 0) && fitsB c3.toNat c5.toNat)) := Lib.hid (by unfold headB; rw [hv, HG3.out, HG4.out, HG5.out])
        have HSb : Hid (headB l = false → sizP l = (0, 12)) := Lib.hid (fun h => by
          unfold sizP; rw [if_neg (by rw [HQ.out]; simp), if_neg (by rw [HL.out]; exact h10), if_pos h])
        have HV28 := Lib.hid hv28
        have HVV := Lib.hid hv
        clear hv hv28
        go_enter Try.func55, Try.ntmps55
        go_wp2_with fail
        refine (ridval_any _ 4 (cap - 6) _ _ HV.out).mono ?_
        rintro e w2 ⟨rfl, rfl⟩
        rw [HVV.out]
        clear t3
        by_cases g1 : c3.toNat < 2
        · have b1 : decide ((c3.toNat : Int) < 2) = true := by simp; omega
          have HS := Lib.hid (HSb.out (by rw [HH.out, fitsB_eq, decide_eq_false (show ¬ 2 ≤ c3.toNat by omega)]; simp))
          clear g1
          go_wp2_with fail
          go_ret2
          exact ⟨by rw [HS.out]; rfl, Below.refl _ _⟩
        have b1 : decide ((c3.toNat : Int) < 2) = false := by simp; omega
        by_cases g2 : 4 < c3.toNat
        · have b2 : decide (4 < (c3.toNat : Int)) = true := by simp; omega
          have HS := Lib.hid (HSb.out (by rw [HH.out, fitsB_eq, decide_eq_false (show ¬ c3.toNat ≤ 4 by omega)]; simp))
          clear g1 g2
          go_wp2_with fail
          go_ret2
          exact ⟨by rw [HS.out]; rfl, Below.refl _ _⟩
        have b2 : decide (4 < (c3.toNat : Int)) = false := by simp; omega
        by_cases g3 : c4.toNat = 0
        case neg =>
          have b3 : ((c4.toNat : Int) != 0) = true := by simp; omega
          have HS := Lib.hid (HSb.out (by rw [HH.out, decide_eq_false g3]; simp))
          clear g1 g2 g3
          go_wp2_with fail
          go_ret2
          exact ⟨by rw [HS.out]; rfl, Below.refl _ _⟩
        have b3 : ((c4.toNat : Int) != 0) = false := by simp; omega
        by_cases g5 : c5.toNat = 16
        case neg =>
          have b5 : ((c5.toNat : Int) == 16) = false := beq_eq_false_iff_ne.2 (by omega)
          have n5 : ((c5.toNat : Int) != 16) = true := by simp; omega
          by_cases g4 : c5.toNat = 0
          case neg =>
            have b4 : ((c5.toNat : Int) != 0) = true := by simp; omega
            have HS := Lib.hid (HSb.out (by rw [HH.out, fitsB_eq, decide_eq_false g4, decide_eq_false g5]; simp))
            clear g1 g2 g3 g4 g5
            go_wp2_with fail
            go_ret2
            exact ⟨by rw [HS.out]; rfl, Below.refl _ _⟩
          have b4 : ((c5.toNat : Int) != 0) = false := by simp; omega
          by_cases g6 : v2 = 0
          case neg =>
            have b6 : (v2 != 0) = true := by simp; omega
            have HS := Lib.hid (HSb.out (by rw [HH.out, decide_eq_false g6]; simp))
            clear g1 g2 g3 g4 g5 g6
            go_wp2_with fail
            go_ret2
            exact ⟨by rw [HS.out]; rfl, Below.refl _ _⟩
          subst g6
          obtain ⟨hv1, hvl⟩ := HV28.out rfl
          subst hv1
          have HT : Hid (headB l = true) := Lib.hid (by
            rw [HH.out, fitsB_eq, decide_eq_true g4, decide_eq_true g3, decide_eq_true (show 2 ≤ c3.toNat by omega), decide_eq_true (show c3.toNat ≤ 4 by omega)]; simp)
          obtain ⟨v, hv⟩ : ∃ v, v = vl ((l.take 10).drop 6) := ⟨_, rfl⟩
          rw [← hv] at hvl ⊢
          have HVE := Lib.hid hv
          have HN : Hid (headN l = v + 10) := Lib.hid (by unfold headN; rw [HG5.out, if_neg g5, ← HVE.out])
          clear hv
          by_cases hm : 4000 < v + 10
          · have HS : Hid (sizP l = (0, 4)) := Lib.hid (by
              unfold sizP; rw [if_neg (by rw [HQ.out]; simp), if_neg (by rw [HL.out]; exact h10), if_neg (by rw [HT.out]; simp), if_pos (by rw [HN.out]; omega)])
            clear g1 g2 g3 g4 g5
            go_wp2_with fail
            go_ret2
            exact ⟨by rw [HS.out]; rfl, Below.refl _ _⟩
          by_cases hlen : len < v + 10
          · have HS : Hid (sizP l = (0, 24)) := Lib.hid (by
              unfold sizP; rw [if_neg (by rw [HQ.out]; simp), if_neg (by rw [HL.out]; exact h10), if_neg (by rw [HT.out]; simp), if_neg (by rw [HN.out]; omega), if_pos (by rw [HN.out, HL.out]; omega)])
            clear g1 g2 g3 g4 g5
            go_wp2_with fail
            go_ret2
            exact ⟨by rw [HS.out]; rfl, Below.refl _ _⟩
          have HS : Hid (sizP l = (((v + 10 : Nat) : Int), 0)) := Lib.hid (by
            unfold sizP
            rw [if_neg (by rw [HQ.out]; simp), if_neg (by rw [HL.out]; exact h10), if_neg (by rw [HT.out]; simp), if_neg (by rw [HN.out]; omega), if_neg (by rw [HN.out, HL.out]; omega), if_neg (fun h => g5 (by rw [← HG5.out]; exact h.1)), HN.out])
          clear g1 g2 g3 g4 g5
          go_upto_region 15 with fail
          have i5 : (5 : Int) < (len : Int) := by omega
          go_quiet (fail)
          go_wp2_with fail
          go_ret2
          exact ⟨by rw [HS.out]; simp; omega, below_drewN' (Below.refl _ _) _⟩
        have b5 : ((c5.toNat : Int) == 16) = true := by rw [beq_iff_eq]; omega
        have n5 : ((c5.toNat : Int) != 16) = false := by simp; omega
        have b4 : ((c5.toNat : Int) != 0) = true := by simp; omega
        by_cases g7 : c3.toNat = 4
        case neg =>
          have b7 : ((c3.toNat : Int) != 4) = true := by simp; omega
          have HS := Lib.hid (HSb.out (by rw [HH.out, fitsB_eq, decide_eq_false g7, decide_eq_false (show ¬ c5.toNat = 0 by omega)]; simp))
          clear g1 g2 g3 g5 g7
          go_wp2_with fail
          go_ret2
          exact ⟨by rw [HS.out]; rfl, Below.refl _ _⟩
        have b7 : ((c3.toNat : Int) != 4) = false := by simp; omega
        by_cases g6 : v2 = 0
        case neg =>
          have b6 : (v2 != 0) = true := by simp; omega
          have HS := Lib.hid (HSb.out (by rw [HH.out, decide_eq_false g6]; simp))
          clear g1 g2 g3 g5 g6 g7
          go_wp2_with fail
          go_ret2
          exact ⟨by rw [HS.out]; rfl, Below.refl _ _⟩
        subst g6
        obtain ⟨hv1, hvl⟩ := HV28.out rfl
        subst hv1
        have HT : Hid (headB l = true) := Lib.hid (by
          rw [HH.out, fitsB_eq, decide_eq_true g5, decide_eq_true g3, decide_eq_true g7, decide_eq_true (show 2 ≤ c3.toNat by omega), decide_eq_true (show c3.toNat ≤ 4 by omega)]; simp)
        obtain ⟨v, hv⟩ : ∃ v, v = vl ((l.take 10).drop 6) := ⟨_, rfl⟩
        rw [← hv] at hvl ⊢
        have HVE := Lib.hid hv
        have HN : Hid (headN l = v + 10 + 10) := Lib.hid (by unfold headN; rw [HG5.out, if_pos g5, ← HVE.out])
        clear hv
        by_cases hm : 4000 < v + 20
        · have HS : Hid (sizP l = (0, 4)) := Lib.hid (by
            unfold sizP; rw [if_neg (by rw [HQ.out]; simp), if_neg (by rw [HL.out]; exact h10), if_neg (by rw [HT.out]; simp), if_pos (by rw [HN.out]; omega)])
          clear g1 g2 g3 g5 g7
          go_wp2_with fail
          go_ret2
          exact ⟨by rw [HS.out]; rfl, Below.refl _ _⟩
        by_cases hlen : len < v + 20
        · have HS : Hid (sizP l = (0, 24)) := Lib.hid (by
            unfold sizP; rw [if_neg (by rw [HQ.out]; simp), if_neg (by rw [HL.out]; exact h10), if_neg (by rw [HT.out]; simp), if_neg (by rw [HN.out]; omega), if_pos (by rw [HN.out, HL.out]; omega)])
          clear g1 g2 g3 g5 g7
          go_wp2_with fail
          go_ret2
          exact ⟨by rw [HS.out]; rfl, Below.refl _ _⟩
        have HS : Hid (sizP l = if footB l (v + 20) = false then (0, 12) else (((v + 20 : Nat) : Int), 0)) := Lib.hid (by
          unfold sizP
          rw [if_neg (by rw [HQ.out]; simp), if_neg (by rw [HL.out]; exact h10), if_neg (by rw [HT.out]; simp), if_neg (by rw [HN.out]; omega), if_neg (by rw [HN.out, HL.out]; omega), HG5.out, HN.out]
          by_cases hfo : footB l (v + 20) = false
          · rw [if_pos ⟨g5, hfo⟩, if_pos hfo]
          · rw [if_neg (fun h => hfo h.2), if_neg hfo])
        have hFc := HA.out.cut (i := v + 10) (j := v + 20) (by omega) (by omega)
        rw [if_neg (by omega), show v + 20 - (v + 10) = 10 by omega] at hFc
        have hB7 := HA.out.cut (i := 3) (j := 10) (by omega) (by omega)
        rw [if_neg (by omega)] at hB7
        have HFO : Hid (footB l (v + 20) = (((l.take (v + 20)).drop (v + 10)).take 3 == [51, 68, 73] && ((l.take (v + 20)).drop (v + 10)).drop 3 == (l.take 10).drop 3)) := Lib.hid (by
          unfold footB; rw [show v + 20 - 10 = v + 10 by omega])
        generalize (l.take (v + 20)).drop (v + 10) = F at hFc HFO
        generalize (l.take 10).drop 3 = B7 at hB7 HFO
        have HFE := Lib.hid (foot_eq F B7 hFc.len_eq)
        simp only [Option.map_some] at hFc hB7
        clear g1 g2 g3 g5 g7
        go_upto_region 15 with fail
        have i5 : (5 : Int) < (len : Int) := by omega
        rw [show (10 + (v : Int) + 10) = ((v + 20 : Nat) : Int) by omega]
        obtain ⟨M, hM⟩ : ∃ M, M = v + 10 := ⟨_, rfl⟩
        obtain ⟨N, hN⟩ : ∃ N, N = v + 20 := ⟨_, rfl⟩
        rw [← hM] at hFc
        rw [← hN] at HFO HS
        rw [← hN]
        have e10 : (N : Int) - 10 = (M : Int) := by omega
        have e11 : N - M = 10 := by omega
        have hwM : IntKind.i64.wrap (M : Int) = (M : Int) := by rw [IntKind.wrap_i64]; omega
        have kM : (M : Int) ≤ (N : Int) := by omega
        have kN : (N : Int) ≤ (cap : Int) := by omega
        have j0 : M ≤ N := by omega
        have j1 : ¬ cap = M := by omega
        have j2 : N ≤ cap := by omega
        have j3 : ¬ cap = 3 := by omega
        have j4 : 10 ≤ cap := by omega
        have k10 : (10 : Int) ≤ (cap : Int) := by omega
        have HFc := Lib.hid hFc
        have HB7 := Lib.hid hB7
        have HvN := Lib.hid hN
        clear hFc hB7 hM hN hm hlen hvl
        have tF := fun w' (h : Below w.heap.size w w') => (HFc.out.below h).text
        have tB : ∀ w', Below w.heap.size w w' → (convert 22 9 (.slice (some ⟨ad.block, ad.off + 3, none⟩) 7 (cap - 3))).run Try.prog w' = .ok (.string ⟨B7.toArray⟩) w' := fun w' h => (HB7.out.below h).text
        have hcat : (⟨#[51, 68, 73]⟩ : ByteArray) ++ ⟨B7.toArray⟩ = ⟨([51, 68, 73] ++ B7).toArray⟩ := cat_mk [51, 68, 73] B7
        have hlB : ¬ 9223372036854775807 < 3 + B7.length := by have := HB7.out.len_eq; omega
        generalize [51, 68, 73] ++ B7 = FB at hcat HFE
        have c5f : ∀ w', Below w.heap.size w w' → w'.cell? ⟨ad.block, ad.off + 5, none⟩ = some (.int .u8 (c5.toNat : Int)) := fun w' h => (h.cell (p := ⟨ad.block, ad.off + 5, none⟩) hblk).trans d5
        cases hX : (F != FB) with
        | true =>
          have HS2 : Hid (sizP l = (0, 12)) := Lib.hid (by
            rw [HS.out, if_pos (by rw [HFO.out]; rw [HFE.out, Bool.not_eq_true'] at hX; exact hX)])
          have hX2 : (!(F == FB)) = true := hX
          refine wp_region_held_drew (S := (fun w' => Below w.heap.size w w')) (by kernel_rfl) ?_ (fun hHeld => ?_)
          · (try dsimp only); (first | exact (Below.refl _ _).drew | exact hHeld)
          refine wpAnyH_take (i := 0) (v := ?_) (op_at (pre := [])) (by kernel_rfl) (by kernel_rfl) (by kernel_rfl) (fun _ _ _ h => h) (Or.inl ⟨by rfl, ?_⟩) (by assumption) ?_
          rotate_left
          · intro w' hSw; (try dsimp only at hSw); go_simp; (try with_reducible rfl)
          simp only [Act.put, List.setIfInBounds_toArray, List.set_cons_zero, List.set_cons_succ]
          refine wpAnyH_take (i := 1) (v := ?_) (op_at (pre := [_])) (by kernel_rfl) (by kernel_rfl) (by kernel_rfl) (fun _ _ _ h => h) (Or.inl ⟨by rfl, ?_⟩) (by assumption) ?_
          rotate_left
          · intro w' hSw; (try dsimp only at hSw); go_simp; (try with_reducible rfl)
          simp only [Act.put, List.setIfInBounds_toArray, List.set_cons_zero, List.set_cons_succ]
          refine wpAnyH_take (i := 2) (v := ?_) (op_at (pre := [_, _])) (by kernel_rfl) (by kernel_rfl) (by kernel_rfl) (fun _ _ _ h => h) (Or.inl ⟨by rfl, ?_⟩) (by assumption) ?_
          rotate_left
          · intro w' hSw; (try dsimp only at hSw); go_simp; (try with_reducible rfl)
          simp only [Act.put, List.setIfInBounds_toArray, List.set_cons_zero, List.set_cons_succ]
          refine wpAnyH_take (i := 3) (v := ?_) (op_at (pre := [_, _, _])) (by kernel_rfl) (by kernel_rfl) (by kernel_rfl) (fun _ _ _ h => h) (Or.inl ⟨by rfl, ?_⟩) (by assumption) ?_
          rotate_left
          · intro w' hSw; (try dsimp only at hSw); go_simp; (try with_reducible rfl)
          simp only [Act.put, List.setIfInBounds_toArray, List.set_cons_zero, List.set_cons_succ]
          refine wpAnyH_take (i := 4) (v := ?_) (op_at (pre := [_, _, _, _])) (by kernel_rfl) (by kernel_rfl) (by kernel_rfl) (fun _ _ _ h => h) (Or.inl ⟨by rfl, ?_⟩) (by assumption) ?_
          rotate_left
          · intro w' hSw; (try dsimp only at hSw); go_simp; (try with_reducible rfl)
          simp only [Act.put, List.setIfInBounds_toArray, List.set_cons_zero, List.set_cons_succ]
          refine wpAnyH_take (i := 5) (v := ?_) (op_at (pre := [_, _, _, _, _])) (by kernel_rfl) (by kernel_rfl) (by kernel_rfl) (fun _ _ _ h => h) (Or.inl ⟨by rfl, ?_⟩) (by assumption) ?_
          rotate_left
          · intro w' hSw; (try dsimp only at hSw); go_simp; (try with_reducible rfl)
          simp only [Act.put, List.setIfInBounds_toArray, List.set_cons_zero, List.set_cons_succ]
          refine wpAnyH_take (i := 6) (v := ?_) (op_at (pre := [_, _, _, _, _, _])) (by kernel_rfl) (by kernel_rfl) (by kernel_rfl) (fun _ _ _ h => h) (Or.inl ⟨by rfl, ?_⟩) (by assumption) ?_
          rotate_left
          · intro w' hSw; (try dsimp only at hSw); go_simp; (try with_reducible rfl)
          simp only [Act.put, List.setIfInBounds_toArray, List.set_cons_zero, List.set_cons_succ]
          refine wpAnyH_take (i := 7) (v := ?_) (op_at (pre := [_, _, _, _, _, _, _])) (by kernel_rfl) (by kernel_rfl) (by kernel_rfl) (fun _ _ _ h => h) (Or.inl ⟨by rfl, ?_⟩) (by assumption) ?_
          rotate_left
          · intro w' hSw; (try dsimp only at hSw); go_simp; (try with_reducible rfl)
          simp only [Act.put, List.setIfInBounds_toArray, List.set_cons_zero, List.set_cons_succ]
          refine wpAnyH_take (i := 8) (v := ?_) (op_at (pre := [_, _, _, _, _, _, _, _])) (by kernel_rfl) (by kernel_rfl) (by kernel_rfl) (fun _ _ _ h => h) (Or.inl ⟨by rfl, ?_⟩) (by assumption) ?_
          rotate_left
          · intro w' hSw; (try dsimp only at hSw); go_simp; (try with_reducible rfl)
          simp only [Act.put, List.setIfInBounds_toArray, List.set_cons_zero, List.set_cons_succ]
          refine wpAnyH_take (i := 9) (v := ?_) (op_at (pre := [_, _, _, _, _, _, _, _, _])) (by kernel_rfl) (by kernel_rfl) (by kernel_rfl) (fun _ _ _ h => h) (Or.inl ⟨by rfl, ?_⟩) (by assumption) ?_
          rotate_left
          · intro w' hSw; (try dsimp only at hSw); go_simp; (try with_reducible rfl)
          simp only [Act.put, List.setIfInBounds_toArray, List.set_cons_zero, List.set_cons_succ]
          refine wpAnyH_take (i := 10) (v := ?_) (op_at (pre := [_, _, _, _, _, _, _, _, _, _])) (by kernel_rfl) (by kernel_rfl) (by kernel_rfl) (fun _ _ _ h => h) (Or.inl ⟨by rfl, ?_⟩) (by assumption) ?_
          rotate_left
          · intro w' hSw; (try dsimp only at hSw); go_simp; (try with_reducible rfl)
          simp only [Act.put, List.setIfInBounds_toArray, List.set_cons_zero, List.set_cons_succ]
          refine wpAnyH_take (i := 11) (v := ?_) (op_at (pre := [_, _, _, _, _, _, _, _, _, _, _])) (by kernel_rfl) (by kernel_rfl) (by kernel_rfl) (fun _ _ _ h => h) (Or.inl ⟨by rfl, ?_⟩) (by assumption) ?_
          rotate_left
          · intro w' hSw; (try dsimp only at hSw); go_simp; (try with_reducible rfl)
          simp only [Act.put, List.setIfInBounds_toArray, List.set_cons_zero, List.set_cons_succ]
          refine wpAnyH_take (i := 12) (v := ?_) (op_at (pre := [_, _, _, _, _, _, _, _, _, _, _, _])) (by kernel_rfl) (by kernel_rfl) (by kernel_rfl) (fun _ _ _ h => h) (Or.inl ⟨by rfl, ?_⟩) (by assumption) ?_
          rotate_left
          · intro w' hSw; (try dsimp only at hSw); go_simp; (try with_reducible rfl)
          simp only [Act.put, List.setIfInBounds_toArray, List.set_cons_zero, List.set_cons_succ]
          refine wpAnyH_take (i := 13) (v := ?_) (op_at (pre := [_, _, _, _, _, _, _, _, _, _, _, _, _])) (by kernel_rfl) (by kernel_rfl) (by kernel_rfl) (fun _ _ _ h => h) (Or.inl ⟨by rfl, ?_⟩) (by assumption) ?_
          rotate_left
          · intro w' hSw; (try dsimp only at hSw); go_simp; (try with_reducible rfl)
          simp only [Act.put, List.setIfInBounds_toArray, List.set_cons_zero, List.set_cons_succ]
          refine wpAnyH_take (i := 14) (v := ?_) (op_at (pre := [_, _, _, _, _, _, _, _, _, _, _, _, _, _])) (by kernel_rfl) (by kernel_rfl) (by kernel_rfl) (fun _ _ _ h => h) (Or.inl ⟨by rfl, ?_⟩) (by assumption) ?_
          rotate_left
          · intro w' hSw; (try dsimp only at hSw); go_simp; (try with_reducible rfl)
          simp only [Act.put, List.setIfInBounds_toArray, List.set_cons_zero, List.set_cons_succ]
          refine wpAnyH_take (i := 15) (v := ?_) (op_at (pre := [_, _, _, _, _, _, _, _, _, _, _, _, _, _, _])) (by kernel_rfl) (by kernel_rfl) (by kernel_rfl) (fun _ _ _ h => h) (Or.inl ⟨by rfl, ?_⟩) (by assumption) ?_
          rotate_left
          · intro w' hSw; (try dsimp only at hSw); go_simp; (try with_reducible rfl)
          simp only [Act.put, List.setIfInBounds_toArray, List.set_cons_zero, List.set_cons_succ]
          refine wpAnyH_take (i := 16) (v := ?_) (op_at (pre := [_, _, _, _, _, _, _, _, _, _, _, _, _, _, _, _])) (by kernel_rfl) (by kernel_rfl) (by kernel_rfl) (fun _ _ _ h => h) (Or.inl ⟨by rfl, ?_⟩) (by assumption) ?_
          rotate_left
          · intro w' hSw; (try dsimp only at hSw); go_simp; (try with_reducible rfl)
          simp only [Act.put, List.setIfInBounds_toArray, List.set_cons_zero, List.set_cons_succ]
          refine wpAnyH_done (by kernel_rfl) ?_ _
          go_wp2_with fail
          go_ret2
          exact ⟨by rw [HS2.out]; rfl, hHeld⟩
        | false =>
          have HS2 : Hid (sizP l = ((N : Int), 0)) := Lib.hid (by
            rw [HS.out, if_neg (by rw [HFO.out]; rw [HFE.out, Bool.not_eq_false'] at hX; rw [hX]; simp)])
          have hX2 : (!(F == FB)) = false := hX
          refine wp_region_held_drew (S := (fun w' => Below w.heap.size w w')) (by kernel_rfl) ?_ (fun hHeld => ?_)
          · (try dsimp only); (first | exact (Below.refl _ _).drew | exact hHeld)
          refine wpAnyH_take (i := 0) (v := ?_) (op_at (pre := [])) (by kernel_rfl) (by kernel_rfl) (by kernel_rfl) (fun _ _ _ h => h) (Or.inl ⟨by rfl, ?_⟩) (by assumption) ?_
          rotate_left
          · intro w' hSw; (try dsimp only at hSw); go_simp; (try with_reducible rfl)
          simp only [Act.put, List.setIfInBounds_toArray, List.set_cons_zero, List.set_cons_succ]
          refine wpAnyH_take (i := 1) (v := ?_) (op_at (pre := [_])) (by kernel_rfl) (by kernel_rfl) (by kernel_rfl) (fun _ _ _ h => h) (Or.inl ⟨by rfl, ?_⟩) (by assumption) ?_
          rotate_left
          · intro w' hSw; (try dsimp only at hSw); go_simp; (try with_reducible rfl)
          simp only [Act.put, List.setIfInBounds_toArray, List.set_cons_zero, List.set_cons_succ]
          refine wpAnyH_take (i := 2) (v := ?_) (op_at (pre := [_, _])) (by kernel_rfl) (by kernel_rfl) (by kernel_rfl) (fun _ _ _ h => h) (Or.inl ⟨by rfl, ?_⟩) (by assumption) ?_
          rotate_left
          · intro w' hSw; (try dsimp only at hSw); go_simp; (try with_reducible rfl)
          simp only [Act.put, List.setIfInBounds_toArray, List.set_cons_zero, List.set_cons_succ]
          refine wpAnyH_take (i := 3) (v := ?_) (op_at (pre := [_, _, _])) (by kernel_rfl) (by kernel_rfl) (by kernel_rfl) (fun _ _ _ h => h) (Or.inl ⟨by rfl, ?_⟩) (by assumption) ?_
          rotate_left
          · intro w' hSw; (try dsimp only at hSw); go_simp; (try with_reducible rfl)
          simp only [Act.put, List.setIfInBounds_toArray, List.set_cons_zero, List.set_cons_succ]
          refine wpAnyH_take (i := 4) (v := ?_) (op_at (pre := [_, _, _, _])) (by kernel_rfl) (by kernel_rfl) (by kernel_rfl) (fun _ _ _ h => h) (Or.inl ⟨by rfl, ?_⟩) (by assumption) ?_
          rotate_left
          · intro w' hSw; (try dsimp only at hSw); go_simp; (try with_reducible rfl)
          simp only [Act.put, List.setIfInBounds_toArray, List.set_cons_zero, List.set_cons_succ]
          refine wpAnyH_take (i := 5) (v := ?_) (op_at (pre := [_, _, _, _, _])) (by kernel_rfl) (by kernel_rfl) (by kernel_rfl) (fun _ _ _ h => h) (Or.inl ⟨by rfl, ?_⟩) (by assumption) ?_
          rotate_left
          · intro w' hSw; (try dsimp only at hSw); go_simp; (try with_reducible rfl)
          simp only [Act.put, List.setIfInBounds_toArray, List.set_cons_zero, List.set_cons_succ]
          refine wpAnyH_take (i := 6) (v := ?_) (op_at (pre := [_, _, _, _, _, _])) (by kernel_rfl) (by kernel_rfl) (by kernel_rfl) (fun _ _ _ h => h) (Or.inl ⟨by rfl, ?_⟩) (by assumption) ?_
          rotate_left
          · intro w' hSw; (try dsimp only at hSw); go_simp; (try with_reducible rfl)
          simp only [Act.put, List.setIfInBounds_toArray, List.set_cons_zero, List.set_cons_succ]
          refine wpAnyH_take (i := 7) (v := ?_) (op_at (pre := [_, _, _, _, _, _, _])) (by kernel_rfl) (by kernel_rfl) (by kernel_rfl) (fun _ _ _ h => h) (Or.inl ⟨by rfl, ?_⟩) (by assumption) ?_
          rotate_left
          · intro w' hSw; (try dsimp only at hSw); go_simp; (try with_reducible rfl)
          simp only [Act.put, List.setIfInBounds_toArray, List.set_cons_zero, List.set_cons_succ]
          refine wpAnyH_take (i := 8) (v := ?_) (op_at (pre := [_, _, _, _, _, _, _, _])) (by kernel_rfl) (by kernel_rfl) (by kernel_rfl) (fun _ _ _ h => h) (Or.inl ⟨by rfl, ?_⟩) (by assumption) ?_
          rotate_left
          · intro w' hSw; (try dsimp only at hSw); go_simp; (try with_reducible rfl)
          simp only [Act.put, List.setIfInBounds_toArray, List.set_cons_zero, List.set_cons_succ]
          refine wpAnyH_take (i := 9) (v := ?_) (op_at (pre := [_, _, _, _, _, _, _, _, _])) (by kernel_rfl) (by kernel_rfl) (by kernel_rfl) (fun _ _ _ h => h) (Or.inl ⟨by rfl, ?_⟩) (by assumption) ?_
          rotate_left
          · intro w' hSw; (try dsimp only at hSw); go_simp; (try with_reducible rfl)
          simp only [Act.put, List.setIfInBounds_toArray, List.set_cons_zero, List.set_cons_succ]
          refine wpAnyH_take (i := 10) (v := ?_) (op_at (pre := [_, _, _, _, _, _, _, _, _, _])) (by kernel_rfl) (by kernel_rfl) (by kernel_rfl) (fun _ _ _ h => h) (Or.inl ⟨by rfl, ?_⟩) (by assumption) ?_
          rotate_left
          · intro w' hSw; (try dsimp only at hSw); go_simp; (try with_reducible rfl)
          simp only [Act.put, List.setIfInBounds_toArray, List.set_cons_zero, List.set_cons_succ]
          refine wpAnyH_take (i := 11) (v := ?_) (op_at (pre := [_, _, _, _, _, _, _, _, _, _, _])) (by kernel_rfl) (by kernel_rfl) (by kernel_rfl) (fun _ _ _ h => h) (Or.inl ⟨by rfl, ?_⟩) (by assumption) ?_
          rotate_left
          · intro w' hSw; (try dsimp only at hSw); go_simp; (try with_reducible rfl)
          simp only [Act.put, List.setIfInBounds_toArray, List.set_cons_zero, List.set_cons_succ]
          refine wpAnyH_take (i := 12) (v := ?_) (op_at (pre := [_, _, _, _, _, _, _, _, _, _, _, _])) (by kernel_rfl) (by kernel_rfl) (by kernel_rfl) (fun _ _ _ h => h) (Or.inl ⟨by rfl, ?_⟩) (by assumption) ?_
          rotate_left
          · intro w' hSw; (try dsimp only at hSw); go_simp; (try with_reducible rfl)
          simp only [Act.put, List.setIfInBounds_toArray, List.set_cons_zero, List.set_cons_succ]
          refine wpAnyH_take (i := 13) (v := ?_) (op_at (pre := [_, _, _, _, _, _, _, _, _, _, _, _, _])) (by kernel_rfl) (by kernel_rfl) (by kernel_rfl) (fun _ _ _ h => h) (Or.inl ⟨by rfl, ?_⟩) (by assumption) ?_
          rotate_left
          · intro w' hSw; (try dsimp only at hSw); go_simp; (try with_reducible rfl)
          simp only [Act.put, List.setIfInBounds_toArray, List.set_cons_zero, List.set_cons_succ]
          refine wpAnyH_take (i := 14) (v := ?_) (op_at (pre := [_, _, _, _, _, _, _, _, _, _, _, _, _, _])) (by kernel_rfl) (by kernel_rfl) (by kernel_rfl) (fun _ _ _ h => h) (Or.inl ⟨by rfl, ?_⟩) (by assumption) ?_
          rotate_left
          · intro w' hSw; (try dsimp only at hSw); go_simp; (try with_reducible rfl)
          simp only [Act.put, List.setIfInBounds_toArray, List.set_cons_zero, List.set_cons_succ]
          refine wpAnyH_take (i := 15) (v := ?_) (op_at (pre := [_, _, _, _, _, _, _, _, _, _, _, _, _, _, _])) (by kernel_rfl) (by kernel_rfl) (by kernel_rfl) (fun _ _ _ h => h) (Or.inl ⟨by rfl, ?_⟩) (by assumption) ?_
          rotate_left
          · intro w' hSw; (try dsimp only at hSw); go_simp; (try with_reducible rfl)
          simp only [Act.put, List.setIfInBounds_toArray, List.set_cons_zero, List.set_cons_succ]
          refine wpAnyH_take (i := 16) (v := ?_) (op_at (pre := [_, _, _, _, _, _, _, _, _, _, _, _, _, _, _, _])) (by kernel_rfl) (by kernel_rfl) (by kernel_rfl) (fun _ _ _ h => h) (Or.inl ⟨by rfl, ?_⟩) (by assumption) ?_
          rotate_left
          · intro w' hSw; (try dsimp only at hSw); go_simp; (try with_reducible rfl)
          simp only [Act.put, List.setIfInBounds_toArray, List.set_cons_zero, List.set_cons_succ]
          refine wpAnyH_done (by kernel_rfl) ?_ _
          go_wp2_with fail
          go_ret2
          exact ⟨by rw [HS2.out]; rfl, hHeld⟩
end Go.Proofs.Ytgdchcaglkeghaa
