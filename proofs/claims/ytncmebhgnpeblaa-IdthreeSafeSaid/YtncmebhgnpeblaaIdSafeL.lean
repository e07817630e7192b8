/- IdthreeSafe: the walk of the law. -/
import Derived.Test.YtncmebhgnpeblaaIdLawA
import Derived.Test.YtncmebhgnpeblaaIdLaws
import Derived.Deep.QuietTactic
import Derived.BigQuiet
namespace Go.Proofs.Ytncmebhgnpeblaa
open Go.RowKit
attribute [local go_sem ↓] Go.wp_at_zero Go.wp_at_succ

/-- Four bytes of seven bits are those of their number. -/
theorem sf_vl (l : List UInt8) (h4 : l.length = 4) (h : ∀ c ∈ l, c.toNat ≤ 127) : sf (vl l) = l := by
  match l, h4 with
  | [a, b, c, d], _ =>
    have ha := h a (by simp)
    have hb := h b (by simp)
    have hc := h c (by simp)
    have hd := h d (by simp)
    have e : vl [a, b, c, d] = ((a.toNat * 128 + b.toNat) * 128 + c.toNat) * 128 + d.toNat := by simp [vl]
    rw [e]
    have k : ∀ (x : UInt8) (n : Nat), n = x.toNat → UInt8.ofNat n = x := fun x n hn => by rw [hn]; exact UInt8.ofNat_toNat
    unfold sf sfb
    simp only [Nat.reduceMul, Nat.reducePow, Nat.mul_zero, Nat.pow_zero, Nat.div_one]
    rw [k a _ (by omega), k b _ (by omega), k c _ (by omega), k d _ (by omega)]

theorem sf_less (k j : Nat) (hk : k < 268435456) (hj : j < 268435456) : Op.bytesLess (sf k) (sf j) = decide (k < j) := by
  have a0 := sfb_nat k 0
  have a1 := sfb_nat k 1
  have a2 := sfb_nat k 2
  have a3 := sfb_nat k 3
  have b0 := sfb_nat j 0
  have b1 := sfb_nat j 1
  have b2 := sfb_nat j 2
  have b3 := sfb_nat j 3
  simp only [Nat.reduceMul, Nat.reducePow, Nat.pow_zero, Nat.mul_zero, Nat.div_one] at a0 a1 a2 a3 b0 b1 b2 b3
  unfold sf
  generalize sfb k 0 = x0 at *
  generalize sfb k 1 = x1 at *
  generalize sfb k 2 = x2 at *
  generalize sfb k 3 = x3 at *
  generalize sfb j 0 = y0 at *
  generalize sfb j 1 = y1 at *
  generalize sfb j 2 = y2 at *
  generalize sfb j 3 = y3 at *
  have ek : k = x3.toNat * 2097152 + x2.toNat * 16384 + x1.toNat * 128 + x0.toNat := by omega
  have ej : j = y3.toNat * 2097152 + y2.toNat * 16384 + y1.toNat * 128 + y0.toNat := by omega
  have c0 : x0.toNat < 128 ∧ x1.toNat < 128 ∧ x2.toNat < 128 ∧ x3.toNat < 128 := by omega
  have d0 : y0.toNat < 128 ∧ y1.toNat < 128 ∧ y2.toNat < 128 ∧ y3.toNat < 128 := by omega
  clear a0 a1 a2 a3 b0 b1 b2 b3 hk hj
  subst ek
  subst ej
  rw [Bool.eq_iff_iff, decide_eq_true_eq]
  simp only [Op.bytesLess, UInt8.lt_iff_toNat_lt, ← UInt8.toNat_inj, Bool.or_eq_true, Bool.and_eq_true, decide_eq_true_eq, beq_iff_eq]
  repeat' split
  all_goals first | omega | (simp; omega)

set_option maxRecDepth 100000 in
set_option maxHeartbeats 4000000 in
theorem idsafe_calls (w : World) (n : Int) (hn : (Lit.int .i64 n).wf = true) (m : Int) (hm : (Lit.int .i64 m).wf = true) (L : List Int) (hL : L.length = 4) (hLw : ∀ x ∈ L, (Lit.int .u8 x).wf = true) :
    Calls Try.prog 7 #[.int .i64 n, .int .i64 m, .agg (ints .u8 L)] w fun e w' => e = .returned (.bool true) ∧ Below w.heap.size w w' := by
  obtain ⟨b0, b1, b2, b3, rfl⟩ : ∃ b0 b1 b2 b3 : UInt8, L = [(b0.toNat : Int), (b1.toNat : Int), (b2.toNat : Int), (b3.toNat : Int)] := by
    match L, hL with
    | [x0, x1, x2, x3], _ =>
      have k : ∀ x : Int, (Lit.int .u8 x).wf = true → ∃ b : UInt8, x = (b.toNat : Int) := fun x hx => by
        obtain ⟨q, rfl, hq⟩ := u8w hx
        exact ⟨UInt8.ofNat q, by rw [UInt8.toNat_ofNat']; omega⟩
      obtain ⟨b0, rfl⟩ := k x0 (hLw _ (by simp))
      obtain ⟨b1, rfl⟩ := k x1 (hLw _ (by simp))
      obtain ⟨b2, rfl⟩ := k x2 (hLw _ (by simp))
      obtain ⟨b3, rfl⟩ := k x3 (hLw _ (by simp))
      exact ⟨_, _, _, _, rfl⟩
  clear hL hLw
  obtain ⟨n1, n2⟩ := i64w hn
  obtain ⟨m1, m2⟩ := i64w hm
  rw [show ints .u8 [(b0.toNat : Int), (b1.toNat : Int), (b2.toNat : Int), (b3.toNat : Int)] = #[.int .u8 (b0.toNat : Int), .int .u8 (b1.toNat : Int), .int .u8 (b2.toNat : Int), .int .u8 (b3.toNat : Int)] from rfl]
  clear hn hm
  obtain ⟨LB, hLB⟩ : ∃ LB : List UInt8, LB = [b0, b1, b2, b3] := ⟨_, rfl⟩
  have hl4 : LB.length = 4 := by rw [hLB]; rfl
  obtain ⟨w1, hw1⟩ : ∃ w1, w1 = w.alloc (.cells #[.int .u8 (b0.toNat : Int), .int .u8 (b1.toNat : Int), .int .u8 (b2.toNat : Int), .int .u8 (b3.toNat : Int)] 40) := ⟨_, rfl⟩
  have HW := Lib.hid hw1
  have HB1 : Hid (Below w.heap.size w w1) := Lib.hid (by rw [hw1]; exact (Below.refl _ _).alloc (Nat.le_refl _) _)
  have HA1 : Hid (BArg w1 (some ⟨w.heap.size, 0, none⟩) 4 4 LB) := Lib.hid (by rw [hw1, hLB]; exact BArg.lit w _ 4 rfl (by omega) _ _ _ rfl)
  have hval : (∃ v : Nat, idvP LB = ((v : Int), 0) ∧ v < 268435456 ∧ sf v = LB) ∨ idvP LB = (0, 12) := by
    unfold idvP
    rw [if_pos hl4]
    by_cases h : ∀ c ∈ LB, c.toNat ≤ 127
    · rw [if_pos h]
      refine .inl ⟨vl LB, rfl, ?_, sf_vl LB hl4 h⟩
      have := vl_lt LB h
      rwa [hl4] at this
    · rw [if_neg h]
      exact .inr rfl
  have sy : ∀ z : Int, (syE z = 16 ∧ syL z = []) ∨ (syE z = 0 ∧ ∃ k : Nat, z = (k : Int) ∧ k < 268435456 ∧ syL z = sf k) := fun z => by
    unfold syE syL
    by_cases h : z < 0 ∨ 268435456 ≤ z
    · rw [if_pos h, if_pos h]; exact .inl ⟨rfl, rfl⟩
    · rw [if_neg h, if_neg h]
      refine .inr ⟨rfl, z.toNat, by omega, by omega, rfl⟩
  have SY := Lib.hid sy
  clear hw1 hLB hl4 sy
  rcases hval with ⟨v, hv, hv28, hsf⟩ | hv
  · have HV := Lib.hid hv
    have hyv : syE (v : Int) = 0 ∧ syL (v : Int) = LB := by
      unfold syE syL
      rw [if_neg (by omega), if_neg (by omega)]
      exact ⟨rfl, hsf⟩
    have HYV := Lib.hid hyv
    clear hv hyv hsf
    go_enter Try.func7, Try.ntmps7
    go_wp2_with fail
    rw [← HW.out]
    refine (alive28_any _).mono ?_
    rintro e w2 ⟨rfl, hb⟩
    have HA2 := Lib.hid (HA1.out.below hb)
    have HB2 := Lib.hid (HB1.out.trans (hb.mono HB1.out.size))
    clear hb
    go_wp2_with fail
    refine (idval_any _ 4 4 LB _ HA2.out).mono ?_
    rintro e w3 ⟨rfl, rfl⟩
    rw [HV.out]
    go_wp2_with fail
    refine (sync_any (v : Int) _).mono ?_
    rintro e w3 ⟨A3, n3, k3, rfl, ho, hb⟩
    rw [HYV.out.2] at ho
    rw [HYV.out.1]
    have HA3 := Lib.hid (HA2.out.below hb)
    have HO3 := Lib.hid ho.arg
    have HB3 := Lib.hid (HB2.out.trans (hb.mono HB2.out.size))
    clear hb ho
    have tx := fun q => (HO3.out.drewN q).text
    have tb := fun q => (HA3.out.drewN q).text
    have g1 : (LB != LB) = false := by simp
    have g2 : (!(LB == LB)) = false := by simp
    go_wp2_with fail
    go_quiet (fail)
    obtain ⟨w4, hw4⟩ : ∃ w4, w4 = w3.drewN nq := ⟨_, rfl⟩
    have HB4 : Hid (Below w.heap.size w w4) := Lib.hid (by rw [hw4]; exact below_drewN' HB3.out _)
    rw [← hw4]
    clear hw4 tx tb g1 g2
    go_wp2_with fail
    refine (sync_any n _).mono ?_
    rintro e w5 ⟨A5, n5, k5, rfl, ho5, hb5⟩
    have HO5 := Lib.hid ho5
    have HB5 := Lib.hid (HB4.out.trans (hb5.mono HB4.out.size))
    clear ho5 hb5
    go_wp2_with fail
    refine (sync_any m _).mono ?_
    rintro e w6 ⟨A6, n6, k6, rfl, ho6, hb6⟩
    have HO56 := Lib.hid (HO5.out.below hb6)
    have HO6 := Lib.hid ho6
    have HB6 := Lib.hid (HB5.out.trans (hb6.mono HB5.out.size))
    clear ho6 hb6 HO5
    rcases SY.out n with ⟨e1, s1⟩ | ⟨e1, k, rfl, hk, s1⟩
    · rcases SY.out m with ⟨e2, s2⟩ | ⟨e2, j, rfl, hj, s2⟩
      all_goals
        rw [e1, e2]
        clear e1 e2 s1 s2
        go_wp2_with fail
        go_ret
        exact ⟨rfl, HB6.out⟩
    · rcases SY.out m with ⟨e2, s2⟩ | ⟨e2, j, rfl, hj, s2⟩
      · rw [e1, e2]
        clear e1 e2 s1 s2
        go_wp2_with fail
        go_ret
        exact ⟨rfl, HB6.out⟩
      · rw [e1, e2]
        rw [s1] at HO56
        rw [s2] at HO6
        have HX := Lib.hid HO56.out.arg
        have HI := Lib.hid (idv_sf k hk)
        clear e1 e2 s1 s2
        go_wp2_with fail
        refine (idval_any _ _ _ _ _ HX.out).mono ?_
        rintro e w7 ⟨rfl, rfl⟩
        rw [HI.out]
        have tx := HX.out.text
        have ty := HO6.out.arg.text
        have g3 : ((k : Int) == (k : Int)) = true := by simp
        have HLT := Lib.hid (sf_less k j hk hj)
        go_wp2_with fail
        go_ret
        exact ⟨by rw [HLT.out]; simp, HB6.out⟩
  · have HV := Lib.hid hv
    clear hv
    go_enter Try.func7, Try.ntmps7
    go_wp2_with fail
    rw [← HW.out]
    refine (alive28_any _).mono ?_
    rintro e w2 ⟨rfl, hb⟩
    have HA2 := Lib.hid (HA1.out.below hb)
    have HB4 := Lib.hid (HB1.out.trans (hb.mono HB1.out.size))
    clear hb
    go_wp2_with fail
    refine (idval_any _ 4 4 LB _ HA2.out).mono ?_
    rintro e w3 ⟨rfl, rfl⟩
    rw [HV.out]
    go_wp2_with fail
    refine (sync_any n _).mono ?_
    rintro e w5 ⟨A5, n5, k5, rfl, ho5, hb5⟩
    have HO5 := Lib.hid ho5
    have HB5 := Lib.hid (HB4.out.trans (hb5.mono HB4.out.size))
    clear ho5 hb5
    go_wp2_with fail
    refine (sync_any m _).mono ?_
    rintro e w6 ⟨A6, n6, k6, rfl, ho6, hb6⟩
    have HO56 := Lib.hid (HO5.out.below hb6)
    have HO6 := Lib.hid ho6
    have HB6 := Lib.hid (HB5.out.trans (hb6.mono HB5.out.size))
    clear ho6 hb6 HO5
    rcases SY.out n with ⟨e1, s1⟩ | ⟨e1, k, rfl, hk, s1⟩
    · rcases SY.out m with ⟨e2, s2⟩ | ⟨e2, j, rfl, hj, s2⟩
      all_goals
        rw [e1, e2]
        clear e1 e2 s1 s2
        go_wp2_with fail
        go_ret
        exact ⟨rfl, HB6.out⟩
    · rcases SY.out m with ⟨e2, s2⟩ | ⟨e2, j, rfl, hj, s2⟩
      · rw [e1, e2]
        clear e1 e2 s1 s2
        go_wp2_with fail
        go_ret
        exact ⟨rfl, HB6.out⟩
      · rw [e1, e2]
        rw [s1] at HO56
        rw [s2] at HO6
        have HX := Lib.hid HO56.out.arg
        have HI := Lib.hid (idv_sf k hk)
        clear e1 e2 s1 s2
        go_wp2_with fail
        refine (idval_any _ _ _ _ _ HX.out).mono ?_
        rintro e w7 ⟨rfl, rfl⟩
        rw [HI.out]
        have tx := HX.out.text
        have ty := HO6.out.arg.text
        have g3 : ((k : Int) == (k : Int)) = true := by simp
        have HLT := Lib.hid (sf_less k j hk hj)
        go_wp2_with fail
        go_ret
        exact ⟨by rw [HLT.out]; simp, HB6.out⟩
end Go.Proofs.Ytncmebhgnpeblaa
