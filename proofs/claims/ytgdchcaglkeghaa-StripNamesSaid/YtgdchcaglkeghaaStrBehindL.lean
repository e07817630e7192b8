/- StripBehinds: the walk. -/
import Derived.Test.YtgdchcaglkeghaaStrBehind
namespace Go.Proofs.Ytgdchcaglkeghaa
open Go.RowKit
attribute [local go_sem ↓] Go.wp_at_zero Go.wp_at_succ

/-- Are bytes more than the statements consider? -/
def longS (n : Nat) : Bool := (decide (1000 < n) && decide (n < 3900)) || decide (8100 < n)
set_option maxHeartbeats 400000 in
theorem longS_any (a : Option Addr) (len cap : Nat) (hc : len ≤ 9223372036854775807) (w : World) :
    Calls Try.prog 16 #[.slice a len cap] w fun e w' => e = .returned (.bool (longS len)) ∧ w = w' := by
  have key : (longS len = true ∧ 1000 < len ∧ len < 3900) ∨ (longS len = true ∧ 3900 ≤ len ∧ 8100 < len) ∨ (longS len = false ∧ len ≤ 1000) ∨ (longS len = false ∧ 3900 ≤ len ∧ len ≤ 8100) := by
    unfold longS
    simp only [Bool.or_eq_true, Bool.and_eq_true, decide_eq_true_eq, Bool.or_eq_false_iff, Bool.and_eq_false_iff, decide_eq_false_iff_not]
    omega
  rcases key with ⟨he, h1, h2⟩ | ⟨he, h1, h2⟩ | ⟨he, h1⟩ | ⟨he, h1, h2⟩
  · have HE := Lib.hid he
    have g0 : decide ((1000 : Int) < (len : Int)) = true := by simp; omega
    have g1 : decide ((len : Int) < 3900) = true := by simp; omega
    clear he h1 h2
    go_enter Try.func16, Try.ntmps16
    go_wp2_with fail
    go_ret
    exact ⟨by rw [HE.out]; rfl, rfl⟩
  · have HE := Lib.hid he
    have g0 : decide ((1000 : Int) < (len : Int)) = true := by simp; omega
    have g1 : decide ((len : Int) < 3900) = false := by simp; omega
    have g2 : decide ((8100 : Int) < (len : Int)) = true := by simp; omega
    clear he h1 h2
    go_enter Try.func16, Try.ntmps16
    go_wp2_with fail
    go_ret
    exact ⟨by rw [HE.out]; rfl, rfl⟩
  · have HE := Lib.hid he
    have g0 : decide ((1000 : Int) < (len : Int)) = false := by simp; omega
    have g1 : decide ((8100 : Int) < (len : Int)) = false := by simp; omega
    clear he h1
    go_enter Try.func16, Try.ntmps16
    go_wp2_with fail
    go_ret
    exact ⟨by rw [HE.out]; rfl, rfl⟩
  · have HE := Lib.hid he
    have g0 : decide ((1000 : Int) < (len : Int)) = true := by simp; omega
    have g1 : decide ((len : Int) < 3900) = false := by simp; omega
    have g2 : decide ((8100 : Int) < (len : Int)) = false := by simp; omega
    clear he h1 h2
    go_enter Try.func16, Try.ntmps16
    go_wp2_with fail
    go_ret
    exact ⟨by rw [HE.out]; rfl, rfl⟩

set_option maxRecDepth 100000 in
set_option maxHeartbeats 2000000 in
theorem rbehind_any (a : Option Addr) (len cap : Nat) (l : List UInt8) (w : World) (ha : BArg w a len cap l) :
    Calls Try.prog 29 #[.slice a len cap] w fun e w' => e = .returned (.tuple #[.int .i64 (bhP l).1, .int .i64 (bhP l).2]) ∧ Below w.heap.size w w' := by
  have hll := ha.len_eq
  have hlc := ha.le
  have hcs := ha.small
  have HA0 := Lib.hid ha
  have HL := Lib.hid hll
  clear ha hll
  by_cases hlong : 4000 < len
  · have HS := Lib.hid (bhP_long l (by rw [HL.out]; exact hlong))
    go_enter Try.func29, Try.ntmps29
    go_wp2_with fail
    go_ret2
    exact ⟨by rw [HS.out]; rfl, Below.refl _ _⟩
  · go_enter Try.func29, Try.ntmps29
    go_wp2_with fail
    go_loopw [0, 4] (fun s c wr => ∃ (k m : Nat), k * 32 + m ≤ len ∧ s = .slice a m cap ∧ c = .int .i64 k ∧ Hid (Below w.heap.size w wr) ∧ Hid (bh l = (bh (l.take m)).map (· + k))) (fun _ c _ => 4000 - (intOf c).toNat)
    case atStart =>
      refine ⟨0, len, by omega, rfl, rfl, Lib.hid (Below.refl _ _), ?_⟩
      exact Lib.hid (by rw [List.take_of_length_le (by rw [HL.out]; omega)]; cases bh l <;> rfl)
    case round =>
      obtain ⟨k, m, hkm, rfl, rfl, HBw, HE⟩ := hrel
      have HAm := Lib.hid ((HA0.out.below HBw.out).upto (k := m) (by omega))
      have hlm := HAm.out.len_eq
      have hmc := HAm.out.le
      by_cases hm : 0 < m
      · rcases back_cases (l.take m) with ⟨n, e, h32, hn⟩ | ⟨e, he, h1, h2⟩
        · have HCL := Lib.hid (rback_any a m cap (l.take m) wr HAm.out)
          rw [e] at HCL
          have HS := Lib.hid (bh_step (l.take m) n (by rw [e]) h32 hn)
          rw [hlm] at hn HS
          have hmn : ((m : Int) - (n : Int)) = ((m - n : Nat) : Int) := by omega
          clear e hlm
          go_wp2_with fail
          refine HCL.out.mono ?_
          rintro e w2 ⟨rfl, hb⟩
          have HB2 := Lib.hid (HBw.out.trans (hb.mono HBw.out.size))
          clear hb
          have j1 : m - n ≤ cap := by omega
          go_wp2_with fail
          have e3 : (l.take m).take (m - n) = l.take (m - n) := by rw [List.take_take, Nat.min_eq_left (by omega)]
          go_roundw
          case rel =>
            refine ⟨k + 1, m - n, by omega, rfl, by go_num, HB2, Lib.hid ?_⟩
            rw [HE.out, HS.out, e3, Option.map_map]
            congr 1
            funext x
            simp
            omega
          case measure => simp [intOf]; omega
        · have HCL := Lib.hid (rback_any a m cap (l.take m) wr HAm.out)
          rw [he] at HCL
          have HS := Lib.hid (bhP_none l (by rw [HE.out, bh_none _ (by omega) (by rw [he])]; rfl))
          have b0 : (e != 0) = true := by simp; omega
          clear he hlm
          go_wp2_with fail
          refine HCL.out.mono ?_
          rintro e w2 ⟨rfl, hb⟩
          have HB2 := Lib.hid (HBw.out.trans (hb.mono HBw.out.size))
          clear hb
          go_wp2_with fail
          go_ret2
          exact ⟨by rw [HS.out]; rfl, HB2.out⟩
      · obtain rfl : m = 0 := by omega
        have HS := Lib.hid (bhP_some l (by rw [HL.out]; exact hlong) k (by rw [HE.out, List.take_zero, bh_nil]; simp))
        go_wp2_with fail
        go_ret2
        exact ⟨by rw [HS.out]; rfl, HBw.out⟩

set_option maxRecDepth 100000 in
set_option maxHeartbeats 2000000 in
theorem stripbehinds_calls (a : Option Addr) (len cap : Nat) (l : List UInt8) (w : World) (ha : BArg w a len cap l) :
    Calls Try.prog 6 #[.slice a len cap] w fun e w' => e = .returned (.bool true) ∧ Below w.heap.size w w' := by
  have HA := Lib.hid ha
  have hs9 : len ≤ 9223372036854775807 := Nat.le_trans ha.le ha.small
  have CL := Lib.hid (longS_any a len cap hs9)
  cases hl : longS len with
  | true =>
    rw [hl] at CL
    clear hl ha
    go_enter Try.func6, Try.ntmps6
    go_wp2_with fail
    refine (CL.out _).mono ?_
    rintro e w2 ⟨rfl, rfl⟩
    go_wp2_with fail
    go_ret
    exact ⟨rfl, Below.refl _ _⟩
  | false =>
    rw [hl] at CL
    have C3 := Lib.hid (behind_any a len cap l)
    have C4 := Lib.hid (rbehind_any a len cap l)
    generalize (bhP l).1 = B1 at *
    generalize (bhP l).2 = B2 at *
    clear hl ha
    go_enter Try.func6, Try.ntmps6
    go_wp2_with fail
    refine (CL.out _).mono ?_
    rintro e w2 ⟨rfl, rfl⟩
    go_wp2_with fail
    refine (C3.out _ HA.out).mono ?_
    rintro e w1 ⟨rfl, hb⟩
    have HB1 := Lib.hid hb
    have HA1 := Lib.hid (HA.out.below hb)
    clear hb
    go_wp2_with fail
    refine (C4.out _ HA1.out).mono ?_
    rintro e w2 ⟨rfl, hb⟩
    have HB2 := Lib.hid (HB1.out.trans (hb.mono HB1.out.size))
    clear hb
    have g3 : (B1 == B1) = true := by simp
    have g4 : (B2 == B2) = true := by simp
    go_wp2_with fail
    go_ret
    exact ⟨rfl, HB2.out⟩
end Go.Proofs.Ytgdchcaglkeghaa
