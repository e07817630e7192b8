/- The walks of strip.Behind and of its reference. -/
import Derived.Test.YtgdchcaglkeghaaStrMath
import Derived.Test.YtgdchcaglkeghaaApeRefD
namespace Go.Proofs.Ytgdchcaglkeghaa
open Go.RowKit
attribute [local go_sem ↓] Go.wp_at_zero Go.wp_at_succ

set_option maxHeartbeats 1000000 in
theorem last_any (g : Nat) (a : Option Addr) (len cap : Nat) (l : List UInt8) (w : World) (hc : w.cell? ⟨g, 0, none⟩ = some (.slice a len cap)) (ha : BArg w a len cap l) :
    Calls Try.prog 44 #[.pointer (some ⟨g, 0, none⟩)] w fun e w' => e = .returned (.int .i64 (backP l).1) ∧ Below w.heap.size w w' := by
  have C := Lib.hid (back_any a len cap l w ha)
  clear ha
  generalize backP l = p at *
  go_enter Try.func44, Try.ntmps44
  go_wp2_with fail
  refine C.out.mono ?_
  rintro e w2 ⟨rfl, hb⟩
  have HB := Lib.hid hb
  clear hb
  go_wp2_with fail
  go_ret
  exact ⟨rfl, HB.out⟩

theorem box1 (w : World) (x : Value) (t : TypeId) : ∃ w1, w1 = w.alloc (.cells #[x] t) ∧ w1.cell? ⟨w.heap.size, 0, none⟩ = some x ∧ w1.frozen? ⟨w.heap.size, 0, none⟩ = false ∧ Below w.heap.size w w1 ∧ w.heap.size < w1.heap.size := by
  refine ⟨_, rfl, ?_, ?_, (Below.refl _ _).alloc (Nat.le_refl _) _, by simp⟩
  · rw [World.cell?_alloc_at _ _ _ _ rfl]; rfl
  · unfold World.frozen?; rw [heap_alloc_new]; rfl

set_option maxRecDepth 100000 in
set_option maxHeartbeats 2000000 in
theorem behind_any (a : Option Addr) (len cap : Nat) (l : List UInt8) (w : World) (ha : BArg w a len cap l) :
    Calls Try.prog 17 #[.slice a len cap] w fun e w' => e = .returned (.tuple #[.int .i64 (bhP l).1, .int .i64 (bhP l).2]) ∧ Below w.heap.size w w' := by
  have hll := ha.len_eq
  have hlc := ha.le
  have hcs := ha.small
  obtain ⟨w1, hw1, d1, f1, hB, hz⟩ := box1 w (.slice a len cap) 22
  have HW := Lib.hid hw1
  have HB := Lib.hid hB
  have HA0 := Lib.hid ha
  have HA := Lib.hid (ha.below hB)
  have HL := Lib.hid hll
  clear hw1 hB ha hll
  by_cases hlong : 4000 < len
  · have HS := Lib.hid (bhP_long l (by rw [HL.out]; exact hlong))
    go_enter Try.func17, Try.ntmps17
    go_wp2_with fail
    rw [← HW.out]
    go_wp2_with fail
    go_ret2
    exact ⟨by rw [HS.out]; rfl, HB.out⟩
  · go_enter Try.func17, Try.ntmps17
    go_wp2_with fail
    rw [← HW.out]
    go_wp2_with fail
    go_loopw [5] (fun c wr => ∃ (k m : Nat), k * 32 + m ≤ len ∧ c = .int .i64 k ∧ Hid (wr.cell? ⟨w.heap.size, 0, none⟩ = some (.slice a m cap)) ∧ Hid (wr.frozen? ⟨w.heap.size, 0, none⟩ = false) ∧ Hid (Below w.heap.size w wr) ∧ w.heap.size < wr.heap.size ∧ Hid (BArg wr a m cap (l.take m)) ∧ Hid (bh l = (bh (l.take m)).map (· + k))) (fun c _ => 4000 - (intOf c).toNat)
    case atStart =>
      refine ⟨0, len, by omega, rfl, Lib.hid d1, Lib.hid f1, HB, hz, ?_, ?_⟩
      · exact Lib.hid (by rw [List.take_of_length_le (by rw [HL.out]; omega)]; exact HA.out)
      · exact Lib.hid (by rw [List.take_of_length_le (by rw [HL.out]; omega)]; cases bh l <;> rfl)
    case round =>
      obtain ⟨k, m, hkm, rfl, HC, HF, HBw, hzw, HAm, HE⟩ := hrel
      clear d1 f1 hz
      have hlm := HAm.out.len_eq
      have hmc := HAm.out.le
      have d := HC.out
      have f := HF.out
      by_cases hm : 0 < m
      · rcases back_cases (l.take m) with ⟨n, e, h32, hn⟩ | ⟨e, he, h1, h2⟩
        · have HCL := Lib.hid (last_any w.heap.size a m cap (l.take m) wr d HAm.out)
          rw [e] at HCL
          have HS := Lib.hid (bh_step (l.take m) n (by rw [e]) h32 hn)
          rw [hlm] at hn HS
          have hmn : ((m : Int) - (n : Int)) = ((m - n : Nat) : Int) := by omega
          have b0 : ((n : Int) == 0) = false := beq_eq_false_iff_ne.2 (by omega)
          clear e hlm
          go_wp2_with fail
          refine HCL.out.mono ?_
          rintro e w2 ⟨rfl, hb⟩
          have d2 := (hb.cell (p := ⟨w.heap.size, 0, none⟩) hzw).trans d
          have f2 := (hb.frozen (p := ⟨w.heap.size, 0, none⟩) hzw).trans f
          have HB2 := Lib.hid (HBw.out.trans (hb.mono HBw.out.size))
          have HA2 := Lib.hid (HAm.out.below hb)
          have hz2 : w.heap.size < w2.heap.size := Nat.lt_of_lt_of_le hzw hb.size
          clear hb d f
          have j1 : m - n ≤ cap := by omega
          go_wp2_with fail
          have HB3 := Lib.hid (HB2.out.setCell (p := ⟨w.heap.size, 0, none⟩) (Nat.le_refl _) (.slice a (m - n) cap))
          have e3 : (l.take m).take (m - n) = l.take (m - n) := by rw [List.take_take, Nat.min_eq_left (by omega)]
          go_roundw
          case rel =>
            refine ⟨k + 1, m - n, by omega, by go_num, Lib.hid (World.cell?_setCell_same' _ _ _ (by rw [d2]; rfl)), Lib.hid (by rw [World.frozen?_setCell]; exact f2), HB3, by simpa using hz2, Lib.hid ((HA0.out.below HB3.out).upto (by omega)), Lib.hid ?_⟩
            rw [HE.out, HS.out, e3, Option.map_map]
            congr 1
            funext x
            simp
            omega
          case measure => simp [intOf]; omega
        · have HCL := Lib.hid (last_any w.heap.size a m cap (l.take m) wr d HAm.out)
          rw [he] at HCL
          have HS := Lib.hid (bhP_none l (by rw [HE.out, bh_none _ (by omega) (by rw [he])]; rfl))
          clear he hlm
          go_wp2_with fail
          refine HCL.out.mono ?_
          rintro e w2 ⟨rfl, hb⟩
          have HB2 := Lib.hid (HBw.out.trans (hb.mono HBw.out.size))
          clear hb d f
          go_wp2_with fail
          go_ret2
          exact ⟨by rw [HS.out]; rfl, HB2.out⟩
      · obtain rfl : m = 0 := by omega
        have HS := Lib.hid (bhP_some l (by rw [HL.out]; exact hlong) k (by rw [HE.out, List.take_zero, bh_nil]; simp))
        go_wp2_with fail
        go_ret2
        exact ⟨by rw [HS.out]; rfl, HBw.out⟩
end Go.Proofs.Ytgdchcaglkeghaa
