/- The walks of strip.size, strip.tags and of what tags hands back. -/
import Derived.Test.YtgdchcaglkeghaaStrMath
import Derived.RangeFuncNested
import Derived.RangeFuncBound
import Derived.RangeFuncCalls
import Derived.RangeFuncLeaves
import Derived.RangeFuncBox
import Derived.Shelf.Abstract
import Derived.Shelf.RegionOpen
import Derived.WalkKit
import Derived.OwnWalkIn
import Derived.TacticsInMore
import Derived.LoopNIn
import Derived.LoopIn
namespace Go.Proofs.Ytgdchcaglkeghaa
open Go.RowKit

set_option maxHeartbeats 1000000 in
theorem size_any (a : Option Addr) (len cap : Nat) (l : List UInt8) (w : World) (ha : BArg w a len cap l) :
    Calls Try.prog 57 #[.slice a len cap] w fun e w' => e = .returned (.tuple #[.int .i64 (tagP l).1, .int .i64 (tagP l).2]) ∧ Below w.heap.size w w' := by
  have C1 := Lib.hid (idsize_any a len cap l w ha)
  have HA := Lib.hid ha
  by_cases h6 : (sizP l).2 = 6
  · have HT : Hid (tagP l = frontP l) := Lib.hid (by unfold tagP; rw [if_pos h6])
    rw [h6] at C1
    clear ha h6
    go_enter Try.func57, Try.ntmps57
    go_wp2_with fail
    refine C1.out.mono ?_
    rintro e w2 ⟨rfl, hb⟩
    have HB := Lib.hid hb
    have C2 := Lib.hid (front_any a len cap l w2 (HA.out.below hb))
    clear hb
    generalize frontP l = q at *
    go_wp2_with fail
    refine C2.out.mono ?_
    rintro e w3 ⟨rfl, hb⟩
    have HB2 := Lib.hid (HB.out.trans (hb.mono HB.out.size))
    clear hb
    go_wp2_with fail
    go_ret2
    exact ⟨by rw [HT.out]; rfl, HB2.out⟩
  · have HT : Hid (tagP l = sizP l) := Lib.hid (by unfold tagP; rw [if_neg h6])
    generalize sizP l = q at *
    have b6 : (q.2 != 6) = true := by simpa using h6
    clear ha h6
    go_enter Try.func57, Try.ntmps57
    go_wp2_with fail
    refine C1.out.mono ?_
    rintro e w2 ⟨rfl, hb⟩
    have HB := Lib.hid hb
    clear hb
    go_wp2_with fail
    go_ret2
    exact ⟨by rw [HT.out]; rfl, HB.out⟩
/-- An index into bytes as a slice expression: what is behind it. -/
theorem BArg.from_ {w : World} {a : Option Addr} {len cap : Nat} {l : List UInt8} (h : BArg w a len cap l) {p : Nat} (hp : p ≤ len) : BArg w (if cap = p then a else a.map (·.add p)) (len - p) (cap - p) (l.drop p) := by
  have := h.cut hp (Nat.le_refl len)
  rwa [List.take_of_length_le (by rw [h.len_eq]; omega)] at this

theorem tag_nil' : tagP [] = (0, 6) := by decide +kernel
theorem tag_nil : (tagP []).2 = 6 := by rw [tag_nil']
/-- What a round of a loop over tags keeps. -/
def KpT (n₀ Bn : Nat) (A B : World) : Prop := Below n₀ A B ∧ ∀ v, A.cell? ⟨Bn, 0, none⟩ = some v → B.cell? ⟨Bn, 0, none⟩ = some v

section
open Go.Shelf
attribute [local go_sem] Oper.semAt_some
set_option maxRecDepth 100000 in
set_option maxHeartbeats 2000000 in
theorem tags1_in (n : Nat) (hn : 1 ≤ n) (lb Bn : Nat) (w0 : World) (a : Option Addr) (len cap : Nat) (bs : List UInt8) (ha : BArg w0 a len cap bs) (J Jx : List (Int × Int) → World → Prop)
    (hY : ∀ pre x W, J pre W → pre.length < (sq bs 0).length → YieldAt Fence.wide (n - 1) Try.prog lb #[.int .i64 x.1, .int .i64 x.2] W fun e W' =>
      (e = .returned (.bool true) ∧ J (pre ++ [x]) W' ∧ KpT w0.heap.size Bn W W') ∨ (e = .returned (.bool false) ∧ Jx (pre ++ [x]) W'))
    (W : World) (hBW : Below w0.heap.size w0 W) (hBn : W.cell? ⟨Bn, 0, none⟩ = some (.slice a len cap)) (hBlt : Bn < W.heap.size) (hJ : AbidesFrom W.heap.size J) (h0 : J [] W) :
    CallsIn Fence.wide n Try.prog 56 #[.func (.yield lb) #[] #[], .pointer (some ⟨Bn, 0, none⟩)] W fun e W' => (∃ v, e = .returned v) ∧
      ((∃ ys, ys = sq bs 0 ∧ J ys W') ∨ (∃ pre, pre <+: sq bs 0 ∧ Jx pre W')) := by
  have hll := ha.len_eq
  have hlc := ha.le
  have hcs := ha.small
  have HA := Lib.hid ha
  have HL := Lib.hid hll
  clear ha hll
  refine callsIn_of_wp Try.func56 rfl trivial ?_ rfl
  simp only [Try.ntmps56, List.size_toArray, List.length_cons, List.length_nil, Nat.reduceAdd, Nat.reduceSub, Array.replicate_succ, Array.replicate_zero, List.push_toArray, List.append_toArray, List.nil_append, List.cons_append]
  gi_wp2
  gi_loopw [3] (fun i wr => ∃ (p : Nat) (pre : List (Int × Int)), p ≤ len ∧ p ≤ 4000 ∧ i = .int .i64 p ∧ Hid (sq bs 0 = pre ++ sq bs p) ∧ Hid (Below w0.heap.size w0 wr) ∧ wr.cell? ⟨Bn, 0, none⟩ = some (.slice a len cap) ∧ Bn < wr.heap.size ∧ Hid (J pre wr)) (fun i _ => 4001 - (intOf i).toNat)
  case atStart => exact ⟨0, [], by omega, by omega, rfl, Lib.hid rfl, Lib.hid hBW, hBn, hBlt, Lib.hid h0⟩
  case round =>
    obtain ⟨p, pre, hpl, hp4, rfl, HE, HB, hc, hlt, HJ⟩ := hrel
    have hAr := HA.out.below HB.out
    by_cases hcp : cap = p
    · have hcut := hAr.from_ hpl
      rw [if_pos hcp, show len - p = 0 by omega, show cap - p = 0 by omega] at hcut
      have HC := Lib.hid (size_any _ _ _ _ wr hcut)
      have hnil : bs.drop p = [] := List.drop_eq_nil_of_le (by rw [HL.out]; omega)
      have HQ := Lib.hid (sq_end bs p (by rw [HL.out]; exact hpl) (by rw [hnil]; exact tag_nil))
      rw [hnil, tag_nil'] at HC
      obtain rfl : p = len := by omega
      obtain rfl : cap = p := hcp
      clear hcut hAr hnil
      gi_wp2_with fail
      refine ⟨trivial, ?_⟩
      refine (callsIn_wide.2 HC.out).mono ?_
      rintro e w2 ⟨rfl, hb⟩
      have HJ2 := Lib.hid (hJ _ _ _ none HJ.out (grown_of_below hb none) (fun r hr => by cases hr))
      clear hb
      gi_wp2
      refine bodyPost_ret (results_none rfl _ _ _) rfl ?_
      exact ⟨⟨_, rfl⟩, .inl ⟨pre, by rw [HE.out, HQ.out, List.append_nil], HJ2.out⟩⟩
    · have hcut := hAr.from_ hpl
      rw [if_neg hcp] at hcut
      have HC := Lib.hid (size_any _ _ _ _ wr hcut)
      obtain ⟨ad, rfl⟩ : ∃ ad, a = some ad := by
        cases a with
        | none => have := hAr.nil rfl; omega
        | some ad => exact ⟨ad, rfl⟩
      clear hcut hAr
      rcases tag_cases (bs.drop p) with ⟨m, e, h10, hm, hm4⟩ | ⟨e, he, h1, h2⟩
      · rw [e] at HC
        have hd : (bs.drop p).length = len - p := by rw [List.length_drop, HL.out]
        rw [hd] at hm
        have hwr : IntKind.i64.wrap ((p : Int) + (m : Int)) = (p : Int) + (m : Int) := by rw [IntKind.wrap_i64]; omega
        by_cases hbig : 4000 < p + m
        · have HQ := Lib.hid (sq_many bs p (by rw [HL.out]; exact hpl) m e hbig)
          clear e
          gi_wp2_with fail
          refine ⟨trivial, ?_⟩
          refine (callsIn_wide.2 HC.out).mono ?_
          rintro e9 w2 ⟨rfl, hb⟩
          have HJ2 := Lib.hid (hJ _ _ _ none HJ.out (grown_of_below hb none) (fun r hr => by cases hr))
          obtain ⟨fn, tmps, assign, body, hy, hR⟩ := hY pre ((m : Int), 4) w2 HJ2.out (by rw [HE.out, HQ.out]; simp)
          dsimp only at hy
          clear hb
          gi_wp2
          refine hR.mono ?_
          rintro e9 W3 (⟨rfl, hJ3, hk3⟩ | ⟨rfl, hJx3⟩)
          · gi_wp2
            refine bodyPost_ret (results_none rfl _ _ _) rfl ?_
            exact ⟨⟨_, rfl⟩, .inl ⟨_, by rw [HE.out, HQ.out], hJ3⟩⟩
          · gi_wp2
            refine bodyPost_ret (results_none rfl _ _ _) rfl ?_
            exact ⟨⟨_, rfl⟩, .inr ⟨_, ⟨[], by rw [HE.out, HQ.out, List.append_nil]⟩, hJx3⟩⟩
        · have HQ := Lib.hid (sq_next bs p m e (by rw [HL.out]; omega) (by omega))
          clear e
          gi_wp2_with fail
          refine ⟨trivial, ?_⟩
          refine (callsIn_wide.2 HC.out).mono ?_
          rintro e9 w2 ⟨rfl, hb⟩
          have HJ2 := Lib.hid (hJ _ _ _ none HJ.out (grown_of_below hb none) (fun r hr => by cases hr))
          have hc2 := (hb.cell (p := ⟨Bn, 0, none⟩) hlt).trans hc
          have hlt2 : Bn < w2.heap.size := Nat.lt_of_lt_of_le hlt hb.size
          have HB2 := Lib.hid (HB.out.trans (hb.mono HB.out.size))
          obtain ⟨fn, tmps, assign, body, hy, hR⟩ := hY pre ((m : Int), 0) w2 HJ2.out (by rw [HE.out, HQ.out]; simp)
          dsimp only at hy
          clear hb
          gi_wp2
          refine hR.mono ?_
          rintro e9 W3 (⟨rfl, hJ3, hk3⟩ | ⟨rfl, hJx3⟩)
          · have hc3 := hk3.2 _ hc2
            have HB3 := Lib.hid (HB2.out.trans hk3.1)
            have hlt3 : Bn < W3.heap.size := Nat.lt_of_lt_of_le hlt2 hk3.1.size
            have HJ3 := Lib.hid hJ3
            clear hk3 hJ3
            gi_wp2
            go_roundw
            case rel => exact ⟨p + m, pre ++ [((m : Int), 0)], by omega, by omega, by go_num, Lib.hid (by rw [HE.out, HQ.out]; simp), HB3, hc3, hlt3, HJ3⟩
            case measure => simp [intOf]; omega
          · gi_wp2
            refine bodyPost_ret (results_none rfl _ _ _) rfl ?_
            exact ⟨⟨_, rfl⟩, .inr ⟨_, ⟨sq bs (p + m), by rw [HE.out, HQ.out]; simp⟩, hJx3⟩⟩
      · rw [he] at HC
        by_cases h6 : e = 6
        · subst h6
          have HQ := Lib.hid (sq_end bs p (by rw [HL.out]; exact hpl) (by rw [he]))
          gi_wp2_with fail
          refine ⟨trivial, ?_⟩
          refine (callsIn_wide.2 HC.out).mono ?_
          rintro e w2 ⟨rfl, hb⟩
          have HJ2 := Lib.hid (hJ _ _ _ none HJ.out (grown_of_below hb none) (fun r hr => by cases hr))
          clear hb
          gi_wp2
          refine bodyPost_ret (results_none rfl _ _ _) rfl ?_
          exact ⟨⟨_, rfl⟩, .inl ⟨pre, by rw [HE.out, HQ.out, List.append_nil], HJ2.out⟩⟩
        · have HQ := Lib.hid (sq_bad bs p (by rw [HL.out]; exact hpl) e he h6 (by omega))
          have b6 : (e == 6) = false := beq_eq_false_iff_ne.2 h6
          have b0 : (e == 0) = false := beq_eq_false_iff_ne.2 (by omega)
          have n0 : (e != 0) = true := by simp; omega
          gi_wp2_with fail
          refine ⟨trivial, ?_⟩
          refine (callsIn_wide.2 HC.out).mono ?_
          rintro e9 w2 ⟨rfl, hb⟩
          have HJ2 := Lib.hid (hJ _ _ _ none HJ.out (grown_of_below hb none) (fun r hr => by cases hr))
          obtain ⟨fn, tmps, assign, body, hy, hR⟩ := hY pre (0, e) w2 HJ2.out (by rw [HE.out, HQ.out]; simp)
          dsimp only at hy
          clear hb
          gi_wp2
          refine hR.mono ?_
          rintro e9 W3 (⟨rfl, hJ3, hk3⟩ | ⟨rfl, hJx3⟩)
          · gi_wp2
            refine bodyPost_ret (results_none rfl _ _ _) rfl ?_
            exact ⟨⟨_, rfl⟩, .inl ⟨_, by rw [HE.out, HQ.out], hJ3⟩⟩
          · gi_wp2
            refine bodyPost_ret (results_none rfl _ _ _) rfl ?_
            exact ⟨⟨_, rfl⟩, .inr ⟨_, ⟨[], by rw [HE.out, HQ.out, List.append_nil]⟩, hJx3⟩⟩

theorem tags_stops (n : Nat) (hn : 1 ≤ n) (Bn : Nat) (w0 w : World) (a : Option Addr) (len cap : Nat) (bs : List UInt8) (ha : BArg w0 a len cap bs) (hBw : Below w0.heap.size w0 w) (hlt : Bn < w.heap.size) (hc : w.cell? ⟨Bn, 0, none⟩ = some (.slice a len cap)) :
    SeqStopsK Fence.wide n Try.prog 56 #[.pointer (some ⟨Bn, 0, none⟩)] (fun x : Int × Int => #[Value.int .i64 x.1, Value.int .i64 x.2]) (KpT w0.heap.size Bn) (fun ys => ys = sq bs 0) (fun pre => pre <+: sq bs 0) (sq bs 0).length w := fun l J Jx W hW hJ _ hY h0 =>
  tags1_in n hn l Bn w0 a len cap bs ha J Jx hY W (hBw.trans (hW.mono hBw.size)) ((hW.cell (p := ⟨Bn, 0, none⟩) hlt).trans hc) (Nat.lt_of_lt_of_le hlt hW.size) hJ h0
end

set_option maxHeartbeats 1000000 in
theorem tags_any (a : Option Addr) (len cap : Nat) (w : World) :
    Calls Try.prog 45 #[.slice a len cap] w fun e w' => e = .returned (.func (.func 56) #[] #[.pointer (some ⟨w.heap.size, 0, none⟩)]) ∧ w' = w.alloc (.cells #[.slice a len cap] 22) := by
  go_enter Try.func45, Try.ntmps45
  go_wp2
  go_ret
  exact ⟨rfl, rfl⟩

theorem kpT_t {n₀ Bn : Nat} {A B C : World} (h : KpT n₀ Bn A B) (k : KpT n₀ Bn B C) : KpT n₀ Bn A C := ⟨h.1.trans k.1, fun v hv => k.2 v (h.2 v hv)⟩
theorem kpT_b {n₀ Bn B0 : Nat} (hB : n₀ ≤ B0) (hlt : Bn < B0) : ∀ (W : World) (l : Nat) (o o' : Obj), B0 ≤ l → W.heap[l]? = some o → o.isCells = false → o.isWalk = false → KpT n₀ Bn W (W.putObj l o') := fun W l o o' hl ho _ _ =>
  ⟨(Below.refl n₀ W).grown (grownBy_putObj' W l o') (by have := (Array.getElem?_eq_some_iff.1 ho).1; omega) (fun k e => by cases e; omega), fun v hv => by
    rw [← hv]
    unfold World.cell?
    rw [World.putObj_heap_other (by show Bn ≠ l; omega)]⟩
end Go.Proofs.Ytgdchcaglkeghaa
