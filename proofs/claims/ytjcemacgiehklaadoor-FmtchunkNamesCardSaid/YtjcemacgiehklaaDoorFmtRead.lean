/- The walk of fmtchunk.Read. -/
import Derived.Test.YtjcemacgiehklaaDoorFmtWrite
import Derived.Test.YtjcemacgiehklaaDoorOpAt
namespace Go.Proofs.YtjcemacgiehklaaDoor
open Go.RowKit
attribute [local go_sem ↓] Go.wp_at_zero Go.wp_at_succ

/-- The parts that bytes tell. -/
def rdN (l : List UInt8) (j : Nat) : Nat := if wsum (j + 1) ≤ l.length then Le.val ((l.take (wsum (j + 1))).drop (wsum j)) else 0
theorem rdN_lt (l : List UInt8) (j : Nat) (hj : j < 9) : rdN l j < 4294967296 := by
  unfold rdN
  split
  · rename_i h
    have h1 := Le.val_lt ((l.take (wsum (j + 1))).drop (wsum j))
    obtain ⟨_, _, hs, _⟩ := wd_bounds j hj
    have h4 : wdN j ≤ 4 := by
      have : j = 0 ∨ j = 1 ∨ j = 2 ∨ j = 3 ∨ j = 4 ∨ j = 5 ∨ j = 6 ∨ j = 7 ∨ j = 8 := by omega
      rcases this with h | h | h | h | h | h | h | h | h <;> subst h <;> decide
    have h2 : ((l.take (wsum (j + 1))).drop (wsum j)).length ≤ 4 := by simp; omega
    have h3 := Nat.pow_le_pow_right (n := 256) (by omega) h2
    omega
  · omega
/-- Does the loop's test say yes? -/
theorem rdN_yes (l : List UInt8) (j : Nat) (h : wsum (j + 1) ≤ l.length) : rdN l j = Le.val ((l.take (wsum (j + 1))).drop (wsum j)) := by unfold rdN; rw [if_pos h]
theorem rdN_no (l : List UInt8) (j : Nat) (h : ¬ wsum (j + 1) ≤ l.length) : rdN l j = 0 := by unfold rdN; rw [if_neg h]
/-- What Read answers: a sound and an error. -/
def readB (l : List UInt8) : Bool := sndB (rdN l 1) (rdN l 5) (rdN l 2) && l == formL (rdN l 1) (rdN l 5) (rdN l 2) ((rdN l 0 : Int) == 65534) (rdN l 8)
def readP (l : List UInt8) : Value :=
  if readB l = true then .tuple #[.agg #[.int .i64 (rdN l 1 : Int), .int .i64 (rdN l 5 : Int), .int .i64 (rdN l 2 : Int)], .int .i64 0] else .tuple #[.agg #[.int .i64 0, .int .i64 0, .int .i64 0], .int .i64 12]
theorem run_index_arr9 {P : Program} (t e : TypeId) (n : Nat) (k k' : IntKind) (ht : P.underlying t = some (.array n e)) (he : P.underlying e = some (.int k')) (hs : (P.info? e).map (·.size) = some 1)
    (l : List Int) (hl : l.length = n) (i : Nat) (hi : i < n) (w : World) : (Instr.index t (.agg (ints k l)) (.int .i64 (i : Int))).run P w = .ok (.int k (l.getD i 0)) w := by
  have hz : (Go.sizeOf e).run P w = .ok 1 w := by
    cases hq : P.info? e with
    | none => simp [hq] at hs
    | some i => simp [hq] at hs; simp [Go.sizeOf, typeInfo, hq, hs]
  have hp := run_part_int (P := P) w e k k' he l i (l.getD i 0) (by simp [List.getD, List.getElem?_eq_getElem (show i < l.length by omega)])
  simp only [List.getD] at hp
  simp [Instr.index, run_underlying ht, asIntOf, hi, hz, hp]
theorem wdI_wdN (j : Nat) (h : j < 9) : wdI.getD j 0 = (wdN j : Int) := by
  have : j = 0 ∨ j = 1 ∨ j = 2 ∨ j = 3 ∨ j = 4 ∨ j = 5 ∨ j = 6 ∨ j = 7 ∨ j = 8 := by omega
  rcases this with h | h | h | h | h | h | h | h | h <;> subst h <;> rfl
theorem idx_wd (j : Nat) (hj : j < 9) (w : World) : (Instr.index 52 (.agg (ints .i64 wdI)) (.int .i64 (j : Int))).run Tryd.prog w = .ok (.int .i64 (wdN j : Int)) w := by
  rw [run_index_arr9 (P := Tryd.prog) 52 3 9 .i64 .i64 Tryd.underlying52 Tryd.underlying3 (by kernel_rfl) wdI rfl j hj w, wdI_wdN j hj]
theorem info9 : (Tryd.prog.info? 52).map (·.size) = some (ints .i64 wdI).size := by kernel_rfl

set_option maxRecDepth 100000 in
set_option maxHeartbeats 4000000 in
theorem read_any (a : Option Addr) (len cap : Nat) (l : List UInt8) (w : World) (ha : BArg w a len cap l) (hv : FVars w) :
    Calls Tryd.prog 15 #[.slice a len cap] w fun e w' => e = .returned (readP l) ∧ Below w.heap.size w w' := by
  have hlc := ha.le
  have hcs := ha.small
  have HA := Lib.hid ha
  have HL := Lib.hid ha.len_eq
  have HV := Lib.hid hv
  obtain ⟨tr, fr, hrow⟩ := hv.row
  have hold := hv.old
  have HR : Hid (((w.alloc (.cells #[.int .i64 0, .int .i64 0, .int .i64 0] 23)).alloc (.cells #[.int .u64 0, .int .u64 0, .int .u64 0, .int .u64 0, .int .u64 0, .int .u64 0, .int .u64 0, .int .u64 0, .int .u64 0] 51)).heap[(0 : Nat)]? = some (.cells (ints .i64 wdI) tr fr)) := Lib.hid (by
    rw [heap_alloc_old _ _ (by simp), heap_alloc_old _ _ (Nat.lt_of_lt_of_le (by decide) hold)]
    exact hrow)
  clear ha hv hrow
  go_enter Tryd.func15, Tryd.ntmps15
  go_wp2_with (refine wpList_load_row rfl 52 _ rfl 0 rfl tr (ints .i64 wdI) fr _ HR.out Tryd.underlying52 rfl info9 ?_)
  go_loopw [4, 11] (fun p i wr => ∃ j : Nat, j ≤ 9 ∧ p = .int .i64 (wsum j : Int) ∧ i = .int .i64 (j : Int) ∧ Hid (∀ i, i < 9 → wr.cell? ⟨w.heap.size + 1, i, none⟩ = some (.int .u64 (((if i < j then rdN l i else 0) : Nat) : Int)) ∧ wr.frozen? ⟨w.heap.size + 1, i, none⟩ = false) ∧ Hid (∀ i, i < 3 → wr.cell? ⟨w.heap.size, i, none⟩ = some (.int .i64 0) ∧ wr.frozen? ⟨w.heap.size, i, none⟩ = false) ∧ Hid (Below w.heap.size w wr) ∧ Hid (w.heap.size + 2 = wr.heap.size)) (fun _ i _ => 9 - (intOf i).toNat)
  case atStart =>
    have hsz : (w.alloc (.cells #[.int .i64 0, .int .i64 0, .int .i64 0] 23)).heap.size = w.heap.size + 1 := by simp
    refine ⟨0, by omega, rfl, rfl, Lib.hid (fun i hi => ?_), Lib.hid (fun i hi => ?_), Lib.hid (((Below.refl _ _).alloc (Nat.le_refl _) _).alloc (by simp) _), Lib.hid (by simp)⟩
    · rw [if_neg (by omega), ← hsz, World.cell?_alloc_at _ _ _ _ rfl]
      have : i = 0 ∨ i = 1 ∨ i = 2 ∨ i = 3 ∨ i = 4 ∨ i = 5 ∨ i = 6 ∨ i = 7 ∨ i = 8 := by omega
      rcases this with h | h | h | h | h | h | h | h | h <;> subst h <;> exact ⟨rfl, by go_simp⟩
    · rw [World.cell?_alloc_lt _ _ _ (by simp), World.cell?_alloc_at _ _ _ _ rfl]
      have : i = 0 ∨ i = 1 ∨ i = 2 := by omega
      rcases this with h | h | h <;> subst h <;> exact ⟨rfl, by go_simp⟩
  case round =>
    obtain ⟨j, hj, rfl, rfl, HC, HZ, HB, HS⟩ := hrel
    rename_i wr
    by_cases hlt : j < 9
    · have hix := idx_wd j hlt
      obtain ⟨k1, k8, hs1, hs2⟩ := wd_bounds j hlt
      have HS1 := Lib.hid hs1
      obtain ⟨hc, hfr⟩ := HC.out j hlt
      have HY := Lib.hid (rdN_yes l j)
      have HN := Lib.hid (rdN_no l j)
      have HSE : Hid (∀ s, s = wsum (j + 1) → s = wsum j + wdN j) := Lib.hid (fun s h => by rw [h, hs1])
      clear hs1
      rw [HL.out] at HY HN
      by_cases hfit : wsum j + wdN j ≤ len
      · have HR1 := Lib.hid (HY.out (by rw [HS1.out]; exact hfit))
        rw [HS1.out] at HR1
        have HAr := Lib.hid (HA.out.below HB.out)
        clear HY HN HSE
        go_wp2_with fail
        refine (at_ok a len cap l (wsum j) (wdN j) _ HAr.out k1 k8 hfit).mono ?_
        rintro e w2 ⟨rfl, rfl⟩
        rw [← HR1.out]
        go_wp2_with fail
        go_roundw
        case rel =>
          refine ⟨j + 1, by omega, by rw [HS1.out]; go_num, by go_num, Lib.hid (fun i hi => ?_), Lib.hid (fun i hi => ?_), Lib.hid ?_, Lib.hid ?_⟩
          · obtain ⟨hci, hfi⟩ := HC.out i hi
            by_cases hij : i = j
            · subst hij
              rw [if_pos (by omega)]
              exact ⟨by go_simp, by go_simp⟩
            · have hne : j ≠ i := fun h => hij h.symm
              have e : (if i < j + 1 then rdN l i else 0) = if i < j then rdN l i else 0 := by
                by_cases h : i < j
                · rw [if_pos (by omega), if_pos h]
                · rw [if_neg (by omega), if_neg h]
              rw [e]
              exact ⟨by go_simp, by go_simp⟩
          · obtain ⟨hzi, hfi⟩ := HZ.out i hi
            exact ⟨by go_simp, by go_simp⟩
          · exact HB.out.setCell (p := ⟨w.heap.size + 1, j, none⟩) (Nat.le_succ _) _
          · simpa [World.setCell] using HS.out
        case measure => simp [intOf]; omega
      · have HR1 := Lib.hid (HN.out (by rw [HS1.out]; exact hfit))
        clear HY HN HSE
        go_wp2_with fail
        go_roundw
        case rel =>
          refine ⟨j + 1, by omega, by rw [HS1.out]; go_num, by go_num, Lib.hid (fun i hi => ?_), HZ, HB, HS⟩
          obtain ⟨hci, hfi⟩ := HC.out i hi
          refine ⟨?_, hfi⟩
          by_cases hij : i = j
          · subst hij
            rw [if_pos (by omega), HR1.out]
            rw [if_neg (by omega)] at hci
            exact hci
          · have e : (if i < j + 1 then rdN l i else 0) = if i < j then rdN l i else 0 := by
              by_cases h : i < j
              · rw [if_pos (by omega), if_pos h]
              · rw [if_neg (by omega), if_neg h]
            rw [e]
            exact hci
        case measure => simp [intOf]; omega
    · obtain rfl : j = 9 := by omega
      have HD := Lib.hid (fun i hi => by have := (HC.out i hi).1; rw [if_pos hi] at this; exact this : ∀ i, i < 9 → wr.cell? ⟨w.heap.size + 1, i, none⟩ = some (.int .u64 (rdN l i : Int)))
      have c0 := HD.out 0 (by decide)
      have c1 := HD.out 1 (by decide)
      have c2 := HD.out 2 (by decide)
      have c5 := HD.out 5 (by decide)
      have c8 := HD.out 8 (by decide)
      have b1 := rdN_lt l 1 (by decide)
      have b2 := rdN_lt l 2 (by decide)
      have b5 := rdN_lt l 5 (by decide)
      have b8 := rdN_lt l 8 (by decide)
      obtain ⟨z0, f0⟩ := HZ.out 0 (by decide)
      obtain ⟨z1, f1⟩ := HZ.out 1 (by decide)
      obtain ⟨z2, f2⟩ := HZ.out 2 (by decide)
      have HRP : Hid (readP l = if readB l = true then .tuple #[.agg #[.int .i64 (rdN l 1 : Int), .int .i64 (rdN l 5 : Int), .int .i64 (rdN l 2 : Int)], .int .i64 0] else .tuple #[.agg #[.int .i64 0, .int .i64 0, .int .i64 0], .int .i64 12]) := Lib.hid rfl
      have HRB : Hid (readB l = (sndB (rdN l 1) (rdN l 5) (rdN l 2) && l == formL (rdN l 1) (rdN l 5) (rdN l 2) ((rdN l 0 : Int) == 65534) (rdN l 8))) := Lib.hid rfl
      clear HC HD HZ
      generalize rdN l 0 = n0 at *
      generalize rdN l 1 = n1 at *
      generalize rdN l 2 = n2 at *
      generalize rdN l 5 = n5 at *
      generalize rdN l 8 = n8 at *
      generalize readB l = rb at *
      go_wp2_with fail
      obtain ⟨W, hW⟩ : ∃ W, W = wr.alloc (.cells #[.int .i64 (n1 : Int), .int .i64 (n5 : Int), .int .i64 (n2 : Int)] 23) := ⟨_, rfl⟩
      rw [← hW]
      have hWs : wr.heap.size < W.heap.size := by rw [hW]; simp
      have hsw : w.heap.size + 2 = wr.heap.size := HS.out
      have HBw : Hid (Below wr.heap.size wr W) := Lib.hid (by rw [hW]; exact (Below.refl _ _).alloc (Nat.le_refl _) _)
      have x1 : W.cell? ⟨wr.heap.size, 0, none⟩ = some (.int .i64 (n1 : Int)) := by rw [hW, World.cell?_alloc_at _ _ _ _ rfl]; rfl
      have x5 : W.cell? ⟨wr.heap.size, 1, none⟩ = some (.int .i64 (n5 : Int)) := by rw [hW, World.cell?_alloc_at _ _ _ _ rfl]; rfl
      have x2 : W.cell? ⟨wr.heap.size, 2, none⟩ = some (.int .i64 (n2 : Int)) := by rw [hW, World.cell?_alloc_at _ _ _ _ rfl]; rfl
      clear hW
      refine (check_any (n1 : Int) (n5 : Int) (n2 : Int) _).mono ?_
      rintro e w2 ⟨rfl, hb2⟩
      have HW2 := Lib.hid (HBw.out.trans (hb2.mono (Nat.le_of_lt hWs)))
      have y1 := (hb2.cell (p := ⟨wr.heap.size, 0, none⟩) hWs).trans x1
      have y5 := (hb2.cell (p := ⟨wr.heap.size, 1, none⟩) hWs).trans x5
      have y2 := (hb2.cell (p := ⟨wr.heap.size, 2, none⟩) hWs).trans x2
      have hW2s : wr.heap.size < w2.heap.size := Nat.lt_of_lt_of_le hWs hb2.size
      have d0 := (HW2.out.cell (p := ⟨w.heap.size + 1, 0, none⟩) (show w.heap.size + 1 < wr.heap.size by omega)).trans c0
      have d8 := (HW2.out.cell (p := ⟨w.heap.size + 1, 8, none⟩) (show w.heap.size + 1 < wr.heap.size by omega)).trans c8
      have u0 := (HW2.out.cell (p := ⟨w.heap.size, 0, none⟩) (show w.heap.size < wr.heap.size by omega)).trans z0
      have u1 := (HW2.out.cell (p := ⟨w.heap.size, 1, none⟩) (show w.heap.size < wr.heap.size by omega)).trans z1
      have u2 := (HW2.out.cell (p := ⟨w.heap.size, 2, none⟩) (show w.heap.size < wr.heap.size by omega)).trans z2
      have v0 := (HW2.out.frozen (p := ⟨w.heap.size, 0, none⟩) (show w.heap.size < wr.heap.size by omega)).trans f0
      have v1 := (HW2.out.frozen (p := ⟨w.heap.size, 1, none⟩) (show w.heap.size < wr.heap.size by omega)).trans f1
      have v2 := (HW2.out.frozen (p := ⟨w.heap.size, 2, none⟩) (show w.heap.size < wr.heap.size by omega)).trans f2
      have HB2 : Hid (Below w.heap.size w w2) := Lib.hid (HB.out.trans (HW2.out.mono (by omega)))
      clear hb2 x1 x5 x2 c0 c1 c2 c5 c8 z0 z1 z2 f0 f1 f2
      cases hs : sndB (n1 : Int) (n5 : Int) (n2 : Int) with
      | false =>
        have hE : sndE (n1 : Int) (n5 : Int) (n2 : Int) = 8 := by unfold sndE; rw [hs]; rfl
        have HR0 : Hid (readP l = .tuple #[.agg #[.int .i64 0, .int .i64 0, .int .i64 0], .int .i64 12]) := Lib.hid (by rw [HRP.out, if_neg (by rw [HRB.out, hs]; simp)])
        rw [hE]
        clear hs hE
        go_wp2_with fail
        refine bodyPost_ret (v := .tuple #[.agg #[.int .i64 0, .int .i64 0, .int .i64 0], .int .i64 12]) (by simp [results, Tryd.results15, go_sem, u0, u1, u2]) rfl ⟨by rw [HR0.out], ?_⟩
        exact ((HB2.out.setCell (p := ⟨w.heap.size, 0, none⟩) (Nat.le_refl _) _).setCell (p := ⟨w.heap.size, 1, none⟩) (Nat.le_refl _) _).setCell (p := ⟨w.heap.size, 2, none⟩) (Nat.le_refl _) _
      | true =>
        have hE : sndE (n1 : Int) (n5 : Int) (n2 : Int) = 0 := by unfold sndE; rw [hs]; rfl
        have hr : n1 ≤ 6 ∧ n5 ≤ 24 ∧ n2 ≤ 1048576 := by unfold sndB at hs; simp only [decide_eq_true_eq] at hs; omega
        obtain ⟨hr1, hr2, hr3⟩ := hr
        have HRB2 : Hid (rb = (l == formL n1 n5 n2 ((n0 : Int) == 65534) n8)) := Lib.hid (by rw [HRB.out, hs, Bool.true_and])
        have CF := Lib.hid (form_any n1 n5 n2 ((n0 : Int) == 65534) n8 hr1 hr2 hr3 b8)
        rw [hE]
        clear hs hE HRB
        generalize formL n1 n5 n2 ((n0 : Int) == 65534) n8 = FL at *
        go_wp2_with fail
        refine (CF.out _ (HV.out.below HB2.out)).mono ?_
        rintro e w3 ⟨A, cp, rfl, ho, hb3⟩
        have HO3 := Lib.hid ho
        have HB3 := Lib.hid (HB2.out.trans (hb3.mono HB2.out.size))
        have s1 := (hb3.cell (p := ⟨wr.heap.size, 0, none⟩) hW2s).trans y1
        have s5 := (hb3.cell (p := ⟨wr.heap.size, 1, none⟩) hW2s).trans y5
        have s2 := (hb3.cell (p := ⟨wr.heap.size, 2, none⟩) hW2s).trans y2
        have hlt2 : w.heap.size < w2.heap.size := by omega
        have q0 := (hb3.cell (p := ⟨w.heap.size, 0, none⟩) hlt2).trans u0
        have q1 := (hb3.cell (p := ⟨w.heap.size, 1, none⟩) hlt2).trans u1
        have q2 := (hb3.cell (p := ⟨w.heap.size, 2, none⟩) hlt2).trans u2
        have p0 := (hb3.frozen (p := ⟨w.heap.size, 0, none⟩) hlt2).trans v0
        have p1 := (hb3.frozen (p := ⟨w.heap.size, 1, none⟩) hlt2).trans v1
        have p2 := (hb3.frozen (p := ⟨w.heap.size, 2, none⟩) hlt2).trans v2
        clear ho hb3 y1 y5 y2 d0 d8 u0 u1 u2 v0 v1 v2
        go_wp2_with fail
        refine (equal_any a len cap l A _ cp FL _ (HA.out.below HB3.out) HO3.out.arg).mono ?_
        rintro e w4 ⟨rfl, rfl⟩
        cases hq : l == FL with
        | false =>
          have HR0 : Hid (readP l = .tuple #[.agg #[.int .i64 0, .int .i64 0, .int .i64 0], .int .i64 12]) := Lib.hid (by rw [HRP.out, if_neg (by rw [HRB2.out, hq]; simp)])
          clear hq
          go_wp2_with fail
          refine bodyPost_ret (v := .tuple #[.agg #[.int .i64 0, .int .i64 0, .int .i64 0], .int .i64 12]) (by simp [results, Tryd.results15, go_sem, q0, q1, q2]) rfl ⟨by rw [HR0.out], ?_⟩
          exact ((HB3.out.setCell (p := ⟨w.heap.size, 0, none⟩) (Nat.le_refl _) _).setCell (p := ⟨w.heap.size, 1, none⟩) (Nat.le_refl _) _).setCell (p := ⟨w.heap.size, 2, none⟩) (Nat.le_refl _) _
        | true =>
          have HR0 : Hid (readP l = .tuple #[.agg #[.int .i64 (n1 : Int), .int .i64 (n5 : Int), .int .i64 (n2 : Int)], .int .i64 0]) := Lib.hid (by rw [HRP.out, if_pos (by rw [HRB2.out, hq])])
          clear hq
          go_wp2_with fail
          refine bodyPost_ret (v := .tuple #[.agg #[.int .i64 (n1 : Int), .int .i64 (n5 : Int), .int .i64 (n2 : Int)], .int .i64 0]) (by simp [results, Tryd.results15, go_sem, q0, q1, q2]) rfl ⟨by rw [HR0.out], ?_⟩
          exact ((HB3.out.setCell (p := ⟨w.heap.size, 0, none⟩) (Nat.le_refl _) _).setCell (p := ⟨w.heap.size, 1, none⟩) (Nat.le_refl _) _).setCell (p := ⟨w.heap.size, 2, none⟩) (Nat.le_refl _) _
end Go.Proofs.YtjcemacgiehklaaDoor
