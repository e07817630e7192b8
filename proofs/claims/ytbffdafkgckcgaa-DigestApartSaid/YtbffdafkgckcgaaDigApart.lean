/- DigestApart: the walk. -/
import Derived.Test.YtbffdafkgckcgaaDigLaws
import Derived.Test.YtbffdafkgckcgaaCrcBits
import Derived.Test.YtbffdafkgckcgaaMRow
namespace Go.Proofs.Ytbffdafkgckcgaa
open Go.RowKit

/-- The first k of eight bytes are put to bytes from p on. -/
def chg (l : List UInt8) (p : Nat) (d : List UInt8) : Nat → List UInt8
  | 0 => l
  | k + 1 => (chg l p d k).set (p + k) ((chg l p d k).getD (p + k) 0 ^^^ d.getD k 0)
theorem chg_length (l : List UInt8) (p : Nat) (d : List UInt8) (k : Nat) : (chg l p d k).length = l.length := by
  induction k with
  | zero => rfl
  | succ k ih => simp [chg, ih]
theorem chg_out (l : List UInt8) (p : Nat) (d : List UInt8) (k i : Nat) (h : i < p ∨ p + k ≤ i) : (chg l p d k).getD i 0 = l.getD i 0 := by
  induction k with
  | zero => rfl
  | succ k ih =>
    have ih' := ih (by omega)
    simp only [List.getD] at ih' ⊢
    simp only [chg]
    rw [List.getElem?_set, if_neg (by omega)]
    exact ih'
theorem chg_sum (l : List UInt8) (p : Nat) (d : List UInt8) (k : Nat) (hk : k ≤ 8) (hp : p + k ≤ l.length) :
    ((((Crc.run 0#64 (bn l)).toNat : Nat) : Int) == (((Crc.run 0#64 (bn (chg l p d k))).toNat : Nat) : Int)) = (chg l p d k == l) := by
  have h := window (chg l p d k) l (chg_length _ _ _ _) p k hk (by rw [chg_length]; exact hp) (fun i hi => chg_out l p d k i hi)
  rw [Bool.eq_iff_iff]
  simp only [beq_iff_eq]
  rw [← h]
  constructor
  · intro e; exact (BitVec.eq_of_toNat_eq (by omega)).symm
  · intro e; rw [e]

set_option maxHeartbeats 2000000 in
theorem apart_main (s : ByteArray) (hs : s.size ≤ 64) (d : List UInt8) (hd : d.length = 8) (p : Nat) (hp : p < s.size) (w : World) :
    Calls Try.prog 9 #[.string s, .agg (ints .u8 (d.map fun c => (c.toNat : Int))), .int .i64 (p : Int)] w fun e w' => e = .returned (.bool true) ∧ Below w.heap.size w w' := by
  have g1 : decide ((64 : Int) < (s.size : Int)) = false := by simp; omega
  have g2 : decide ((p : Int) < 0) = false := by simp
  have g3 : decide ((s.size : Int) ≤ (p : Int)) = false := by simp; omega
  have g3' : decide (s.size ≤ p) = false := by simp; omega
  have hcv := run_text_bytes s
  have HD := Lib.hid hd
  clear hd
  go_enter Try.func9, Try.ntmps9
  go_wp2_with fail
  obtain ⟨W, hW⟩ : ∃ W, W = w.alloc (.cells (ints .u8 (d.map fun c => (c.toNat : Int))) 49) := ⟨_, rfl⟩
  rw [← hW]
  have HW : Hid (Below w.heap.size w W) := Lib.hid (by rw [hW]; exact (Below.refl _ _).alloc (Nat.le_refl _) _)
  have HX : Hid (W.heap[w.heap.size]? = some (.cells (ints .u8 (d.map fun c => (c.toNat : Int))) 49)) := Lib.hid (by rw [hW]; exact heap_alloc_new w _)
  clear hW
  refine (dalive_any _).mono ?_
  rintro e w1 ⟨rfl, hb1⟩
  have HX1 : Hid (w1.heap[w.heap.size]? = some (.cells (ints .u8 (d.map fun c => (c.toNat : Int))) 49)) := Lib.hid ((hb1.block _ (Array.getElem?_eq_some_iff.1 HX.out).1).trans HX.out)
  have HW1 := Lib.hid (HW.out.trans (hb1.mono HW.out.size))
  clear hb1 HW HX
  go_wp2_with fail
  obtain ⟨w2, hw2⟩ : ∃ w2, w2 = tworld w1 s := ⟨_, rfl⟩
  rw [← hw2]
  have HM0 : Hid (MRow w2 w1.heap.size s.size (tcap w1 s) (sb s)) := Lib.hid (by rw [hw2]; exact MRow.of_text w1 s (by omega))
  have HW2 : Hid (Below w.heap.size w w2) := Lib.hid (by rw [hw2]; exact HW1.out.trans ((below_tworld w1 s).mono HW1.out.size))
  have HX2 : Hid (w2.heap[w.heap.size]? = some (.cells (ints .u8 (d.map fun c => (c.toNat : Int))) 49)) := Lib.hid (by rw [hw2]; exact (((below_tworld w1 s).block _ (Array.getElem?_eq_some_iff.1 HX1.out).1).trans HX1.out))
  have HG : Hid (w.heap.size < w1.heap.size) := Lib.hid (Array.getElem?_eq_some_iff.1 HX1.out).1
  clear hw2 HX1 HW1 hcv
  generalize tcap w1 s = C at *
  obtain ⟨g, hg⟩ : ∃ g, g = w1.heap.size := ⟨_, rfl⟩
  rw [← hg] at HM0 HG ⊢
  clear hg
  go_loopw [9] (fun i wr => ∃ (k : Nat), k ≤ 8 ∧ p + k ≤ s.size ∧ i = .int .i64 k ∧ Hid (MRow wr g s.size C (chg (sb s) p d k)) ∧ Hid (Below w.heap.size w wr) ∧ Hid (wr.heap[w.heap.size]? = some (.cells (ints .u8 (d.map fun c => (c.toNat : Int))) 49))) (fun i _ => 8 - (intOf i).toNat)
  case atStart => exact ⟨0, by omega, by omega, rfl, HM0, HW2, HX2⟩
  case round =>
    obtain ⟨k, hk, hpk, rfl, HM, HB, HX⟩ := hrel
    rename_i wr
    by_cases hlt : k < 8 ∧ p + k < s.size
    · obtain ⟨hk8, hp8⟩ := hlt
      have t1 : decide ((k : Int) < 8) = true := by simp; omega
      have t2 : decide ((k : Int) < (s.size : Int) - (p : Int)) = true := by simp; omega
      have c1 := HM.out.cell hp8
      have c2 := HM.out.free hp8
      have c3 : wr.cell? ⟨w.heap.size, k, none⟩ = some (.int .u8 ((d.getD k 0).toNat : Int)) := by
        rw [cell_of_row wr _ k _ _ _ HX.out, ints_get]
        simp [List.getD, List.getElem?_eq_getElem (show k < d.length by rw [HD.out]; exact hk8)]
      have HC : Hid (chg (sb s) p d (k + 1) = (chg (sb s) p d k).set (p + k) ((chg (sb s) p d k).getD (p + k) 0 ^^^ d.getD k 0)) := Lib.hid rfl
      obtain ⟨z, hz⟩ : ∃ z, z = (chg (sb s) p d k).getD (p + k) 0 ^^^ d.getD k 0 := ⟨_, rfl⟩
      have hx : bits .xor .u8 (((chg (sb s) p d k).getD (p + k) 0).toNat : Int) ((d.getD k 0).toNat : Int) = (z.toNat : Int) := by
        rw [hz, u8_xor_nat _ _ (UInt8.toNat_lt _) (UInt8.toNat_lt _), UInt8.toNat_xor]
      rw [← hz] at HC
      have HS := Lib.hid (HM.out.stored (p + k) z)
      generalize (chg (sb s) p d k).getD (p + k) 0 = y1 at *
      generalize d.getD k 0 = y2 at *
      clear hz
      have hne : ¬ w.heap.size = g := by have := HG.out; omega
      go_wp2_with fail
      go_region
      go_wp2
      go_roundw
      case rel =>
        refine ⟨k + 1, by omega, by omega, by go_num, ?_, ?_, ?_⟩
        · rw [HC.out]; exact Lib.hid HS.out
        · exact Lib.hid ((HB.out.setCell (p := ⟨g, p + k, none⟩) (Nat.le_of_lt HG.out) _).drew)
        · exact Lib.hid ((Below.heap_setCell wr ⟨g, p + k, none⟩ _ _ hne).trans HX.out)
      case measure => simp [intOf]; omega
    · have hdone : k = 8 ∨ p + k = s.size := by omega
      have e1 := chg_sum (sb s) p d k hk (by rw [sb_size]; omega)
      have e3 : (chg (sb s) p d k == sb s) = (chg (sb s) p d k == s.toList) := by rw [Lib.toList_data]; rfl
      rw [e3] at e1
      clear e3
      have t := HM.out.arg.text
      have HN : Hid ((⟨(chg (sb s) p d k).toArray⟩ : ByteArray).size ≤ 64) := Lib.hid (by
        have : (⟨(chg (sb s) p d k).toArray⟩ : ByteArray).size = (chg (sb s) p d k).length := by simp [ByteArray.size]
        rw [this, chg_length, sb_size]; exact hs)
      have C1 := Lib.hid (digOf_ok s hs)
      have C2 := Lib.hid (digOf_ok ⟨(chg (sb s) p d k).toArray⟩ HN.out)
      have e2 : dgt ⟨(chg (sb s) p d k).toArray⟩ = (Crc.run 0#64 (bn (chg (sb s) p d k))).toNat := rfl
      rw [e2] at C2
      unfold dgt at C1
      generalize (Crc.run 0#64 (bn (sb s))).toNat = X at *
      generalize (Crc.run 0#64 (bn (chg (sb s) p d k))).toNat = Y at *
      clear hlt e2
      rcases hdone with hd | hd
      · subst hd
        go_wp2_with fail
        refine (C1.out _).mono ?_
        rintro e w3 ⟨rfl, hb3⟩
        have HB3 := Lib.hid (HB.out.trans (hb3.mono HB.out.size))
        have t3 := (HM.out.arg.below hb3).text
        have HA3 := Lib.hid (HM.out.arg.below hb3)
        clear hb3
        go_wp2_with fail
        refine (C2.out _).mono ?_
        rintro e w4 ⟨rfl, hb4⟩
        have t4 := (HA3.out.below hb4).text
        have HB4 := Lib.hid (HB3.out.trans (hb4.mono HB3.out.size))
        clear hb4 t t3
        go_wp2_with fail
        go_ret
        exact ⟨rfl, HB4.out⟩
      · have t2 : decide ((k : Int) < (s.size : Int) - (p : Int)) = false := by simp; omega
        by_cases hk8 : k < 8
        all_goals
          go_wp2_with fail
          refine (C1.out _).mono ?_
          rintro e w3 ⟨rfl, hb3⟩
          have HB3 := Lib.hid (HB.out.trans (hb3.mono HB.out.size))
          have t3 := (HM.out.arg.below hb3).text
          have HA3 := Lib.hid (HM.out.arg.below hb3)
          clear hb3
          go_wp2_with fail
          refine (C2.out _).mono ?_
          rintro e w4 ⟨rfl, hb4⟩
          have t4 := (HA3.out.below hb4).text
          have HB4 := Lib.hid (HB3.out.trans (hb4.mono HB3.out.size))
          clear hb4 t t3
          go_wp2_with fail
          go_ret
          exact ⟨rfl, HB4.out⟩

set_option maxHeartbeats 400000 in
theorem apart_calls (s : ByteArray) (_hs : s.size ≤ maxLen) (l : List Int) (hl : l.length = 8) (hw : ∀ x ∈ l, (Lit.int .u8 x).wf = true) (p : Int) (_hp : (Lit.int .i64 p).wf = true) (w : World) :
    Calls Try.prog 9 #[.string s, .agg (ints .u8 l), .int .i64 p] w fun e w' => e = .returned (.bool true) ∧ Below w.heap.size w w' := by
  obtain ⟨d, rfl⟩ := u8s_of_wf l hw
  have hd : d.length = 8 := by simpa using hl
  have hcase : (s.size ≤ 64 ∧ 0 ≤ p ∧ p < s.size) ∨ (decide ((64 : Int) < (s.size : Int)) = true) ∨ (decide ((64 : Int) < (s.size : Int)) = false ∧ decide (p < 0) = true) ∨ (decide ((64 : Int) < (s.size : Int)) = false ∧ decide (p < 0) = false ∧ decide ((s.size : Int) ≤ p) = true) := by
    simp only [decide_eq_true_eq, decide_eq_false_iff_not]
    omega
  rcases hcase with ⟨h1, h2, h3⟩ | h1 | ⟨h1, h2⟩ | ⟨h1, h2, h3⟩
  · obtain ⟨p, rfl⟩ := Int.eq_ofNat_of_zero_le h2
    exact apart_main s h1 d hd p (by omega) w
  all_goals
    clear _hs hl hw _hp hd
    go_enter Try.func9, Try.ntmps9
    go_wp2_with fail
    refine (dalive_any _).mono ?_
    rintro e w1 ⟨rfl, hb1⟩
    go_wp2_with fail
    go_ret
    exact ⟨rfl, ((Below.refl _ _).alloc (Nat.le_refl _) _).trans (hb1.mono (by simp))⟩
end Go.Proofs.Ytbffdafkgckcgaa
