/- Crc64Linear: the walk. -/
import Derived.Test.YtpfbgldpnjkdkaaCrcAlive
import Derived.Deep.RegionHeld3
namespace Go.Proofs.Ytpfbgldpnjkdkaa
open Go.RowKit

/-- Two strings of bytes, changed by each other. -/
def xorL (a b : List UInt8) : List UInt8 := List.zipWith (fun x y => x ^^^ y) a b
theorem xorL_snoc (a b : List UInt8) (k : Nat) (x y : UInt8) (hx : a[k]? = some x) (hy : b[k]? = some y) : xorL (a.take (k + 1)) (b.take (k + 1)) = xorL (a.take k) (b.take k) ++ [x ^^^ y] := by
  obtain ⟨h1, rfl⟩ := List.getElem?_eq_some_iff.1 hx
  obtain ⟨h2, rfl⟩ := List.getElem?_eq_some_iff.1 hy
  unfold xorL
  rw [List.take_succ_eq_append_getElem h1, List.take_succ_eq_append_getElem h2, List.zipWith_append (by simp; omega)]
  rfl
theorem xor_u8 (x y : UInt8) : bits .xor .u8 (x.toNat : Int) (y.toNat : Int) = ((x ^^^ y).toNat : Int) := by
  rw [u8_xor_nat _ _ x.toNat_lt y.toNat_lt, UInt8.toNat_xor]

theorem bn_xorL (a b : List UInt8) : bn (xorL a b) = List.zipWith (· ^^^ ·) (bn a) (bn b) := by
  unfold bn xorL
  rw [List.map_zipWith, List.zipWith_map]
  simp only [UInt8.toNat_xor]
theorem lin_sums (l m : List UInt8) (h : l.length = m.length) : bits .xor .u64 ((Crc.run 0#64 (bn l)).toNat : Int) ((Crc.run 0#64 (bn m)).toNat : Int) = ((Crc.run 0#64 (bn (xorL l m))).toNat : Int) := by
  rw [bits_xor_u64_nat _ _ (BitVec.isLt _) (BitVec.isLt _), ← BitVec.toNat_xor, bn_xorL, ← Crc.run_xor _ _ (by simp [bn, h])]
  rfl
theorem zip_zeros (l : List Nat) : List.zipWith (· ^^^ ·) l (List.replicate l.length 0) = l := by
  induction l with
  | nil => rfl
  | cons x l ih => simp [List.replicate_succ, ih]
theorem lin_state (x : BitVec 64) (l : List UInt8) : bits .xor .u64 ((Crc.run 0#64 (bn l)).toNat : Int) ((Crc.run x (bn (List.replicate l.length 0))).toNat : Int) = ((Crc.run x (bn l)).toNat : Int) := by
  rw [bits_xor_u64_nat _ _ (BitVec.isLt _) (BitVec.isLt _), ← BitVec.toNat_xor]
  have e : bn (List.replicate l.length 0) = List.replicate (bn l).length 0 := by simp [bn]
  rw [e, ← Crc.run_xor _ _ (by simp), zip_zeros, BitVec.zero_xor]

set_option maxHeartbeats 1000000 in
theorem linear_main (x : BitVec 64) (a : Option Addr) (len cap : Nat) (l : List UInt8) (b : Option Addr) (cap2 : Nat) (m : List UInt8) (w : World) (ha : BArg w a len cap l) (hb : BArg w b len cap2 m) (h500 : len ≤ 500) :
    Calls Try.prog 7 #[.int .u64 (x.toNat : Int), .slice a len cap, .slice b len cap2] w fun e w' => e = .returned (.bool true) ∧ Below w.heap.size w w' := by
  have hc1 := ha.le
  have hc2 := ha.small
  have hc3 := hb.le
  have hc4 := hb.small
  have HA := Lib.hid ha
  have HB := Lib.hid hb
  clear ha hb
  have g0 : ((len : Int) != (len : Int)) = false := by simp
  have g1 : decide ((500 : Int) < (len : Int)) = false := by simp; omega
  go_enter Try.func7, Try.ntmps7
  go_wp2_with fail
  go_loopw [7, 8] (fun c i wr => ∃ (k : Nat) (A : Option Addr) (d : Nat), k ≤ len ∧ i = .int .i64 k ∧ c = .slice A k d ∧ Hid (Owns wr w.heap.size (.slice A k d) (xorL (l.take k) (m.take k))) ∧ Hid (Below w.heap.size w wr)) (fun _ i _ => len - (intOf i).toNat)
  case atStart => exact ⟨0, none, 0, by omega, rfl, rfl, Lib.hid (Owns.nil _ _), Lib.hid (Below.refl _ _)⟩
  case round =>
    obtain ⟨k, A, d, hk, rfl, rfl, HO, HW⟩ := hrel
    by_cases hlt : k < len
    · obtain ⟨ad1, x1, rfl, hs1, hbl1, hx1, hcell1⟩ := HA.out.at_ hlt
      obtain ⟨ad2, x2, rfl, hs2, hbl2, hx2, hcell2⟩ := HB.out.at_ hlt
      rename_i wr
      have f1 : wr.cell? (ad1.add k) = some (.int .u8 (x1.toNat : Int)) := by rw [HW.out.cell (by rw [block_of_add]; exact hbl1)]; exact hcell1
      have f2 : wr.cell? (ad2.add k) = some (.int .u8 (x2.toNat : Int)) := by rw [HW.out.cell (by rw [block_of_add]; exact hbl2)]; exact hcell2
      have HX := Lib.hid (xorL_snoc l m k x1 x2 hx1 hx2)
      obtain ⟨z, hz⟩ : ∃ z, z = x1 ^^^ x2 := ⟨_, rfl⟩
      have hxo : bits .xor .u8 (x1.toNat : Int) (x2.toNat : Int) = (z.toNat : Int) := by rw [hz]; exact xor_u8 x1 x2
      have HZ := Lib.hid hz
      clear hz
      have HB1 := Lib.hid hbl1
      have k1 : (ad1.add k).block < wr.heap.size := by rw [block_of_add]; have := HW.out.size; omega
      have k2 : (ad2.add k).block < wr.heap.size := by rw [block_of_add]; have := HW.out.size; omega
      have HB2 := Lib.hid hbl2
      clear hx1 hx2 hs1 hs2 hbl1 hbl2 hcell1 hcell2
      have hc : decide ((k : Int) < (len : Int)) = true := by simp; omega
      have i1 : (0 : Int) ≤ (k : Int) := by omega
      have i2 : (k : Int) < (len : Int) := by omega
      go_wp2_with fail
      go_region_held3 (fun w' => w'.cell? (ad1.add k) = some (.int .u8 (x1.toNat : Int)) ∧ w'.cell? (ad2.add k) = some (.int .u8 (x2.toNat : Int))) (first | go_keep | (exact ⟨cell_append ((HO.out.alloc _).drew) hgr1 (by rw [block_of_add]; exact HB1.out) (Nat.le_trans HW.out.size (by simp)) (by exact (World.cell?_alloc_lt wr _ _ k1).trans f1), cell_append ((HO.out.alloc _).drew) hgr1 (by rw [block_of_add]; exact HB2.out) (Nat.le_trans HW.out.size (by simp)) (by exact (World.cell?_alloc_lt wr _ _ k2).trans f2)⟩)) ((refine step_append_bytes (by rfl) _ _ (by rfl) w.heap.size (.slice A k d) (xorL (l.take k) (m.take k)) (by rfl) (by exact (HO.out.alloc _).drew) (some ⟨wr.heap.size, 0, none⟩) 1 1 [z] (by rfl) (by exact (BArg.lit wr [z] 1 rfl (by omega) 5 (0, 0) _ rfl).drew) (k + 1) (by rw [HO.out.len]) (by omega) (by exact Nat.le_trans HW.out.size (by simp)) ?_; intro A1 d1 w1 hown1 hgr1 _))
      go_wp2
      have HO1 := Lib.hid hown1
      have HW1 := Lib.hid (below_append (((HW.out.alloc HW.out.size _).drew)) ((HO.out.alloc _).drew) (Nat.le_refl _) hgr1)
      go_roundw
      case rel =>
        refine ⟨k + 1, A1, d1, by omega, by go_num, rfl, ?_, HW1⟩
        rw [HX.out, ← HZ.out]
        exact HO1
      case measure => simp [intOf]; omega
    · obtain rfl : k = len := by omega
      rename_i wr
      have hll := HA.out.len_eq
      have hmm := HB.out.len_eq
      rw [List.take_of_length_le (by omega), List.take_of_length_le (by omega)] at HO
      have e1 := lin_sums l m (by omega)
      have e2 := lin_state x l
      have p1 := nextP_ok 0#64 l (by omega)
      have p2 := nextP_ok 0#64 m (by omega)
      have p3 := nextP_ok 0#64 (xorL l m) (by rw [HO.out.len]; omega)
      have p4 := nextP_ok x l (by omega)
      have p5 := nextP_ok x (List.replicate k 0) (by simp; omega)
      rw [hll] at e2
      generalize Crc.run 0#64 (bn l) = X at e1 e2 p1
      generalize Crc.run 0#64 (bn m) = Y at e1 p2
      generalize Crc.run 0#64 (bn (xorL l m)) = Z at e1 p3
      generalize Crc.run x (bn l) = U at e2 p4
      generalize Crc.run x (bn (List.replicate k 0)) = V at e2 p5
      have P1 := Lib.hid p1
      have P2 := Lib.hid p2
      have P3 := Lib.hid p3
      have P4 := Lib.hid p4
      have P5 := Lib.hid p5
      have hmk := run_make_bytes k (by omega)
      clear p1 p2 p3 p4 p5 hll hmm
      go_wp2_with fail
      refine (sum_any a k cap l _ (HA.out.below HW.out)).mono ?_
      rintro e w1 ⟨rfl, hb1⟩
      have HO1 := Lib.hid (HO.out.below hb1)
      have HW1 := Lib.hid (HW.out.trans (hb1.mono HW.out.size))
      clear hb1 HO
      rw [P1.out]
      go_wp2_with fail
      refine (sum_any b k cap2 m _ (HB.out.below HW1.out)).mono ?_
      rintro e w2 ⟨rfl, hb2⟩
      have HO2 := Lib.hid (HO1.out.below hb2)
      have HW2 := Lib.hid (HW1.out.trans (hb2.mono HW1.out.size))
      clear hb2 HO1
      rw [P2.out]
      go_wp2_with fail
      refine (sum_any A k d (xorL l m) _ HO2.out.arg).mono ?_
      rintro e w3 ⟨rfl, hb3⟩
      have HW3 := Lib.hid (HW2.out.trans (hb3.mono HW2.out.size))
      clear hb3 HO2
      rw [P3.out]
      go_wp2_with fail
      refine (next_any x a k cap l _ (HA.out.below HW3.out)).mono ?_
      rintro e w4 ⟨rfl, hb4⟩
      have HW4 := Lib.hid (HW3.out.trans (hb4.mono HW3.out.size))
      clear hb4
      rw [P4.out]
      go_wp2_with fail
      refine (next_any x _ k k (List.replicate k 0) _ (Owns.made _ _ k (Nat.le_refl _) (by omega)).arg).mono ?_
      rintro e w5 ⟨rfl, hb5⟩
      have HW5 := Lib.hid ((HW4.out.alloc HW4.out.size _).trans (hb5.mono (Nat.le_trans HW4.out.size (by simp))))
      clear hb5
      rw [P5.out]
      have g2 : ((Z.toNat : Int) == (Z.toNat : Int)) = true := by simp
      have g3 : ((U.toNat : Int) == (U.toNat : Int)) = true := by simp
      go_wp2_with fail
      refine (calive_any _).mono ?_
      rintro e w6 ⟨rfl, hb6⟩
      go_wp2_with fail
      go_ret
      exact ⟨rfl, HW5.out.trans (hb6.mono HW5.out.size)⟩

set_option maxHeartbeats 400000 in
theorem linear_calls (s : Int) (hs : (Lit.int .u64 s).wf = true) (a : Option Addr) (len cap : Nat) (l : List UInt8) (w : World) (ha : BArg w a len cap l) (b : Option Addr) (len2 cap2 : Nat) (m : List UInt8) (hb : BArg w b len2 cap2 m) :
    Calls Try.prog 7 #[.int .u64 s, .slice a len cap, .slice b len2 cap2] w fun e w' => e = .returned (.bool true) ∧ Below w.heap.size w w' := by
  obtain ⟨x, rfl⟩ := u64bv hs
  by_cases h1 : len = len2
  · subst h1
    by_cases h2 : len ≤ 500
    · exact linear_main x a len cap l b cap2 m w ha hb h2
    · have g0 : ((len : Int) != (len : Int)) = false := by simp
      have g1 : decide ((500 : Int) < (len : Int)) = true := by simp; omega
      clear hs ha hb h2
      go_enter Try.func7, Try.ntmps7
      go_wp2_with fail
      refine (calive_any _).mono ?_
      rintro e w6 ⟨rfl, hb6⟩
      go_wp2_with fail
      go_ret
      exact ⟨rfl, hb6⟩
  · have g0 : ((len : Int) != (len2 : Int)) = true := by simp; omega
    clear hs ha hb h1
    go_enter Try.func7, Try.ntmps7
    go_wp2_with fail
    refine (calive_any _).mono ?_
    rintro e w6 ⟨rfl, hb6⟩
    go_wp2_with fail
    go_ret
    exact ⟨rfl, hb6⟩
end Go.Proofs.Ytpfbgldpnjkdkaa
