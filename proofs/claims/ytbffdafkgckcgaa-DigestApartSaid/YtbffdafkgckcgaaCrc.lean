/- The walks of package crc64. -/
import Derived.Test.YtbffdafkgckcgaaRows
import Derived.Test.YtbffdafkgckcgaaArr
import Derived.Test.YtbffdafkgckcgaaOpen
import Derived.Test.YtbffdafkgckcgaaBytes
import Derived.Test.YtbffdafkgckcgaaCrcMath
import Derived.WalkSpells
import Derived.WalkLawsBesides
import Derived.LoopTactic
import Derived.Outline
import Derived.OwnWalk
import Derived.Lib.Hide
import Derived.Handy
import Derived.Laws.CopyOwn
import Derived.Laws.Bits64
import Derived.Laws.BitsAllLaws
namespace Go.Proofs.Ytbffdafkgckcgaa
open Go.RowKit

/-- The table's first k numbers, then zeros. -/
def tabK (k : Nat) : List Int := (List.range 256).map fun i => if i < k then ((Crc.tab i).toNat : Int) else 0
theorem tabK_length (k : Nat) : (tabK k).length = 256 := by simp [tabK]
theorem tabK_get (k i : Nat) (h : i < 256) : (tabK k)[i]? = some (if i < k then ((Crc.tab i).toNat : Int) else 0) := by simp [tabK, h]
theorem tabK_set (k : Nat) : (tabK k).set k ((Crc.tab k).toNat : Int) = tabK (k + 1) := by
  apply List.ext_getElem?
  intro i
  rw [List.getElem?_set]
  by_cases hi : i < 256
  · by_cases hk : k = i
    · subst hk
      rw [tabK_get (k + 1) k hi]
      simp [tabK_length, hi]
    · rw [if_neg hk, tabK_get k i hi, tabK_get (k + 1) i hi]
      have : (i < k) = (i < k + 1) := by apply propext; omega
      simp only [this]
  · have h1 : (tabK (k + 1))[i]? = none := List.getElem?_eq_none (by rw [tabK_length]; omega)
    have h2 : (tabK k)[i]? = none := List.getElem?_eq_none (by rw [tabK_length]; omega)
    rw [h1, h2, tabK_length]
    by_cases hk : k = i
    · rw [if_pos hk, if_neg (by omega)]
    · rw [if_neg hk]
theorem tabK_zero : tabK 0 = List.replicate 256 0 := by simp [tabK, List.map_const']
theorem zero256 (w : World) : (zeroValue 80).run Try.prog w = .ok (.agg (ints .u64 (tabK 0))) w := by
  rw [tabK_zero]
  kernel_rfl
theorem ints_set' (k : IntKind) (l : List Int) (i : Nat) (v : Int) : (ints k l).setIfInBounds i (.int k v) = ints k (l.set i v) := by
  simp [ints, List.map_set]

theorem wrap_u64_nat (n : Nat) : IntKind.u64.wrap (n : Int) = ((n % 18446744073709551616 : Nat) : Int) := by
  rw [IntKind.wrap_u64]; omega
theorem st_int (x : BitVec 64) : bits .xor .u64 (IntKind.u64.wrap ((x.toNat : Int) * 2)) (4823603603198064275 * ((x.toNat : Int) / 9223372036854775808)) = ((Crc.st x).toNat : Int) := by
  have hx := x.isLt
  have e1 : IntKind.u64.wrap ((x.toNat : Int) * 2) = ((x.toNat * 2 % 18446744073709551616 : Nat) : Int) := by
    rw [← wrap_u64_nat]; rfl
  have e2 : 4823603603198064275 * ((x.toNat : Int) / 9223372036854775808) = ((4823603603198064275 * (x.toNat / 9223372036854775808) : Nat) : Int) := by omega
  have hq : x.toNat / 9223372036854775808 ≤ 1 := by omega
  rw [e1, e2, bits_xor_u64_nat _ _ (Nat.mod_lt _ (by decide)) (by omega)]
  congr 1
  unfold Crc.st
  rw [BitVec.toNat_xor, BitVec.toNat_shiftLeft, Nat.shiftLeft_eq]
  congr 1
  rw [BitVec.msb_eq_decide]
  by_cases h : 2 ^ (64 - 1) ≤ x.toNat
  · have : x.toNat / 9223372036854775808 = 1 := by omega
    simp only [this, h, decide_true, if_true]
    rfl
  · have : x.toNat / 9223372036854775808 = 0 := by omega
    simp only [this, h, decide_false]
    rfl
theorem start_eq (k : Nat) (hk : k < 256) : ((k : Int) * 72057594037927936) = ((Crc.stN 0 (BitVec.ofNat 64 (k * 2 ^ 56))).toNat : Int) := by
  simp only [Crc.stN, BitVec.toNat_ofNat]
  rw [Nat.mod_eq_of_lt (by omega)]
  omega
set_option maxRecDepth 10000 in
set_option maxHeartbeats 400000 in
theorem table_any (w : World) :
    Calls Try.prog 49 #[] w fun e w' => e = .returned (.pointer (some ⟨w.heap.size, 0, none⟩)) ∧ w' = w.alloc (.cells (ints .u64 (tabK 256)) 80) := by
  have hz := zero256
  go_enter Try.func49, Try.ntmps49
  go_wp2
  clear hz
  go_loopw [5] (fun i wr => ∃ k : Nat, k ≤ 256 ∧ i = .int .i64 k ∧ wr = w.alloc (.cells (ints .u64 (tabK k)) 80)) (fun i _ => 256 - (intOf i).toNat)
  case atStart => exact ⟨0, by omega, rfl, rfl⟩
  case round =>
    obtain ⟨k, hk, rfl, rfl⟩ := hrel
    by_cases hlt : k < 256
    · have hc : decide ((k : Int) < 256) = true := by simp; omega
      have HK := Lib.hid (start_eq k hlt)
      go_wp2_with fail
      go_loop [3, 11] (fun c i => ∃ j : Nat, j ≤ 8 ∧ i = .int .i64 j ∧ c = .int .u64 ((Crc.stN j (BitVec.ofNat 64 (k * 2 ^ 56))).toNat : Int)) (fun _ i => 8 - (intOf i).toNat)
      case atStart => exact ⟨0, by omega, rfl, by rw [HK.out]⟩
      case round =>
        obtain ⟨j, hj, rfl, rfl⟩ := hrel
        by_cases hj8 : j < 8
        · generalize hx : Crc.stN j (BitVec.ofNat 64 (k * 2 ^ 56)) = x
          have hX := Lib.hid hx
          have hxl := x.isLt
          clear hx
          go_wp2
          go_round
          case rel => exact ⟨j + 1, by omega, by go_num, by rw [st_int]; rw [← hX.out]; rfl⟩
          case measure => simp [intOf]; omega
        · obtain rfl : j = 8 := by omega
          have hx : Crc.stN 8 (BitVec.ofNat 64 (k * 2 ^ 56)) = Crc.tab k := rfl
          rw [hx]
          clear hx
          generalize hx : Crc.tab k = x
          have hX := Lib.hid hx
          clear hx
          have h1 : (ints .u64 (tabK k)).size = 256 := by rw [ints_size, tabK_length]
          have h2 : (ints .u64 (tabK k))[k]? = some (.int .u64 0) := by rw [ints_get, tabK_get _ _ (by omega)]; simp
          go_wp2
          go_roundw
          case rel => exact ⟨k + 1, by omega, by go_num, by rw [ints_set', ← hX.out, tabK_set]⟩
          case measure => simp [intOf]; omega
    · obtain rfl : k = 256 := by omega
      go_wp2
      go_ret
      exact ⟨rfl, rfl⟩

/-- Bytes as numbers. -/
def bn (l : List UInt8) : List Nat := l.map UInt8.toNat

theorem bn_snoc (l : List UInt8) (k : Nat) (c : UInt8) (h : l[k]? = some c) : bn (l.take (k + 1)) = bn (l.take k) ++ [c.toNat] := by
  obtain ⟨hk, rfl⟩ := List.getElem?_eq_some_iff.1 h
  unfold bn
  rw [List.take_succ_eq_append_getElem hk, List.map_append]
  rfl
theorem idx_int (y : BitVec 64) (c : Nat) (hc : c < 256) : bits .xor .u8 ((y.toNat : Int) / 72057594037927936) (c : Int) = (((y.toNat / 2 ^ 56) ^^^ c : Nat) : Int) := by
  have hy := y.isLt
  rw [← u8_xor_nat _ _ (by omega) hc]
  rfl
theorem next_int (y : BitVec 64) (c : Nat) : bits .xor .u64 (IntKind.u64.wrap ((y.toNat : Int) * 256)) ((Crc.tab ((y.toNat / 2 ^ 56) ^^^ c)).toNat : Int) = ((Crc.next y c).toNat : Int) := by
  have e1 : IntKind.u64.wrap ((y.toNat : Int) * 256) = ((y.toNat * 256 % 18446744073709551616 : Nat) : Int) := by
    rw [← wrap_u64_nat]; rfl
  rw [e1, bits_xor_u64_nat _ _ (Nat.mod_lt _ (by decide)) (BitVec.isLt _)]
  congr 1
  unfold Crc.next
  rw [BitVec.toNat_xor, BitVec.toNat_shiftLeft, Nat.shiftLeft_eq]
set_option maxRecDepth 10000 in
set_option maxHeartbeats 400000 in
theorem behind_any (g : Nat) (x : BitVec 64) (a : Option Addr) (len cap : Nat) (l : List UInt8) (w : World) (ha : BArg w a len cap l) (hT : w.heap[g]? = some (.cells (ints .u64 (tabK 256)) 80)) :
    Calls Try.prog 48 #[.pointer (some ⟨g, 0, none⟩), .int .u64 (x.toNat : Int), .slice a len cap] w fun e w' => e = .returned (.int .u64 ((Crc.run x (bn l)).toNat : Int)) ∧ w = w' := by
  have hlen := ha.le
  have hcap := ha.small
  have HA := Lib.hid ha
  have HT := Lib.hid hT
  clear ha hT
  go_enter Try.func48, Try.ntmps48
  go_wp2
  go_loop [1, 11] (fun s i => ∃ k : Nat, k ≤ len ∧ i = .int .i64 k ∧ s = .int .u64 ((Crc.run x (bn (l.take k))).toNat : Int)) (fun _ i => len - (intOf i).toNat)
  case atStart => exact ⟨0, by omega, rfl, rfl⟩
  case round =>
    obtain ⟨k, hk, rfl, rfl⟩ := hrel
    by_cases hlt : k < len
    · obtain ⟨ad, c, rfl, hs, hblk, hcl, hcell⟩ := HA.out.at_ hlt
      generalize hx : Crc.run x (bn (l.take k)) = y
      have HX := Lib.hid hx
      have hy := y.isLt
      have hc8 := c.toNat_lt
      have HCL := Lib.hid hcl
      clear hx hcl hblk hs
      obtain ⟨q, hq⟩ : ∃ q, q = (y.toNat / 2 ^ 56) ^^^ c.toNat := ⟨_, rfl⟩
      have hidx : bits .xor .u8 ((y.toNat : Int) / 72057594037927936) (c.toNat : Int) = (q : Int) := by
        rw [hq]; exact idx_int y c.toNat hc8
      have hq8 : q < 256 := by rw [hq]; exact Nat.xor_lt_two_pow (n := 8) (by omega) hc8
      have htab : w.cell? ⟨g, q, none⟩ = some (.int .u64 ((Crc.tab q).toNat : Int)) := by
        rw [cell_of_row w g q _ _ _ HT.out, ints_get, tabK_get _ _ hq8, if_pos hq8]; rfl
      have HN := Lib.hid (next_int y c.toNat)
      have HQ := Lib.hid hq
      clear hq
      go_wp2
      go_round
      case rel =>
        refine ⟨k + 1, by omega, by go_num, ?_⟩
        rw [HQ.out, HN.out, ← HX.out, bn_snoc l k c HCL.out, Crc.run_append]
        rfl
      case measure => simp [intOf]; omega
    · obtain rfl : k = len := by omega
      go_wp2
      go_ret
      exact ⟨by rw [List.take_of_length_le (by have := HA.out.len_eq; omega)]; rfl, rfl⟩

/-- What crc64.Next answers. -/
def nextP (x : BitVec 64) (l : List UInt8) : Value :=
  if l.length ≤ 100000 then .tuple #[.int .u64 ((Crc.run x (bn l)).toNat : Int), .int .i64 0] else .tuple #[.int .u64 0, .int .i64 4]

set_option maxHeartbeats 400000 in
theorem next_any (x : BitVec 64) (a : Option Addr) (len cap : Nat) (l : List UInt8) (w : World) (ha : BArg w a len cap l) :
    Calls Try.prog 46 #[.int .u64 (x.toNat : Int), .slice a len cap] w fun e w' => e = .returned (nextP x l) ∧ Below w.heap.size w w' := by
  have hlen := ha.le
  have hcap := ha.small
  have HA := Lib.hid ha
  clear ha
  by_cases hm : len ≤ 100000
  · have HP : Hid (nextP x l = .tuple #[.int .u64 ((Crc.run x (bn l)).toNat : Int), .int .i64 0]) := by
      refine Lib.hid ?_
      unfold nextP; rw [if_pos (by have := HA.out.len_eq; omega)]
    go_enter Try.func46, Try.ntmps46
    go_wp2_with fail
    refine (table_any _).mono ?_
    rintro e w1 ⟨rfl, rfl⟩
    go_wp2_with fail
    refine (behind_any w.heap.size x a len cap l _ (HA.out.alloc _) (heap_alloc_new w _)).mono ?_
    rintro e w2 ⟨rfl, rfl⟩
    go_wp2_with fail
    go_ret2
    exact ⟨by rw [HP.out]; rfl, (Below.refl _ _).alloc (Nat.le_refl _) _⟩
  · have HP : Hid (nextP x l = .tuple #[.int .u64 0, .int .i64 4]) := by
      refine Lib.hid ?_
      unfold nextP; rw [if_neg (by have := HA.out.len_eq; omega)]
    go_enter Try.func46, Try.ntmps46
    go_wp2_with fail
    go_ret2
    exact ⟨by rw [HP.out]; rfl, Below.refl _ _⟩

set_option maxHeartbeats 400000 in
theorem sum_any (a : Option Addr) (len cap : Nat) (l : List UInt8) (w : World) (ha : BArg w a len cap l) :
    Calls Try.prog 37 #[.slice a len cap] w fun e w' => e = .returned (nextP 0#64 l) ∧ Below w.heap.size w w' := by
  have HA := Lib.hid ha
  clear ha
  obtain ⟨v, u, HP⟩ : ∃ v u, nextP 0#64 l = .tuple #[v, u] := by unfold nextP; split <;> exact ⟨_, _, rfl⟩
  have HP := Lib.hid HP
  go_enter Try.func37, Try.ntmps37
  go_wp2_with fail
  refine (next_any 0#64 a len cap l _ HA.out).mono ?_
  rintro e w1 ⟨rfl, hb⟩
  rw [HP.out]
  go_wp2_with fail
  go_ret2
  exact ⟨by rw [HP.out]; rfl, hb⟩

theorem nextP_ok (x : BitVec 64) (l : List UInt8) (h : l.length ≤ 100000) : nextP x l = .tuple #[.int .u64 ((Crc.run x (bn l)).toNat : Int), .int .i64 0] := by
  unfold nextP; rw [if_pos h]
theorem nextP_num (l : List UInt8) (n : Int) (h : l.length ≤ 100000) (hn : ((Crc.run 0#64 (bn l)).toNat : Int) = n) : nextP 0#64 l = .tuple #[.int .u64 n, .int .i64 0] := by
  rw [nextP_ok _ _ h, hn]
end Go.Proofs.Ytbffdafkgckcgaa
