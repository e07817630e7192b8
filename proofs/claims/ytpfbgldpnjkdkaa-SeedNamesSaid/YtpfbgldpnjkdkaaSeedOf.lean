/- The walk of seed.Of: the taps of a number. -/
import Derived.Test.YtpfbgldpnjkdkaaRows
import Derived.Test.YtpfbgldpnjkdkaaArr
import Derived.WalkSpells
import Derived.WalkLawsBesides
import Derived.LoopTactic
import Derived.Outline
import Derived.OwnWalk
import Derived.Lib.Hide
import Derived.Handy
import Derived.Laws.CopyOwn
namespace Go.Proofs.Ytpfbgldpnjkdkaa
open Go.RowKit

/-- Tap i of a number. -/
def tap (n : Nat) (i : Nat) : Int := IntKind.i8.wrap ((n / 2 ^ (8 * i) : Nat) : Int)
/-- The first k taps of a number, then zeros. -/
def tapsK (n k : Nat) : List Int := (List.range 16).map fun i => if i < k then tap n i else 0
theorem tapsK_length (n k : Nat) : (tapsK n k).length = 16 := by simp [tapsK]
theorem tapsK_get (n k i : Nat) (h : i < 16) : (tapsK n k)[i]? = some (if i < k then tap n i else 0) := by simp [tapsK, h]
theorem tapsK_zero (n : Nat) : tapsK n 0 = List.replicate 16 0 := by simp [tapsK]; rfl
theorem tapsK_set (n k : Nat) : (tapsK n k).set k (tap n k) = tapsK n (k + 1) := by
  apply List.ext_getElem?
  intro i
  rw [List.getElem?_set]
  by_cases hi : i < 16
  · by_cases hk : k = i
    · subst hk
      rw [tapsK_get n (k + 1) k hi]
      simp [tapsK_length, hi]
    · rw [if_neg hk, tapsK_get n k i hi, tapsK_get n (k + 1) i hi]
      have : (i < k) = (i < k + 1) := by apply propext; omega
      simp only [this]
  · have h1 : (tapsK n (k + 1))[i]? = none := List.getElem?_eq_none (by rw [tapsK_length]; omega)
    have h2 : (tapsK n k)[i]? = none := List.getElem?_eq_none (by rw [tapsK_length]; omega)
    rw [h1, h2, tapsK_length]
    by_cases hk : k = i
    · rw [if_pos hk, if_neg (by omega)]
    · rw [if_neg hk]
theorem ints_set (k : IntKind) (l : List Int) (i : Nat) (v : Int) : (ints k l).setIfInBounds i (.int k v) = ints k (l.set i v) := by
  simp [ints, List.map_set]
/-- Sixteen zeros. -/
def z16 : List Int := List.replicate 16 0
theorem ints_zero16 : ints .i32 z16 = #[.int .i32 0, .int .i32 0, .int .i32 0, .int .i32 0, .int .i32 0, .int .i32 0, .int .i32 0, .int .i32 0, .int .i32 0, .int .i32 0, .int .i32 0, .int .i32 0, .int .i32 0, .int .i32 0, .int .i32 0, .int .i32 0] := rfl

theorem i8_bounds (x : Int) : -128 ≤ IntKind.i8.wrap x ∧ IntKind.i8.wrap x ≤ 127 := by
  simp [IntKind.wrap, IntKind.bits, IntKind.signed]
  split <;> omega
theorem i8_eq (x : Int) : IntKind.i8.wrap x = (x + 128) % 256 - 128 := by
  simp [IntKind.wrap, IntKind.bits, IntKind.signed]
  split <;> omega
theorem tap_eq (n k : Nat) : wrap32 (IntKind.i8.wrap ((n : Int) / 2 ^ (8 * k))) = tap n k := by
  have h := i8_bounds ((n : Int) / 2 ^ (8 * k))
  have e : ((n / 2 ^ (8 * k) : Nat) : Int) = (n : Int) / 2 ^ (8 * k) := by simp
  rw [IntWalk.wrap32_in _ ⟨by omega, by omega⟩]
  unfold tap
  rw [e]
theorem info24 (l : List Int) (h : l.length = 16) : (Try.prog.info? 24).map (·.size) = some (ints .i32 l).size := by
  rw [ints_size, h]; kernel_rfl

set_option maxHeartbeats 400000 in
theorem of_any (n : Nat) (_hn : n < 18446744073709551616) (w : World) :
    Calls Try.prog 16 #[.int .u64 n] w fun e w' => e = .returned (.agg (ints .i32 (tapsK n 8))) ∧ Below w.heap.size w w' := by
  go_enter Try.func16, Try.ntmps16
  go_wp2
  rw [← ints_zero16]
  go_loopw [5] (fun i wr => ∃ k : Nat, k ≤ 8 ∧ i = .int .i64 k ∧ wr = (w.alloc (.cells (ints .i32 z16) 24)).alloc (.cells (ints .i32 (tapsK n k)) 24)) (fun i _ => 8 - (intOf i).toNat)
  case atStart => exact ⟨0, by omega, rfl, by rw [tapsK_zero]; rfl⟩
  case round =>
    obtain ⟨k, hk, rfl, rfl⟩ := hrel
    by_cases hlt : k < 8
    · have h1 : (ints .i32 (tapsK n k)).size = 16 := by rw [ints_size, tapsK_length]
      have h2 : (ints .i32 (tapsK n k))[k]? = some (.int .i32 0) := by rw [ints_get, tapsK_get _ _ _ (by omega)]; simp
      go_wp2
      go_roundw
      case rel =>
        exact ⟨k + 1, by omega, by go_num, by rw [tap_eq, ints_set, tapsK_set]⟩
      case measure => simp [intOf]; omega
    · obtain rfl : k = 8 := by omega
      generalize hl : tapsK n 8 = l
      have Hl := Lib.hid hl
      have hlen : l.length = 16 := by rw [← hl, tapsK_length]
      have HL := Lib.hid hlen
      clear hl hlen
      go_wp2_with (first
        | (refine wpList_load_row rfl 24 _ rfl (w.heap.size + 1) rfl 24 (ints .i32 l) (0, 0) _ (heap_alloc2_new w _ _) Try.underlying24 rfl (info24 _ HL.out) ?_)
        | (refine wpList_store_row rfl 24 _ _ rfl w.heap.size _ rfl rfl 24 _ (heap_alloc2_old w _ _) (info24 _ HL.out) (by rw [ints_size, ints_size, HL.out]; rfl) (ints_one _ _) ?_))
      refine bodyPost_ret (results_cell_row rfl _ _ w.heap.size 24 (ints .i32 l) (0, 0) _ rfl ?_ Try.underlying24 rfl (info24 _ HL.out)) rfl ⟨by rw [Hl.out], ?_⟩
      · exact setRow_heap _ _ _ _ _ _ (heap_alloc2_old w _ _)
      · exact below_setRow (((Below.refl _ _).alloc (Nat.le_refl _) _).alloc (by simp) _) (Nat.le_refl _) _

/-- What the taps of 8356095 are. -/
theorem taps_ex : tapsK 8356095 8 = [-1, -128, 127, 0, 0, 0, 0, 0, 0, 0, 0, 0, 0, 0, 0, 0] := by decide +kernel

/-- Two arrays of sixteen numbers, compared. -/
theorem eq16 (l m : List Int) (hl : l.length = 16) (hm : m.length = 16) (W : World) : (Op.equalIn 10000 24 (.agg (ints .i32 l)) (.agg (ints .i32 m))).run Try.prog W = .ok (l == m) W :=
  run_equalIn_array W 9998 24 21 16 .i32 .i32 Try.underlying24 Try.underlying21 (by kernel_rfl) l m hl hm

set_option maxHeartbeats 400000 in
theorem alive_any (w : World) :
    Calls Try.prog 15 #[] w fun e w' => e = .returned (.bool true) ∧ Below w.heap.size w w' := by
  have hq : ∀ W : World, (Op.equalIn 10000 24 (.agg (ints .i32 (tapsK 8356095 8))) (.agg #[.int .i32 (-1), .int .i32 (-128), .int .i32 127, .int .i32 0, .int .i32 0, .int .i32 0, .int .i32 0, .int .i32 0, .int .i32 0, .int .i32 0, .int .i32 0, .int .i32 0, .int .i32 0, .int .i32 0, .int .i32 0, .int .i32 0])).run Try.prog W = .ok true W := by
    intro W
    have h := eq16 (tapsK 8356095 8) _ (tapsK_length _ _) (tapsK_length 8356095 8) W
    simp only [beq_self_eq_true] at h
    rw [← h]
    rw [taps_ex]
    rfl
  go_enter Try.func15, Try.ntmps15
  go_wp2_with (first
    | (go_at_call 16; refine (of_any 8356095 (by omega) _).mono ?_; rintro e w1 ⟨rfl, hb1⟩)
    | (refine wpList_store_new rfl 24 _ _ rfl _ rfl rfl 24 _ (info24 _ (tapsK_length _ _)) (by rw [ints_size, tapsK_length]; rfl) (ints_one _ _) ?_)
    | (refine wpList_load_row rfl 24 _ rfl w1.heap.size rfl 24 (ints .i32 (tapsK 8356095 8)) (0, 0) _ (heap_alloc_new w1 _) Try.underlying24 rfl (info24 _ (tapsK_length _ _)) ?_))
  go_ret
  exact ⟨rfl, hb1.alloc hb1.size _⟩
end Go.Proofs.Ytpfbgldpnjkdkaa
