/- What LeBytes needs: widths, Unsigned, the law's alive. -/
import Derived.Test.YtodieokchglajaaLeBytes
namespace Go.Proofs.Ytodieokchglajaa
open Go.RowKit


/-- What le.Value answers. -/
def valP (l : List UInt8) : Value :=
  if 1 ≤ l.length ∧ l.length ≤ 8 then .tuple #[.int .u64 (Le.val l : Int), .int .i64 0] else .tuple #[.int .u64 0, .int .i64 2]
theorem val_step (l : List UInt8) (k : Nat) (c : UInt8) (hk : k < 8) (hc : l[k]? = some c) :
    bits .or .u64 (Le.val (l.take k) : Int) (IntKind.u64.wrap ((c.toNat : Int) * 2 ^ (8 * k))) = (Le.val (l.take (k + 1)) : Int) := by
  obtain ⟨hl, rfl⟩ := List.getElem?_eq_some_iff.1 hc
  have h0 := Le.val_lt (l.take k)
  have hlen : (l.take k).length = k := by simp; omega
  rw [hlen, Le.pow256] at h0
  have hp : 2 ^ (8 * k) ≤ 2 ^ 56 := Nat.pow_le_pow_right (by decide) (by omega)
  have hc8 := l[k].toNat_lt
  have h2 : l[k].toNat * 2 ^ (8 * k) ≤ 255 * 2 ^ (8 * k) := Nat.mul_le_mul_right _ (by omega)
  have e : IntKind.u64.wrap ((l[k].toNat : Int) * 2 ^ (8 * k)) = ((l[k].toNat * 2 ^ (8 * k) : Nat) : Int) := by
    rw [IntKind.wrap_u64]
    have : ((l[k].toNat * 2 ^ (8 * k) : Nat) : Int) = (l[k].toNat : Int) * 2 ^ (8 * k) := by simp
    rw [← this]
    omega
  rw [e, u64_or_nat _ _ (by omega) (by omega), Le.or_shift _ _ _ h0, List.take_succ_eq_append_getElem hl, Le.val_snoc, hlen, Le.pow256]

set_option maxHeartbeats 400000 in
theorem value_any (a : Option Addr) (len cap : Nat) (l : List UInt8) (w : World) (ha : BArg w a len cap l) :
    Calls Try.prog 6 #[.slice a len cap] w fun e w' => e = .returned (valP l) ∧ w = w' := by
  have hll := ha.len_eq
  have HA := Lib.hid ha
  clear ha
  by_cases h : 1 ≤ len ∧ len ≤ 8
  · obtain ⟨h1, h8⟩ := h
    have HP : Hid (valP l = .tuple #[.int .u64 (Le.val l : Int), .int .i64 0]) := Lib.hid (by unfold valP; rw [if_pos (by omega)])
    have HL := Lib.hid hll
    clear hll
    go_enter Try.func6, Try.ntmps6
    go_wp2
    go_loop [4, 17] (fun s i => ∃ k : Nat, k ≤ len ∧ i = .int .i64 k ∧ s = .int .u64 (Le.val (l.take k) : Int)) (fun _ i => len - (intOf i).toNat)
    case atStart => exact ⟨0, by omega, rfl, rfl⟩
    case round =>
      obtain ⟨k, hk, rfl, rfl⟩ := hrel
      by_cases hlt : k < len
      · obtain ⟨ad, c, rfl, hs, hblk, hcl, hcell⟩ := HA.out.at_ hlt
        have HS := Lib.hid (val_step l k c (by omega) hcl)
        have hc8 := c.toNat_lt
        generalize Le.val (l.take k) = y at HS ⊢
        clear hcl hblk hs
        go_wp2
        go_round
        case rel => exact ⟨k + 1, by omega, by go_num, by rw [HS.out]⟩
        case measure => simp [intOf]; omega
      · obtain rfl : k = len := by omega
        go_wp2
        go_ret2
        exact ⟨by rw [HP.out, List.take_of_length_le (by rw [HL.out]; omega)]; rfl, rfl⟩
  · have HP : Hid (valP l = .tuple #[.int .u64 0, .int .i64 2]) := Lib.hid (by unfold valP; rw [if_neg (by omega)])
    have h' : len < 1 ∨ 8 < len := by omega
    clear h hll
    rcases h' with h' | h'
    · go_enter Try.func6, Try.ntmps6
      go_wp2_with fail
      go_ret2
      exact ⟨by rw [HP.out]; rfl, rfl⟩
    · go_enter Try.func6, Try.ntmps6
      go_wp2_with fail
      go_ret2
      exact ⟨by rw [HP.out]; rfl, rfl⟩

/-- What le.At answers. -/
def atP (l : List UInt8) (p k : Int) : Value :=
  if k < 1 ∨ 8 < k ∨ p < 0 then .tuple #[.int .u64 0, .int .i64 2]
  else if (l.length : Int) < p + k then .tuple #[.int .u64 0, .int .i64 24]
  else .tuple #[.int .u64 (Le.val ((l.take (p + k).toNat).drop p.toNat) : Int), .int .i64 0]


/-- The signed number with a two's complement. -/
def sgnW (n k : Nat) : Int := if n < 256 ^ k / 2 then n else (n : Int) - 256 ^ k
/-- Does a signed number fit a width? -/
def inR (x : Int) (k : Nat) : Bool := decide (-(256 ^ k / 2) ≤ x ∧ x < 256 ^ k / 2)

theorem width_cases {k : Nat} (h1 : 1 ≤ k) (h8 : k ≤ 8) : k = 1 ∨ k = 2 ∨ k = 3 ∨ k = 4 ∨ k = 5 ∨ k = 6 ∨ k = 7 ∨ k = 8 := by omega
theorem sgn_eq (n k : Nat) (h1 : 1 ≤ k) (h8 : k ≤ 8) (hf : n < 256 ^ k) : wrap64 (IntKind.u64.wrap ((n : Int) * 2 ^ (64 - 8 * k))) / 2 ^ (64 - 8 * k) = sgnW n k := by
  unfold wrap64 sgnW
  rw [IntKind.wrap_u64]
  rcases width_cases h1 h8 with h | h | h | h | h | h | h | h <;> subst h <;> simp only [Nat.reduceMul, Nat.reduceSub, Nat.reducePow, Nat.reduceDiv, Int.reducePow] at hf ⊢ <;> split <;> omega
theorem uns_test (x : Int) (k : Nat) (h1 : 1 ≤ k) (h8 : k ≤ 8) : (wrap64 (x * 2 ^ (64 - 8 * k)) / 2 ^ (64 - 8 * k) != x) = !(inR x k) := by
  unfold wrap64 inR
  rw [Bool.eq_iff_iff]
  simp only [bne_iff_ne, Bool.not_eq_true', decide_eq_false_iff_not, ne_eq]
  rcases width_cases h1 h8 with h | h | h | h | h | h | h | h <;> subst h <;> simp only [Nat.reduceMul, Nat.reduceSub, Int.reducePow] <;> omega
theorem uns_eq (x : Int) (k : Nat) (h1 : 1 ≤ k) (h8 : k ≤ 8) : IntKind.u64.wrap (IntKind.u64.wrap x * 2 ^ (64 - 8 * k)) / 2 ^ (64 - 8 * k) = x % 256 ^ k := by
  rw [IntKind.wrap_u64, IntKind.wrap_u64]
  rcases width_cases h1 h8 with h | h | h | h | h | h | h | h <;> subst h <;> simp only [Nat.reduceMul, Nat.reduceSub, Int.reducePow] <;> omega

set_option maxHeartbeats 400000 in
theorem unsigned_ok (x : Int) (k : Nat) (h1 : 1 ≤ k) (h8 : k ≤ 8) (hr : inR x k = true) (w : World) :
    Calls Try.prog 8 #[.int .i64 x, .int .i64 (k : Int)] w fun e w' => e = .returned (.tuple #[.int .u64 (x % 256 ^ k), .int .i64 0]) ∧ w = w' := by
  have g := uns_test x k h1 h8
  rw [hr] at g
  have HE := Lib.hid (uns_eq x k h1 h8)
  clear hr
  go_enter Try.func8, Try.ntmps8
  go_wp2_with fail
  go_ret2
  exact ⟨by rw [← HE.out]; rfl, rfl⟩

set_option maxHeartbeats 400000 in
theorem unsigned_range (x : Int) (k : Nat) (h1 : 1 ≤ k) (h8 : k ≤ 8) (hr : inR x k = false) (w : World) :
    Calls Try.prog 8 #[.int .i64 x, .int .i64 (k : Int)] w fun e w' => e = .returned (.tuple #[.int .u64 0, .int .i64 16]) ∧ w = w' := by
  have g := uns_test x k h1 h8
  rw [hr] at g
  clear hr
  go_enter Try.func8, Try.ntmps8
  go_wp2_with fail
  go_ret2
  exact ⟨rfl, rfl⟩

set_option maxHeartbeats 400000 in
theorem unsigned_arg (x : Int) (k : Int) (h : k < 1 ∨ 8 < k) (w : World) :
    Calls Try.prog 8 #[.int .i64 x, .int .i64 k] w fun e w' => e = .returned (.tuple #[.int .u64 0, .int .i64 2]) ∧ w = w' := by
  rcases h with h | h
  · go_enter Try.func8, Try.ntmps8
    go_wp2_with fail
    go_ret2
    exact ⟨rfl, rfl⟩
  · go_enter Try.func8, Try.ntmps8
    go_wp2_with fail
    go_ret2
    exact ⟨rfl, rfl⟩

/-- What le.Signed and le.Unsigned answer. -/
def sgnP (n : Nat) (k : Int) : Int × Int := if k < 1 ∨ 8 < k then (0, 2) else if n < 256 ^ k.toNat then (sgnW n k.toNat, 0) else (0, 16)
def unsP (x k : Int) : Int × Int := if k < 1 ∨ 8 < k then (0, 2) else if inR x k.toNat = true then (x % 256 ^ k.toNat, 0) else (0, 16)

theorem unsigned_any (x k : Int) (w : World) :
    Calls Try.prog 8 #[.int .i64 x, .int .i64 k] w fun e w' => e = .returned (.tuple #[.int .u64 (unsP x k).1, .int .i64 (unsP x k).2]) ∧ w = w' := by
  unfold unsP
  by_cases h : k < 1 ∨ 8 < k
  · rw [if_pos h]; exact unsigned_arg x k h w
  · rw [if_neg h]
    obtain ⟨k, rfl⟩ := Int.eq_ofNat_of_zero_le (show 0 ≤ k by omega)
    rw [Int.toNat_natCast]
    by_cases hr : inR x k = true
    · rw [if_pos hr]; exact unsigned_ok x k (by omega) (by omega) hr w
    · rw [if_neg hr]; exact unsigned_range x k (by omega) (by omega) (by simpa using hr) w
set_option maxHeartbeats 400000 in
theorem width_yes (k : Int) (h1 : 1 ≤ k) (h8 : k ≤ 8) (w : World) :
    Calls Try.prog 4 #[.int .i64 k] w fun e w' => e = .returned (.bool true) ∧ w = w' := by
  have g1 : decide (1 ≤ k) = true := by simp; omega
  have g2 : decide (k ≤ 8) = true := by simp; omega
  clear h1 h8
  go_enter Try.func4, Try.ntmps4
  go_wp2_with fail
  go_ret
  exact ⟨rfl, rfl⟩
set_option maxHeartbeats 400000 in
theorem width_no (k : Int) (h : k < 1 ∨ 8 < k) (w : World) :
    Calls Try.prog 4 #[.int .i64 k] w fun e w' => e = .returned (.bool false) ∧ w = w' := by
  by_cases h1 : k < 1
  · have g1 : decide (1 ≤ k) = false := by simp; omega
    clear h h1
    go_enter Try.func4, Try.ntmps4
    go_wp2_with fail
    go_ret
    exact ⟨rfl, rfl⟩
  · have g1 : decide (1 ≤ k) = true := by simp; omega
    have g2 : decide (k ≤ 8) = false := by simp; omega
    clear h h1
    go_enter Try.func4, Try.ntmps4
    go_wp2_with fail
    go_ret
    exact ⟨rfl, rfl⟩

theorem bs_258_2 : Le.bs 258 2 = [2, 1] := by decide
theorem bs_258_3 : Le.bs 258 3 = [2, 1, 0] := by decide
set_option maxHeartbeats 400000 in
theorem lealive_any (w : World) :
    Calls Try.prog 5 #[] w fun e w' => e = .returned (.bool true) ∧ Below w.heap.size w w' := by
  go_enter Try.func5, Try.ntmps5
  go_wp2_with fail
  refine (bytes_ok 258 2 (by omega) (by omega) (by decide) _).mono ?_
  rintro e w1 ⟨rfl, ho1, hb1⟩
  rw [bs_258_2] at ho1
  have HO1 := Lib.hid ho1
  have HB1 := Lib.hid hb1
  clear ho1 hb1
  go_wp2_with fail
  refine (bytes_ok 258 3 (by omega) (by omega) (by decide) _).mono ?_
  rintro e w2 ⟨rfl, ho2, hb2⟩
  rw [bs_258_3] at ho2
  have HO2 := Lib.hid ho2
  have HO1' := Lib.hid (HO1.out.below hb2)
  have HB2 := Lib.hid (HB1.out.trans (hb2.mono HB1.out.size))
  clear ho2 hb2 HO1 HB1
  go_wp2_with fail
  refine (unsigned_ok (-2) 1 (by omega) (by omega) (by decide) _).mono ?_
  rintro e w3 ⟨rfl, rfl⟩
  go_wp2_with fail
  refine (unsigned_ok (-2) 3 (by omega) (by omega) (by decide) _).mono ?_
  rintro e w3 ⟨rfl, rfl⟩
  have t1 := HO1'.out.arg.text
  have t2 := HO2.out.arg.text
  go_wp2_with fail
  go_ret
  exact ⟨rfl, HB2.out⟩

end Go.Proofs.Ytodieokchglajaa
