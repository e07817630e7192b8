/- SeedSmall. -/
import Derived.Test.YtpfbgldpnjkdkaaSeedMath
import Derived.Deep.QuietTactic
import Derived.BigQuiet
namespace Go.Proofs.Ytpfbgldpnjkdkaa
open Go.RowKit

theorem taps_cell (n i : Nat) (h : i < 16) : (ints .i32 (tapsK n 8))[i]? = some (.int .i32 (if i < 8 then tap n i else 0)) := by
  rw [ints_get, tapsK_get _ _ _ h]; rfl
theorem sgn32 (b : Nat) (h : b < 256) : wrap32 (sgn b) = sgn b := by
  have := sgn_bounds b h
  exact IntWalk.wrap32_in _ ⟨by omega, by omega⟩

set_option maxHeartbeats 1000000 in
theorem small_main (n at_ b : Nat) (hn : n < 18446744073709551616) (ha : at_ ≤ 7) (hb : b < 256) (w : World) :
    Calls Try.prog 3 #[.int .u64 n, .int .i64 at_, .int .u8 b] w fun e w' => e = .returned (.bool true) ∧ Below w.heap.size w w' := by
  go_enter Try.func3, Try.ntmps3
  go_wp2_with fail
  refine (alive_any _).mono ?_
  rintro e w1 ⟨rfl, hb1⟩
  go_wp2_with fail
  refine (of_any n hn _).mono ?_
  rintro e w2 ⟨rfl, hb2⟩
  go_wp2_with (refine wpList_store_new rfl 24 _ _ rfl _ rfl rfl 24 _ (info24 _ (tapsK_length _ _)) (by rw [ints_size, tapsK_length]; rfl) (ints_one _ _) ?_)
  rw [setb_eq n at_ b hn ha hb]
  refine (of_any (setb n at_ b) (setb_lt n at_ b hn ha hb) _).mono ?_
  rintro e w3 ⟨rfl, hb3⟩
  go_wp2_with (refine wpList_store_new rfl 24 _ _ rfl _ rfl rfl 24 _ (info24 _ (tapsK_length _ _)) (by rw [ints_size, tapsK_length]; rfl) (ints_one _ _) ?_)
  obtain ⟨W, hW⟩ : ∃ W : World, W = w3.alloc (.cells (ints .i32 (tapsK (setb n at_ b) 8)) 24) := ⟨_, rfl⟩
  rw [← hW]
  have hz3 : w2.heap.size < w3.heap.size := by have := hb3.size; simp at this; omega
  have hT : ∀ i, i < 16 → W.cell? ⟨w2.heap.size, i, none⟩ = some (.int .i32 (if i < 8 then tap n i else 0)) := fun i hi => by
    rw [hW, World.cell?_alloc_past _ _ _ hz3, hb3.cell (p := ⟨w2.heap.size, i, none⟩) (by simp), World.cell?_alloc_at _ _ _ _ rfl, taps_cell _ _ hi]
  have hU : ∀ i, i < 16 → W.cell? ⟨w3.heap.size, i, none⟩ = some (.int .i32 (if i < 8 then tap (setb n at_ b) i else 0)) := fun i hi => by
    rw [hW, World.cell?_alloc_at _ _ _ _ rfl, taps_cell _ _ hi]
  have hB : Below w.heap.size w W := by
    rw [hW]
    have s1 := hb1.size
    have s2 := hb2.size
    have s3 := hb3.size
    simp at s3
    refine Below.alloc ?_ (by omega) _
    refine Below.trans ?_ (hb3.mono (by simp; omega))
    refine Below.alloc ?_ (by omega) _
    exact hb1.trans (hb2.mono (by omega))
  have HT := Lib.hid hT
  have HU := Lib.hid hU
  clear hT hU hW hb1 hb2 hb3 hz3
  go_loopw [10] (fun i wr => ∃ k : Nat, k ≤ 16 ∧ i = .int .i64 k ∧ ∃ q, wr = W.drewN q) (fun i _ => 16 - (intOf i).toNat)
  case atStart => exact ⟨0, by omega, rfl, 0, rfl⟩
  case round =>
    obtain ⟨k, hk, rfl, q, rfl⟩ := hrel
    by_cases hlt : k < 16
    · have ht := HT.out k hlt
      have hu := HU.out k hlt
      have htb := sgn_bounds (byteAt n k) (byteAt_lt n k)
      rw [← tap_byte] at htb
      obtain ⟨htb1, htb2⟩ := htb
      by_cases h7 : k ≤ 7
      · have h8 : k < 8 := by omega
        rw [if_pos h8] at ht hu
        have hu2 : ¬ k = at_ → tap (setb n at_ b) k = tap n k := fun h => by rw [tap_byte, byteAt_setb n at_ b k ha h7 hb, if_neg h, ← tap_byte]
        have HU2 := Lib.hid hu2
        clear hu2
        generalize tap n k = x at ht HU2 htb1 htb2
        have g1 : decide (x < -128) = false := by simp; omega
        have g2 : decide (127 < x) = false := by simp; omega
        have g3 : decide ((7 : Int) < (k : Int)) = false := by simp; omega
        by_cases hka : k = at_
        · have g4 : ((k : Int) != (at_ : Int)) = false := by simp; omega
          have hc : decide ((k : Int) < 16) = true := by simp; omega
          clear hu hlt h8 hka HU2
          go_wp2
          go_quiet (fail)
          go_wp2
          go_roundw
          case rel => exact ⟨k + 1, by omega, by go_num, _, rfl⟩
          case measure => simp [intOf]; omega
        · have g4 : ((k : Int) != (at_ : Int)) = true := by simp; omega
          have hc : decide ((k : Int) < 16) = true := by simp; omega
          have g5 : (x != x) = false := by simp
          rw [HU2.out hka] at hu
          clear hlt h8 HU2
          go_wp2
          go_quiet (fail)
          go_wp2
          go_roundw
          case rel => exact ⟨k + 1, by omega, by go_num, _, rfl⟩
          case measure => simp [intOf]; omega
      · have h8 : ¬ k < 8 := by omega
        rw [if_neg h8] at ht hu
        have g3 : decide ((7 : Int) < (k : Int)) = true := by simp; omega
        have g4 : ((k : Int) != (at_ : Int)) = true := by simp; omega
        have hc : decide ((k : Int) < 16) = true := by simp; omega
        clear h8 htb1 htb2
        go_wp2
        go_quiet (fail)
        go_wp2
        go_roundw
        case rel => exact ⟨k + 1, by omega, by go_num, _, rfl⟩
        case measure => simp [intOf]; omega
    · obtain rfl : k = 16 := by omega
      have hu := HU.out at_ (by omega)
      have hv : (if at_ < 8 then tap (setb n at_ b) at_ else 0) = sgn b := by
        rw [if_pos (by omega), tap_byte, byteAt_setb n at_ b at_ ha ha hb, if_pos rfl]
      rw [hv] at hu
      clear hv
      by_cases h127 : 127 < b
      · have hs : sgn b = (b : Int) - 256 := by unfold sgn; rw [if_neg (by omega)]
        rw [hs] at hu
        clear hs
        go_wp2
        go_ret
        exact ⟨by simp, below_drewN hB _⟩
      · have hs : sgn b = (b : Int) := by unfold sgn; rw [if_pos (by omega)]
        rw [hs] at hu
        clear hs
        go_wp2
        go_ret
        exact ⟨by simp, below_drewN hB _⟩

theorem u64_of_wf {x : Int} (h : (Lit.int .u64 x).wf = true) : ∃ n : Nat, x = n ∧ n < 18446744073709551616 := by
  have h1 : IntKind.u64.min = 0 := by decide
  have h2 : IntKind.u64.max = 18446744073709551615 := by decide
  simp only [Lit.wf, Bool.and_eq_true, decide_eq_true_eq] at h
  exact ⟨x.toNat, by omega, by omega⟩
theorem u8n_of_wf {x : Int} (h : (Lit.int .u8 x).wf = true) : ∃ n : Nat, x = n ∧ n < 256 := by
  have h1 : IntKind.u8.min = 0 := by decide
  have h2 : IntKind.u8.max = 255 := by decide
  simp only [Lit.wf, Bool.and_eq_true, decide_eq_true_eq] at h
  exact ⟨x.toNat, by omega, by omega⟩

set_option maxHeartbeats 400000 in
theorem small_calls (a : Int) (ha : (Lit.int .u64 a).wf = true) (c : Int) (_hc : (Lit.int .i64 c).wf = true) (b : Int) (hb : (Lit.int .u8 b).wf = true) (w : World) :
    Calls Try.prog 3 #[.int .u64 a, .int .i64 c, .int .u8 b] w fun e w' => e = .returned (.bool true) ∧ Below w.heap.size w w' := by
  obtain ⟨n, rfl, hn⟩ := u64_of_wf ha
  obtain ⟨b, rfl, hb8⟩ := u8n_of_wf hb
  by_cases h0 : 0 ≤ c
  · by_cases h7 : c ≤ 7
    · obtain ⟨c, rfl⟩ := Int.eq_ofNat_of_zero_le h0
      exact small_main n c b hn (by omega) hb8 w
    · go_enter Try.func3, Try.ntmps3
      go_wp2_with fail
      refine (alive_any _).mono ?_
      rintro e w1 ⟨rfl, hb1⟩
      go_wp2_with fail
      go_ret
      exact ⟨rfl, hb1⟩
  · go_enter Try.func3, Try.ntmps3
    go_wp2_with fail
    refine (alive_any _).mono ?_
    rintro e w1 ⟨rfl, hb1⟩
    go_wp2_with fail
    go_ret
    exact ⟨rfl, hb1⟩
end Go.Proofs.Ytpfbgldpnjkdkaa
