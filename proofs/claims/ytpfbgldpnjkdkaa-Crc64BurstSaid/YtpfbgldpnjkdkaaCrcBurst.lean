/- Crc64Burst: the walk. -/
import Derived.Test.YtpfbgldpnjkdkaaCrcBurstM
import Derived.Deep.RegionHeld3
namespace Go.Proofs.Ytpfbgldpnjkdkaa
open Go.RowKit

theorem and_one (c k : Nat) (hc : c < 18446744073709551616) : bits .and .u64 ((c : Int) / 2 ^ k) 1 = ((dl c k : Nat) : Int) := by
  have h : c / 2 ^ k < 18446744073709551616 := Nat.lt_of_le_of_lt (Nat.div_le_self _ _) hc
  have := u64_and_nat (c / 2 ^ k) 1 h (by omega)
  rw [nat_mask1] at this
  simpa [dl] using this

theorem xor_bit (x : UInt8) (q : Nat) : bits .xor .u8 (x.toNat : Int) (128 / 2 ^ (q % 8)) = ((x ^^^ UInt8.ofNat (2 ^ (7 - q % 8))).toNat : Int) := by
  have h : q % 8 < 8 := Nat.mod_lt _ (by decide)
  have hb : (UInt8.ofNat (2 ^ (7 - q % 8))).toNat = 2 ^ (7 - q % 8) := by
    rw [UInt8.toNat_ofNat']
    exact Nat.mod_eq_of_lt (Nat.lt_of_le_of_lt (Nat.pow_le_pow_right (n := 2) (by decide) (show 7 - q % 8 ≤ 7 by omega)) (by decide))
  have e : (128 : Int) / 2 ^ (q % 8) = ((2 ^ (7 - q % 8) : Nat) : Int) := by
    rw [← pow_div (q % 8) h]
    simp
  rw [e, UInt8.toNat_xor, hb]
  exact u8_xor_nat _ _ x.toNat_lt (by rw [← hb]; exact UInt8.toNat_lt _)

set_option maxHeartbeats 1000000 in
theorem burst_main (a : Option Addr) (len cap : Nat) (l : List UInt8) (p c : Nat) (hc : c < 18446744073709551616) (w : World) (ha : BArg w a len cap l) (h1 : len ≤ 500) (h2 : p < 8 * len) :
    Calls Try.prog 9 #[.slice a len cap, .int .i64 (p : Int), .int .u64 (c : Int)] w fun e w' => e = .returned (.bool true) ∧ Below w.heap.size w w' := by
  have hll := ha.len_eq
  have HA := Lib.hid ha
  clear ha
  have HC := Lib.hid hc
  clear hc
  have g0 : decide ((500 : Int) < (len : Int)) = false := by simp; omega
  have g1 : decide ((p : Int) < 0) = false := by simp
  have g2 : decide (8 * (len : Int) ≤ (p : Int)) = false := by simp; omega
  have HL := Lib.hid hll
  clear hll
  go_enter Try.func9, Try.ntmps9
  go_wp2_with (at_builtin; refine wpList_append_bytes rfl (.tmp 29) (.tmp 30) rfl w.heap.size _ [] rfl (Owns.lit0 w _ (Nat.le_refl _)) a len cap l rfl (HA.out.alloc _) len (by simp) (by omega) (by simp) ?_; intro A1 c1 w1 hown1 hgr1 hat1; clear hat1)
  have HW1 := Lib.hid (below_append ((Below.refl _ _).alloc (Nat.le_refl _) _) (Owns.lit0 w _ (Nat.le_refl _)) (Nat.le_refl _) hgr1)
  rw [List.nil_append] at hown1
  obtain ⟨g, rfl, hg1, _⟩ := hown1.where_ (by omega)
  have HO1 := Lib.hid hown1
  have HG := Lib.hid hg1
  clear hown1 hgr1 hg1
  go_loopw [8, 9] (fun d i wr => ∃ (k : Nat), k ≤ 64 ∧ p + k ≤ 8 * len ∧ i = .int .i64 k ∧ d = .bool (dif c k) ∧ Hid (Owns wr w.heap.size (.slice (some ⟨g, 0, none⟩) len c1) (flp l p c k)) ∧ Hid (Below w.heap.size w wr)) (fun _ i _ => 64 - (intOf i).toNat)
  case atStart => exact ⟨0, by omega, by omega, rfl, rfl, HO1, HW1⟩
  case round =>
    obtain ⟨k, hk, hpk, rfl, rfl, HO, HW⟩ := hrel
    rename_i wr
    by_cases hlt : k < 64 ∧ p + k < 8 * len
    · obtain ⟨hk64, hp8⟩ := hlt
      have t1 : decide ((k : Int) < 64) = true := by simp; omega
      have t2 : decide ((p : Int) + (k : Int) < 8 * (len : Int)) = true := by simp; omega
      have hand := and_one c k HC.out
      by_cases hd : dl c k = 1
      · have HS := Lib.hid (show flp l p c (k + 1) = flip1 (flp l p c k) (p + k) by simp [flp, hd])
        have HF := Lib.hid (show dif c (k + 1) = true by simp [dif, hd])
        have t3 : (bits .and .u64 ((c : Int) / 2 ^ k) 1 == 1) = true := by rw [hand, hd]; rfl
        have hcell := HO.out.cellAt (j := (p + k) / 8) (by omega)
        have hfree := HO.out.free ((p + k) / 8)
        clear hand hd
        go_wp2_with fail
        go_region
        go_wp2
        have hst := HO.out.stored ((p + k) / 8) ((flp l p c k).getD ((p + k) / 8) 0 ^^^ UInt8.ofNat (2 ^ (7 - (p + k) % 8)))
        rw [← xor_bit] at hst
        go_roundw
        case rel =>
          refine ⟨k + 1, by omega, by omega, by go_num, by rw [HF.out], ?_, ?_⟩
          · rw [HS.out]
            exact Lib.hid hst.1.drew
          · exact Lib.hid ((HW.out.grown hst.2 HW.out.size (fun j hj => by cases hj; exact HG.out)).drew)
        case measure => simp [intOf]; omega
      · have HS := Lib.hid (show flp l p c (k + 1) = flp l p c k by simp [flp, hd])
        have HF := Lib.hid (show dif c (k + 1) = dif c k by simp [dif, hd])
        have t3 : (bits .and .u64 ((c : Int) / 2 ^ k) 1 == 1) = false := by
          have := dl_le c k
          have h0 : dl c k = 0 := by omega
          rw [hand, h0]; rfl
        clear hand hd
        go_wp2_with fail
        go_roundw
        case rel => exact ⟨k + 1, by omega, by omega, by go_num, by rw [HF.out], by rw [HS.out]; exact HO, HW⟩
        case measure => simp [intOf]; omega
    · have hdone : k = 64 ∨ p + k = 8 * len := by omega
      have e1 := flp_sum l p c k (by rw [HL.out]; omega) hk
      have p1 := nextP_ok 0#64 l (by rw [HL.out]; omega)
      have p2 := nextP_ok 0#64 (flp l p c k) (by rw [flp_length, HL.out]; omega)
      generalize dif c k = D at *
      generalize Crc.run 0#64 (bn l) = X at e1 p1
      generalize Crc.run 0#64 (bn (flp l p c k)) = Y at e1 p2
      have P1 := Lib.hid p1
      have P2 := Lib.hid p2
      have g5 : (D == D) = true := by simp
      clear p1 p2 hlt
      rcases hdone with hd | hd
      · subst hd
        go_wp2_with fail
        refine (sum_any a len cap l _ (HA.out.below HW.out)).mono ?_
        rintro e w2 ⟨rfl, hb2⟩
        have HO2 := Lib.hid (HO.out.below hb2)
        have HW2 := Lib.hid (HW.out.trans (hb2.mono HW.out.size))
        clear hb2 HO
        rw [P1.out]
        go_wp2_with fail
        refine (sum_any _ len c1 (flp l p c 64) _ HO2.out.arg).mono ?_
        rintro e w3 ⟨rfl, hb3⟩
        have HW3 := Lib.hid (HW2.out.trans (hb3.mono HW2.out.size))
        clear hb3 HO2
        rw [P2.out]
        go_wp2_with fail
        refine (calive_any _).mono ?_
        rintro e w4 ⟨rfl, hb4⟩
        go_wp2_with fail
        go_ret
        exact ⟨rfl, HW3.out.trans (hb4.mono HW3.out.size)⟩
      · have t2 : decide ((p : Int) + (k : Int) < 8 * (len : Int)) = false := by simp; omega
        by_cases hk64 : k < 64
        all_goals
          go_wp2_with fail
          refine (sum_any a len cap l _ (HA.out.below HW.out)).mono ?_
          rintro e w2 ⟨rfl, hb2⟩
          have HO2 := Lib.hid (HO.out.below hb2)
          have HW2 := Lib.hid (HW.out.trans (hb2.mono HW.out.size))
          clear hb2 HO
          rw [P1.out]
          go_wp2_with fail
          refine (sum_any _ len c1 (flp l p c k) _ HO2.out.arg).mono ?_
          rintro e w3 ⟨rfl, hb3⟩
          have HW3 := Lib.hid (HW2.out.trans (hb3.mono HW2.out.size))
          clear hb3 HO2
          rw [P2.out]
          go_wp2_with fail
          refine (calive_any _).mono ?_
          rintro e w4 ⟨rfl, hb4⟩
          go_wp2_with fail
          go_ret
          exact ⟨rfl, HW3.out.trans (hb4.mono HW3.out.size)⟩

set_option maxHeartbeats 400000 in
theorem burst_calls (a : Option Addr) (len cap : Nat) (l : List UInt8) (w : World) (ha : BArg w a len cap l) (p : Int) (_hp : (Lit.int .i64 p).wf = true) (c : Int) (hc : (Lit.int .u64 c).wf = true) :
    Calls Try.prog 9 #[.slice a len cap, .int .i64 p, .int .u64 c] w fun e w' => e = .returned (.bool true) ∧ Below w.heap.size w w' := by
  obtain ⟨c, rfl, hcc⟩ := u64w hc
  by_cases h1 : len ≤ 500
  · have g0 : decide ((500 : Int) < (len : Int)) = false := by simp; omega
    by_cases h2 : 0 ≤ p
    · have g1 : decide (p < 0) = false := by simp; omega
      by_cases h3 : p < 8 * len
      · obtain ⟨p, rfl⟩ := Int.eq_ofNat_of_zero_le h2
        exact burst_main a len cap l p c hcc w ha h1 (by omega)
      · have g2 : decide (8 * (len : Int) ≤ p) = true := by simp; omega
        clear hc hcc ha h3
        go_enter Try.func9, Try.ntmps9
        go_wp2_with fail
        refine (calive_any _).mono ?_
        rintro e w4 ⟨rfl, hb4⟩
        go_wp2_with fail
        go_ret
        exact ⟨rfl, hb4⟩
    · have g1 : decide (p < 0) = true := by simp; omega
      clear hc hcc ha
      go_enter Try.func9, Try.ntmps9
      go_wp2_with fail
      refine (calive_any _).mono ?_
      rintro e w4 ⟨rfl, hb4⟩
      go_wp2_with fail
      go_ret
      exact ⟨rfl, hb4⟩
  · have g0 : decide ((500 : Int) < (len : Int)) = true := by simp; omega
    clear hc hcc ha h1
    go_enter Try.func9, Try.ntmps9
    go_wp2_with fail
    refine (calive_any _).mono ?_
    rintro e w4 ⟨rfl, hb4⟩
    go_wp2_with fail
    go_ret
    exact ⟨rfl, hb4⟩
end Go.Proofs.Ytpfbgldpnjkdkaa
