/- IdthreeTags: the walks of alive (layer 28), of the reference's Long and of the law. -/
import Derived.Test.YtncmebhgnpeblaaIdAlive
import Derived.Test.YtncmebhgnpeblaaIdRTag
import Derived.Test.YtncmebhgnpeblaaIdRSize
import Derived.Test.YtncmebhgnpeblaaIdNumL
namespace Go.Proofs.Ytncmebhgnpeblaa
open Go.RowKit
attribute [local go_sem ↓] Go.wp_at_zero Go.wp_at_succ

/-- Are bytes more than the statements consider? -/
def longI (n : Nat) : Bool := (decide (600 < n) && decide (n < 3900)) || decide (4100 < n)
set_option maxHeartbeats 400000 in
theorem longI_any (a : Option Addr) (len cap : Nat) (hc : len ≤ 9223372036854775807) (w : World) :
    Calls Try.prog 13 #[.slice a len cap] w fun e w' => e = .returned (.bool (longI len)) ∧ w = w' := by
  have key : (longI len = true ∧ 600 < len ∧ len < 3900) ∨ (longI len = true ∧ 3900 ≤ len ∧ 4100 < len) ∨ (longI len = false ∧ len ≤ 600) ∨ (longI len = false ∧ 3900 ≤ len ∧ len ≤ 4100) := by
    unfold longI
    simp only [Bool.or_eq_true, Bool.and_eq_true, decide_eq_true_eq, Bool.or_eq_false_iff, Bool.and_eq_false_iff, decide_eq_false_iff_not]
    omega
  rcases key with ⟨he, h1, h2⟩ | ⟨he, h1, h2⟩ | ⟨he, h1⟩ | ⟨he, h1, h2⟩
  · have HE := Lib.hid he
    have g0 : decide ((600 : Int) < (len : Int)) = true := by simp; omega
    have g1 : decide ((len : Int) < 3900) = true := by simp; omega
    clear he h1 h2
    go_enter Try.func13, Try.ntmps13
    go_wp2_with fail
    go_ret
    exact ⟨by rw [HE.out]; rfl, rfl⟩
  · have HE := Lib.hid he
    have g0 : decide ((600 : Int) < (len : Int)) = true := by simp; omega
    have g1 : decide ((len : Int) < 3900) = false := by simp; omega
    have g2 : decide ((4100 : Int) < (len : Int)) = true := by simp; omega
    clear he h1 h2
    go_enter Try.func13, Try.ntmps13
    go_wp2_with fail
    go_ret
    exact ⟨by rw [HE.out]; rfl, rfl⟩
  · have HE := Lib.hid he
    have g0 : decide ((600 : Int) < (len : Int)) = false := by simp; omega
    have g1 : decide ((4100 : Int) < (len : Int)) = false := by simp; omega
    clear he h1
    go_enter Try.func13, Try.ntmps13
    go_wp2_with fail
    go_ret
    exact ⟨by rw [HE.out]; rfl, rfl⟩
  · have HE := Lib.hid he
    have g0 : decide ((600 : Int) < (len : Int)) = true := by simp; omega
    have g1 : decide ((len : Int) < 3900) = false := by simp; omega
    have g2 : decide ((4100 : Int) < (len : Int)) = false := by simp; omega
    clear he h1 h2
    go_enter Try.func13, Try.ntmps13
    go_wp2_with fail
    go_ret
    exact ⟨by rw [HE.out]; rfl, rfl⟩


theorem longI_le (n : Nat) (h : longI n = false) : n ≤ 5000 := by
  unfold longI at h
  simp only [Bool.or_eq_false_iff, Bool.and_eq_false_iff, decide_eq_false_iff_not] at h
  omega
theorem sb_list (L : List UInt8) : sb ⟨L.toArray⟩ = L := rfl

set_option maxRecDepth 100000 in
set_option maxHeartbeats 4000000 in
theorem alive28_any (w : World) :
    Calls Try.prog 19 #[] w fun e w' => e = .returned (.bool true) ∧ Below w.heap.size w w' := by
  have kc := fun (w : World) (C : Array Value) (n c : Nat) => Lib.run_convert_bytes_const (P := Try.prog) w 22 5 C n c Try.underlying22 Try.underlying5
  go_enter Try.func19, Try.ntmps19
  go_wp2_with fail
  refine (sync_any 257 _).mono ?_
  rintro e w1 ⟨A1, n1, k1, rfl, ho, hb⟩
  rw [show syL 257 = [0, 0, 2, 1] by decide +kernel] at ho
  rw [show syE 257 = 0 by decide]
  have HO1 := Lib.hid ho
  have HB1 := Lib.hid hb
  clear ho hb
  go_wp2_with fail
  refine (idwrite_any _ 2 2 [97, 98] false _ (BArg.lit _ _ 2 rfl (by omega) _ _ _ rfl) (by omega)).mono ?_
  rintro e w2 ⟨A2, n2, k2, rfl, hb, _, h2⟩
  obtain ⟨rfl, hr2⟩ := h2 (by decide)
  rw [show idE 2 false = 0 by decide]
  rw [show idN 2 false = 12 by decide] at hr2 ⊢
  have HR2 := Lib.hid hr2.1
  have HO2 := Lib.hid ((HO1.out.alloc _).below hb)
  have HB2 : Hid (Below w.heap.size w w2) := Lib.hid ((HB1.out.alloc HB1.out.size _).trans (hb.mono (by have := HB1.out.size; simp; omega)))
  clear hb hr2 HO1
  go_wp2_with fail
  refine (idwrite_any _ 2 2 [97, 98] true _ (BArg.lit _ _ 2 rfl (by omega) _ _ _ rfl) (by omega)).mono ?_
  rintro e w3 ⟨A3, n3, k3, rfl, hb, _, h3⟩
  obtain ⟨rfl, hr3⟩ := h3 (by decide)
  rw [show idE 2 true = 0 by decide]
  rw [show idN 2 true = 22 by decide] at hr3 ⊢
  have t1 := ((HO2.out.alloc (.cells #[.int .u8 97, .int .u8 98] 5 (2, 3))).below hb).arg.text
  have h2w := (HR2.out.alloc (.cells #[.int .u8 97, .int .u8 98] 5 (2, 3))).below hb
  rw [idal2] at h2w
  have t2 := h2w.text
  have t3 := hr3.1.text
  have HR23 := Lib.hid h2w
  have HR3 := Lib.hid hr3.1
  have HB3 : Hid (Below w.heap.size w w3) := Lib.hid ((HB2.out.alloc HB2.out.size _).trans (hb.mono (by have := HB2.out.size; simp; omega)))
  clear hb hr3 HO2 HR2 h2w
  have a4 := idal4
  have hl3 : (idTag [97, 98] true).length = 22 := rfl
  generalize idTag [97, 98] true = L3 at *
  go_wp2_with fail
  refine (lsize_any _ (by decide) 12 0 _).mono ?_
  rintro e w4 ⟨rfl, hb⟩
  rw [sb_list, idal3]
  have HB4 := Lib.hid (HB3.out.trans (hb.mono HB3.out.size))
  have t3' := (HR3.out.below hb).text
  clear hb t1 t2 t3
  go_wp2_with fail
  refine (lsize_any _ (by show L3.toArray.size ≤ _; rw [List.size_toArray, hl3]; omega) 22 0 _).mono ?_
  rintro e w5 ⟨rfl, hb⟩
  rw [sb_list, a4]
  have HB5 := Lib.hid (HB4.out.trans (hb.mono HB4.out.size))
  clear hb t3'
  go_wp2_with fail
  go_ret
  exact ⟨rfl, HB5.out⟩

set_option maxRecDepth 100000 in
set_option maxHeartbeats 4000000 in
theorem idtags_calls (w : World) (a : Option Addr) (len cap : Nat) (l : List UInt8) (ha : BArg w a len cap l) (a2 : Option Addr) (len2 cap2 : Nat) (l2 : List UInt8) (ha2 : BArg w a2 len2 cap2 l2) (f : Bool) :
    Calls Try.prog 4 #[.slice a len cap, .slice a2 len2 cap2, .bool f] w fun e w' => e = .returned (.bool true) ∧ Below w.heap.size w w' := by
  have HA := Lib.hid ha
  have HA2 := Lib.hid ha2
  have hs9 : len ≤ 9223372036854775807 := Nat.le_trans ha.le ha.small
  have hs8 : len2 ≤ 9223372036854775807 := Nat.le_trans ha2.le ha2.small
  have CL := Lib.hid (longI_any a len cap hs9)
  have CL2 := Lib.hid (longI_any a2 len2 cap2 hs8)
  have HLL := Lib.hid ha2.len_eq
  clear ha ha2
  cases hl : longI len with
  | true =>
    rw [hl] at CL
    clear hl
    go_enter Try.func4, Try.ntmps4
    go_wp2_with fail
    refine (CL.out _).mono ?_
    rintro e w2 ⟨rfl, rfl⟩
    go_wp2_with fail
    go_ret
    exact ⟨rfl, Below.refl _ _⟩
  | false =>
    rw [hl] at CL
    clear hl
    cases hl2 : longI len2 with
    | true =>
      rw [hl2] at CL2
      clear hl2
      go_enter Try.func4, Try.ntmps4
      go_wp2_with fail
      refine (CL.out _).mono ?_
      rintro e w2 ⟨rfl, rfl⟩
      go_wp2_with fail
      refine (CL2.out _).mono ?_
      rintro e w2 ⟨rfl, rfl⟩
      go_wp2_with fail
      go_ret
      exact ⟨rfl, Below.refl _ _⟩
    | false =>
      have h50 := longI_le len2 hl2
      rw [hl2] at CL2
      have t0 := HA.out.text
      have C1 := Lib.hid (idsize_any a len cap l)
      have C2 := Lib.hid (rsize_any a len cap l)
      have C3 := Lib.hid (idwrite_any a2 len2 cap2 l2 f)
      have C4 := Lib.hid (ridwrite_any a2 len2 cap2 l2 f)
      have HTL : Hid ((idTag l2 f).length = idN len2 f) := Lib.hid (by rw [idTag_length, HLL.out])
      generalize (sizP l).1 = F1 at *
      generalize (sizP l).2 = F2 at *
      generalize idTag l2 f = TL at *
      generalize idN len2 f = N at *
      have hE : idE len2 f = 0 ∨ idE len2 f = 4 := by unfold idE; split; exact .inr rfl; exact .inl rfl
      clear hl2
      go_enter Try.func4, Try.ntmps4
      go_wp2_with fail
      refine (CL.out _).mono ?_
      rintro e w2 ⟨rfl, rfl⟩
      go_wp2_with fail
      refine (CL2.out _).mono ?_
      rintro e w2 ⟨rfl, rfl⟩
      go_wp2_with fail
      refine (C1.out _ HA.out).mono ?_
      rintro e w1 ⟨rfl, hb⟩
      have HB1 := Lib.hid hb
      have HA1 := Lib.hid (HA.out.below hb)
      have HA21 := Lib.hid (HA2.out.below hb)
      clear hb t0
      go_wp2_with fail
      refine (C2.out _ HA1.out).mono ?_
      rintro e w2 ⟨rfl, hb⟩
      have HB2 := Lib.hid (HB1.out.trans (hb.mono HB1.out.size))
      have HA2 := Lib.hid (HA1.out.below hb)
      have HA22 := Lib.hid (HA21.out.below hb)
      clear hb
      go_wp2_with fail
      refine (C3.out _ HA22.out h50).mono ?_
      rintro e w3 ⟨A3, n3, k3, rfl, hb, h31, h32⟩
      have HB3 := Lib.hid (HB2.out.trans (hb.mono HB2.out.size))
      have HA3 := Lib.hid (HA2.out.below hb)
      have HA23 := Lib.hid (HA22.out.below hb)
      have H31 := Lib.hid h31
      have H32 := Lib.hid (fun h => (h32 h).1)
      have H33 := Lib.hid (fun h => (h32 h).2.1)
      clear hb h31 h32
      go_wp2_with fail
      refine (C4.out _ HA23.out h50).mono ?_
      rintro e w4 ⟨A4, n4, k4, rfl, hb, h41, h42⟩
      have HB4 := Lib.hid (HB3.out.trans (hb.mono HB3.out.size))
      have t4 := (HA3.out.below hb).text
      have g2 : (F1 == F1) = true := by simp
      have g3 : (F2 == F2) = true := by simp
      rcases hE with hE | hE
      · obtain rfl := H32.out hE
        obtain ⟨rfl, hr4⟩ := h42 hE
        have u3 := ((H33.out hE).below hb).text
        have u4 := hr4.arg.text
        rw [hE]
        clear hE hb h41 h42 H31 H32 H33 hr4
        go_wp2_with fail
        go_ret
        exact ⟨rfl, HB4.out⟩
      · obtain ⟨rfl, rfl, rfl⟩ := H31.out hE
        obtain ⟨rfl, rfl, rfl⟩ := h41 hE
        have u3 := (BArg.none_ w4).text
        rw [hE]
        clear hE hb h41 h42 H31 H32 H33
        go_wp2_with fail
        go_ret
        exact ⟨rfl, HB4.out⟩
end Go.Proofs.Ytncmebhgnpeblaa
