/- DigestFormat, DigestTells, DigestBytes, DigestNames: the walks. -/
import Derived.Test.YtbffdafkgckcgaaDigest
namespace Go.Proofs.Ytbffdafkgckcgaa
open Go.RowKit

theorem dgt_nine : dgt ⟨#[49, 50, 51, 52, 53, 54, 55, 56, 57]⟩ = 7800480153909949255 := by decide +kernel
theorem dgt_none : dgt ⟨#[]⟩ = 0 := by decide +kernel
theorem bs_nine : Le.bs 7800480153909949255 8 = [71, 115, 73, 11, 95, 223, 64, 108] := by decide +kernel

set_option maxRecDepth 10000 in
set_option maxHeartbeats 400000 in
theorem dalive_any (w : World) :
    Calls Try.prog 28 #[] w fun e w' => e = .returned (.bool true) ∧ Below w.heap.size w w' := by
  have C1 := Lib.hid (digOf_ok ⟨#[49, 50, 51, 52, 53, 54, 55, 56, 57]⟩ (by decide))
  have C2 := Lib.hid (digBytes_ok ⟨#[49, 50, 51, 52, 53, 54, 55, 56, 57]⟩ (by decide))
  have C3 := Lib.hid (digOf_ok ⟨#[]⟩ (by decide))
  rw [dgt_nine] at C1 C2
  rw [bs_nine] at C2
  rw [dgt_none] at C3
  go_enter Try.func28, Try.ntmps28
  go_wp2_with fail
  refine (C1.out _).mono ?_
  rintro e w1 ⟨rfl, hb1⟩
  have HB1 := Lib.hid hb1
  clear hb1
  go_wp2_with fail
  refine (C2.out _).mono ?_
  rintro e w2 ⟨g, -, rfl, ho2, hb2⟩
  have HO2 := Lib.hid ho2
  have HB2 := Lib.hid (HB1.out.trans (hb2.mono HB1.out.size))
  clear hb2 ho2 HB1
  go_wp2_with fail
  refine (C3.out _).mono ?_
  rintro e w3 ⟨rfl, hb3⟩
  have HB3 := Lib.hid (HB2.out.trans (hb3.mono HB2.out.size))
  have t := (HO2.out.below hb3).arg.text
  clear hb3 HB2
  go_wp2_with fail
  go_ret
  exact ⟨rfl, HB3.out⟩

theorem empty_iff (s : ByteArray) : s.toList.isEmpty = decide (s.size = 0) := by
  rw [Lib.toList_data, ← sb_size]
  unfold sb
  cases s.data.toList <;> simp
theorem nil_iff (s : ByteArray) : s.toList = [] ↔ s.size = 0 := by
  rw [Lib.toList_data, ← sb_size]
  unfold sb
  cases s.data.toList <;> simp

set_option maxHeartbeats 400000 in
theorem dformat_calls (s : ByteArray) (_hs : s.size ≤ maxLen) (w : World) :
    Calls Try.prog 11 #[.string s] w fun e w' => e = .returned (.bool true) ∧ Below w.heap.size w w' := by
  clear _hs
  by_cases h : 64 < s.size
  · have g1 : decide ((64 : Int) < (s.size : Int)) = true := by simp; omega
    clear h
    go_enter Try.func11, Try.ntmps11
    go_wp2_with fail
    refine (dalive_any _).mono ?_
    rintro e w1 ⟨rfl, hb1⟩
    go_wp2_with fail
    go_ret
    exact ⟨rfl, hb1⟩
  · have g1 : decide ((64 : Int) < (s.size : Int)) = false := by simp; omega
    by_cases h0 : s.size = 0
    · have HP : Hid (formP s = (1, 0)) := Lib.hid (by unfold formP; rw [if_neg h, if_pos h0])
      have e1 : s.toList.isEmpty = true := by rw [empty_iff]; simpa using h0
      clear h h0
      go_enter Try.func11, Try.ntmps11
      go_wp2_with fail
      refine (dalive_any _).mono ?_
      rintro e w1 ⟨rfl, hb1⟩
      go_wp2_with fail
      refine (digFormat_any s _).mono ?_
      rintro e w2 ⟨rfl, rfl⟩
      rw [HP.out]
      go_wp2_with fail
      go_ret
      exact ⟨rfl, hb1⟩
    · have HP : Hid (formP s = (2, 0)) := Lib.hid (by unfold formP; rw [if_neg h, if_neg h0])
      have e1 : s.toList.isEmpty = false := by rw [empty_iff]; simpa using h0
      clear h h0
      go_enter Try.func11, Try.ntmps11
      go_wp2_with fail
      refine (dalive_any _).mono ?_
      rintro e w1 ⟨rfl, hb1⟩
      go_wp2_with fail
      refine (digFormat_any s _).mono ?_
      rintro e w2 ⟨rfl, rfl⟩
      rw [HP.out]
      go_wp2_with fail
      go_ret
      exact ⟨rfl, hb1⟩

/-- What Of, and its reference, answer. -/
theorem digOf_any (s : ByteArray) (w : World) :
    Calls Try.prog 29 #[.string s] w fun e w' => e = .returned (.tuple #[.int .u64 (if s.size ≤ 64 then (dgt s : Int) else 0), .int .i64 (if s.size ≤ 64 then 0 else 2)]) ∧ Below w.heap.size w w' := by
  by_cases h : s.size ≤ 64
  · rw [if_pos h, if_pos h]; exact digOf_ok s h w
  · rw [if_neg h, if_neg h]; exact (digOf_no s (by omega) w).mono fun _ _ ⟨he, hw⟩ => ⟨he, hw ▸ Below.refl _ _⟩
theorem rdOf_any (s : ByteArray) (w : World) :
    Calls Try.prog 31 #[.string s] w fun e w' => e = .returned (.tuple #[.int .u64 (if s.size ≤ 64 then (dgt s : Int) else 0), .int .i64 (if s.size ≤ 64 then 0 else 2)]) ∧ Below w.heap.size w w' := by
  by_cases h : s.size ≤ 64
  · rw [if_pos h, if_pos h]; exact rdOf_ok s h w
  · rw [if_neg h, if_neg h]; exact (rdOf_no s (by omega) w).mono fun _ _ ⟨he, hw⟩ => ⟨he, hw ▸ Below.refl _ _⟩
theorem digBytes_any (s : ByteArray) (w : World) :
    Calls Try.prog 32 #[.string s] w fun e w' => ∃ A len cap, e = .returned (.tuple #[.slice A len cap, .int .i64 (if s.size ≤ 64 then 0 else 2)]) ∧ Owns w' w.heap.size (.slice A len cap) (if s.size ≤ 64 then Le.bs (dgt s) 8 else []) ∧ Below w.heap.size w w' := by
  by_cases h : s.size ≤ 64
  · rw [if_pos h, if_pos h]; exact (digBytes_ok s h w).mono fun _ _ ⟨g, _, he, ho, hb⟩ => ⟨_, 8, 8, he, ho, hb⟩
  · rw [if_neg h, if_neg h]; exact (digBytes_no s (by omega) w).mono fun _ _ ⟨he, hw⟩ => ⟨none, 0, 0, he, Owns.nil _ _, hw ▸ Below.refl _ _⟩
theorem rdBytes_any (s : ByteArray) (w : World) :
    Calls Try.prog 33 #[.string s] w fun e w' => ∃ A len cap, e = .returned (.tuple #[.slice A len cap, .int .i64 (if s.size ≤ 64 then 0 else 2)]) ∧ Owns w' w.heap.size (.slice A len cap) (if s.size ≤ 64 then Le.bs (dgt s) 8 else []) ∧ Below w.heap.size w w' := by
  by_cases h : s.size ≤ 64
  · rw [if_pos h, if_pos h]; exact (rdBytes_ok s h w).mono fun _ _ ⟨A, cap, he, ho, hb⟩ => ⟨A, 8, cap, he, ho, hb⟩
  · rw [if_neg h, if_neg h]; exact (rdBytes_no s (by omega) w).mono fun _ _ ⟨he, hw⟩ => ⟨none, 0, 0, he, Owns.nil _ _, hw ▸ Below.refl _ _⟩

set_option maxRecDepth 10000 in
set_option maxHeartbeats 1000000 in
theorem dtells_main (s : ByteArray) (hs : s.size ≤ 200) (a : Option Addr) (len cap : Nat) (l : List UInt8) (w : World) (ha : BArg w a len cap l) (h2 : len ≤ 200) :
    Calls Try.prog 12 #[.string s, .slice a len cap] w fun e w' => e = .returned (.bool true) ∧ Below w.heap.size w w' := by
  have HA := Lib.hid ha
  have g1 : decide ((200 : Int) < (s.size : Int)) = false := by simp; omega
  have g2 : decide ((200 : Int) < (len : Int)) = false := by simp; omega
  have C1 := Lib.hid (digOf_any s)
  have C2 := Lib.hid (rdOf_any s)
  have C3 := Lib.hid (digBytes_any s)
  have C4 := Lib.hid (rdBytes_any s)
  have C5 := Lib.hid (fun W h => digRight_any a len cap l s W h)
  have C6 := Lib.hid (fun W h => rdRight_any a len cap l s W h)
  have C7 := Lib.hid (digFormat_any s)
  have C8 := Lib.hid (rdFormat_any s)
  generalize (if s.size ≤ 64 then (dgt s : Int) else 0) = x1 at *
  generalize (if s.size ≤ 64 then (0 : Int) else 2) = x2 at *
  generalize (if s.size ≤ 64 then Le.bs (dgt s) 8 else []) = x3 at *
  generalize (rightP l s).1 = x4 at *
  generalize (rightP l s).2 = x5 at *
  generalize (formP s).1 = x6 at *
  generalize (formP s).2 = x7 at *
  clear ha hs h2
  go_enter Try.func12, Try.ntmps12
  go_wp2_with fail
  refine (C1.out _).mono ?_
  rintro e w1 ⟨rfl, hb1⟩
  have HB1 := Lib.hid hb1
  clear hb1
  go_wp2_with fail
  refine (C2.out _).mono ?_
  rintro e w2 ⟨rfl, hb2⟩
  have HB2 := Lib.hid (HB1.out.trans (hb2.mono HB1.out.size))
  clear hb2 HB1
  go_wp2_with fail
  refine (C3.out _).mono ?_
  rintro e w3 ⟨A3, n3, c3, rfl, ho3, hb3⟩
  have HO3 := Lib.hid ho3
  have HB3 := Lib.hid (HB2.out.trans (hb3.mono HB2.out.size))
  clear hb3 ho3 HB2
  go_wp2_with fail
  refine (C4.out _).mono ?_
  rintro e w4 ⟨A4, n4, c4, rfl, ho4, hb4⟩
  have HO3' := Lib.hid (HO3.out.below hb4)
  have HO4 := Lib.hid ho4
  have HB4 := Lib.hid (HB3.out.trans (hb4.mono HB3.out.size))
  clear hb4 ho4 HB3 HO3
  go_wp2_with fail
  refine (C5.out _ (HA.out.below HB4.out)).mono ?_
  rintro e w5 ⟨rfl, hb5⟩
  have HO3 := Lib.hid (HO3'.out.below hb5)
  have HO4' := Lib.hid (HO4.out.below hb5)
  have HB5 := Lib.hid (HB4.out.trans (hb5.mono HB4.out.size))
  clear hb5 HB4 HO3' HO4
  go_wp2_with fail
  refine (C6.out _ (HA.out.below HB5.out)).mono ?_
  rintro e w6 ⟨rfl, hb6⟩
  have t1 := (HO3.out.below hb6).arg.text
  have t2 := (HO4'.out.below hb6).arg.text
  have HB6 := Lib.hid (HB5.out.trans (hb6.mono HB5.out.size))
  clear hb6 HB5 HO3 HO4'
  go_wp2_with fail
  refine (C7.out _).mono ?_
  rintro e w7 ⟨rfl, rfl⟩
  go_wp2_with fail
  refine (C8.out _).mono ?_
  rintro e w7 ⟨rfl, rfl⟩
  have q1 : (x1 == x1) = true := by simp
  have q2 : (x2 == x2) = true := by simp
  have q4 : (x4 == x4) = true := by simp
  have q5 : (x5 == x5) = true := by simp
  have q6 : (x6 == x6) = true := by simp
  have q7 : (x7 == x7) = true := by simp
  go_wp2_with fail
  go_ret
  exact ⟨rfl, HB6.out⟩
set_option maxHeartbeats 400000 in
theorem dtells_calls (s : ByteArray) (_hs : s.size ≤ maxLen) (a : Option Addr) (len cap : Nat) (l : List UInt8) (w : World) (ha : BArg w a len cap l) :
    Calls Try.prog 12 #[.string s, .slice a len cap] w fun e w' => e = .returned (.bool true) ∧ Below w.heap.size w w' := by
  by_cases h1 : s.size ≤ 200
  · by_cases h2 : len ≤ 200
    · exact dtells_main s h1 a len cap l w ha h2
    · have g1 : decide ((200 : Int) < (s.size : Int)) = false := by simp; omega
      have g2 : decide ((200 : Int) < (len : Int)) = true := by simp; omega
      clear ha h1 h2 _hs
      go_enter Try.func12, Try.ntmps12
      go_wp2_with fail
      go_ret
      exact ⟨rfl, Below.refl _ _⟩
  · have g1 : decide ((200 : Int) < (s.size : Int)) = true := by simp; omega
    clear ha h1 _hs
    go_enter Try.func12, Try.ntmps12
    go_wp2_with fail
    go_ret
    exact ⟨rfl, Below.refl _ _⟩

/-- Bytes of which one is another one. -/
theorem set_ne (l : List UInt8) (p : Nat) (hp : p < l.length) (c : UInt8) (hc : c ≠ 0) : (l.set p (l.getD p 0 ^^^ c) == l) = false := by
  rw [beq_eq_false_iff_ne]
  intro h
  have e := congrArg (fun k => k.getD p 0) h
  simp only [List.getD, List.getElem?_set_self hp, List.getElem?_eq_getElem hp, Option.getD_some] at e
  apply hc
  have e2 : l[p] ^^^ (l[p] ^^^ c) = l[p] ^^^ l[p] := by rw [e]
  rw [← UInt8.xor_assoc, UInt8.xor_self, UInt8.zero_xor] at e2
  exact e2

set_option maxRecDepth 10000 in
set_option maxHeartbeats 2000000 in
theorem dbytes_main (s : ByteArray) (hs : s.size ≤ 64) (p : Int) (c : UInt8) (w : World) :
    Calls Try.prog 14 #[.string s, .int .i64 p, .int .u8 (c.toNat : Int)] w fun e w' => e = .returned (.bool true) ∧ Below w.heap.size w w' := by
  have g1 : decide ((64 : Int) < (s.size : Int)) = false := by simp; omega
  have C1 := Lib.hid (digOf_ok s hs)
  have C2 := Lib.hid (digBytes_ok s hs)
  have HV : Hid (valP (Le.bs (dgt s) 8) = .tuple #[.int .u64 (dgt s : Int), .int .i64 0]) := Lib.hid (by
    unfold valP; rw [if_pos (by rw [Le.bs_length]; omega), Le.val_bs _ 8 (dgt_lt s)])
  have HS := Lib.hid (sumP_text s hs)
  have HR : Hid (rightP (Le.bs (dgt s) 8) s = (true, 0)) := Lib.hid (by unfold rightP; rw [if_pos ⟨hs, Le.bs_length _ _⟩]; simp)
  have HC : Hid (∀ q, q < 8 → c ≠ 0 → rightP ((Le.bs (dgt s) 8).set q ((Le.bs (dgt s) 8).getD q 0 ^^^ c)) s = (false, 0)) := Lib.hid (fun q hq hc => by
    unfold rightP
    rw [if_pos ⟨hs, by rw [List.length_set, Le.bs_length]⟩, set_ne _ q (by rw [Le.bs_length]; exact hq) c hc])
  have hcv := run_text_bytes s
  generalize dgt s = D at *
  generalize hL : Le.bs D 8 = L at *
  have HL : Hid (L.length = 8) := Lib.hid (by rw [← hL, Le.bs_length])
  clear hL
  go_enter Try.func14, Try.ntmps14
  go_wp2_with fail
  refine (dalive_any _).mono ?_
  rintro e w1 ⟨rfl, hb1⟩
  have HB1 := Lib.hid hb1
  clear hb1
  go_wp2_with fail
  refine (C1.out _).mono ?_
  rintro e w2 ⟨rfl, hb2⟩
  have HB2 := Lib.hid (HB1.out.trans (hb2.mono HB1.out.size))
  clear hb2 HB1
  go_wp2_with fail
  refine (C2.out _).mono ?_
  rintro e w3 ⟨g, hg, rfl, ho3, hb3⟩
  have HG : Hid (w.heap.size ≤ g) := Lib.hid (Nat.le_trans HB2.out.size hg)
  have HO3 := Lib.hid (ho3.mono HB2.out.size)
  have HB3 := Lib.hid (HB2.out.trans (hb3.mono HB2.out.size))
  clear hb3 ho3 HB2 hg
  go_wp2_with fail
  refine (value_any _ 8 8 L _ HO3.out.arg).mono ?_
  rintro e w4 ⟨rfl, rfl⟩
  rw [HV.out]
  go_wp2_with fail
  refine (sum_any _ s.size _ (sb s) _ (BArg.of_text _ s _ rfl (by omega))).mono ?_
  rintro e w4 ⟨rfl, hb4⟩
  have hbw := below_tworld w3 s
  have hb4' := hbw.trans (hb4.mono hbw.size)
  have HO4 := Lib.hid (HO3.out.below hb4')
  have HB4 := Lib.hid (HB3.out.trans (hb4'.mono HB3.out.size))
  clear hb4 hbw hb4' HO3 HB3 hcv
  rw [HS.out]
  go_wp2_with fail
  refine (digRight_any _ 8 8 L s _ HO4.out.arg).mono ?_
  rintro e w5 ⟨rfl, hb5⟩
  have HO5 := Lib.hid (HO4.out.below hb5)
  have HB5 := Lib.hid (HB4.out.trans (hb5.mono HB4.out.size))
  clear hb5 HO4 HB4
  rw [HR.out]
  have q1 : ((D : Int) != (D : Int)) = false := by simp
  by_cases h0 : p < 0
  · have d1 : decide (p < 0) = true := by simpa using h0
    clear h0
    go_wp2_with fail
    go_ret
    exact ⟨rfl, HB5.out⟩
  · have d1 : decide (p < 0) = false := by simpa using h0
    by_cases h8 : 8 ≤ p
    · have d2 : decide (8 ≤ p) = true := by simpa using h8
      clear h0 h8
      go_wp2_with fail
      go_ret
      exact ⟨rfl, HB5.out⟩
    · have d2 : decide (8 ≤ p) = false := by simpa using h8
      by_cases hc : c = 0
      · subst hc
        clear h0 h8
        go_wp2_with fail
        go_ret
        exact ⟨rfl, HB5.out⟩
      · have hcn : ((c.toNat : Int) == 0) = false := beq_eq_false_iff_ne.2 (by
          intro h; apply hc; apply UInt8.toNat_inj.1; show c.toNat = 0; omega)
        obtain ⟨q, rfl⟩ := Int.eq_ofNat_of_zero_le (show 0 ≤ p by omega)
        have hq8 : q < 8 := by omega
        have HN := Lib.hid (HC.out q hq8 hc)
        have c1 := HO5.out.cellAt hq8
        have c2 := HO5.out.free q
        have HT := Lib.hid (HO5.out.stored q (L.getD q 0 ^^^ c))
        obtain ⟨z, hz⟩ : ∃ z, z = L.getD q 0 ^^^ c := ⟨_, rfl⟩
        have hx : bits .xor .u8 ((L.getD q 0).toNat : Int) (c.toNat : Int) = (z.toNat : Int) := by
          rw [hz, u8_xor_nat _ _ (UInt8.toNat_lt _) (UInt8.toNat_lt _), UInt8.toNat_xor]
        rw [← hz] at HN HT
        generalize L.getD q 0 = y at *
        clear h0 h8 hc hz
        go_wp2_with fail
        refine (digRight_any _ 8 8 (L.set q z) s _ HT.out.1.arg).mono ?_
        rintro e w6 ⟨rfl, hb6⟩
        rw [HN.out]
        have HB6 := Lib.hid (HB5.out.grown HT.out.2 HB5.out.size (fun j hj => by cases hj; exact HG.out))
        have HB7 := Lib.hid (HB6.out.trans (hb6.mono HB6.out.size))
        clear hb6
        go_wp2_with fail
        go_ret
        exact ⟨rfl, HB7.out⟩
set_option maxHeartbeats 400000 in
theorem dbytes_calls (s : ByteArray) (_hs : s.size ≤ maxLen) (p : Int) (_hp : (Lit.int .i64 p).wf = true) (c : Int) (hc : (Lit.int .u8 c).wf = true) (w : World) :
    Calls Try.prog 14 #[.string s, .int .i64 p, .int .u8 c] w fun e w' => e = .returned (.bool true) ∧ Below w.heap.size w w' := by
  obtain ⟨c, rfl⟩ := u8_of_wf hc
  by_cases h : s.size ≤ 64
  · exact dbytes_main s h p c w
  · have g1 : decide ((64 : Int) < (s.size : Int)) = true := by simp; omega
    clear h _hs _hp hc
    go_enter Try.func14, Try.ntmps14
    go_wp2_with fail
    refine (dalive_any _).mono ?_
    rintro e w1 ⟨rfl, hb1⟩
    go_wp2_with fail
    go_ret
    exact ⟨rfl, hb1⟩
end Go.Proofs.Ytbffdafkgckcgaa
