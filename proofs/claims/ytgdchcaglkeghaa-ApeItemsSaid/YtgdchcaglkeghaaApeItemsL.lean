/- ApeItems: the walk. -/
import Derived.Test.YtgdchcaglkeghaaApeLaws
import Derived.Test.YtgdchcaglkeghaaApeWritesL
import Derived.Test.YtgdchcaglkeghaaApeAlive
namespace Go.Proofs.Ytgdchcaglkeghaa
open Go.RowKit

set_option maxRecDepth 100000 in
set_option maxHeartbeats 4000000 in
theorem apeitems_calls (w : World) (a : Option Addr) (len cap : Nat) (l : List UInt8) (ha : BArg w a len cap l) (b : Option Addr) (len2 cap2 : Nat) (r : List UInt8) (hb : BArg w b len2 cap2 r) (c : Int) (_hc : (Lit.int .i64 c).wf = true) (d : Int) (_hd : (Lit.int .i64 d).wf = true) (h : Bool) :
    Calls Try.prog 11 #[.slice a len cap, .slice b len2 cap2, .int .i64 c, .int .i64 d, .bool h] w fun e w' => e = .returned (.bool true) ∧ Below w.heap.size w w' := by
  have HA := Lib.hid ha
  have HR := Lib.hid hb
  have hs9 : len ≤ 9223372036854775807 := Nat.le_trans ha.le ha.small
  have hs8 : len2 ≤ 9223372036854775807 := Nat.le_trans hb.le hb.small
  have CL := Lib.hid (longa_any a len cap hs9)
  have HLL := Lib.hid ha.len_eq
  have HLR := Lib.hid hb.len_eq
  clear ha hb _hc _hd
  cases hl : longA len with
  | true =>
    rw [hl] at CL
    clear hl
    go_enter Try.func11, Try.ntmps11
    go_wp2_with fail
    refine (alive29_any _).mono ?_
    rintro e w2 ⟨rfl, hb2⟩
    have HB2 := Lib.hid hb2
    clear hb2
    go_wp2_with fail
    refine (CL.out _).mono ?_
    rintro e w3 ⟨rfl, rfl⟩
    go_wp2_with fail
    go_ret
    exact ⟨rfl, HB2.out⟩
  | false =>
    rw [hl] at CL
    clear hl
    by_cases hll : len = len2
    case neg =>
      have g1 : ((len : Int) != (len2 : Int)) = true := by simp; omega
      clear hll
      go_enter Try.func11, Try.ntmps11
      go_wp2_with fail
      refine (alive29_any _).mono ?_
      rintro e w2 ⟨rfl, hb2⟩
      have HB2 := Lib.hid hb2
      clear hb2
      go_wp2_with fail
      refine (CL.out _).mono ?_
      rintro e w3 ⟨rfl, rfl⟩
      go_wp2_with fail
      go_ret
      exact ⟨rfl, HB2.out⟩
    case pos =>
      subst hll
      have g1 : ((len : Int) != (len : Int)) = false := by simp
      go_enter Try.func11, Try.ntmps11
      go_wp2_with fail
      refine (alive29_any _).mono ?_
      rintro e w2 ⟨rfl, hb2⟩
      have HB2 := Lib.hid hb2
      clear hb2
      go_wp2_with fail
      refine (CL.out _).mono ?_
      rintro e w3 ⟨rfl, rfl⟩
      go_wp2_with fail
      refine (awrite_any a len cap l c h _ (HA.out.below HB2.out)).mono ?_
      rintro e w3 ⟨A3, k3, rfl, ho, hb3⟩
      have HO3 := Lib.hid ho
      have HB3 := Lib.hid (HB2.out.trans (hb3.mono HB2.out.size))
      clear ho hb3 HB2
      go_wp2_with fail
      refine (awrite_any b len cap2 r d h _ (HR.out.below HB3.out)).mono ?_
      rintro e w4 ⟨A4, k4, rfl, ho, hb4⟩
      have HO4 := Lib.hid ho
      have HO34 := Lib.hid (HO3.out.below hb4)
      have HB4 := Lib.hid (HB3.out.trans (hb4.mono HB3.out.size))
      clear ho hb4 HB3 HO3
      rcases ape_cases len c with ⟨he, _⟩ | ⟨he, h1, h2, h3⟩
      · rw [he]
        clear he
        go_wp2_with fail
        go_ret
        exact ⟨rfl, HB4.out⟩
      rcases ape_cases len d with ⟨hf, _⟩ | ⟨hf, _, h5, h6⟩
      · rw [he, hf]
        clear he hf
        go_wp2_with fail
        go_ret
        exact ⟨rfl, HB4.out⟩
      obtain ⟨c, rfl⟩ := Int.eq_ofNat_of_zero_le h2
      obtain ⟨d, rfl⟩ := Int.eq_ofNat_of_zero_le h5
      have e1 : awL l (c : Int) h = tagL l c h := by unfold awL; rw [HLL.out, he]; rfl
      have e2 : awL r (d : Int) h = tagL r d h := by unfold awL; rw [HLR.out, hf]; rfl
      have n1 := tagL_length l c h
      have n2 := tagL_length r d h
      rw [HLL.out] at n1
      rw [HLR.out] at n2
      have m1 : awN len (c : Int) h = if h = true then len + 64 else len + 32 := by unfold awN; rw [he]; rfl
      have m2 : awN len (d : Int) h = if h = true then len + 64 else len + 32 := by unfold awN; rw [hf]; rfl
      have b1 := back_tag [] l c h (by rw [HLL.out]; exact h1) (by omega)
      have b2 := back_tag [] r d h (by rw [HLR.out]; exact h1) (by omega)
      rw [List.nil_append, n1] at b1
      rw [List.nil_append, n2] at b2
      have f1 : h = true → frontP (tagL l c h) = (((tagL l c h).length : Int), 0) := fun hh => by
        subst hh
        have := front_tag l [] c (by rw [HLL.out]; exact h1) (by omega)
        rwa [List.append_nil] at this
      have f2 : h = true → frontP (tagL r d h) = (((tagL r d h).length : Int), 0) := fun hh => by
        subst hh
        have := front_tag r [] d (by rw [HLR.out]; exact h1) (by omega)
        rwa [List.append_nil] at this
      rw [n1] at f1
      rw [n2] at f2
      rw [he, hf, m1, m2]
      rw [e1, m1] at HO34
      rw [e2, m2] at HO4
      have C1 := Lib.hid (back_any _ _ _ _ w4 HO34.out.arg)
      have C2 := Lib.hid (fun W hh => back_any _ _ _ _ W (HO4.out.arg.below hh))
      have C3 := Lib.hid (fun W hh => front_any _ _ _ _ W (HO34.out.arg.below hh))
      have C4 := Lib.hid (fun W hh => front_any _ _ _ _ W (HO4.out.arg.below hh))
      rw [b1] at C1
      simp only [b2] at C2
      clear e1 e2 n1 n2 m1 m2 b1 b2 he hf h2 h3 h5 h6
      cases h with
      | true =>
        have f1' := f1 rfl
        have f2' := f2 rfl
        simp only [f1'] at C3
        simp only [f2'] at C4
        clear f1 f2 f1' f2'
        generalize tagL l c true = TL at *
        generalize tagL r d true = TR at *
        simp only [if_true] at C1 C2 C3 C4 ⊢
        obtain ⟨N, hN⟩ : ∃ N, N = len + 64 := ⟨_, rfl⟩
        rw [← hN] at C1 C2 C3 C4 ⊢
        clear hN
        have q1 : ((N : Int) == (N : Int)) = true := by simp
        go_wp2_with fail
        refine C1.out.mono ?_
        rintro e w5 ⟨rfl, hb5⟩
        have HB5 := Lib.hid hb5
        clear hb5
        go_wp2_with fail
        refine (C2.out _ HB5.out).mono ?_
        rintro e w6 ⟨rfl, hb6⟩
        have HB6 := Lib.hid (HB5.out.trans (hb6.mono HB5.out.size))
        clear hb6
        go_wp2_with fail
        refine (C3.out _ HB6.out).mono ?_
        rintro e w7 ⟨rfl, hb7⟩
        have HB7 := Lib.hid (HB6.out.trans (hb7.mono HB6.out.size))
        clear hb7
        go_wp2_with fail
        refine (C4.out _ HB7.out).mono ?_
        rintro e w8 ⟨rfl, hb8⟩
        have HB8 := Lib.hid (HB7.out.trans (hb8.mono HB7.out.size))
        clear hb8
        go_wp2_with fail
        go_ret
        exact ⟨rfl, HB4.out.trans (HB8.out.mono HB4.out.size)⟩
      | false =>
        clear f1 f2
        generalize tagL l c false = TL at *
        generalize tagL r d false = TR at *
        generalize (frontP TL).1 = x1 at *
        generalize (frontP TL).2 = x2 at *
        generalize (frontP TR).1 = x3 at *
        generalize (frontP TR).2 = x4 at *
        simp only [Bool.false_eq_true, if_false] at C1 C2 C3 C4 ⊢
        obtain ⟨N, hN⟩ : ∃ N, N = len + 32 := ⟨_, rfl⟩
        rw [← hN] at C1 C2 C3 C4 ⊢
        clear hN
        have q1 : ((N : Int) == (N : Int)) = true := by simp
        go_wp2_with fail
        refine C1.out.mono ?_
        rintro e w5 ⟨rfl, hb5⟩
        have HB5 := Lib.hid hb5
        clear hb5
        go_wp2_with fail
        refine (C2.out _ HB5.out).mono ?_
        rintro e w6 ⟨rfl, hb6⟩
        have HB6 := Lib.hid (HB5.out.trans (hb6.mono HB5.out.size))
        clear hb6
        go_wp2_with fail
        refine (C3.out _ HB6.out).mono ?_
        rintro e w7 ⟨rfl, hb7⟩
        have HB7 := Lib.hid (HB6.out.trans (hb7.mono HB6.out.size))
        clear hb7
        go_wp2_with fail
        refine (C4.out _ HB7.out).mono ?_
        rintro e w8 ⟨rfl, hb8⟩
        have HB8 := Lib.hid (HB7.out.trans (hb8.mono HB7.out.size))
        clear hb8
        go_wp2_with fail
        go_ret
        exact ⟨rfl, HB4.out.trans (HB8.out.mono HB4.out.size)⟩
end Go.Proofs.Ytgdchcaglkeghaa
