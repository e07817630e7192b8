/- Crc64Sums: the walk. -/
import Derived.Test.YtpfbgldpnjkdkaaCrcAlive
namespace Go.Proofs.Ytpfbgldpnjkdkaa
open Go.RowKit

set_option maxHeartbeats 400000 in
theorem sums_calls (s : Int) (hs : (Lit.int .u64 s).wf = true) (a : Option Addr) (len cap : Nat) (l : List UInt8) (w : World) (ha : BArg w a len cap l) :
    Calls Try.prog 6 #[.int .u64 s, .slice a len cap] w fun e w' => e = .returned (.bool true) ∧ Below w.heap.size w w' := by
  obtain ⟨x, rfl⟩ := u64bv hs
  clear hs
  have hlen := ha.le
  have hcap := ha.small
  have hll := ha.len_eq
  have HA := Lib.hid ha
  clear ha
  cases hg : greatB len with
  | true =>
    have HG := Lib.hid hg
    clear hg
    go_enter Try.func6, Try.ntmps6
    go_wp2_with fail
    refine (great_any a len cap _).mono ?_
    rintro e w1 ⟨rfl, rfl⟩
    rw [HG.out]
    go_wp2_with fail
    go_ret
    exact ⟨rfl, Below.refl _ _⟩
  | false =>
    have HG := Lib.hid hg
    have hsmall : len ≤ 100100 := by simp [greatB] at hg; omega
    obtain ⟨v1, u1, h1⟩ : ∃ v u, nextP x l = .tuple #[.int .u64 v, .int .i64 u] := by unfold nextP; split <;> exact ⟨_, _, rfl⟩
    obtain ⟨v2, u2, h2⟩ : ∃ v u, nextP 0#64 l = .tuple #[.int .u64 v, .int .i64 u] := by unfold nextP; split <;> exact ⟨_, _, rfl⟩
    have H1 := Lib.hid h1
    have H2 := Lib.hid h2
    have HL := Lib.hid hll
    clear hg h1 h2 hll
    go_enter Try.func6, Try.ntmps6
    go_wp2_with fail
    refine (great_any a len cap _).mono ?_
    rintro e w1 ⟨rfl, rfl⟩
    rw [HG.out]
    go_wp2_with (at_builtin; refine wpList_append_bytes rfl (.tmp 16) (.tmp 17) rfl w.heap.size _ [] rfl (Owns.lit0 w _ (Nat.le_refl _)) a len cap l rfl (HA.out.alloc _) len (by simp) (by omega) (by simp) ?_; intro A1 c1 w1 hown1 hgr1 _)
    have hB1 : Below w.heap.size w w1 := below_append ((Below.refl _ _).alloc (Nat.le_refl _) _) (Owns.lit0 w _ (Nat.le_refl _)) (Nat.le_refl _) hgr1
    have HO := Lib.hid hown1.arg
    have HB1 := Lib.hid hB1
    clear hown1 hgr1 hB1
    refine (next_any x A1 len c1 l _ HO.out).mono ?_
    rintro e w2 ⟨rfl, hb2⟩
    have HO2 := Lib.hid (HO.out.below hb2)
    have HB2 := Lib.hid (HB1.out.trans (hb2.mono HB1.out.size))
    clear hb2 HO HB1
    rw [H1.out]
    go_wp2_with fail
    refine (rnext_any x a len cap l _ (HA.out.below HB2.out)).mono ?_
    rintro e w3 ⟨rfl, rfl⟩
    rw [H1.out]
    go_wp2_with fail
    refine (sum_any A1 len c1 l _ HO2.out).mono ?_
    rintro e w3 ⟨rfl, hb3⟩
    have HO3 := Lib.hid (HO2.out.below hb3)
    have HB3 := Lib.hid (HB2.out.trans (hb3.mono HB2.out.size))
    clear hb3 HO2 HB2
    rw [H2.out]
    go_wp2_with fail
    refine (rsum_any a len cap l _ (HA.out.below HB3.out)).mono ?_
    rintro e w4 ⟨rfl, rfl⟩
    rw [H2.out]
    have t1 := HO3.out.text
    have t2 := (HA.out.below HB3.out).text
    have g1 : (v1 == v1) = true := by simp
    have g2 : (u1 == u1) = true := by simp
    have g3 : (v2 == v2) = true := by simp
    have g4 : (u2 == u2) = true := by simp
    go_wp2_with fail
    go_ret
    exact ⟨rfl, HB3.out⟩
end Go.Proofs.Ytpfbgldpnjkdkaa
