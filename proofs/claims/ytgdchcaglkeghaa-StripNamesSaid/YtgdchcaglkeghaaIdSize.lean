/- The walk of idthree.Size. -/
import Derived.Test.YtgdchcaglkeghaaHasPrefix
import Derived.Test.YtgdchcaglkeghaaIdNum
import Derived.Deep.RegionHeld3
import Derived.Deep.DeepCutAuto
import Derived.Deep.QuietTactic
import Derived.BigQuiet
namespace Go.Proofs.Ytgdchcaglkeghaa
open Go.RowKit

/-- May a version have these flags? -/
def fitsB (ver fl : Nat) : Bool := if fl = 0 then decide (2 ≤ ver ∧ ver ≤ 4) else if fl = 16 then decide (ver = 4) else false
/-- The bytes of ID3. -/
def id3 : List UInt8 := [73, 68, 51]
/-- The foot of a tag of n bytes. -/
def footB (l : List UInt8) (n : Nat) : Bool := ((l.take n).drop (n - 10)).take 3 == [51, 68, 73] && ((l.take n).drop (n - 10)).drop 3 == (l.take 10).drop 3
/-- The size that the head tells. -/
def headN (l : List UInt8) : Nat := vl ((l.take 10).drop 6) + 10 + (if (l.getD 5 0).toNat = 16 then 10 else 0)
/-- Is the head well formed? -/
def headB (l : List UInt8) : Bool := decide ((idvP ((l.take 10).drop 6)).2 = 0) && decide ((l.getD 4 0).toNat = 0) && fitsB (l.getD 3 0).toNat (l.getD 5 0).toNat
/-- What Size answers. -/
def sizP (l : List UInt8) : Int × Int :=
  if hp l id3 = false then (0, 6)
  else if l.length < 10 then (0, 24)
  else if headB l = false then (0, 12)
  else if 4000 < headN l then (0, 4)
  else if l.length < headN l then (0, 24)
  else if (l.getD 5 0).toNat = 16 ∧ footB l (headN l) = false then (0, 12)
  else ((headN l : Int), 0)

set_option maxHeartbeats 400000 in
theorem fits_clo (g4 g5 : Nat) (ver fl : UInt8) (w : World) (h4 : w.cell? ⟨g4, 0, none⟩ = some (.int .u8 (ver.toNat : Int))) (h5 : w.cell? ⟨g5, 0, none⟩ = some (.int .u8 (fl.toNat : Int))) :
    Calls Try.prog 71 #[.pointer (some ⟨g5, 0, none⟩), .pointer (some ⟨g4, 0, none⟩)] w fun e w' => e = .returned (.bool (fitsB ver.toNat fl.toNat)) ∧ w = w' := by
  by_cases h0 : fl.toNat = 0
  · have b0 : ((fl.toNat : Int) == 0) = true := by rw [beq_iff_eq]; omega
    by_cases hv : 2 ≤ ver.toNat
    · by_cases hv2 : ver.toNat ≤ 4
      · have HP : Hid (fitsB ver.toNat fl.toNat = true) := Lib.hid (by unfold fitsB; rw [if_pos h0]; simp; omega)
        have b1 : decide ((2 : Int) ≤ (ver.toNat : Int)) = true := by simp; omega
        have b2 : decide ((ver.toNat : Int) ≤ 4) = true := by simp; omega
        clear h0 hv hv2
        go_enter Try.func71, Try.ntmps71
        go_wp2
        go_ret
        exact ⟨by rw [HP.out]; rfl, rfl⟩
      · have HP : Hid (fitsB ver.toNat fl.toNat = false) := Lib.hid (by unfold fitsB; rw [if_pos h0]; simp; omega)
        have b1 : decide ((2 : Int) ≤ (ver.toNat : Int)) = true := by simp; omega
        have b2 : decide ((ver.toNat : Int) ≤ 4) = false := by simp; omega
        clear h0 hv hv2
        go_enter Try.func71, Try.ntmps71
        go_wp2
        go_ret
        exact ⟨by rw [HP.out]; rfl, rfl⟩
    · have HP : Hid (fitsB ver.toNat fl.toNat = false) := Lib.hid (by unfold fitsB; rw [if_pos h0]; simp; omega)
      have b1 : decide ((2 : Int) ≤ (ver.toNat : Int)) = false := by simp; omega
      clear h0 hv
      go_enter Try.func71, Try.ntmps71
      go_wp2
      go_ret
      exact ⟨by rw [HP.out]; rfl, rfl⟩
  · have b0 : ((fl.toNat : Int) == 0) = false := beq_eq_false_iff_ne.2 (by omega)
    by_cases h16 : fl.toNat = 16
    · have b1 : ((fl.toNat : Int) == 16) = true := by rw [beq_iff_eq]; omega
      have HP : Hid (fitsB ver.toNat fl.toNat = ((ver.toNat : Int) == 4)) := Lib.hid (by
        unfold fitsB; rw [if_neg h0, if_pos h16, Bool.eq_iff_iff]; simp; omega)
      clear h0 h16
      go_enter Try.func71, Try.ntmps71
      go_wp2
      go_ret
      exact ⟨by rw [HP.out]; rfl, rfl⟩
    · have b1 : ((fl.toNat : Int) == 16) = false := beq_eq_false_iff_ne.2 (by omega)
      have HP : Hid (fitsB ver.toNat fl.toNat = false) := Lib.hid (by unfold fitsB; rw [if_neg h0, if_neg h16])
      clear h0 h16
      go_enter Try.func71, Try.ntmps71
      go_wp2
      go_ret
      exact ⟨by rw [HP.out]; rfl, rfl⟩

theorem cell2 (w : World) (x y : Value) (t : TypeId) : ((w.alloc (.cells #[x] t)).alloc (.cells #[y] t)).cell? ⟨w.heap.size, 0, none⟩ = some x ∧ ((w.alloc (.cells #[x] t)).alloc (.cells #[y] t)).cell? ⟨w.heap.size + 1, 0, none⟩ = some y := by
  constructor
  · rw [World.cell?_alloc_lt _ _ _ (by simp), World.cell?_alloc_at _ _ _ _ rfl]; rfl
  · have : w.heap.size + 1 = (w.alloc (.cells #[x] t)).heap.size := by simp
    rw [this, World.cell?_alloc_at _ _ _ _ rfl]; rfl
theorem quiet_left' {P : Program} {f : FuncId} {args : Array Value} {w : World} {n : Nat} {v : Value}
    (h : Calls P f args (w.drewN n) fun e w' => e = .returned v ∧ w.drewN n = w') : Calls P f args (w.drewN n) fun e w'' => e = .returned v ∧ ∃ m, w'' = w.drewN m :=
  h.mono fun _ _ ⟨he, hm⟩ => ⟨he, n, hm.symm⟩

theorem idv_form (l : List UInt8) (h4 : l.length = 4) : ∃ v1 v2 : Int, idvP l = (v1, v2) ∧ (v2 = 0 → v1 = (vl l : Int) ∧ vl l < 268435456) := by
  by_cases hall : ∀ c ∈ l, c.toNat ≤ 127
  · refine ⟨(vl l : Int), 0, by unfold idvP; rw [if_pos h4, if_pos hall], fun _ => ⟨rfl, ?_⟩⟩
    have := vl_lt _ hall
    rw [h4] at this
    exact this
  · exact ⟨0, 12, by unfold idvP; rw [if_pos h4, if_neg hall], fun h => by simp at h⟩

set_option maxRecDepth 100000 in
set_option maxHeartbeats 2000000 in
theorem idsize_any (a : Option Addr) (len cap : Nat) (l : List UInt8) (w : World) (ha : BArg w a len cap l) :
    Calls Try.prog 65 #[.slice a len cap] w fun e w' => e = .returned (.tuple #[.int .i64 (sizP l).1, .int .i64 (sizP l).2]) ∧ Below w.heap.size w w' := by
  have hll := ha.len_eq
  have hlc := ha.le
  have hcs := ha.small
  have HA := Lib.hid ha
  have HL := Lib.hid hll
  have kc := fun (w : World) (C : Array Value) (n c : Nat) => Lib.run_convert_bytes_const (P := Try.prog) w 22 5 C n c Try.underlying22 Try.underlying5
  clear ha hll
  go_enter Try.func65, Try.ntmps65
  go_wp2_with fail
  obtain ⟨w1, hw1⟩ : ∃ w1, w1 = w.alloc (.cells #[.int .u8 73, .int .u8 68, .int .u8 51] 5 (3, 4)) := ⟨_, rfl⟩
  rw [← hw1]
  have HB1 : Hid (Below w.heap.size w w1) := Lib.hid (by rw [hw1]; exact (Below.refl _ _).alloc (Nat.le_refl _) _)
  have HP1 : Hid (BArg w1 (some ⟨w.heap.size, 0, none⟩) 3 3 id3) := Lib.hid (by rw [hw1]; exact BArg.lit w id3 3 rfl (by omega) _ _ _ rfl)
  have HA1 := Lib.hid (HA.out.below HB1.out)
  clear hw1 kc
  refine (hasPrefix_any a len cap l _ 3 3 id3 _ HA1.out HP1.out).mono ?_
  rintro e w2 ⟨rfl, rfl⟩
  cases hpre : hp l id3 with
  | false =>
    have HS : Hid (sizP l = (0, 6)) := Lib.hid (by unfold sizP; rw [if_pos hpre])
    clear hpre
    go_wp2_with fail
    go_ret2
    exact ⟨by rw [HS.out]; rfl, HB1.out⟩
  | true =>
    have HQ := Lib.hid hpre
    clear hpre
    by_cases h10 : len < 10
    · have HS : Hid (sizP l = (0, 24)) := Lib.hid (by unfold sizP; rw [if_neg (by rw [HQ.out]; simp), if_pos (by rw [HL.out]; exact h10)])
      go_wp2_with fail
      go_ret2
      exact ⟨by rw [HS.out]; rfl, HB1.out⟩
    · obtain ⟨ad, c3, hae, hs3, hblk, hl3, hc3⟩ := HA1.out.at_ (k := 3) (by omega)
      subst hae
      obtain ⟨ad', c4, hae, _, _, hl4, hc4⟩ := HA1.out.at_ (k := 4) (by omega)
      injection hae with hae
      subst hae
      obtain ⟨ad', c5, hae, _, _, hl5, hc5⟩ := HA1.out.at_ (k := 5) (by omega)
      injection hae with hae
      subst hae
      have HG3 : Hid (l.getD 3 0 = c3) := Lib.hid (by simp [List.getD, hl3])
      have HG4 : Hid (l.getD 4 0 = c4) := Lib.hid (by simp [List.getD, hl4])
      have HG5 : Hid (l.getD 5 0 = c5) := Lib.hid (by simp [List.getD, hl5])
      have i10 : (10 : Int) ≤ (len : Int) := by omega
      have k3 : (ad.add 3).block < w1.heap.size := by rw [block_of_add]; exact hblk
      have k5 : (ad.add 5).block < w1.heap.size := by rw [block_of_add]; exact hblk
      clear hl3 hl4 hl5 hs3
      go_upto_region 5 with fail
      go_cut [4, 5] (fun s4 s5 wx => ∃ g4 g5 : Nat, s4 = .pointer (some ⟨g4, 0, none⟩) ∧ s5 = .pointer (some ⟨g5, 0, none⟩) ∧ wx.cell? ⟨g4, 0, none⟩ = some (.int .u8 (c3.toNat : Int)) ∧ wx.cell? ⟨g5, 0, none⟩ = some (.int .u8 (c5.toNat : Int)) ∧ Below w1.heap.size w1 wx)
      case first =>
        have i3 : (3 : Int) < (len : Int) := by omega
        have i5 : (5 : Int) < (len : Int) := by omega
        have d3 : w1.cell? ⟨ad.block, ad.off + 3, none⟩ = some (.int .u8 (c3.toNat : Int)) := hc3
        have d5 : w1.cell? ⟨ad.block, ad.off + 5, none⟩ = some (.int .u8 (c5.toNat : Int)) := hc5
        have hne := World.new_ne w1 ⟨ad.block, ad.off + 3, none⟩ d3
        go_region_held3 (fun w' => w'.cell? ⟨ad.block, ad.off + 3, none⟩ = some (.int .u8 (c3.toNat : Int)) ∧ w'.cell? ⟨ad.block, ad.off + 5, none⟩ = some (.int .u8 (c5.toNat : Int))) (go_keep) (fail)
        all_goals go_wp2_with fail
        all_goals go_meet
        · exact ⟨_, _, rfl, rfl, (cell2 w1 _ _ _).1, (cell2 w1 _ _ _).2, (((Below.refl _ _).alloc (Nat.le_refl _) _).alloc (by simp) _).drew⟩
        · exact ⟨_, _, rfl, rfl, (cell2 w1 _ _ _).2, (cell2 w1 _ _ _).1, (((Below.refl _ _).alloc (Nat.le_refl _) _).alloc (by simp) _).drew⟩
      case rest =>
        obtain ⟨g4, g5, rfl, rfl, e4, e5, hbx⟩ := hcut
        have HAx := Lib.hid (HA1.out.below hbx)
        have HBx := Lib.hid (HB1.out.trans (hbx.mono HB1.out.size))
        have f4 : wc.cell? ⟨ad.block, ad.off + 4, none⟩ = some (.int .u8 (c4.toNat : Int)) := (hbx.cell (p := ad.add 4) (by rw [block_of_add]; exact hblk)).trans hc4
        have hcut2 := HAx.out.cut (i := 6) (j := 10) (by omega) (by omega)
        have hn6 : ¬ cap = 6 := by omega
        rw [if_neg hn6] at hcut2
        have HV := Lib.hid hcut2
        clear hcut2 hbx hc3 hc4 hc5 k3 k5 hblk
        go_wp2_with fail
        refine (idval_any _ 4 (cap - 6) _ _ HV.out).mono ?_
        rintro e w2 ⟨rfl, rfl⟩
        have HE4 := Lib.hid e4
        have HE5 := Lib.hid e5
        obtain ⟨v1, v2, hv, hv28⟩ := idv_form ((l.take 10).drop 6) (by simp; rw [HL.out]; omega)
        rw [hv]
        have HH : Hid (headB l = (decide (v2 = 0) && decide (c4.toNat = 0) && fitsB c3.toNat c5.toNat)) := Lib.hid (by unfold headB; rw [hv, HG3.out, HG4.out, HG5.out])
        have HSb : Hid (headB l = false → sizP l = (0, 12)) := Lib.hid (fun h => by
          unfold sizP; rw [if_neg (by rw [HQ.out]; simp), if_neg (by rw [HL.out]; exact h10), if_pos h])
        have HV28 := Lib.hid hv28
        clear hv hv28 e4 e5
        by_cases hv2 : v2 = 0
        · subst hv2
          by_cases h4 : c4.toNat = 0
          · have b4 : ((c4.toNat : Int) != 0) = false := by simp; omega
            cases hf : fitsB c3.toNat c5.toNat with
            | false =>
              have HS := Lib.hid (HSb.out (by rw [HH.out, hf, Bool.and_false]))
              have HF := Lib.hid hf
              clear hf
              go_wp2_with fail
              refine (fits_clo g4 g5 c3 c5 _ HE4.out HE5.out).mono ?_
              rintro e w2 ⟨rfl, rfl⟩
              rw [HF.out]
              go_wp2_with fail
              go_ret2
              exact ⟨by rw [HS.out]; rfl, HBx.out⟩
            | true =>
              have HT : Hid (headB l = true) := Lib.hid (by rw [HH.out, hf, h4]; rfl)
              obtain ⟨hv1, hvl⟩ := HV28.out rfl
              subst hv1
              obtain ⟨v, hv⟩ : ∃ v, v = vl ((l.take 10).drop 6) := ⟨_, rfl⟩
              rw [← hv] at hvl ⊢
              have HVE := Lib.hid hv
              have HF := Lib.hid hf
              clear hf hv h4
              by_cases h16 : c5.toNat = 16
              · have b5 : ((c5.toNat : Int) == 16) = true := by rw [beq_iff_eq]; omega
                have HN : Hid (headN l = v + 10 + 10) := Lib.hid (by unfold headN; rw [HG5.out, if_pos h16, ← HVE.out])
                go_wp2_with fail
                refine (fits_clo g4 g5 c3 c5 _ HE4.out HE5.out).mono ?_
                rintro e w2 ⟨rfl, rfl⟩
                rw [HF.out]
                have e5 := HE5.out
                by_cases hm : 4000 < v + 20
                · have HS : Hid (sizP l = (0, 4)) := Lib.hid (by
                    unfold sizP; rw [if_neg (by rw [HQ.out]; simp), if_neg (by rw [HL.out]; exact h10), if_neg (by rw [HT.out]; simp), if_pos (by rw [HN.out]; omega)])
                  go_wp2_with fail
                  go_ret2
                  exact ⟨by rw [HS.out]; rfl, HBx.out⟩
                · by_cases hlen : len < v + 20
                  · have HS : Hid (sizP l = (0, 24)) := Lib.hid (by
                      unfold sizP; rw [if_neg (by rw [HQ.out]; simp), if_neg (by rw [HL.out]; exact h10), if_neg (by rw [HT.out]; simp), if_neg (by rw [HN.out]; omega), if_pos (by rw [HN.out, HL.out]; omega)])
                    go_wp2_with fail
                    go_ret2
                    exact ⟨by rw [HS.out]; rfl, HBx.out⟩
                  · have HS : Hid (sizP l = if footB l (v + 20) = false then (0, 12) else (((v + 20 : Nat) : Int), 0)) := Lib.hid (by
                      unfold sizP
                      rw [if_neg (by rw [HQ.out]; simp), if_neg (by rw [HL.out]; exact h10), if_neg (by rw [HT.out]; simp), if_neg (by rw [HN.out]; omega), if_neg (by rw [HN.out, HL.out]; omega), HG5.out, HN.out]
                      by_cases hfo : footB l (v + 20) = false
                      · rw [if_pos ⟨h16, hfo⟩, if_pos hfo]
                      · rw [if_neg (fun h => hfo h.2), if_neg hfo])
                    have hFc := HAx.out.cut (i := v + 10) (j := v + 20) (by omega) (by omega)
                    rw [if_neg (by omega), show v + 20 - (v + 10) = 10 by omega] at hFc
                    have hB7 := HAx.out.cut (i := 3) (j := 10) (by omega) (by omega)
                    rw [if_neg (by omega)] at hB7
                    have HFO : Hid (footB l (v + 20) = (((l.take (v + 20)).drop (v + 10)).take 3 == [51, 68, 73] && ((l.take (v + 20)).drop (v + 10)).drop 3 == (l.take 10).drop 3)) := Lib.hid (by
                      unfold footB; rw [show v + 20 - 10 = v + 10 by omega])
                    generalize (l.take (v + 20)).drop (v + 10) = F at hFc HFO
                    generalize (l.take 10).drop 3 = B7 at hB7 HFO
                    have hF10 := hFc.len_eq
                    have hC1 := hFc.le
                    have hC2 := hFc.small
                    have hF3 := hFc.upto (k := 3) (by omega)
                    have hF7 := hFc.cut (i := 3) (j := 10) (by omega) (by omega)
                    have hcn : ¬ cap - (v + 10) = 3 := by omega
                    rw [if_neg hcn, List.take_of_length_le (by omega)] at hF7
                    go_upto_region 19 with fail
                    rw [show v + 10 + 10 - (v + 10) = 10 by omega]
                    simp only [Option.map_some] at hFc hF3 hF7 hB7
                    obtain ⟨adf, hadf⟩ : ∃ adf, adf = ad.add (v + 10) := ⟨_, rfl⟩
                    rw [← hadf] at hFc hF3 hF7 ⊢
                    obtain ⟨C, hC⟩ : ∃ C, C = cap - (v + 10) := ⟨_, rfl⟩
                    rw [← hC] at hFc hF3 hF7 hC1 hC2 hcn ⊢
                    have H3 := Lib.hid hF3
                    have H7 := Lib.hid hF7
                    have HB7 := Lib.hid hB7
                    have hC3 : 3 ≤ C := by omega
                    have hC10 : 10 ≤ C := by omega
                    have hcn3 : ¬ cap = 3 := by omega
                    have hc10 : 10 ≤ cap := by omega
                    clear hadf hC hFc hF3 hF7 hB7 hF10
                    have t3 := fun n => (H3.out.drewN n).text
                    cases hT : (F.take 3 == [51, 68, 73]) with
                    | false =>
                      rw [hT, Bool.false_and] at HFO
                      rw [if_pos HFO.out] at HS
                      have x3 : (F.take 3 != [51, 68, 73]) = true := by rw [bne, hT]; rfl
                      generalize F.take 3 = T3 at *
                      go_quiet (fail)
                      go_wp2_with fail
                      go_ret2
                      exact ⟨by rw [HS.out]; rfl, below_drewN' HBx.out _⟩
                    | true =>
                      rw [hT, Bool.true_and] at HFO
                      have x3 : (F.take 3 != [51, 68, 73]) = false := by rw [bne, hT]; rfl
                      generalize F.take 3 = T3 at *
                      generalize F.drop 3 = R7 at *
                      cases hE : (R7 == B7) with
                      | false =>
                        rw [hE] at HFO
                        rw [if_pos HFO.out] at HS
                        have HQE := Lib.hid (fun n => equal_any _ 7 (C - 3) R7 _ 7 (cap - 3) B7 (wc.drewN n) (H7.out.drewN n) (HB7.out.drewN n))
                        rw [hE] at HQE
                        clear hE
                        go_quiet ((go_at_call 51; exact quiet_left' (HQE.out _)))
                        go_wp2_with fail
                        go_ret2
                        exact ⟨by rw [HS.out]; rfl, below_drewN' HBx.out _⟩
                      | true =>
                        rw [hE] at HFO
                        rw [if_neg (by rw [HFO.out]; simp)] at HS
                        have HQE := Lib.hid (fun n => equal_any _ 7 (C - 3) R7 _ 7 (cap - 3) B7 (wc.drewN n) (H7.out.drewN n) (HB7.out.drewN n))
                        rw [hE] at HQE
                        clear hE
                        go_quiet ((go_at_call 51; exact quiet_left' (HQE.out _)))
                        go_wp2_with fail
                        go_ret2
                        exact ⟨by rw [HS.out]; rfl, below_drewN' HBx.out _⟩
              · have b5 : ((c5.toNat : Int) == 16) = false := beq_eq_false_iff_ne.2 (by omega)
                have HN : Hid (headN l = v + 10) := Lib.hid (by unfold headN; rw [HG5.out, if_neg h16, ← HVE.out])
                go_wp2_with fail
                refine (fits_clo g4 g5 c3 c5 _ HE4.out HE5.out).mono ?_
                rintro e w2 ⟨rfl, rfl⟩
                rw [HF.out]
                have e5 := HE5.out
                by_cases hm : 4000 < v + 10
                · have HS : Hid (sizP l = (0, 4)) := Lib.hid (by
                    unfold sizP; rw [if_neg (by rw [HQ.out]; simp), if_neg (by rw [HL.out]; exact h10), if_neg (by rw [HT.out]; simp), if_pos (by rw [HN.out]; omega)])
                  go_wp2_with fail
                  go_ret2
                  exact ⟨by rw [HS.out]; rfl, HBx.out⟩
                · by_cases hlen : len < v + 10
                  · have HS : Hid (sizP l = (0, 24)) := Lib.hid (by
                      unfold sizP; rw [if_neg (by rw [HQ.out]; simp), if_neg (by rw [HL.out]; exact h10), if_neg (by rw [HT.out]; simp), if_neg (by rw [HN.out]; omega), if_pos (by rw [HN.out, HL.out]; omega)])
                    go_wp2_with fail
                    go_ret2
                    exact ⟨by rw [HS.out]; rfl, HBx.out⟩
                  · have HS : Hid (sizP l = (((v + 10 : Nat) : Int), 0)) := Lib.hid (by
                      unfold sizP
                      rw [if_neg (by rw [HQ.out]; simp), if_neg (by rw [HL.out]; exact h10), if_neg (by rw [HT.out]; simp), if_neg (by rw [HN.out]; omega), if_neg (by rw [HN.out, HL.out]; omega), if_neg (fun h => h16 (by rw [← HG5.out]; exact h.1)), HN.out])
                    go_wp2_with fail
                    go_ret2
                    exact ⟨by rw [HS.out]; rfl, HBx.out⟩
          · have b4 : ((c4.toNat : Int) != 0) = true := by simp; omega
            have HS := Lib.hid (HSb.out (by rw [HH.out, decide_eq_false h4]; simp))
            clear h4
            go_wp2_with fail
            go_ret2
            exact ⟨by rw [HS.out]; rfl, HBx.out⟩
        · have b2 : (v2 != 0) = true := by simpa using hv2
          have HS := Lib.hid (HSb.out (by rw [HH.out, decide_eq_false hv2]; simp))
          clear hv2
          go_wp2_with fail
          go_ret2
          exact ⟨by rw [HS.out]; rfl, HBx.out⟩
end Go.Proofs.Ytgdchcaglkeghaa
