/- The walks of the reference's Parts and Front. -/
import Derived.Test.YtgdchcaglkeghaaStrInts
import Derived.Test.YtgdchcaglkeghaaIdRSize
import Derived.Test.YtgdchcaglkeghaaApeRefC
namespace Go.Proofs.Ytgdchcaglkeghaa
open Go.RowKit
attribute [local go_sem ↓] Go.wp_at_zero Go.wp_at_succ

theorem siz_nil : sizP [] = (0, 6) := by decide +kernel
theorem front_nil : frontP [] = (0, 6) := by decide +kernel
/-- The relation of the loop over the tags in front. -/
def LoopT (bs : List UInt8) (w : World) (p : Nat) (pre : List (Int × Int)) (v : Value) (wr : World) : Prop :=
  sq bs 0 = pre ++ sq bs p ∧ (∀ x ∈ pre, x.2 = 0) ∧ IOwns wr w.heap.size v (pre.map (·.1)) ∧ Below w.heap.size w wr
theorem pts_end (bs : List UInt8) (p : Nat) (pre : List (Int × Int)) (h : sq bs 0 = pre ++ sq bs p) (hz : ∀ x ∈ pre, x.2 = 0) (h0 : sq bs p = []) : ptsL bs = pre.map (·.1) ∧ ptsE bs = 0 := by
  rw [h0, List.append_nil] at h
  have he : sqE (sq bs 0) = 0 := by rw [h]; exact sqE_zero _ hz
  unfold ptsL ptsE
  rw [he, if_pos rfl, h]
  exact ⟨rfl, rfl⟩
theorem pts_bad (bs : List UInt8) (p : Nat) (pre : List (Int × Int)) (x : Int × Int) (h : sq bs 0 = pre ++ sq bs p) (hz : ∀ x ∈ pre, x.2 = 0) (h0 : sq bs p = [x]) (hx : x.2 ≠ 0) : ptsL bs = [] ∧ ptsE bs = x.2 := by
  rw [h0] at h
  have he : sqE (sq bs 0) = x.2 := by rw [h]; have := sqE_hit pre [] x hz hx; rwa [List.append_nil] at this
  unfold ptsL ptsE
  rw [he, if_neg hx]
  exact ⟨rfl, rfl⟩

set_option maxRecDepth 100000 in
set_option maxHeartbeats 4000000 in
theorem rparts_any (a : Option Addr) (len cap : Nat) (bs : List UInt8) (w : World) (ha : BArg w a len cap bs) :
    Calls Try.prog 39 #[.slice a len cap] w fun e W' => ∃ v, e = .returned (.tuple #[v, .int .i64 (ptsE bs)]) ∧ IOwns W' w.heap.size v (ptsL bs) ∧ Below w.heap.size w W' := by
  have hsl := sq_len bs bs.length 0 (by omega) (by omega) (by omega)
  obtain ⟨i0, hi, hz0, hz1, hz2⟩ := info_parts infoInt
  have hlc := ha.le
  have hcs := ha.small
  have HA := Lib.hid ha
  have HL := Lib.hid ha.len_eq
  have HI := Lib.hid hi
  clear ha hi
  go_enter Try.func39, Try.ntmps39
  go_wp2_with fail
  go_loopw [4, 5] (fun s i wr => ∃ (p : Nat) (pre : List (Int × Int)) (A : Option Addr) (n c : Nat), p ≤ len ∧ p ≤ 4000 ∧ s = .slice A n c ∧ i = .int .i64 p ∧ Hid (LoopT bs w p pre (.slice A n c) wr)) (fun _ i _ => 4001 - (intOf i).toNat)
  case atStart => exact ⟨0, [], none, 0, 0, by omega, by omega, rfl, rfl, Lib.hid ⟨rfl, (fun x hx => by cases hx), IOwns.nil _ _, Below.refl _ _⟩⟩
  case round =>
    obtain ⟨p, pre, A, n, c, hpl, hp4, rfl, rfl, HLT⟩ := hrel
    have hAr := HA.out.below HLT.out.2.2.2
    by_cases hcp : cap = p
    · have hcut := hAr.from_ hpl
      have hnil : bs.drop p = [] := List.drop_eq_nil_of_le (by rw [HL.out]; omega)
      rw [if_pos hcp, show len - p = 0 by omega, show cap - p = 0 by omega, hnil] at hcut
      have HE := Lib.hid (pts_end bs p pre HLT.out.1 HLT.out.2.1 (sq_end bs p (by rw [HL.out]; exact hpl) (by rw [hnil]; exact tag_nil)))
      have HC := Lib.hid hcut
      have C1 := Lib.hid (rsize_any _ 0 0 [] wr hcut)
      rw [siz_nil] at C1
      obtain rfl : p = len := by omega
      obtain rfl : cap = p := hcp
      clear hcut hAr hnil
      go_wp2_with fail
      refine C1.out.mono ?_
      rintro e w2 ⟨rfl, hb⟩
      have C2 := Lib.hid (rfront_any _ 0 0 [] w2 (HC.out.below hb))
      rw [front_nil] at C2
      have HLT2 : Hid (LoopT bs w cap pre (.slice A n c) w2) := Lib.hid ⟨HLT.out.1, HLT.out.2.1, HLT.out.2.2.1.below hb, HLT.out.2.2.2.trans (hb.mono HLT.out.2.2.2.size)⟩
      clear hb
      go_wp2_with fail
      refine C2.out.mono ?_
      rintro e w3 ⟨rfl, hb⟩
      have HLT3 : Hid (LoopT bs w cap pre (.slice A n c) w3) := Lib.hid ⟨HLT2.out.1, HLT2.out.2.1, HLT2.out.2.2.1.below hb, HLT2.out.2.2.2.trans (hb.mono HLT2.out.2.2.2.size)⟩
      clear hb
      go_wp2_with fail
      go_ret2
      exact ⟨.slice A n c, by rw [HE.out.2]; rfl, by rw [HE.out.1]; exact HLT3.out.2.2.1, HLT3.out.2.2.2⟩
    · have hcut := hAr.from_ hpl
      rw [if_neg hcp] at hcut
      obtain ⟨ad, rfl⟩ : ∃ ad, a = some ad := by
        cases a with
        | none => have := hAr.nil rfl; omega
        | some ad => exact ⟨ad, rfl⟩
      simp only [Option.map_some] at hcut
      have hd : (bs.drop p).length = len - p := by rw [List.length_drop, HL.out]
      have HC := Lib.hid hcut
      have C1 := Lib.hid (rsize_any _ _ _ _ wr hcut)
      clear hcut hAr
      by_cases h6 : (sizP (bs.drop p)).2 = 6
      · have HT : Hid (tagP (bs.drop p) = frontP (bs.drop p)) := Lib.hid (by unfold tagP; rw [if_pos h6])
        rw [h6] at C1
        generalize (sizP (bs.drop p)).1 = s1 at C1
        clear h6
        go_wp2_with fail
        refine C1.out.mono ?_
        rintro e w1 ⟨rfl, hb⟩
        have C2 := Lib.hid (rfront_any _ _ _ _ w1 (HC.out.below hb))
        have HLT1 : Hid (LoopT bs w p pre (.slice A n c) w1) := Lib.hid ⟨HLT.out.1, HLT.out.2.1, HLT.out.2.2.1.below hb, HLT.out.2.2.2.trans (hb.mono HLT.out.2.2.2.size)⟩
        clear hb HC
        rcases front_cases (bs.drop p) with ⟨m, e, h10, hm, hm4⟩ | ⟨e, he, h1, h2⟩
        · rw [e] at C2 HT
          rw [hd] at hm
          have hwr : IntKind.i64.wrap ((p : Int) + (m : Int)) = (p : Int) + (m : Int) := by rw [IntKind.wrap_i64]; omega
          by_cases hbig : 4000 < p + m
          · have HE := Lib.hid (pts_bad bs p pre _ HLT.out.1 HLT.out.2.1 (sq_many bs p (by rw [HL.out]; exact hpl) m HT.out hbig) (show (4 : Int) ≠ 0 by decide))
            clear e
            go_wp2_with fail
            refine C2.out.mono ?_
            rintro e w2 ⟨rfl, hb⟩
            have HB2 := Lib.hid (HLT1.out.2.2.2.trans (hb.mono HLT1.out.2.2.2.size))
            clear hb
            go_wp2_with fail
            go_ret2
            exact ⟨.slice none 0 0, by rw [HE.out.2]; rfl, by rw [HE.out.1]; exact IOwns.nil _ _, HB2.out⟩
          · have HN := Lib.hid (sq_next bs p m HT.out (by rw [HL.out]; omega) (by omega))
            have hpre : pre.length + 1 ≤ 4001 := by
              have := congrArg List.length (HLT.out.1.trans (congrArg (pre ++ ·) HN.out))
              simp at this
              omega
            clear e
            go_wp2_with fail
            refine C2.out.mono ?_
            rintro e w2 ⟨rfl, hb⟩
            have HB2 := Lib.hid (HLT1.out.2.2.2.trans (hb.mono HLT1.out.2.2.2.size))
            have HR2 := Lib.hid (HLT1.out.2.2.1.below hb)
            clear hb
            have hi := HI.out
            have hs2 := HB2.out.size
            go_wp2_with (at_builtin; refine wpList_append_own _ rfl _ _ 38 rfl w.heap.size 3 i0 (.int .i64 0) 1 8 Try.underlying38 hi hz0 hz1 hz2 rfl (by decide) _ _ _ rfl (World.ownsRow.alloc HR2.out _) ⟨w2.heap.size, 0, none⟩ 1 1 [.int .i64 (m : Int)] rfl rfl (cell_one_new _ _ _) (by simp [Value.oneCell']) (by rw [List.length_map]; unfold maxLen; omega) (by rw [List.length_map]; omega) (by simp; omega) ?_; intro v' w3 hown' hgrow _; obtain ⟨A', n', c', rfl⟩ := row_form hown'; have HO3 := Lib.hid hown'; have HG3 := Lib.hid hgrow; clear hown' hgrow)
            go_roundw
            case rel =>
              refine ⟨p + m, pre ++ [((m : Int), 0)], A', n', c', by omega, by omega, rfl, by go_num, Lib.hid ⟨by rw [HLT.out.1, HN.out]; simp, ?_, ?_, ?_⟩⟩
              · intro y hy
                rcases List.mem_append.1 hy with h | h
                · exact HLT.out.2.1 y h
                · rw [List.mem_singleton.1 h]
              · have := HO3.out
                unfold IOwns
                simpa [vi] using this
              · exact (HB2.out.alloc HB2.out.size _).grown HG3.out (by simp; omega) (fun k hk => (World.ownsRow.lt HR2.out k hk).1)
            case measure => simp [intOf]; omega
        · rw [he] at C2 HT
          by_cases h6 : e = 6
          · subst h6
            have HE := Lib.hid (pts_end bs p pre HLT.out.1 HLT.out.2.1 (sq_end bs p (by rw [HL.out]; exact hpl) (by rw [HT.out])))
            clear he
            go_wp2_with fail
            refine C2.out.mono ?_
            rintro e w2 ⟨rfl, hb⟩
            have HLT2 : Hid (LoopT bs w p pre (.slice A n c) w2) := Lib.hid ⟨HLT1.out.1, HLT1.out.2.1, HLT1.out.2.2.1.below hb, HLT1.out.2.2.2.trans (hb.mono HLT1.out.2.2.2.size)⟩
            clear hb
            go_wp2_with fail
            go_ret2
            exact ⟨.slice A n c, by rw [HE.out.2]; rfl, by rw [HE.out.1]; exact HLT2.out.2.2.1, HLT2.out.2.2.2⟩
          · have HE := Lib.hid (pts_bad bs p pre _ HLT.out.1 HLT.out.2.1 (sq_bad bs p (by rw [HL.out]; exact hpl) e HT.out h6 (by omega)) (by show ¬ e = 0; omega))
            have b6 : (e == 6) = false := beq_eq_false_iff_ne.2 h6
            have n0 : (e != 0) = true := by simp; omega
            clear he h6
            go_wp2_with fail
            refine C2.out.mono ?_
            rintro e9 w2 ⟨rfl, hb⟩
            have HB2 := Lib.hid (HLT1.out.2.2.2.trans (hb.mono HLT1.out.2.2.2.size))
            clear hb
            go_wp2_with fail
            go_ret2
            exact ⟨.slice none 0 0, by rw [HE.out.2]; rfl, by rw [HE.out.1]; exact IOwns.nil _ _, HB2.out⟩
      · have HT : Hid (tagP (bs.drop p) = sizP (bs.drop p)) := Lib.hid (by unfold tagP; rw [if_neg h6])
        have C2 := C1
        have HLT1 := HLT
        clear C1 HC
        rcases siz_cases (bs.drop p) with ⟨m, e, h10, hm, hm4⟩ | ⟨e, he, h1, h2⟩
        · rw [e] at C2 HT h6
          rw [hd] at hm
          have hwr : IntKind.i64.wrap ((p : Int) + (m : Int)) = (p : Int) + (m : Int) := by rw [IntKind.wrap_i64]; omega
          by_cases hbig : 4000 < p + m
          · have HE := Lib.hid (pts_bad bs p pre _ HLT.out.1 HLT.out.2.1 (sq_many bs p (by rw [HL.out]; exact hpl) m HT.out hbig) (show (4 : Int) ≠ 0 by decide))
            clear e h6
            go_wp2_with fail
            refine C2.out.mono ?_
            rintro e w2 ⟨rfl, hb⟩
            have HB2 := Lib.hid (HLT1.out.2.2.2.trans (hb.mono HLT1.out.2.2.2.size))
            clear hb
            go_wp2_with fail
            go_ret2
            exact ⟨.slice none 0 0, by rw [HE.out.2]; rfl, by rw [HE.out.1]; exact IOwns.nil _ _, HB2.out⟩
          · have HN := Lib.hid (sq_next bs p m HT.out (by rw [HL.out]; omega) (by omega))
            have hpre : pre.length + 1 ≤ 4001 := by
              have := congrArg List.length (HLT.out.1.trans (congrArg (pre ++ ·) HN.out))
              simp at this
              omega
            clear e h6
            go_wp2_with fail
            refine C2.out.mono ?_
            rintro e w2 ⟨rfl, hb⟩
            have HB2 := Lib.hid (HLT1.out.2.2.2.trans (hb.mono HLT1.out.2.2.2.size))
            have HR2 := Lib.hid (HLT1.out.2.2.1.below hb)
            clear hb
            have hi := HI.out
            have hs2 := HB2.out.size
            go_wp2_with (at_builtin; refine wpList_append_own _ rfl _ _ 38 rfl w.heap.size 3 i0 (.int .i64 0) 1 8 Try.underlying38 hi hz0 hz1 hz2 rfl (by decide) _ _ _ rfl (World.ownsRow.alloc HR2.out _) ⟨w2.heap.size, 0, none⟩ 1 1 [.int .i64 (m : Int)] rfl rfl (cell_one_new _ _ _) (by simp [Value.oneCell']) (by rw [List.length_map]; unfold maxLen; omega) (by rw [List.length_map]; omega) (by simp; omega) ?_; intro v' w3 hown' hgrow _; obtain ⟨A', n', c', rfl⟩ := row_form hown'; have HO3 := Lib.hid hown'; have HG3 := Lib.hid hgrow; clear hown' hgrow)
            go_roundw
            case rel =>
              refine ⟨p + m, pre ++ [((m : Int), 0)], A', n', c', by omega, by omega, rfl, by go_num, Lib.hid ⟨by rw [HLT.out.1, HN.out]; simp, ?_, ?_, ?_⟩⟩
              · intro y hy
                rcases List.mem_append.1 hy with h | h
                · exact HLT.out.2.1 y h
                · rw [List.mem_singleton.1 h]
              · have := HO3.out
                unfold IOwns
                simpa [vi] using this
              · exact (HB2.out.alloc HB2.out.size _).grown HG3.out (by simp; omega) (fun k hk => (World.ownsRow.lt HR2.out k hk).1)
            case measure => simp [intOf]; omega
        · rw [he] at C2 HT h6
          have h6 : e ≠ 6 := h6
          have HE := Lib.hid (pts_bad bs p pre _ HLT.out.1 HLT.out.2.1 (sq_bad bs p (by rw [HL.out]; exact hpl) e HT.out h6 (by omega)) (by show ¬ e = 0; omega))
          have b6 : (e == 6) = false := beq_eq_false_iff_ne.2 h6
          have n0 : (e != 0) = true := by simp; omega
          clear he h6
          go_wp2_with fail
          refine C2.out.mono ?_
          rintro e9 w2 ⟨rfl, hb⟩
          have HB2 := Lib.hid (HLT1.out.2.2.2.trans (hb.mono HLT1.out.2.2.2.size))
          clear hb
          go_wp2_with fail
          go_ret2
          exact ⟨.slice none 0 0, by rw [HE.out.2]; rfl, by rw [HE.out.1]; exact IOwns.nil _ _, HB2.out⟩
end Go.Proofs.Ytgdchcaglkeghaa
