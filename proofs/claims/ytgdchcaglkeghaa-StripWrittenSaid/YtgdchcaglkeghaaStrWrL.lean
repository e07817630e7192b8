/- StripWritten: the walk of the law. -/
import Derived.Test.YtgdchcaglkeghaaStrWrM
import Derived.Test.YtgdchcaglkeghaaOpAt
namespace Go.Proofs.Ytgdchcaglkeghaa
open Go.RowKit
attribute [local go_sem ↓] Go.wp_at_zero Go.wp_at_succ

theorem addr_at (g o j : Nat) : (⟨g, o, none⟩ : Addr).add j = ⟨g, o + j, none⟩ := by
  unfold Addr.add
  split <;> simp_all
theorem IArg.narg {w : World} {a : Option Addr} {len cap : Nat} {l : List Int} (h : IArg w a len cap l) : NArg w a len l :=
  ⟨h.len_eq, Nat.le_trans h.le h.small, fun h0 => by
    obtain ⟨⟨g, o, s⟩, e, hs, hb, hc⟩ := h.reads.2 h0
    obtain rfl : s = none := hs
    refine ⟨g, o, e, hb, fun j hj => ?_⟩
    have hl : j < l.length := by have := h.len_eq; omega
    have := hc j (.int .i64 (l.getD j 0)) (by simp [List.getD, List.getElem?_eq_getElem hl])
    rwa [addr_at] at this⟩
theorem BArg.narg {w : World} {a : Option Addr} {len cap : Nat} {l : List UInt8} (h : BArg w a len cap l) (h0 : 0 < len) : ∃ g o, a = some ⟨g, o, none⟩ ∧ g < w.heap.size ∧ ∀ j, j < len → w.cell? ⟨g, o + j, none⟩ = some (.int .u8 ((l.getD j 0).toNat : Int)) := by
  obtain ⟨⟨g, o, s⟩, e, hs, hb, hc⟩ := h.reads.2 h0
  obtain rfl : s = none := hs
  refine ⟨g, o, e, hb, fun j hj => ?_⟩
  have hl : j < l.length := by have := h.len_eq; omega
  have := hc j (.int .u8 ((l.getD j 0).toNat : Int)) (by rw [vb_get, List.getElem?_eq_getElem hl]; simp [List.getD, List.getElem?_eq_getElem hl])
  rwa [addr_at] at this

theorem n3_of {w : World} {B : Nat} {A : Option Addr} {n c : Nat} {L : List Int} (h : IOwns w B (.slice A n c) L) : L.length = n := by
  obtain ⟨A', c', e, _⟩ := h.form
  injection e with _ e _
  exact e.symm
theorem narg_of {w : World} {B : Nat} {A : Option Addr} {n c : Nat} {L : List Int} (h : IOwns w B (.slice A n c) L) : NArg w A n L := by
  obtain ⟨A', c', e, hN⟩ := h.form
  injection e with e1 e2 _
  subst e1
  subst e2
  exact hN
def LoopW (w : World) (k : Nat) (v1 v2 v3 : Value) (x : Nat) (wr : World) : Prop := ∃ al ap wa, Wrt k al ap wa x ∧ Tri w v1 v2 v3 al ap wa wr

set_option maxRecDepth 100000 in
set_option maxHeartbeats 4000000 in
theorem stripwritten_calls (w : World) (a : Option Addr) (len cap : Nat) (l : List Int) (ha : IArg w a len cap l) (a2 : Option Addr) (len2 cap2 : Nat) (r : List UInt8) (ha2 : BArg w a2 len2 cap2 r) :
    Calls Try.prog 5 #[.slice a len cap, .slice a2 len2 cap2] w fun e w' => e = .returned (.bool true) ∧ Below w.heap.size w w' := by
  have kc := fun (w : World) (C : Array Value) (n c : Nat) => Lib.run_convert_bytes_const (P := Try.prog) w 22 5 C n c Try.underlying22 Try.underlying5
  have hs9 : len ≤ 9223372036854775807 := Nat.le_trans ha.le ha.small
  have hs8 : len2 ≤ 9223372036854775807 := Nat.le_trans ha2.le ha2.small
  have HN := Lib.hid ha.narg
  have HK := Lib.hid (fun h0 => ha2.narg h0)
  clear ha ha2
  obtain ⟨i0, hi, hz0, hz1, hz2⟩ := info_parts infoInt
  have HI := Lib.hid hi
  clear hi
  by_cases h10 : 10 < len
  · have d1 : decide ((10 : Int) < (len : Int)) = true := by simp; omega
    go_enter Try.func5, Try.ntmps5
    go_wp2_with fail
    refine (alive30_any _).mono ?_
    rintro e w1 ⟨rfl, hb⟩
    have HB1 := Lib.hid hb
    clear hb
    go_wp2_with fail
    go_ret
    exact ⟨rfl, HB1.out⟩
  · have d1 : decide ((10 : Int) < (len : Int)) = false := by simp; omega
    by_cases hne : len2 = len
    case neg =>
      have d2 : ((len2 : Int) != (len : Int)) = true := by simp; omega
      have d3 : (len2 != len) = true := by simp; omega
      go_enter Try.func5, Try.ntmps5
      go_wp2_with fail
      refine (alive30_any _).mono ?_
      rintro e w1 ⟨rfl, hb⟩
      have HB1 := Lib.hid hb
      clear hb
      go_wp2_with fail
      go_ret
      exact ⟨rfl, HB1.out⟩
    case pos =>
      subst hne
      have d2 : ((len2 : Int) != (len2 : Int)) = false := by simp
      go_enter Try.func5, Try.ntmps5
      go_wp2_with fail
      refine (alive30_any _).mono ?_
      rintro e w1 ⟨rfl, hb⟩
      have HB1 := Lib.hid hb
      clear hb
      go_wp2_with fail
      go_loopw [6, 7, 8, 9, 10] (fun s6 s7 s8 s9 s10 wr => ∃ (k : Nat) (A1 : Option Addr) (n1 c1 : Nat) (A2 : Option Addr) (n2 c2 : Nat) (A3 : Option Addr) (n3 c3 : Nat) (x : Nat), k ≤ len2 ∧ s6 = .slice A1 n1 c1 ∧ s7 = .slice A2 n2 c2 ∧ s8 = .slice A3 n3 c3 ∧ s9 = .int .i64 x ∧ s10 = .int .i64 k ∧ Hid (LoopW w k (.slice A1 n1 c1) (.slice A2 n2 c2) (.slice A3 n3 c3) x wr)) (fun _ _ _ _ i _ => len2 - (intOf i).toNat)
      case atStart => exact ⟨0, none, 0, 0, none, 0, 0, none, 0, 0, 0, by omega, rfl, rfl, rfl, rfl, rfl, Lib.hid ⟨[], [], [], Wrt.start, Tri.start w w1 HB1.out⟩⟩
      case round =>
        clear HB1
        obtain ⟨k, A1, n1, c1, A2, n2, c2, A3, n3, c3, x, hk, rfl, rfl, rfl, rfl, rfl, HL⟩ := hrel
        obtain ⟨al, ap, wa, hw, ht⟩ := HL.out
        have HW := Lib.hid hw
        have HT := Lib.hid ht
        have h1l := HW.out.2.2.1
        have h2l := HW.out.2.2.2.1
        have h3l := HW.out.2.2.2.2.1
        have hxk := HW.out.2.2.2.2.2
        have hn1 := HT.out.o1.len
        have hn2 := HT.out.o2.len
        rw [hn1] at h1l
        rw [hn2] at h2l
        have HL1 := Lib.hid hn1
        have HL2 := Lib.hid hn2
        clear HL hw ht hn1 hn2
        by_cases hlt : k < len2
        · obtain ⟨g, o, rfl, hg, hc⟩ := HN.out.2.2 (by omega)
          obtain ⟨gg, o2, rfl, hg2, hc2⟩ := HK.out (by omega)
          have HC : Hid (∀ w', Below w.heap.size w w' → w'.cell? ⟨g, o + k, none⟩ = some (.int .i64 (l.getD k 0))) := Lib.hid (fun w' h => (h.cell (p := ⟨g, o + k, none⟩) hg).trans (hc k hlt))
          have HD : Hid (∀ w', Below w.heap.size w w' → w'.cell? ⟨gg, o2 + k, none⟩ = some (.int .u8 ((r.getD k 0).toNat : Int))) := Lib.hid (fun w' h => (h.cell (p := ⟨gg, o2 + k, none⟩) hg2).trans (hc2 k hlt))
          clear hc hc2 hg hg2 HN HK
          generalize l.getD k 0 = y at *
          generalize r.getD k 0 = zb at *
          have hzb := zb.toNat_lt
          generalize zb.toNat = z at *
          have e1 := HC.out _ HT.out.below
          have e2 := HD.out _ HT.out.below
          by_cases hy0 : y < 0
          · have g1 : decide (y < 0) = true := decide_eq_true hy0
            go_wp2_with fail
            go_ret
            exact ⟨rfl, HT.out.below⟩
          have g1 : decide (y < 0) = false := decide_eq_false hy0
          by_cases hy5 : 500 < y
          · have g2 : decide (500 < y) = true := decide_eq_true hy5
            go_wp2_with fail
            go_ret
            exact ⟨rfl, HT.out.below⟩
          have g2 : decide (500 < y) = false := decide_eq_false hy5
          obtain ⟨n, rfl⟩ := Int.eq_ofNat_of_zero_le (show 0 ≤ y by omega)
          have hn5 : n ≤ 500 := by omega
          -- rounds
          have hw10 : IntKind.i64.wrap ((n : Int) + 10) = (n : Int) + 10 := by rw [IntKind.wrap_i64]; omega
          have hw64 : IntKind.i64.wrap ((n : Int) + 64) = (n : Int) + 64 := by rw [IntKind.wrap_i64]; omega
          by_cases zz : z % 3 = 0
          · have q0 : ((z : Int) % 3 == 0) = true := beq_iff_eq.2 (by omega)
            have HTL := Lib.hid (frontP_th n hn5 []).2
            have hth : (thL n).length ≤ 510 := by rw [HTL.out]; omega
            have HWN := Lib.hid (HW.out.three n hn5)
            have C3 := Lib.hid (three_any n (by omega) wr)
            generalize thL n = TH at *
            clear HTL HW hw64 zz
            go_wp2_with fail
            refine C3.out.mono ?_
            rintro e w3 ⟨B1, k1, rfl, hb1, hbl⟩
            have T3 := Lib.hid (HT.out.still hbl)
            have HB3 := Lib.hid hb1
            clear hb1 hbl HT e1 e2 C3
            go_wp2_with (first
              | (at_builtin; refine wpList_append_bytes rfl (.tmp 52) (.tmp 57) rfl w.heap.size _ _ rfl T3.out.o1 B1 TH.length k1 TH rfl HB3.out _ (add_len HL1.out) (by omega) T3.out.below.size ?_; intro A4 c4 w4 hown hgr hv; have T9 := Lib.hid (T3.out.all hown hgr hv); have e4 := HC.out _ T9.out.below; clear hown hgr hv)
              | (at_builtin; have hi := HI.out; have hs2 := T9.out.below.size; refine wpList_append_own _ rfl _ _ 38 rfl w.heap.size 3 i0 (.int .i64 0) 1 8 Try.underlying38 hi hz0 hz1 hz2 rfl (by decide) _ _ _ rfl (World.ownsRow.alloc T9.out.o3 _) ⟨w4.heap.size, 0, none⟩ 1 1 [.int .i64 ((n : Int) + 10)] rfl rfl (cell_one_new _ _ _) (by simp [Value.oneCell']) (by unfold maxLen; omega) (by omega) (by simp; omega) ?_; intro v' w5 hown' hgrow _; obtain ⟨A', n', c', rfl⟩ := row_form hown'; have HO9 := Lib.hid hown'; have HG9 := Lib.hid hgrow; clear hown' hgrow))
            go_roundw
            case rel =>
              refine ⟨k + 1, _, _, _, _, _, _, _, _, _, x, by omega, rfl, rfl, rfl, rfl, by go_num, Lib.hid ⟨_, _, _, HWN.out, (T9.out.still ((Below.refl _ _).alloc (Nat.le_refl _) _)).want ?_ HG9.out⟩⟩
              have := HO9.out
              unfold IOwns
              simpa [vi] using this
            case measure => simp [intOf]; omega
          by_cases z1 : z % 3 = 1
          · have q0 : ((z : Int) % 3 == 0) = false := beq_eq_false_iff_ne.2 (by omega)
            have q1 : ((z : Int) % 3 == 1) = true := beq_iff_eq.2 (by omega)
            have q2 : ((z : Int).tmod 3 == 1) = true := by rw [Int.tmod_eq_emod_of_nonneg (by omega)]; exact q1
            have HTL := Lib.hid (tg_eq n true hn5).2
            have hth : (tgL n true).length ≤ 564 := by rw [HTL.out]; split <;> omega
            have HWN := Lib.hid (HW.out.both n hn5)
            have C3 := Lib.hid (tag_any n true (by omega) wr.drew)
            have C7 := Lib.hid (fun w' => tag_any n true (by omega) w')
            have eC : ∀ w', Below w.heap.size w w' → w'.cell? ⟨g, o + k, none⟩ = some (.int .i64 (n : Int)) := HC.out
            have eD : ∀ w', Below w.heap.size w w' → w'.cell? ⟨gg, o2 + k, none⟩ = some (.int .u8 (z : Int)) := HD.out
            generalize tgL n true = TG at *
            have hx1 : IntKind.i64.wrap ((x : Int) + 1) = (x : Int) + 1 := by rw [IntKind.wrap_i64]; omega
            clear HTL HW hw10 zz
            go_wp2_with fail
            clear e1 e2
            refine wp_region_held_drew (S := (fun w' => Below w.heap.size w w')) (by kernel_rfl) ?_ (fun hHeld => ?_)
            · (try dsimp only); (first | exact (HT.out.below.trans (((Below.refl _ wr).drew).mono HT.out.below.size)) | exact T3.out.below | exact T4.out.below)
            refine wpAnyH_take (i := 0) (v := ?_) (op_at (pre := [])) (by kernel_rfl) (by kernel_rfl) (by kernel_rfl) (fun _ _ _ h => h) (Or.inl ⟨by rfl, ?_⟩) (by assumption) ?_
            rotate_left
            · intro w' hSw; (try dsimp only at hSw); go_simp; (try with_reducible rfl)
            simp only [Act.put, List.setIfInBounds_toArray, List.set_cons_zero, List.set_cons_succ]
            refine wpAnyH_take (i := 1) (v := ?_) (op_at (pre := [_])) (by kernel_rfl) (by kernel_rfl) (by kernel_rfl) (fun _ _ _ h => h) (Or.inl ⟨by rfl, ?_⟩) (by assumption) ?_
            rotate_left
            · intro w' hSw; (try dsimp only at hSw); go_simp; (try with_reducible rfl)
            simp only [Act.put, List.setIfInBounds_toArray, List.set_cons_zero, List.set_cons_succ]
            refine wpAnyH_take (i := 2) (v := ?_) (op_at (pre := [_, _])) (by kernel_rfl) (by kernel_rfl) (by kernel_rfl) (fun _ _ _ h => h) (Or.inl ⟨by rfl, ?_⟩) (by assumption) ?_
            rotate_left
            · intro w' hSw; (try dsimp only at hSw); go_simp; (try with_reducible rfl)
            simp only [Act.put, List.setIfInBounds_toArray, List.set_cons_zero, List.set_cons_succ]
            refine wpAnyH_take (i := 3) (v := ?_) (op_at (pre := [_, _, _])) (by kernel_rfl) (by kernel_rfl) (by kernel_rfl) (fun _ _ _ h => h) (Or.inl ⟨by rfl, ?_⟩) (by assumption) ?_
            rotate_left
            · intro w' hSw; (try dsimp only at hSw); go_simp; (try with_reducible rfl)
            simp only [Act.put, List.setIfInBounds_toArray, List.set_cons_zero, List.set_cons_succ]
            refine wpAnyH_take (i := 4) (v := ?_) (op_at (pre := [_, _, _, _])) (by kernel_rfl) (by kernel_rfl) (by kernel_rfl) (fun _ _ _ h => h) (Or.inl ⟨by rfl, ?_⟩) (by assumption) ?_
            rotate_left
            · intro w' hSw; (try dsimp only at hSw); go_simp; (try with_reducible rfl)
            simp only [Act.put, List.setIfInBounds_toArray, List.set_cons_zero, List.set_cons_succ]
            refine wpAnyH_take (i := 5) (v := ?_) (op_at (pre := [_, _, _, _, _])) (by kernel_rfl) (by kernel_rfl) (by kernel_rfl) (fun _ _ _ h => h) (Or.inl ⟨by rfl, ?_⟩) (by assumption) ?_
            rotate_left
            · intro w' hSw; (try dsimp only at hSw); go_simp; (try with_reducible rfl)
            simp only [Act.put, List.setIfInBounds_toArray, List.set_cons_zero, List.set_cons_succ]
            refine wpAnyH_take (i := 6) (v := ?_) (op_at (pre := [_, _, _, _, _, _])) (by kernel_rfl) (by kernel_rfl) (by kernel_rfl) (fun _ _ _ h => h) (Or.inl ⟨by rfl, ?_⟩) (by assumption) ?_
            rotate_left
            · intro w' hSw; (try dsimp only at hSw); go_simp; (try with_reducible rfl)
            simp only [Act.put, List.setIfInBounds_toArray, List.set_cons_zero, List.set_cons_succ]
            refine wpAnyH_take (i := 7) (v := ?_) (op_at (pre := [_, _, _, _, _, _, _])) (by kernel_rfl) (by kernel_rfl) (by kernel_rfl) (fun _ _ _ h => h) (Or.inl ⟨by rfl, ?_⟩) (by assumption) ?_
            rotate_left
            · intro w' hSw; (try dsimp only at hSw); go_simp; (try with_reducible rfl)
            simp only [Act.put, List.setIfInBounds_toArray, List.set_cons_zero, List.set_cons_succ]
            refine wpAnyH_take (i := 8) (v := ?_) (op_at (pre := [_, _, _, _, _, _, _, _])) (by kernel_rfl) (by kernel_rfl) (by kernel_rfl) (fun _ _ _ h => h) (Or.inl ⟨by rfl, ?_⟩) (by assumption) ?_
            rotate_left
            · intro w' hSw; (try dsimp only at hSw); go_simp; (try with_reducible rfl)
            simp only [Act.put, List.setIfInBounds_toArray, List.set_cons_zero, List.set_cons_succ]
            refine wpAnyH_take (i := 9) (v := ?_) (op_at (pre := [_, _, _, _, _, _, _, _, _])) (by kernel_rfl) (by kernel_rfl) (by kernel_rfl) (fun _ _ _ h => h) (Or.inl ⟨by rfl, ?_⟩) (by assumption) ?_
            rotate_left
            · intro w' hSw; (try dsimp only at hSw); go_simp; (try with_reducible rfl)
            simp only [Act.put, List.setIfInBounds_toArray, List.set_cons_zero, List.set_cons_succ]
            refine wpAnyH_take (i := 10) (v := ?_) (op_at (pre := [_, _, _, _, _, _, _, _, _, _])) (by kernel_rfl) (by kernel_rfl) (by kernel_rfl) (fun _ _ _ h => h) (Or.inl ⟨by rfl, ?_⟩) (by assumption) ?_
            rotate_left
            · intro w' hSw; (try dsimp only at hSw); go_simp; (try with_reducible rfl)
            simp only [Act.put, List.setIfInBounds_toArray, List.set_cons_zero, List.set_cons_succ]
            refine wpAnyH_ready (rs := [11]) (by kernel_rfl) (by simp) ?_
            refine AllReadyH.cons (op_at (pre := [_, _, _, _, _, _, _, _, _, _, _])) (fun K hK => ?_) AllReadyH.nil
            go_simp
            (try rw [q2])
            refine C3.out.mono ?_
            rintro e w3 ⟨B1, k1, rfl, hb1, hbl⟩
            have T3 := Lib.hid ((HT.out.still (Below.refl _ _).drew).still hbl)
            have HB3 := Lib.hid hb1
            clear hb1 hbl C3
            go_wp2_with fail
            refine hK.out _ _ ?_ (fun hHeld => ?_)
            · (try dsimp only); (first | exact (HT.out.below.trans (((Below.refl _ wr).drew).mono HT.out.below.size)) | exact T3.out.below | exact T4.out.below)
            clear hK K
            refine wpAnyH_ready (rs := [12]) (by kernel_rfl) (by simp) ?_
            refine AllReadyH.cons (op_at (pre := [_, _, _, _, _, _, _, _, _, _, _, _])) (fun K hK => ?_) AllReadyH.nil
            refine step_append_bytes rfl (.tmp 67) (.tmp 78) rfl w.heap.size _ _ rfl T3.out.o2 B1 TG.length k1 TG rfl HB3.out _ (add_len HL2.out) (by omega) T3.out.below.size ?_
            intro A4 c4 w4 hown hgr hv
            have T4 := Lib.hid (T3.out.apes hown hgr hv)
            clear hown hgr hv
            refine hK.out _ _ ?_ (fun hHeld => ?_)
            · exact T4.out.below
            clear hK K
            refine wpAnyH_take (i := 13) (v := ?_) (op_at (pre := [_, _, _, _, _, _, _, _, _, _, _, _, _])) (by kernel_rfl) (by kernel_rfl) (by kernel_rfl) (fun _ _ _ h => h) (Or.inl ⟨by rfl, ?_⟩) (by assumption) ?_
            rotate_left
            · intro w' hSw; (try dsimp only at hSw); go_simp; (try with_reducible rfl)
            simp only [Act.put, List.setIfInBounds_toArray, List.set_cons_zero, List.set_cons_succ]
            refine wpAnyH_done (by kernel_rfl) ?_ _
            have e1 := HC.out _ T4.out.below
            have e2 := HD.out _ T4.out.below
            clear eC eD
            go_wp2_with fail
            refine (C7.out _).mono ?_
            rintro e w7 ⟨B7, k7, rfl, hb1, hbl⟩
            have T7 := Lib.hid (T4.out.still hbl)
            have HB7 := Lib.hid hb1
            clear hb1 hbl e1 e2
            go_wp2_with (first
              | (at_builtin; refine wpList_append_bytes rfl (.tmp 88) (.tmp 93) rfl w.heap.size _ _ rfl T7.out.o1 B7 TG.length k7 TG rfl HB7.out _ (add_len HL1.out) (by omega) T7.out.below.size ?_; intro A4 c4 w8 hown hgr hv; have T9 := Lib.hid (T7.out.all hown hgr hv); have e4 := HC.out _ T9.out.below; clear hown hgr hv)
              | (at_builtin; have hi := HI.out; have hs2 := T9.out.below.size; refine wpList_append_own _ rfl _ _ 38 rfl w.heap.size 3 i0 (.int .i64 0) 1 8 Try.underlying38 hi hz0 hz1 hz2 rfl (by decide) _ _ _ rfl (World.ownsRow.alloc T9.out.o3 _) ⟨w8.heap.size, 0, none⟩ 1 1 [.int .i64 ((n : Int) + 64)] rfl rfl (cell_one_new _ _ _) (by simp [Value.oneCell']) (by unfold maxLen; omega) (by omega) (by simp; omega) ?_; intro v' w9 hown' hgrow _; obtain ⟨A', n', c', rfl⟩ := row_form hown'; have HO9 := Lib.hid hown'; have HG9 := Lib.hid hgrow; clear hown' hgrow))
            go_roundw
            case rel =>
              refine ⟨k + 1, _, _, _, _, _, _, _, _, _, x + 1, by omega, rfl, rfl, rfl, by go_num, by go_num, Lib.hid ⟨_, _, _, HWN.out, (T9.out.still ((Below.refl _ _).alloc (Nat.le_refl _) _)).want ?_ HG9.out⟩⟩
              have := HO9.out
              unfold IOwns
              simpa [vi] using this
            case measure => simp [intOf]; omega
          · have q0 : ((z : Int) % 3 == 0) = false := beq_eq_false_iff_ne.2 (by omega)
            have q1 : ((z : Int) % 3 == 1) = false := beq_eq_false_iff_ne.2 (by omega)
            have q2 : ((z : Int).tmod 3 == 1) = false := by rw [Int.tmod_eq_emod_of_nonneg (by omega)]; exact q1
            have HTL := Lib.hid (tg_eq n false hn5).2
            have hth : (tgL n false).length ≤ 564 := by rw [HTL.out]; split <;> omega
            have HWN := Lib.hid (HW.out.foot n hn5)
            have C3 := Lib.hid (tag_any n false (by omega) wr.drew)
            have eC : ∀ w', Below w.heap.size w w' → w'.cell? ⟨g, o + k, none⟩ = some (.int .i64 (n : Int)) := HC.out
            have eD : ∀ w', Below w.heap.size w w' → w'.cell? ⟨gg, o2 + k, none⟩ = some (.int .u8 (z : Int)) := HD.out
            generalize tgL n false = TG at *
            have hx1 : IntKind.i64.wrap ((x : Int) + 1) = (x : Int) + 1 := by rw [IntKind.wrap_i64]; omega
            clear HTL HW hw10 zz hw64
            go_wp2_with fail
            clear e1 e2
            refine wp_region_held_drew (S := (fun w' => Below w.heap.size w w')) (by kernel_rfl) ?_ (fun hHeld => ?_)
            · (try dsimp only); (first | exact (HT.out.below.trans (((Below.refl _ wr).drew).mono HT.out.below.size)) | exact T3.out.below | exact T4.out.below)
            refine wpAnyH_take (i := 0) (v := ?_) (op_at (pre := [])) (by kernel_rfl) (by kernel_rfl) (by kernel_rfl) (fun _ _ _ h => h) (Or.inl ⟨by rfl, ?_⟩) (by assumption) ?_
            rotate_left
            · intro w' hSw; (try dsimp only at hSw); go_simp; (try with_reducible rfl)
            simp only [Act.put, List.setIfInBounds_toArray, List.set_cons_zero, List.set_cons_succ]
            refine wpAnyH_take (i := 1) (v := ?_) (op_at (pre := [_])) (by kernel_rfl) (by kernel_rfl) (by kernel_rfl) (fun _ _ _ h => h) (Or.inl ⟨by rfl, ?_⟩) (by assumption) ?_
            rotate_left
            · intro w' hSw; (try dsimp only at hSw); go_simp; (try with_reducible rfl)
            simp only [Act.put, List.setIfInBounds_toArray, List.set_cons_zero, List.set_cons_succ]
            refine wpAnyH_take (i := 2) (v := ?_) (op_at (pre := [_, _])) (by kernel_rfl) (by kernel_rfl) (by kernel_rfl) (fun _ _ _ h => h) (Or.inl ⟨by rfl, ?_⟩) (by assumption) ?_
            rotate_left
            · intro w' hSw; (try dsimp only at hSw); go_simp; (try with_reducible rfl)
            simp only [Act.put, List.setIfInBounds_toArray, List.set_cons_zero, List.set_cons_succ]
            refine wpAnyH_take (i := 3) (v := ?_) (op_at (pre := [_, _, _])) (by kernel_rfl) (by kernel_rfl) (by kernel_rfl) (fun _ _ _ h => h) (Or.inl ⟨by rfl, ?_⟩) (by assumption) ?_
            rotate_left
            · intro w' hSw; (try dsimp only at hSw); go_simp; (try with_reducible rfl)
            simp only [Act.put, List.setIfInBounds_toArray, List.set_cons_zero, List.set_cons_succ]
            refine wpAnyH_take (i := 4) (v := ?_) (op_at (pre := [_, _, _, _])) (by kernel_rfl) (by kernel_rfl) (by kernel_rfl) (fun _ _ _ h => h) (Or.inl ⟨by rfl, ?_⟩) (by assumption) ?_
            rotate_left
            · intro w' hSw; (try dsimp only at hSw); go_simp; (try with_reducible rfl)
            simp only [Act.put, List.setIfInBounds_toArray, List.set_cons_zero, List.set_cons_succ]
            refine wpAnyH_take (i := 5) (v := ?_) (op_at (pre := [_, _, _, _, _])) (by kernel_rfl) (by kernel_rfl) (by kernel_rfl) (fun _ _ _ h => h) (Or.inl ⟨by rfl, ?_⟩) (by assumption) ?_
            rotate_left
            · intro w' hSw; (try dsimp only at hSw); go_simp; (try with_reducible rfl)
            simp only [Act.put, List.setIfInBounds_toArray, List.set_cons_zero, List.set_cons_succ]
            refine wpAnyH_take (i := 6) (v := ?_) (op_at (pre := [_, _, _, _, _, _])) (by kernel_rfl) (by kernel_rfl) (by kernel_rfl) (fun _ _ _ h => h) (Or.inl ⟨by rfl, ?_⟩) (by assumption) ?_
            rotate_left
            · intro w' hSw; (try dsimp only at hSw); go_simp; (try with_reducible rfl)
            simp only [Act.put, List.setIfInBounds_toArray, List.set_cons_zero, List.set_cons_succ]
            refine wpAnyH_take (i := 7) (v := ?_) (op_at (pre := [_, _, _, _, _, _, _])) (by kernel_rfl) (by kernel_rfl) (by kernel_rfl) (fun _ _ _ h => h) (Or.inl ⟨by rfl, ?_⟩) (by assumption) ?_
            rotate_left
            · intro w' hSw; (try dsimp only at hSw); go_simp; (try with_reducible rfl)
            simp only [Act.put, List.setIfInBounds_toArray, List.set_cons_zero, List.set_cons_succ]
            refine wpAnyH_take (i := 8) (v := ?_) (op_at (pre := [_, _, _, _, _, _, _, _])) (by kernel_rfl) (by kernel_rfl) (by kernel_rfl) (fun _ _ _ h => h) (Or.inl ⟨by rfl, ?_⟩) (by assumption) ?_
            rotate_left
            · intro w' hSw; (try dsimp only at hSw); go_simp; (try with_reducible rfl)
            simp only [Act.put, List.setIfInBounds_toArray, List.set_cons_zero, List.set_cons_succ]
            refine wpAnyH_take (i := 9) (v := ?_) (op_at (pre := [_, _, _, _, _, _, _, _, _])) (by kernel_rfl) (by kernel_rfl) (by kernel_rfl) (fun _ _ _ h => h) (Or.inl ⟨by rfl, ?_⟩) (by assumption) ?_
            rotate_left
            · intro w' hSw; (try dsimp only at hSw); go_simp; (try with_reducible rfl)
            simp only [Act.put, List.setIfInBounds_toArray, List.set_cons_zero, List.set_cons_succ]
            refine wpAnyH_take (i := 10) (v := ?_) (op_at (pre := [_, _, _, _, _, _, _, _, _, _])) (by kernel_rfl) (by kernel_rfl) (by kernel_rfl) (fun _ _ _ h => h) (Or.inl ⟨by rfl, ?_⟩) (by assumption) ?_
            rotate_left
            · intro w' hSw; (try dsimp only at hSw); go_simp; (try with_reducible rfl)
            simp only [Act.put, List.setIfInBounds_toArray, List.set_cons_zero, List.set_cons_succ]
            refine wpAnyH_ready (rs := [11]) (by kernel_rfl) (by simp) ?_
            refine AllReadyH.cons (op_at (pre := [_, _, _, _, _, _, _, _, _, _, _])) (fun K hK => ?_) AllReadyH.nil
            go_simp
            (try rw [q2])
            refine C3.out.mono ?_
            rintro e w3 ⟨B1, k1, rfl, hb1, hbl⟩
            have T3 := Lib.hid ((HT.out.still (Below.refl _ _).drew).still hbl)
            have HB3 := Lib.hid hb1
            clear hb1 hbl C3
            go_wp2_with fail
            refine hK.out _ _ ?_ (fun hHeld => ?_)
            · (try dsimp only); (first | exact (HT.out.below.trans (((Below.refl _ wr).drew).mono HT.out.below.size)) | exact T3.out.below | exact T4.out.below)
            clear hK K
            refine wpAnyH_ready (rs := [12]) (by kernel_rfl) (by simp) ?_
            refine AllReadyH.cons (op_at (pre := [_, _, _, _, _, _, _, _, _, _, _, _])) (fun K hK => ?_) AllReadyH.nil
            refine step_append_bytes rfl (.tmp 67) (.tmp 78) rfl w.heap.size _ _ rfl T3.out.o2 B1 TG.length k1 TG rfl HB3.out _ (add_len HL2.out) (by omega) T3.out.below.size ?_
            intro A4 c4 w4 hown hgr hv
            have T4 := Lib.hid (T3.out.apes hown hgr hv)
            clear hown hgr hv
            refine hK.out _ _ ?_ (fun hHeld => ?_)
            · exact T4.out.below
            clear hK K
            refine wpAnyH_take (i := 13) (v := ?_) (op_at (pre := [_, _, _, _, _, _, _, _, _, _, _, _, _])) (by kernel_rfl) (by kernel_rfl) (by kernel_rfl) (fun _ _ _ h => h) (Or.inl ⟨by rfl, ?_⟩) (by assumption) ?_
            rotate_left
            · intro w' hSw; (try dsimp only at hSw); go_simp; (try with_reducible rfl)
            simp only [Act.put, List.setIfInBounds_toArray, List.set_cons_zero, List.set_cons_succ]
            refine wpAnyH_done (by kernel_rfl) ?_ _
            have e1 := HC.out _ T4.out.below
            have e2 := HD.out _ T4.out.below
            clear eC eD
            go_wp2_with fail
            go_roundw
            case rel => exact ⟨k + 1, _, _, _, _, _, _, _, _, _, x + 1, by omega, rfl, rfl, rfl, by go_num, by go_num, Lib.hid ⟨_, _, _, HWN.out, T4.out⟩⟩
            case measure => simp [intOf]; omega
        · obtain rfl : k = len2 := by omega
          have hm := HL1.out
          subst hm
          have hm := HL2.out
          subst hm
          have hm := n3_of HT.out.o3
          subst hm
          clear HL1 HL2 hlt HN HK
          by_cases h5 : 4000 < ap.length
          · have p5 : decide ((4000 : Int) < (ap.length : Int)) = true := by simp; omega
            by_cases h4 : al.length ≤ 4000
            · have p4 : decide ((al.length : Int) ≤ 4000) = true := by simp; omega
              have hf : frQ [al, [84, 84, 65, 49]].flatten wa = true := HW.out.front h4
              have al4 : [al, [84, 84, 65, 49]].flatten.length = al.length + 4 := by simp
              have hfl := Lib.hid hf
              clear hf
              go_wp2_with fail
              obtain ⟨w3, hw3⟩ : ∃ w3, w3 = wr.alloc (.cells #[.int .u8 84, .int .u8 84, .int .u8 65, .int .u8 49] 5 (4, 5)) := ⟨_, rfl⟩
              have hs3 : w3.heap.size = wr.heap.size + 1 := by rw [hw3]; simp
              have hr := srow2 w3 A1 (some ⟨wr.heap.size, 0, none⟩) c1 4 al [84, 84, 65, 49] 22 (by rw [hw3]; exact HT.out.o1.arg.alloc _) (by rw [hw3]; exact BArg.lit _ _ 4 rfl (by omega) _ _ _ rfl)
              have T3 := Lib.hid (HT.out.still (show Below wr.heap.size wr (w3.alloc (.cells #[.slice A1 al.length c1, .slice (some ⟨wr.heap.size, 0, none⟩) 4 4] 22)) by rw [hw3]; exact (((Below.refl _ wr).alloc (Nat.le_refl _) _).alloc (by simp) _)))
              rw [hs3] at hr
              have HR := Lib.hid hr
              rw [← hw3]
              clear hw3 hs3 hr HT
              refine (join_any (wr.heap.size + 1) 2 2 _ _ HR.out (by rw [al4]; omega) (by omega)).mono ?_
              rintro e w5 ⟨A5, k5, rfl, ho, hb⟩
              have HO5 := Lib.hid ho.arg
              have T5 := Lib.hid (T3.out.still hb)
              rw [al4] at HO5 ⊢
              clear ho hb HR T3 al4
              generalize [al, [84, 84, 65, 49]].flatten = J at *
              have HN5 := Lib.hid (narg_of T5.out.o3)
              go_wp2_with fail
              refine (lfr_any _ _ _ J _ _ _ wa _ HO5.out HN5.out).mono ?_
              rintro e w6 ⟨rfl, hb⟩
              rw [hfl.out]
              have T6 := Lib.hid (T5.out.still hb)
              clear hb T5 HO5 HN5
              go_wp2_with fail
              go_ret
              exact ⟨rfl, T6.out.below⟩
            · have p4 : decide ((al.length : Int) ≤ 4000) = false := by simp; omega
              go_wp2_with fail
              go_ret
              exact ⟨rfl, HT.out.below⟩
          · have p5 : decide ((4000 : Int) < (ap.length : Int)) = false := by simp; omega
            have HBQ := Lib.hid (HW.out.behind h5)
            by_cases h4 : al.length ≤ 4000
            · have p4 : decide ((al.length : Int) ≤ 4000) = true := by simp; omega
              have hf : frQ [al, [84, 84, 65, 49]].flatten wa = true := HW.out.front h4
              have al4 : [al, [84, 84, 65, 49]].flatten.length = al.length + 4 := by simp
              have hfl := Lib.hid hf
              clear hf
              go_wp2_with fail
              obtain ⟨w3, hw3⟩ : ∃ w3, w3 = wr.alloc (.cells #[.int .u8 84, .int .u8 84, .int .u8 65, .int .u8 49] 5 (4, 5)) := ⟨_, rfl⟩
              have hs3 : w3.heap.size = wr.heap.size + 1 := by rw [hw3]; simp
              have hr := srow2 w3 A1 (some ⟨wr.heap.size, 0, none⟩) c1 4 al [84, 84, 65, 49] 22 (by rw [hw3]; exact HT.out.o1.arg.alloc _) (by rw [hw3]; exact BArg.lit _ _ 4 rfl (by omega) _ _ _ rfl)
              have T3 := Lib.hid (HT.out.still (show Below wr.heap.size wr (w3.alloc (.cells #[.slice A1 al.length c1, .slice (some ⟨wr.heap.size, 0, none⟩) 4 4] 22)) by rw [hw3]; exact (((Below.refl _ wr).alloc (Nat.le_refl _) _).alloc (by simp) _)))
              rw [hs3] at hr
              have HR := Lib.hid hr
              rw [← hw3]
              clear hw3 hs3 hr HT
              refine (join_any (wr.heap.size + 1) 2 2 _ _ HR.out (by rw [al4]; omega) (by omega)).mono ?_
              rintro e w5 ⟨A5, k5, rfl, ho, hb⟩
              have HO5 := Lib.hid ho.arg
              have T5 := Lib.hid (T3.out.still hb)
              rw [al4] at HO5 ⊢
              clear ho hb HR T3 al4
              generalize [al, [84, 84, 65, 49]].flatten = J at *
              have HN5 := Lib.hid (narg_of T5.out.o3)
              go_wp2_with fail
              refine (lfr_any _ _ _ J _ _ _ wa _ HO5.out HN5.out).mono ?_
              rintro e w6 ⟨rfl, hb⟩
              rw [hfl.out]
              have T6 := Lib.hid (T5.out.still hb)
              clear hb T5 HO5 HN5
              go_wp2_with fail
              refine (lbh_any _ _ _ ap (x : Int) _ T6.out.o2.arg).mono ?_
              rintro e w7 ⟨rfl, hb⟩
              rw [HBQ.out]
              have T7 := Lib.hid (T6.out.still hb)
              clear hb
              go_wp2_with fail
              go_ret
              exact ⟨rfl, T7.out.below⟩
            · have p4 : decide ((al.length : Int) ≤ 4000) = false := by simp; omega
              go_wp2_with fail
              refine (lbh_any _ _ _ ap (x : Int) _ HT.out.o2.arg).mono ?_
              rintro e w7 ⟨rfl, hb⟩
              rw [HBQ.out]
              have T7 := Lib.hid (HT.out.still hb)
              clear hb
              go_wp2_with fail
              go_ret
              exact ⟨rfl, T7.out.below⟩
end Go.Proofs.Ytgdchcaglkeghaa
