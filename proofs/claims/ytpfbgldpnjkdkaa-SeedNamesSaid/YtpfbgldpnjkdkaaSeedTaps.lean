/- The walks of seed.Taps and of the reference of layer 16. -/
import Derived.Test.YtpfbgldpnjkdkaaCrcAlive
import Derived.Test.YtpfbgldpnjkdkaaSeedOneM
namespace Go.Proofs.Ytpfbgldpnjkdkaa
open Go.RowKit

/-- A whole array loaded under a guard that says yes. -/
theorem wpList_load_row_g {P : Program} {ops : Array Oper} {rest : List Oper} {o : Oper} {a : Act} {w : World} {Q : Exit → Act → World → Prop} (hw : Region.wanted o (yielded ops a.tmps) = true) (ty : TypeId) (x : Operand) (ho : o.op = .load ty x)
    (g : Nat) (hx : a.eval x = .pointer (some ⟨g, 0, none⟩)) (t : TypeId) (cs : Array Value) (fr : Nat × Nat) (d : TypeDesc) (hg : w.heap[g]? = some (.cells cs t fr))
    (hu : P.underlying ty = some d) (hd : (match d with | .struct _ | .array _ _ => true | _ => false) = true) (hi : (P.info? ty).map (·.size) = some cs.size)
    (h : wpList P ops Q rest (a.put o.dst (.agg cs)) w) : wpList P ops Q (o :: rest) a w :=
  BigFrame.wpList_want hw fun _ hK => wp_load_row ty x ho g hx t cs fr d hg hu hd hi (hK _ _ h)

/-- Two results, the first an array in memory. -/
theorem results_cell_row2 {P : Program} {fn : Func} {p q : Tmp} {ty : TypeId} (h : fn.results = #[.cell p ty, .tmp q]) (tmps : Array Value) (w : World) (g : Nat) (t : TypeId) (cs : Array Value) (fr : Nat × Nat) (d : TypeDesc)
    (hp : tmps.getD p undef = .pointer (some ⟨g, 0, none⟩)) (hg : w.heap[g]? = some (.cells cs t fr))
    (hu : P.underlying ty = some d) (hd : (match d with | .struct _ | .array _ _ => true | _ => false) = true) (hi : (P.info? ty).map (·.size) = some cs.size) :
    (results fn tmps).run P w = .ok (.tuple #[.agg cs, tmps.getD q undef]) w := by
  have hp' : tmps[p]?.getD undef = .pointer (some ⟨g, 0, none⟩) := by simpa using hp
  simp [results, h, hp', asAddr, run_loadVar_row w g t ty cs fr d hg hu hd hi]

/-- What Taps answers. -/
def tapsP (s : ByteArray) : Value :=
  if s.size ≤ 64 then .tuple #[.agg (ints .i32 (tapsK (Crc.run 0#64 (bn (sb s))).toNat 8)), .int .i64 0] else .tuple #[.agg (ints .i32 z16), .int .i64 2]

set_option maxHeartbeats 1000000 in
theorem taps_any (s : ByteArray) (hs : s.size ≤ 9223372036854775807) (w : World) :
    Calls Try.prog 26 #[.string s] w fun e w' => e = .returned (tapsP s) ∧ Below w.heap.size w w' := by
  by_cases h64 : s.size ≤ 64
  · have HT := Lib.hid (show tapsP s = .tuple #[.agg (ints .i32 (tapsK (Crc.run 0#64 (bn (sb s))).toNat 8)), .int .i64 0] by unfold tapsP; rw [if_pos h64])
    have p1 := nextP_ok 0#64 (sb s) (by rw [sb_size]; omega)
    generalize Crc.run 0#64 (bn (sb s)) = X at HT p1
    have P1 := Lib.hid p1
    have hX := X.isLt
    have HX := Lib.hid hX
    have hcv := run_text_bytes s
    clear p1 hX
    go_enter Try.func26, Try.ntmps26
    go_wp2_with fail
    rw [← ints_zero16]
    refine (sum_any _ s.size _ (sb s) _ (BArg.of_text _ s _ (by simp) hs)).mono ?_
    rintro e w1 ⟨rfl, hb1⟩
    have hbw := below_tworld (w.alloc (.cells (ints .i32 z16) 24)) s
    have HB0 : Hid (Below (w.alloc (.cells (ints .i32 z16) 24)).heap.size (w.alloc (.cells (ints .i32 z16) 24)) w1) := Lib.hid (hbw.trans (hb1.mono hbw.size))
    clear hb1 hbw hcv
    rw [P1.out]
    go_wp2_with fail
    refine (of_any X.toNat HX.out _).mono ?_
    rintro e w2 ⟨rfl, hb2⟩
    have HB1 := Lib.hid (HB0.out.trans (hb2.mono HB0.out.size))
    have HR := Lib.hid ((HB1.out.block w.heap.size (by simp)).trans (heap_alloc_new w _))
    clear hb2 HB0
    go_wp2_with (refine wpList_store_row rfl 24 _ _ rfl w.heap.size _ rfl rfl 24 _ HR.out (info24 _ (tapsK_length _ _)) (by rw [ints_size, ints_size, tapsK_length]; rfl) (ints_one _ _) ?_)
    refine bodyPost_ret (results_cell_row2 rfl _ _ w.heap.size 24 (ints .i32 (tapsK X.toNat 8)) (0, 0) _ rfl (setRow_heap _ _ _ _ _ _ HR.out) Try.underlying24 rfl (info24 _ (tapsK_length _ _))) rfl ⟨by rw [HT.out]; rfl, ?_⟩
    exact below_setRow (((Below.refl _ _).alloc (Nat.le_refl _) _).trans (HB1.out.mono (by simp))) (Nat.le_refl _) _
  · have HT := Lib.hid (show tapsP s = .tuple #[.agg (ints .i32 z16), .int .i64 2] by unfold tapsP; rw [if_neg h64])
    go_enter Try.func26, Try.ntmps26
    go_wp2
    rw [← ints_zero16]
    refine bodyPost_ret (results_cell_row2 rfl _ _ w.heap.size 24 (ints .i32 z16) (0, 0) _ rfl (heap_alloc_new w _) Try.underlying24 rfl (info24 _ rfl)) rfl ⟨by rw [HT.out]; rfl, ?_⟩
    exact (Below.refl _ _).alloc (Nat.le_refl _) _

theorem rtap (n k : Nat) : (n / 256 ^ k) % 256 = byteAt n k := by
  unfold byteAt
  rw [Nat.pow_mul]
theorem rdiv (n k : Nat) : n / 256 ^ k / 256 = n / 256 ^ (k + 1) := by rw [Nat.pow_succ, Nat.div_div_eq_div_mul]

set_option maxHeartbeats 1000000 in
theorem rof_any (n : Nat) (hn : n < 18446744073709551616) (w : World) :
    Calls Try.prog 28 #[.int .u64 n] w fun e w' => e = .returned (.agg (ints .i32 (tapsK n 8))) ∧ Below w.heap.size w w' := by
  have HN := Lib.hid hn
  clear hn
  go_enter Try.func28, Try.ntmps28
  go_wp2
  rw [← ints_zero16]
  go_loopw [0, 4] (fun d i wr => ∃ k m : Nat, k ≤ 8 ∧ Hid (m = n / 256 ^ k) ∧ m < 18446744073709551616 ∧ i = .int .i64 k ∧ d = .int .u64 m ∧ wr = (w.alloc (.cells (ints .i32 z16) 24)).alloc (.cells (ints .i32 (tapsK n k)) 24)) (fun _ i _ => 8 - (intOf i).toNat)
  case atStart => exact ⟨0, n, by omega, Lib.hid (by simp), HN.out, rfl, rfl, by rw [tapsK_zero]; rfl⟩
  case round =>
    obtain ⟨k, m, hk, hm, hm64, rfl, rfl, rfl⟩ := hrel
    by_cases hlt : k < 8
    · have h1 : (ints .i32 (tapsK n k)).size = 16 := by rw [ints_size, tapsK_length]
      have h2 : (ints .i32 (tapsK n k))[k]? = some (.int .i32 0) := by rw [ints_get, tapsK_get _ _ _ (by omega)]; simp
      have HT : Hid (tap n k = sgn (m % 256)) := Lib.hid (by rw [tap_byte, hm.out, rtap])
      by_cases h127 : m % 256 ≤ 127
      · have HT2 : Hid (tap n k = ((m : Int) % 256)) := Lib.hid (by rw [HT.out]; unfold sgn; rw [if_pos (by omega)]; omega)
        go_wp2
        go_roundw
        case rel =>
          exact ⟨k + 1, m / 256, by omega, Lib.hid (by rw [hm.out, rdiv]), by omega, by go_num, by simp, by rw [← HT2.out, ints_set, tapsK_set]⟩
        case measure => simp [intOf]; omega
      · have HT2 : Hid (tap n k = ((m : Int) % 256 - 256)) := Lib.hid (by rw [HT.out]; unfold sgn; rw [if_neg (by omega)]; omega)
        go_wp2
        go_roundw
        case rel =>
          exact ⟨k + 1, m / 256, by omega, Lib.hid (by rw [hm.out, rdiv]), by omega, by go_num, by simp, by rw [← HT2.out, ints_set, tapsK_set]⟩
        case measure => simp [intOf]; omega
    · obtain rfl : k = 8 := by omega
      generalize hl : tapsK n 8 = l
      have Hl := Lib.hid hl
      have hlen : l.length = 16 := by rw [← hl, tapsK_length]
      have HL := Lib.hid hlen
      clear hl hlen
      go_wp2_with (first
        | (refine wpList_load_row rfl 24 _ rfl (w.heap.size + 1) rfl 24 (ints .i32 l) (0, 0) _ (heap_alloc2_new w _ _) Try.underlying24 rfl (info24 _ HL.out) ?_)
        | (refine wpList_store_row rfl 24 _ _ rfl w.heap.size _ rfl rfl 24 _ (heap_alloc2_old w _ _) (info24 _ HL.out) (by rw [ints_size, ints_size, HL.out]; rfl) (ints_one _ _) ?_))
      refine bodyPost_ret (results_cell_row rfl _ _ w.heap.size 24 (ints .i32 l) (0, 0) _ rfl ?_ Try.underlying24 rfl (info24 _ HL.out)) rfl ⟨by rw [Hl.out], ?_⟩
      · exact setRow_heap _ _ _ _ _ _ (heap_alloc2_old w _ _)
      · exact below_setRow (((Below.refl _ _).alloc (Nat.le_refl _) _).alloc (by simp) _) (Nat.le_refl _) _

/-- The number of the taps from the eighth down, m of them. -/
def hiN (l : List Int) : Nat → Nat
  | 0 => 0
  | m + 1 => hiN l m * 256 + (l.getD (7 - m) 0 % 256).toNat
theorem hiN_lt (l : List Int) (m : Nat) : hiN l m < 256 ^ m := by
  induction m with
  | zero => simp [hiN]
  | succ m ih =>
    simp only [hiN, Nat.pow_succ]
    have : (l.getD (7 - m) 0 % 256).toNat < 256 := by omega
    omega
theorem hiN_dg (l : List Int) : hiN l 8 = dg l 8 := by
  simp only [hiN, dg]
  simp only [Nat.reduceSub, Nat.reduceMul, Nat.reducePow, Nat.reduceLT, if_true]
  omega

set_option maxHeartbeats 1000000 in
theorem rdig_any (l : List Int) (hl : l.length = 16) (w : World) :
    Calls Try.prog 25 #[.agg (ints .i32 l)] w (DigPost l w) := by
  have HL := Lib.hid hl
  clear hl
  go_enter Try.func25, Try.ntmps25
  go_wp2
  obtain ⟨W, hW⟩ : ∃ W, W = w.alloc (.cells (ints .i32 l) 24) := ⟨_, rfl⟩
  rw [← hW]
  have HB : Hid (Below w.heap.size w W) := Lib.hid (by rw [hW]; exact (Below.refl _ _).alloc (Nat.le_refl _) _)
  have HC : Hid (∀ k, k < 16 → W.cell? ⟨w.heap.size, k, none⟩ = some (.int .i32 (l.getD k 0))) := Lib.hid (fun k hk => by
    rw [hW, World.cell?_alloc_at _ _ _ _ rfl, ints_get]
    simp [List.getD, List.getElem?_eq_getElem (show k < l.length by rw [HL.out]; exact hk)])
  clear hW
  go_loop [4, 5] (fun o i => (∃ (k d : Nat), k < 16 ∧ i = .int .i64 k ∧ o = .int .u64 (d : Nat) ∧ Hid (d = hiN l (7 - k)) ∧ Hid (∀ j, k < j → j < 16 → okAt l j)) ∨ (i = .int .i64 (-1) ∧ o = .int .u64 (hiN l 8 : Nat) ∧ Hid (good l))) (fun _ i => (intOf i + 1).toNat)
  case atStart => exact .inl ⟨15, 0, by omega, rfl, rfl, Lib.hid rfl, Lib.hid (fun j h1 h2 => absurd h1 (by omega))⟩
  case round =>
    rcases hrel with ⟨k, d, hk, rfl, rfl, hd, hok⟩ | ⟨rfl, rfl, hg⟩
    · have hcell := HC.out k hk
      have HOK : Hid (okAt l k ↔ ((8 ≤ k → l.getD k 0 = 0) ∧ -128 ≤ l.getD k 0 ∧ l.getD k 0 ≤ 127)) := Iff.rfl
      have HS : Hid (k ≤ 7 → hiN l (8 - k) = d * 256 + (l.getD k 0 % 256).toNat) := Lib.hid (fun h => by
        have e1 : 8 - k = (7 - k) + 1 := by omega
        have e2 : 7 - (7 - k) = k := by omega
        rw [e1, hd.out]; simp only [hiN]; rw [e2])
      have hdb : k ≤ 7 → d < 256 ^ 7 := fun h => by
        rw [hd.out]
        exact Nat.lt_of_lt_of_le (hiN_lt l (7 - k)) (Nat.pow_le_pow_right (by decide) (by omega))
      generalize l.getD k 0 = x at *
      have hc : decide ((0 : Int) ≤ (k : Int)) = true := by simp
      by_cases h7 : k ≤ 7
      · have hdb := hdb h7
        have hd56 : d < 72057594037927936 := by have : (256 : Nat) ^ 7 = 72057594037927936 := by decide
                                                omega
        clear hdb
        have g7 : decide ((7 : Int) < (k : Int)) = false := by simp; omega
        by_cases h1 : x < -128
        · have G0 := Lib.hid (fun h : okAt l k => by have := HOK.out.1 h; omega : ¬ okAt l k)
          have g1 : decide (x < -128) = true := by simpa using h1
          clear h1
          go_wp2
          go_ret2
          exact ⟨.inr ⟨fun h => G0.out (h k hk), rfl⟩, HB.out⟩
        · by_cases h2 : 127 < x
          · have G0 := Lib.hid (fun h : okAt l k => by have := HOK.out.1 h; omega : ¬ okAt l k)
            have g1 : decide (x < -128) = false := by simpa using h1
            have g2 : decide (127 < x) = true := by simpa using h2
            clear h1 h2
            go_wp2
            go_ret2
            exact ⟨.inr ⟨fun h => G0.out (h k hk), rfl⟩, HB.out⟩
          · have G0 := Lib.hid (HOK.out.2 ⟨fun h => absurd h (by omega), by omega, by omega⟩)
            have g1 : decide (x < -128) = false := by simpa using h1
            have g2 : decide (127 < x) = false := by simpa using h2
            by_cases h3 : x < 0
            · have e256 : (x % 256).toNat = (x + 256).toNat := by omega
              have HE := Lib.hid e256
              clear e256
              go_wp2
              go_round
              case rel =>
                rcases Nat.eq_zero_or_pos k with h0 | h0
                · subst h0
                  refine .inr ⟨rfl, ?_, Lib.hid (fun j hj => ?_)⟩
                  · rw [HS.out (by omega), HE.out]; congr 1; omega
                  · rcases Nat.eq_zero_or_pos j with h | h
                    · subst h; exact G0.out
                    · exact hok.out j h hj
                · refine .inl ⟨k - 1, d * 256 + (x + 256).toNat, by omega, by congr 1; omega, by congr 1; omega, Lib.hid ?_, Lib.hid (fun j h1 h2 => ?_)⟩
                  · rw [← HE.out, ← HS.out h7]; congr 1; omega
                  · rcases Nat.lt_or_ge k j with h | h
                    · exact hok.out j h h2
                    · obtain rfl : j = k := by omega
                      exact G0.out
              case measure => simp [intOf]
            · have e256 : (x % 256).toNat = x.toNat := by omega
              have HE := Lib.hid e256
              clear e256
              go_wp2
              go_round
              case rel =>
                rcases Nat.eq_zero_or_pos k with h0 | h0
                · subst h0
                  refine .inr ⟨rfl, ?_, Lib.hid (fun j hj => ?_)⟩
                  · rw [HS.out (by omega), HE.out]; congr 1; omega
                  · rcases Nat.eq_zero_or_pos j with h | h
                    · subst h; exact G0.out
                    · exact hok.out j h hj
                · refine .inl ⟨k - 1, d * 256 + x.toNat, by omega, by congr 1; omega, by congr 1; omega, Lib.hid ?_, Lib.hid (fun j h1 h2 => ?_)⟩
                  · rw [← HE.out, ← HS.out h7]; congr 1; omega
                  · rcases Nat.lt_or_ge k j with h | h
                    · exact hok.out j h h2
                    · obtain rfl : j = k := by omega
                      exact G0.out
              case measure => simp [intOf]
      · have g7 : decide ((7 : Int) < (k : Int)) = true := by simp; omega
        by_cases h0 : x = 0
        · have G0 := Lib.hid (HOK.out.2 ⟨fun _ => h0, by omega, by omega⟩)
          subst h0
          have HD : Hid (hiN l (7 - (k - 1)) = d) := Lib.hid (by
            rw [hd.out]
            have e1 : 7 - k = 0 := by omega
            have e2 : 7 - (k - 1) = 0 := by omega
            rw [e1, e2])
          clear hdb
          go_wp2
          go_round
          case rel =>
            refine .inl ⟨k - 1, d, by omega, by congr 1; omega, rfl, Lib.hid HD.out.symm, Lib.hid (fun j h1 h2 => ?_)⟩
            rcases Nat.lt_or_ge k j with h | h
            · exact hok.out j h h2
            · obtain rfl : j = k := by omega
              exact G0.out
          case measure => simp [intOf]
        · have G0 := Lib.hid (fun h : okAt l k => h0 ((HOK.out.1 h).1 (by omega)) : ¬ okAt l k)
          have g3 : (x != 0) = true := by simpa using h0
          clear h0 hdb
          go_wp2
          go_ret2
          exact ⟨.inr ⟨fun h => G0.out (h k hk), rfl⟩, HB.out⟩
    · have HE := Lib.hid (hiN_dg l)
      go_wp2
      go_ret2
      exact ⟨.inl ⟨hg.out, by rw [← HE.out]; rfl⟩, HB.out⟩

set_option maxHeartbeats 1000000 in
theorem rtaps_any (s : ByteArray) (hs : s.size ≤ 9223372036854775807) (w : World) :
    Calls Try.prog 27 #[.string s] w fun e w' => e = .returned (tapsP s) ∧ Below w.heap.size w w' := by
  by_cases h64 : s.size ≤ 64
  · have HT := Lib.hid (show tapsP s = .tuple #[.agg (ints .i32 (tapsK (Crc.run 0#64 (bn (sb s))).toNat 8)), .int .i64 0] by unfold tapsP; rw [if_pos h64])
    have p1 := nextP_ok 0#64 (sb s) (by rw [sb_size]; omega)
    generalize Crc.run 0#64 (bn (sb s)) = X at HT p1
    have P1 := Lib.hid p1
    have hX := X.isLt
    have HX := Lib.hid hX
    have hcv := run_text_bytes s
    clear p1 hX
    go_enter Try.func27, Try.ntmps27
    go_wp2_with fail
    rw [← ints_zero16]
    refine (rsum_any _ s.size _ (sb s) _ (BArg.of_text _ s _ (by simp) hs)).mono ?_
    rintro e w1 ⟨rfl, rfl⟩
    have HB0 := Lib.hid (below_tworld (w.alloc (.cells (ints .i32 z16) 24)) s)
    clear hcv
    rw [P1.out]
    go_wp2_with fail
    refine (rof_any X.toNat HX.out _).mono ?_
    rintro e w2 ⟨rfl, hb2⟩
    have HB1 := Lib.hid (HB0.out.trans (hb2.mono HB0.out.size))
    have HR := Lib.hid ((HB1.out.block w.heap.size (by simp)).trans (heap_alloc_new w _))
    clear hb2 HB0
    go_wp2_with (refine wpList_store_row rfl 24 _ _ rfl w.heap.size _ rfl rfl 24 _ HR.out (info24 _ (tapsK_length _ _)) (by rw [ints_size, ints_size, tapsK_length]; rfl) (ints_one _ _) ?_)
    refine bodyPost_ret (results_cell_row2 rfl _ _ w.heap.size 24 (ints .i32 (tapsK X.toNat 8)) (0, 0) _ rfl (setRow_heap _ _ _ _ _ _ HR.out) Try.underlying24 rfl (info24 _ (tapsK_length _ _))) rfl ⟨by rw [HT.out]; rfl, ?_⟩
    exact below_setRow (((Below.refl _ _).alloc (Nat.le_refl _) _).trans (HB1.out.mono (by simp))) (Nat.le_refl _) _
  · have HT := Lib.hid (show tapsP s = .tuple #[.agg (ints .i32 z16), .int .i64 2] by unfold tapsP; rw [if_neg h64])
    go_enter Try.func27, Try.ntmps27
    go_wp2
    rw [← ints_zero16]
    refine bodyPost_ret (results_cell_row2 rfl _ _ w.heap.size 24 (ints .i32 z16) (0, 0) _ rfl (heap_alloc_new w _) Try.underlying24 rfl (info24 _ rfl)) rfl ⟨by rw [HT.out]; rfl, ?_⟩
    exact (Below.refl _ _).alloc (Nat.le_refl _) _
end Go.Proofs.Ytpfbgldpnjkdkaa
