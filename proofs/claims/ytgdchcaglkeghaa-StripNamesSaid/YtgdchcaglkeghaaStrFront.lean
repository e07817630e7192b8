/- The walk of strip.Front. -/
import Derived.Test.YtgdchcaglkeghaaStrTags
import Derived.Test.YtgdchcaglkeghaaStrMathC
namespace Go.Proofs.Ytgdchcaglkeghaa
open Go.RowKit Go.Shelf

theorem box_keeps {A B : World} {row : Option Nat} {k : Nat} {t : TypeId} {v : Value} (h : Boxed A k t v) (hg : A.grownBy B row) (hr : ∀ r, row = some r → ∃ o : Obj, A.heap[r]? = some o ∧ o.isCells = false) : Boxed B k t v :=
  boxed_own k t (fun _ : Unit => v) () A B row h hg hr
theorem box_below {B0 : Nat} {A B : World} {k : Nat} {t : TypeId} {v : Value} (h : Boxed A k t v) (hk : k < B0) (hb : Below B0 A B) : Boxed B k t v := (hb.block k hk).trans h
theorem box_putted {W : World} {k D : Nat} {t : TypeId} {v : Value} {o : Obj} (h : Boxed W k t v) (o' : Obj) (hD : W.heap[D]? = some o) (ho : o.isCells = false) : Boxed (W.putObj D o') k t v :=
  box_keeps h (grownBy_putObj' W D o') (fun r e => by cases e; exact ⟨o, hD, ho⟩)

/-- The sum that the loop makes. -/
def sumW (L : List (Int × Int)) : Int := L.foldl (fun s x => wrap64 (s + x.1)) 0
theorem sumW_snoc (L : List (Int × Int)) (x : Int × Int) : sumW (L ++ [x]) = wrap64 (sumW L + x.1) := by simp [sumW]
theorem sumW_fold (L : List (Int × Int)) : ∀ a : Int, 0 ≤ a → (∀ x ∈ L, 0 ≤ x.1) → a + sumL (L.map (·.1)) ≤ 4000 → L.foldl (fun s x => wrap64 (s + x.1)) a = a + sumL (L.map (·.1)) := by
  induction L with
  | nil => intro a _ _ _; simp [sumL]
  | cons x L ih =>
    intro a ha hx h4
    have h1 := hx x (by simp)
    rw [List.map_cons, sumL_cons] at h4 ⊢
    have hs : 0 ≤ sumL (L.map (·.1)) := by
      have : ∀ M : List (Int × Int), (∀ x ∈ M, 0 ≤ x.1) → 0 ≤ sumL (M.map (·.1)) := by
        intro M
        induction M with
        | nil => intro _; simp [sumL]
        | cons y M ihM => intro hy; rw [List.map_cons, sumL_cons]; have := hy y (by simp); have := ihM (fun z hz => hy z (by simp [hz])); omega
      exact this L (fun z hz => hx z (by simp [hz]))
    have hw : wrap64 (a + x.1) = a + x.1 := by
      exact IntWalk.wrap64_in _ (by omega)
    rw [List.foldl_cons, hw, ih (a + x.1) (by omega) (fun z hz => hx z (by simp [hz])) (by omega)]
    omega

/-- A loop over tags has come to its end, or has left at an error. -/
def IxF (w : World) (c : Code) (pre : List (Int × Int)) (W : World) : Prop :=
  (c = .ret ∧ ∃ q x, pre = q ++ [x] ∧ (∀ y ∈ q, y.2 = 0) ∧ x.2 ≠ 0 ∧ Boxed W w.heap.size 3 (.int .i64 0) ∧ Boxed W (w.heap.size + 1) 25 (.int .i64 x.2)) ∧ Below w.heap.size w W
def InF (w : World) (pre : List (Int × Int)) (W : World) : Prop :=
  (Boxed W w.heap.size 3 (.int .i64 0) ∧ Boxed W (w.heap.size + 1) 25 (.int .i64 0) ∧ Boxed W (w.heap.size + 1 + 1) 3 (.int .i64 (sumW pre)) ∧ ∀ y ∈ pre, y.2 = 0) ∧ Below w.heap.size w W

section
attribute [local go_sem] Oper.semAt_some
set_option maxRecDepth 100000 in
set_option maxHeartbeats 2000000 in
theorem sfront_any (a : Option Addr) (len cap : Nat) (bs : List UInt8) (w : World) (ha : BArg w a len cap bs) :
    Calls Try.prog 18 #[.slice a len cap] w fun e W' => e = .returned (.tuple #[.int .i64 (frtP bs).1, .int .i64 (frtP bs).2]) ∧ Below w.heap.size w W' := by
  refine callsIn_wide (n := 5) |>.1 ?_
  refine callsIn_of_wp_marks Try.func18 rfl trivial ?_ rfl
  simp only [Try.ntmps18, List.size_toArray, List.length_cons, List.length_nil, Nat.reduceAdd, Nat.reduceSub, Array.replicate_succ, Array.replicate_zero, List.push_toArray, List.append_toArray, List.nil_append, List.cons_append]
  gi_wp2_with fail
  obtain ⟨w3, hw3⟩ : ∃ w3, w3 = ((w.alloc (.cells #[.int .i64 0] 3)).alloc (.cells #[.int .i64 0] 25)).alloc (.cells #[.int .i64 0] 3) := ⟨_, rfl⟩
  have q0 : Boxed w3 w.heap.size 3 (.int .i64 0) := by rw [hw3]; exact ((Boxed.new w _ _).alloc _).alloc _
  have q1 : Boxed w3 (w.heap.size + 1) 25 (.int .i64 0) := by
    rw [hw3]; have := Boxed.new (w.alloc (.cells #[.int .i64 0] 3)) 25 (.int .i64 0); rw [World.size_alloc] at this; exact this.alloc _
  have q2 : Boxed w3 (w.heap.size + 1 + 1) 3 (.int .i64 0) := by
    rw [hw3]; have := Boxed.new ((w.alloc (.cells #[.int .i64 0] 3)).alloc (.cells #[.int .i64 0] 25)) 3 (.int .i64 0); rw [World.size_alloc, World.size_alloc] at this; exact this
  have hs3 : w3.heap.size = w.heap.size + 1 + 1 + 1 := by rw [hw3]; simp
  have hB3 : Below w.heap.size w w3 := by rw [hw3]; exact (((Below.refl _ w).alloc (Nat.le_refl _) _).alloc (by simp) _).alloc (by simp; omega) _
  rw [← hw3]
  clear hw3
  refine ⟨trivial, ?_⟩
  refine (callsIn_wide.2 (tags_any a len cap w3)).mono ?_
  rintro e w4 ⟨rfl, hw4⟩
  have b3 := Boxed.new w3 22 (.slice a len cap)
  rw [← hw4, hs3] at b3
  have b0 : Boxed w4 w.heap.size 3 (.int .i64 0) := by rw [hw4]; exact q0.alloc _
  have b1 : Boxed w4 (w.heap.size + 1) 25 (.int .i64 0) := by rw [hw4]; exact q1.alloc _
  have b2 : Boxed w4 (w.heap.size + 1 + 1) 3 (.int .i64 0) := by rw [hw4]; exact q2.alloc _
  have hs4 : w4.heap.size = w.heap.size + 1 + 1 + 1 + 1 := by rw [hw4]; simp; omega
  have hB4 : Below w.heap.size w w4 := by rw [hw4]; exact hB3.alloc (by omega) _
  clear hw4 q0 q1 q2 hB3
  rw [hs3]
  gi_wp2_with fail
  refine wpIn_rangeFunc_ownF rfl (by omega) (gf := 56) (lb := #[.pointer (some ⟨w.heap.size + 1 + 1 + 1, 0, none⟩)]) rfl trivial (enters_of Try.func56 (by kernel_rfl) rfl)
    (tags_stops 4 (by omega) (w.heap.size + 1 + 1 + 1) w w4 a len cap bs ha hB4 (by omega) b3.cell) kpT_t (kpT_b (by omega) (by omega)) (Below.refl _ _) (fun _ => rfl)
    (InF w) (IxF w)
    (OwnFrom.and (Own.from (fun s A B row hs hg hr => ⟨box_keeps hs.1 hg hr, box_keeps hs.2.1 hg hr, box_keeps hs.2.2.1 hg hr, hs.2.2.2⟩) _) (ownFrom_below (Nat.le_refl _) (by omega)))
    (fun c => OwnFrom.and (Own.from (fun s A B row hs hg hr => by obtain ⟨h1, q, x, h2, h3, h4, h5, h6⟩ := hs; exact ⟨h1, q, x, h2, h3, h4, box_keeps h5 hg hr, box_keeps h6 hg hr⟩) _) (ownFrom_below (Nat.le_refl _) (by omega)))
    ⟨⟨b0, b1, b2, fun y hy => by cases hy⟩, hB4⟩
    (fun x => { tmps := #[.slice a len cap, undef, .pointer (some ⟨w.heap.size, 0, none⟩), .pointer (some ⟨w.heap.size + 1, 0, none⟩), .pointer (some ⟨w.heap.size + 1 + 1, 0, none⟩), .int .i64 x.1, .int .i64 x.2, .slice a len cap, .func (.func 56) #[] #[.pointer (some ⟨w.heap.size + 1 + 1 + 1, 0, none⟩)], .int .i64 x.1, .int .i64 x.2, undef, undef, undef, undef, undef, undef, undef], defers := [] }) ?assign ?body ?done ?stop
  case assign =>
    intro l x W K hK
    gi_wp2
    exact hK
  case body =>
    rintro l pre ⟨xn, xe⟩ W ⟨⟨hb0, hb1, hb2, hz⟩, hB⟩ _
    have c0 := hb0.cell
    have c1 := hb1.cell
    have c2 := hb2.cell
    have f0 := hb0.frozen
    have f1 := hb1.frozen
    have f2 := hb2.frozen
    by_cases hx : xe = 0
    · subst hx
      gi_wp2
      exact ⟨KeepsOthers.setCell _ _ _, ⟨(Below.refl w.heap.size W).setCell (p := ⟨w.heap.size + 1 + 1, 0, none⟩) (by show w.heap.size ≤ w.heap.size + 1 + 1; omega) _, fun v hv => by
        rw [World.cell?_setCell_far _ _ _ _ (by show w.heap.size + 1 + 1 ≠ w.heap.size + 1 + 1 + 1; omega)]; exact hv⟩,
        ⟨⟨hb0.other (by omega) _, hb1.other (by omega) _, by rw [sumW_snoc]; exact hb2.set _, fun y hy => by
          rcases List.mem_append.1 hy with h | h
          · exact hz y h
          · rw [List.mem_singleton.1 h]⟩, hB.setCell (p := ⟨w.heap.size + 1 + 1, 0, none⟩) (by show w.heap.size ≤ w.heap.size + 1 + 1; omega) _⟩⟩
    · have n0 : (xe != 0) = true := by simpa using hx
      gi_wp2
      exact ⟨(KeepsOthers.setCell _ _ _).trans (KeepsOthers.setCell _ _ _), ⟨rfl, pre, (xn, xe), rfl, hz, hx, (hb0.set _).other (by omega) _, (hb1.other (by omega) _).set _⟩,
        (hB.setCell (p := ⟨w.heap.size, 0, none⟩) (Nat.le_refl _) _).setCell (p := ⟨w.heap.size + 1, 0, none⟩) (by show w.heap.size ≤ w.heap.size + 1; omega) _⟩
  case done =>
    rintro D ys W hD rfl ⟨⟨hb0, hb1, hb2, hz⟩, hB⟩ hK
    have c0 := hb0.cell
    have c1 := hb1.cell
    have c2 := hb2.cell
    have f0 := hb0.frozen
    have f1 := hb1.frozen
    have f2 := hb2.frozen
    gi_wp2
    have g0 := (hb0.set (.int .i64 (sumW (sq bs 0)))).other (show w.heap.size ≠ w.heap.size + 1 by omega) (.int .i64 0)
    have g1 := (hb1.other (show w.heap.size + 1 ≠ w.heap.size by omega) (.int .i64 (sumW (sq bs 0)))).set (.int .i64 0)
    have hB5 := (hB.setCell (p := ⟨w.heap.size, 0, none⟩) (Nat.le_refl _) (.int .i64 (sumW (sq bs 0)))).setCell (p := ⟨w.heap.size + 1, 0, none⟩) (by show w.heap.size ≤ w.heap.size + 1; omega) (.int .i64 0)
    have hK' := ((KeepsOthers.setCell W ⟨w.heap.size, 0, none⟩ (.int .i64 (sumW (sq bs 0)))).trans (KeepsOthers.setCell _ ⟨w.heap.size + 1, 0, none⟩ (.int .i64 0))).same D _ hK rfl
    refine ⟨by simp, .inl ⟨_, _, rfl, run_takeDeferred hK', ?_⟩⟩
    have r0 := (box_putted g0 (.deferred none) hK' rfl).cell
    have r1 := (box_putted g1 (.deferred none) hK' rfl).cell
    have hE0 : sqE (sq bs 0) = 0 := sqE_zero _ hz
    obtain ⟨m, hm, _, hm4, hz2, _⟩ := sq_sum bs bs.length 0 (by omega) (by omega) (by omega) hE0
    have hsum : sumW (sq bs 0) = sumL ((sq bs 0).map (·.1)) := by
      have := sumW_fold (sq bs 0) 0 (by omega) (fun x hx => by have := (hz2 x hx).2; omega) (by rw [hm]; omega)
      unfold sumW
      rw [this, Int.zero_add]
    have hfr : frtP bs = (sumW (sq bs 0), 0) := by
      unfold frtP ptsL ptsE
      rw [hE0, if_pos rfl, hsum]
    refine ⟨.tuple #[.int .i64 (sumW (sq bs 0)), .int .i64 0], ?_, by rw [hfr], hB5.trans (belowK_b (w := w) (Nat.le_refl _) _ D _ _ (by omega) hK' rfl rfl)⟩
    simp [results, Try.f18, go_sem, r0, r1]
  case stop =>
    rintro D c pre W hD hp ⟨⟨rfl, q, x, rfl, hq, hx, hb0, hb1⟩, hB⟩ hK
    gi_wp2
    refine ⟨by simp, .inl ⟨_, _, rfl, run_takeDeferred hK, ?_⟩⟩
    have r0 := (box_putted hb0 (.deferred none) hK rfl).cell
    have r1 := (box_putted hb1 (.deferred none) hK rfl).cell
    obtain ⟨t, ht⟩ := hp
    have hE : sqE (sq bs 0) = x.2 := by rw [← ht]; exact sqE_hit q t x hq hx
    have hfr : frtP bs = (0, x.2) := by
      unfold frtP ptsL ptsE
      rw [hE, if_neg hx]
      rfl
    refine ⟨.tuple #[.int .i64 0, .int .i64 x.2], ?_, by rw [hfr], hB.trans (belowK_b (w := w) (Nat.le_refl _) _ D _ _ (by omega) hK rfl rfl)⟩
    simp [results, Try.f18, go_sem, r0, r1]
end
end Go.Proofs.Ytgdchcaglkeghaa
