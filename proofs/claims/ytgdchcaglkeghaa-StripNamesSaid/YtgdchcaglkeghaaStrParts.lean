/- The walk of strip.Parts. -/
import Derived.Test.YtgdchcaglkeghaaStrFront
import Derived.Maps.AppendAt
namespace Go.Proofs.Ytgdchcaglkeghaa
open Go.RowKit Go.Shelf

theorem sq_len (l : List UInt8) : ∀ (k p : Nat), l.length - p ≤ k → p ≤ l.length → p ≤ 4000 → (sq l p).length ≤ 4001 - p := by
  intro k
  induction k with
  | zero =>
    intro p hk hp hm
    rcases tag_cases (l.drop p) with ⟨n, e, h10, hn, _⟩ | ⟨e, he, h1, h2⟩
    · have hd : (l.drop p).length = l.length - p := by simp
      omega
    · by_cases h6 : e = 6
      · subst h6
        rw [sq_end l p hp (by rw [he])]
        simp
      · rw [sq_bad l p hp e he h6 (by omega)]
        simp
        omega
  | succ k ih =>
    intro p hk hp hm
    rcases tag_cases (l.drop p) with ⟨n, e, h10, hn, _⟩ | ⟨e, he, h1, h2⟩
    · have hd : (l.drop p).length = l.length - p := by simp
      by_cases h4 : 4000 < p + n
      · rw [sq_many l p hp n e h4]
        simp
        omega
      · rw [sq_next l p n e (by omega) (by omega)]
        have := ih (p + n) (by omega) (by omega) (by omega)
        simp
        omega
    · by_cases h6 : e = 6
      · subst h6
        rw [sq_end l p hp (by rw [he])]
        simp
      · rw [sq_bad l p hp e he h6 (by omega)]
        simp
        omega

theorem infoInt : (Try.prog.info? 3).map (fun i => (i.zero, i.size, i.bytes)) = some (some (.int .i64 0), 1, 8) := by kernel_rfl
/-- Numbers as the values of a slice. -/
def vi (L : List Int) : List Value := L.map (Value.int .i64)
/-- A slice of numbers that a call owns. -/
def IOwns (w : World) (base : Nat) (v : Value) (L : List Int) : Prop := w.ownsRow base 3 1 v L.length (vi L)

theorem row_form {w : World} {base k : Nat} {v : Value} {e : TypeId} {xs : List Value} (h : w.ownsRow base e 1 v k xs) : ∃ A n c, v = .slice A n c := by
  rcases h.2 with ⟨rfl, _⟩ | ⟨g, cap, cur, rfl, _⟩
  · exact ⟨_, _, _, rfl⟩
  · exact ⟨_, _, _, rfl⟩
theorem row_set {W : World} {base k B : Nat} {v u : Value} {t e : TypeId} {xs : List Value} (h : W.ownsRow base e 1 v k xs) (hb : Boxed W B t u) (hte : t ≠ e) (x : Value) : (W.setCell ⟨B, 0, none⟩ x).ownsRow base e 1 v k xs := by
  refine h.kept (grownBy_setCell' W B x) ?_
  by_cases hv : v.ownBlock = none
  · exact .inl hv
  · exact .inr (fun e' => hb.not_row hte h e'.symm)
def IxP (w : World) (c : Code) (pre : List (Int × Int)) (W : World) : Prop :=
  (c = .ret ∧ ∃ q x, pre = q ++ [x] ∧ (∀ y ∈ q, y.2 = 0) ∧ x.2 ≠ 0 ∧ Boxed W w.heap.size 38 (.slice none 0 0) ∧ Boxed W (w.heap.size + 1) 25 (.int .i64 x.2)) ∧ Below w.heap.size w W
def InP (w : World) (bv : Value) (pre : List (Int × Int)) (W : World) : Prop :=
  ((∃ v, Boxed W (w.heap.size + 1 + 1) 38 v ∧ W.ownsRow w.heap.size 3 1 v pre.length (vi (pre.map (·.1))) ∧ True) ∧ (Boxed W w.heap.size 38 (.slice none 0 0) ∧ Boxed W (w.heap.size + 1) 25 (.int .i64 0) ∧ Boxed W (w.heap.size + 1 + 1 + 1) 22 bv ∧ ∀ y ∈ pre, y.2 = 0)) ∧ Below w.heap.size w W

section
attribute [local go_sem] Oper.semAt_some
set_option maxRecDepth 100000 in
set_option maxHeartbeats 2000000 in
theorem sparts_any (a : Option Addr) (len cap : Nat) (bs : List UInt8) (w : World) (ha : BArg w a len cap bs) :
    Calls Try.prog 38 #[.slice a len cap] w fun e W' => ∃ v, e = .returned (.tuple #[v, .int .i64 (ptsE bs)]) ∧ IOwns W' w.heap.size v (ptsL bs) ∧ Below w.heap.size w W' := by
  have hsl := sq_len bs bs.length 0 (by omega) (by omega) (by omega)
  obtain ⟨i0, hi, hz0, hz1, hz2⟩ := info_parts infoInt
  refine callsIn_wide (n := 5) |>.1 ?_
  refine callsIn_of_wp_marks Try.func38 rfl trivial ?_ rfl
  simp only [Try.ntmps38, List.size_toArray, List.length_cons, List.length_nil, Nat.reduceAdd, Nat.reduceSub, Array.replicate_succ, Array.replicate_zero, List.push_toArray, List.append_toArray, List.nil_append, List.cons_append]
  gi_wp2_with fail
  obtain ⟨w3, hw3⟩ : ∃ w3, w3 = ((w.alloc (.cells #[.slice none 0 0] 38)).alloc (.cells #[.int .i64 0] 25)).alloc (.cells #[.slice none 0 0] 38) := ⟨_, rfl⟩
  have q0 : Boxed w3 w.heap.size 38 (.slice none 0 0) := by rw [hw3]; exact ((Boxed.new w _ _).alloc _).alloc _
  have q1 : Boxed w3 (w.heap.size + 1) 25 (.int .i64 0) := by
    rw [hw3]; have := Boxed.new (w.alloc (.cells #[.slice none 0 0] 38)) 25 (.int .i64 0); rw [World.size_alloc] at this; exact this.alloc _
  have q2 : Boxed w3 (w.heap.size + 1 + 1) 38 (.slice none 0 0) := by
    rw [hw3]; have := Boxed.new ((w.alloc (.cells #[.slice none 0 0] 38)).alloc (.cells #[.int .i64 0] 25)) 38 (.slice none 0 0); rw [World.size_alloc, World.size_alloc] at this; exact this
  have hs3 : w3.heap.size = w.heap.size + 1 + 1 + 1 := by rw [hw3]; simp
  have hB3 : Below w.heap.size w w3 := by rw [hw3]; exact (((Below.refl _ w).alloc (Nat.le_refl _) _).alloc (by simp) _).alloc (by simp; omega) _
  rw [← hw3]
  clear hw3
  refine ⟨trivial, ?_⟩
  refine (callsIn_wide.2 (tags_any a len cap w3)).mono ?_
  rintro e w4 ⟨rfl, hw4⟩
  have b3 := Boxed.new w3 22 (.slice a len cap)
  rw [← hw4, hs3] at b3
  have b0 : Boxed w4 w.heap.size 38 (.slice none 0 0) := by rw [hw4]; exact q0.alloc _
  have b1 : Boxed w4 (w.heap.size + 1) 25 (.int .i64 0) := by rw [hw4]; exact q1.alloc _
  have b2 : Boxed w4 (w.heap.size + 1 + 1) 38 (.slice none 0 0) := by rw [hw4]; exact q2.alloc _
  have hs4 : w4.heap.size = w.heap.size + 1 + 1 + 1 + 1 := by rw [hw4]; simp; omega
  have hB4 : Below w.heap.size w w4 := by rw [hw4]; exact hB3.alloc (by omega) _
  clear hw4 q0 q1 q2 hB3
  rw [hs3]
  gi_wp2_with fail
  refine wpIn_rangeFunc_ownF rfl (by omega) (gf := 56) (lb := #[.pointer (some ⟨w.heap.size + 1 + 1 + 1, 0, none⟩)]) rfl trivial (enters_of Try.func56 (by kernel_rfl) rfl)
    (tags_stops 4 (by omega) (w.heap.size + 1 + 1 + 1) w w4 a len cap bs ha hB4 (by omega) b3.cell) kpT_t (kpT_b (by omega) (by omega)) (Below.refl _ _) (fun _ => rfl)
    (InP w (.slice a len cap)) (IxP w)
    (OwnFrom.and (Own.from (fun s A B row hs hg hr => ⟨holdsRow_own w.heap.size (w.heap.size + 1 + 1) 38 3 1 (fun pre : List (Int × Int) => pre.length) (fun pre => vi (pre.map (·.1))) (fun _ _ => True) s A B row hs.1 hg hr, box_keeps hs.2.1 hg hr, box_keeps hs.2.2.1 hg hr, box_keeps hs.2.2.2.1 hg hr, hs.2.2.2.2⟩) _) (ownFrom_below (Nat.le_refl _) (by omega)))
    (fun c => OwnFrom.and (Own.from (fun s A B row hs hg hr => by obtain ⟨h1, q, x, h2, h3, h4, h5, h6⟩ := hs; exact ⟨h1, q, x, h2, h3, h4, box_keeps h5 hg hr, box_keeps h6 hg hr⟩) _) (ownFrom_below (Nat.le_refl _) (by omega)))
    ⟨⟨⟨_, b2, World.ownsRow_nil _ _ _ _, trivial⟩, b0, b1, b3, fun y hy => by cases hy⟩, hB4⟩
    (fun x => { tmps := #[.slice a len cap, undef, .pointer (some ⟨w.heap.size, 0, none⟩), .pointer (some ⟨w.heap.size + 1, 0, none⟩), .pointer (some ⟨w.heap.size + 1 + 1, 0, none⟩), .int .i64 x.1, .int .i64 x.2, .slice a len cap, .func (.func 56) #[] #[.pointer (some ⟨w.heap.size + 1 + 1 + 1, 0, none⟩)], .int .i64 x.1, .int .i64 x.2, undef, undef, undef, undef, undef, undef, undef, undef], defers := [] }) ?assign ?body ?done ?stop
  case assign =>
    intro l x W K hK
    gi_wp2
    exact hK
  case body =>
    rintro l pre ⟨xn, xe⟩ W ⟨⟨⟨v, hb2, hrow, _⟩, hb0, hb1, hb3, hz⟩, hB⟩ hlt
    have c0 := hb0.cell
    have c1 := hb1.cell
    have c2 := hb2.cell
    have f0 := hb0.frozen
    have f1 := hb1.frozen
    have f2 := hb2.frozen
    by_cases hx : xe = 0
    · subst hx
      have hmax : pre.length + 1 ≤ maxLen := by unfold maxLen; omega
      gi_wp2_with (gi_at_builtin; refine wpListIn_append_own _ rfl _ _ 38 rfl w.heap.size 3 i0 (.int .i64 0) 1 8 Try.underlying38 hi hz0 hz1 hz2 rfl (by decide) _ _ _ rfl (hrow.alloc _) ⟨W.heap.size, 0, none⟩ 1 1 [.int .i64 xn] rfl rfl (cell_one_new _ _ _) (by simp [Value.oneCell']) (by omega) (by omega) (by have := hB.size; simp; omega) ?_; intro v' w1 hown' hgrow _; obtain ⟨g', cap', rfl⟩ := ownsRow_succ hown'; obtain ⟨hv1, hv2, hr2, hk2, hbb⟩ := hb2.appended (by decide) hrow hB.size (by omega) hown' hgrow; have hc1 := hv1.cell; have hf1 := hv1.frozen)
      have k0 := ((hb0.alloc _).kept hgrow (hb0.not_row (by decide) hrow)).other (show w.heap.size ≠ w.heap.size + 1 + 1 by omega) (.slice (some ⟨g', 0, none⟩) (pre.length + 1) cap')
      have k1 := ((hb1.alloc _).kept hgrow (hb1.not_row (by decide) hrow)).other (show w.heap.size + 1 ≠ w.heap.size + 1 + 1 by omega) (.slice (some ⟨g', 0, none⟩) (pre.length + 1) cap')
      have k3 := ((hb3.alloc _).kept hgrow (hb3.not_row (by decide) hrow)).other (show w.heap.size + 1 + 1 + 1 ≠ w.heap.size + 1 + 1 by omega) (.slice (some ⟨g', 0, none⟩) (pre.length + 1) cap')
      refine ⟨hk2, ⟨hbb, fun v hv => ?_⟩, ⟨⟨_, hv2, ?_, trivial⟩, k0, k1, k3, fun y hy => ?_⟩, hB.trans hbb⟩
      · rw [hb3.cell] at hv
        rw [← hv]
        exact k3.cell
      · simpa [vi] using hr2
      · rcases List.mem_append.1 hy with h | h
        · exact hz y h
        · rw [List.mem_singleton.1 h]
    · have n0 : (xe != 0) = true := by simpa using hx
      gi_wp2
      exact ⟨(KeepsOthers.setCell _ _ _).trans (KeepsOthers.setCell _ _ _), ⟨rfl, pre, (xn, xe), rfl, hz, hx, (hb0.set _).other (by omega) _, (hb1.other (by omega) _).set _⟩,
        (hB.setCell (p := ⟨w.heap.size, 0, none⟩) (Nat.le_refl _) _).setCell (p := ⟨w.heap.size + 1, 0, none⟩) (by show w.heap.size ≤ w.heap.size + 1; omega) _⟩
  case done =>
    rintro D ys W hD rfl ⟨⟨⟨v, hb2, hrow, _⟩, hb0, hb1, hb3, hz⟩, hB⟩ hK
    have c0 := hb0.cell
    have c1 := hb1.cell
    have c2 := hb2.cell
    have f0 := hb0.frozen
    have f1 := hb1.frozen
    have f2 := hb2.frozen
    obtain ⟨A, n, k, rfl⟩ := row_form hrow
    gi_wp2
    have g0 := (hb0.set (.slice A n k)).other (show w.heap.size ≠ w.heap.size + 1 by omega) (.int .i64 0)
    have g1 := (hb1.other (show w.heap.size + 1 ≠ w.heap.size by omega) (.slice A n k)).set (.int .i64 0)
    have hB5 := (hB.setCell (p := ⟨w.heap.size, 0, none⟩) (Nat.le_refl _) (.slice A n k)).setCell (p := ⟨w.heap.size + 1, 0, none⟩) (by show w.heap.size ≤ w.heap.size + 1; omega) (.int .i64 0)
    have hK' := ((KeepsOthers.setCell W ⟨w.heap.size, 0, none⟩ (.slice A n k)).trans (KeepsOthers.setCell _ ⟨w.heap.size + 1, 0, none⟩ (.int .i64 0))).same D _ hK rfl
    have hr5 := row_set (row_set hrow hb0 (by decide) (.slice A n k)) (hb1.other (show w.heap.size + 1 ≠ w.heap.size by omega) (.slice A n k)) (by decide) (.int .i64 0)
    refine ⟨by simp, .inl ⟨_, _, rfl, run_takeDeferred hK', ?_⟩⟩
    have r0 := (box_putted g0 (.deferred none) hK' rfl).cell
    have r1 := (box_putted g1 (.deferred none) hK' rfl).cell
    have hE0 : sqE (sq bs 0) = 0 := sqE_zero _ hz
    have hpl : ptsL bs = (sq bs 0).map (·.1) := by unfold ptsL; rw [hE0, if_pos rfl]
    have hpe : ptsE bs = 0 := hE0
    refine ⟨.tuple #[.slice A n k, .int .i64 0], ?_, .slice A n k, by rw [hpe], ?_, hB5.trans (belowK_b (w := w) (Nat.le_refl _) _ D _ _ (by omega) hK' rfl rfl)⟩
    · simp [results, Try.f38, go_sem, r0, r1]
    · rw [hpl]
      unfold IOwns
      rw [List.length_map]
      exact ownsRow_putObj hr5 _ hK' rfl
  case stop =>
    rintro D c pre W hD hp ⟨⟨rfl, q, x, rfl, hq, hx, hb0, hb1⟩, hB⟩ hK
    gi_wp2
    refine ⟨by simp, .inl ⟨_, _, rfl, run_takeDeferred hK, ?_⟩⟩
    have r0 := (box_putted hb0 (.deferred none) hK rfl).cell
    have r1 := (box_putted hb1 (.deferred none) hK rfl).cell
    obtain ⟨t, ht⟩ := hp
    have hE : sqE (sq bs 0) = x.2 := by rw [← ht]; exact sqE_hit q t x hq hx
    have hpl : ptsL bs = [] := by unfold ptsL; rw [hE, if_neg hx]
    have hpe : ptsE bs = x.2 := hE
    refine ⟨.tuple #[.slice none 0 0, .int .i64 x.2], ?_, .slice none 0 0, by rw [hpe], by rw [hpl]; exact World.ownsRow_nil _ _ _ _, hB.trans (belowK_b (w := w) (Nat.le_refl _) _ D _ _ (by omega) hK rfl rfl)⟩
    simp [results, Try.f38, go_sem, r0, r1]
end
end Go.Proofs.Ytgdchcaglkeghaa
