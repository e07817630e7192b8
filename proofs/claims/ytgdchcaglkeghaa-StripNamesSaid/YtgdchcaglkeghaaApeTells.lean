/- The walk of ape.tells. -/
import Derived.Test.YtgdchcaglkeghaaApeEnd
import Derived.Test.YtgdchcaglkeghaaLeVal
import Derived.Test.YtgdchcaglkeghaaEqual
import Derived.Deep.RegionHeld3
import Derived.Deep.DrawnRows
import Derived.Deep.DeepCutAuto
namespace Go.Proofs.Ytgdchcaglkeghaa
open Go.RowKit
attribute [local go_sem ↓] Go.wp_at_zero Go.wp_at_succ

/-- The numbers that 32 bytes tell. -/
def tellV (l : List UInt8) : Nat := Le.val ((l.take 16).drop 12)
def tellC (l : List UInt8) : Nat := Le.val ((l.take 20).drop 16)
/-- May they be told? -/
def tellB (l : List UInt8) : Bool := decide (32 ≤ tellV l ∧ tellV l ≤ 3032 ∧ tellC l ≤ 1000)
theorem tellV_lt (l : List UInt8) : tellV l < 4294967296 := by
  have h := Le.val_lt ((l.take 16).drop 12)
  have : ((l.take 16).drop 12).length ≤ 4 := by simp; omega
  have := Nat.pow_le_pow_right (n := 256) (by omega) this
  unfold tellV; omega
theorem tellC_lt (l : List UInt8) : tellC l < 4294967296 := by
  have h := Le.val_lt ((l.take 20).drop 16)
  have : ((l.take 20).drop 16).length ≤ 4 := by simp; omega
  have := Nat.pow_le_pow_right (n := 256) (by omega) this
  unfold tellC; omega

/-- What a cell holds. -/
def cv (w : World) (p : Addr) : Value := (w.cell? p).getD undef
theorem cv_of {w : World} {p : Addr} {u : Value} (h : w.cell? p = some u) : w.cell? p = some (cv w p) := by unfold cv; rw [h]; rfl
theorem cv_set {w : World} {p q : Addr} {x : Value} (h : w.cell? q = some (cv w q)) : (w.setCell p x).cell? q = some (cv (w.setCell p x) q) := by
  obtain ⟨v', hv⟩ := cell?_setCell_some (w := w) (p := p) (x := x) (q := q) (v := cv w q) h
  exact cv_of hv
theorem grown_setCell (w : World) (p : Addr) (u : Value) : w.grownBy (w.setCell p u) (some p.block) :=
  ⟨rfl, rfl, rfl, by simp [World.setCell], fun i _ hne => Below.heap_setCell w p u i (by rintro rfl; exact hne rfl)⟩
/-- A store elsewhere. -/
theorem Owns.setOther {w : World} {base : Nat} {v : Value} {l : List UInt8} (h : Owns w base v l) (p : Addr) (u : Value) (hp : p.block < base) : Owns (w.setCell p u) base v l :=
  h.kept (grown_setCell w p u) (by
    cases hv : v.ownBlock with
    | none => exact .inl rfl
    | some k =>
      right
      intro e
      injection e with e
      have := (h.lt k hv).1
      omega)
theorem cv_drew {w : World} {q : Addr} (h : w.cell? q = some (cv w q)) : w.drew.cell? q = some (cv w.drew q) := h

set_option maxHeartbeats 400000 in
theorem tells_no (a : Option Addr) (cap : Nat) (l : List UInt8) (fl : Nat) (w : World) (ha : BArg w a 32 cap l) (ht : tellB l = false) :
    Calls Try.prog 50 #[.slice a 32 cap, .int .u64 (fl : Int)] w fun e w' => e = .returned (.tuple #[.agg #[.int .i64 0, .int .i64 0], .bool false]) ∧ Below w.heap.size w w' := by
  have HA := Lib.hid (ha.alloc (.cells #[.int .i64 0, .int .i64 0] 68))
  have h1 := tellV_lt l
  have h2 := tellC_lt l
  have h3 : tellV l < 32 ∨ (32 ≤ tellV l ∧ 3032 < tellV l) ∨ (32 ≤ tellV l ∧ tellV l ≤ 3032 ∧ 1000 < tellC l) := by
    unfold tellB at ht
    simp only [decide_eq_false_iff_not] at ht
    omega
  have e1 : Le.val ((l.take 16).drop 12) = tellV l := rfl
  have e2 : Le.val ((l.take 20).drop 16) = tellC l := rfl
  have E1 := Lib.hid e1
  have E2 := Lib.hid e2
  clear e1 e2 ha ht
  generalize tellV l = V at *
  generalize tellC l = C at *
  go_enter Try.func50, Try.ntmps50
  go_wp2_with fail
  refine (at_ok a 32 cap l 12 4 _ HA.out (by omega) (by omega) (by omega)).mono ?_
  rintro e w1 ⟨rfl, rfl⟩
  rw [E1.out]
  go_wp2_with fail
  refine (at_ok a 32 cap l 16 4 _ HA.out (by omega) (by omega) (by omega)).mono ?_
  rintro e w1 ⟨rfl, rfl⟩
  rw [E2.out]
  rcases h3 with h3 | ⟨h3, h4⟩ | ⟨h3, h4, h5⟩
  all_goals
    go_wp2_with fail
    exact bodyPost_ret (v := .tuple #[.agg #[.int .i64 0, .int .i64 0], .bool false]) (by simp [results, Try.results50, go_sem]) rfl ⟨rfl, (Below.refl _ _).alloc (Nat.le_refl _) _⟩

set_option maxRecDepth 100000 in
set_option maxHeartbeats 1000000 in
theorem tells_yes (a : Option Addr) (cap : Nat) (l : List UInt8) (fl : Nat) (hfl : fl < 4294967296) (w : World) (ha : BArg w a 32 cap l) (ht : tellB l = true) :
    Calls Try.prog 50 #[.slice a 32 cap, .int .u64 (fl : Int)] w fun e w' => e = .returned (.tuple #[.agg #[.int .i64 ((tellV l - 32 : Nat) : Int), .int .i64 (tellC l : Int)], .bool (l == endL (tellV l - 32) (tellC l) fl)]) ∧ Below w.heap.size w w' := by
  have HA0 := Lib.hid ha
  have HA := Lib.hid (ha.alloc (.cells #[.int .i64 0, .int .i64 0] 68))
  have h3 : 32 ≤ tellV l ∧ tellV l ≤ 3032 ∧ tellC l ≤ 1000 := by
    unfold tellB at ht
    simpa only [decide_eq_true_eq] using ht
  have e1 : Le.val ((l.take 16).drop 12) = tellV l := rfl
  have e2 : Le.val ((l.take 20).drop 16) = tellC l := rfl
  have E1 := Lib.hid e1
  have E2 := Lib.hid e2
  clear e1 e2 ha ht
  obtain ⟨h3, h4, h5⟩ := h3
  generalize tellV l = V at *
  generalize tellC l = C at *
  have HN : Hid (((V - 32 : Nat) : Int) = (V : Int) - 32) := Lib.hid (by omega)
  have HN0 : Hid (V - 32 ≤ 3000) := Lib.hid (by omega)
  generalize V - 32 = N at HN HN0 ⊢
  go_enter Try.func50, Try.ntmps50
  go_wp2_with fail
  refine (at_ok a 32 cap l 12 4 _ HA.out (by omega) (by omega) (by omega)).mono ?_
  rintro e w1 ⟨rfl, rfl⟩
  rw [E1.out]
  go_wp2_with fail
  refine (at_ok a 32 cap l 16 4 _ HA.out (by omega) (by omega) (by omega)).mono ?_
  rintro e w1 ⟨rfl, rfl⟩
  rw [E2.out]
  go_upto_region 6 with fail
  obtain ⟨W, hW⟩ : ∃ W, W = (w.alloc (.cells #[.int .i64 0, .int .i64 0] 68)).alloc (.cells #[.int .i64 (V - 32), .int .i64 C] 68) := ⟨_, rfl⟩
  rw [← hW]
  rw [← HN.out] at hW ⊢
  have hsz : W.heap.size = w.heap.size + 2 := by rw [hW]; simp
  have s0 : (w.alloc (.cells #[.int .i64 0, .int .i64 0] 68)).heap.size = w.heap.size + 1 := by simp
  have f0 : W.cell? ⟨w.heap.size + 1, 0, none⟩ = some (.int .i64 (N : Int)) := by rw [hW, ← s0, World.cell?_alloc_at _ _ _ _ rfl]; rfl
  have f1 : W.cell? ⟨w.heap.size + 1, 1, none⟩ = some (.int .i64 (C : Int)) := by rw [hW, ← s0, World.cell?_alloc_at _ _ _ _ rfl]; rfl
  have g0 : W.cell? ⟨w.heap.size, 0, none⟩ = some (.int .i64 0) := by rw [hW, World.cell?_alloc_lt _ _ _ (by simp), World.cell?_alloc_at _ _ _ _ rfl]; rfl
  have g1 : W.cell? ⟨w.heap.size, 1, none⟩ = some (.int .i64 0) := by rw [hW, World.cell?_alloc_lt _ _ _ (by simp), World.cell?_alloc_at _ _ _ _ rfl]; rfl
  have z0 : W.frozen? ⟨w.heap.size, 0, none⟩ = false := by rw [hW]; go_simp
  have z1 : W.frozen? ⟨w.heap.size, 1, none⟩ = false := by rw [hW]; go_simp
  have HB : Hid (Below w.heap.size w W) := Lib.hid (by rw [hW]; exact ((Below.refl _ _).alloc (Nat.le_refl _) _).alloc (by simp) _)
  have HAW : Hid (BArg W a 32 cap l) := Lib.hid (by rw [hW]; exact HA.out.alloc _)
  have HZ := Lib.hid hsz
  have hlt : w.heap.size + 1 < W.heap.size := by omega
  clear hW hsz s0
  have c0 := cv_of g0
  have c1 := cv_of g1
  have c0d := cv_drew c0
  have c1d := cv_drew c1
  clear g0 g1 c0 c1
  go_region_held3 (fun w' => w'.cell? ⟨w.heap.size + 1, 0, none⟩ = some (.int .i64 (N : Int)) ∧ w'.cell? ⟨w.heap.size + 1, 1, none⟩ = some (.int .i64 (C : Int)) ∧ w'.cell? ⟨w.heap.size, 0, none⟩ = some (cv w' ⟨w.heap.size, 0, none⟩) ∧ w'.cell? ⟨w.heap.size, 1, none⟩ = some (cv w' ⟨w.heap.size, 1, none⟩) ∧ w'.frozen? ⟨w.heap.size, 0, none⟩ = false ∧ w'.frozen? ⟨w.heap.size, 1, none⟩ = false) (((try dsimp only); (repeat' apply And.intro) <;> (first | assumption | go_keep | exact cv_set (cv_set (by assumption))))) ((first | (go_at_call 46; have hH := ‹_ ∧ _ ∧ _ ∧ _ ∧ _ ∧ _›; refine (end_any N C fl HN0.out h5 hfl _).mono ?_; rintro e w2 ⟨A, c1, rfl, ho, hb⟩; have f0' := (hb.cell (p := ⟨w.heap.size + 1, 0, none⟩) (by simp; omega)).trans hH.1; have f1' := (hb.cell (p := ⟨w.heap.size + 1, 1, none⟩) (by simp; omega)).trans hH.2.1; have g0' := cv_of ((hb.cell (p := ⟨w.heap.size, 0, none⟩) (by simp; omega)).trans hH.2.2.1); have g1' := cv_of ((hb.cell (p := ⟨w.heap.size, 1, none⟩) (by simp; omega)).trans hH.2.2.2.1); have z0' := (hb.frozen (p := ⟨w.heap.size, 0, none⟩) (by simp; omega)).trans hH.2.2.2.2.1; have z1' := (hb.frozen (p := ⟨w.heap.size, 1, none⟩) (by simp; omega)).trans hH.2.2.2.2.2; have HO := Lib.hid (ho.mono (b := W.heap.size) (by simp)); have HBx : Hid (Below w.heap.size w w2) := Lib.hid (by first | exact HB.out.drew.trans (hb.mono (by simp; omega)) | exact ((HB.out.drew.setCell (p := ⟨w.heap.size, 0, none⟩) (Nat.le_refl _) _).setCell (p := ⟨w.heap.size, 1, none⟩) (Nat.le_refl _) _).trans (hb.mono (by simp; omega))); have HB2 := Lib.hid hb; clear ho hb) | (go_at_call 51; refine (equal_any a 32 cap l _ 32 _ (endL N C fl) _ (HA0.out.below HBx.out) HO.out.arg).mono ?_; rintro e w3 ⟨rfl, rfl⟩) | (go_at_call 51; refine (equal_any a 32 cap l _ 32 _ (endL N C fl) _ (HA0.out.below ((HBx.out.setCell (p := ⟨w.heap.size, 0, none⟩) (Nat.le_refl _) _).setCell (p := ⟨w.heap.size, 1, none⟩) (Nat.le_refl _) _)) ((HO.out.setOther ⟨w.heap.size, 0, none⟩ _ (show w.heap.size < W.heap.size by omega)).setOther ⟨w.heap.size, 1, none⟩ _ (show w.heap.size < W.heap.size by omega)).arg).mono ?_; rintro e w3 ⟨rfl, rfl⟩)))
  go_wp2_with fail
  exact bodyPost_ret (v := .tuple #[.agg #[.int .i64 (N : Int), .int .i64 (C : Int)], .bool (l == endL N C fl)]) (by simp [results, Try.results50, go_sem, g0', g1']) rfl ⟨rfl, (HBx.out.setCell (p := ⟨w.heap.size, 0, none⟩) (Nat.le_refl _) _).setCell (p := ⟨w.heap.size, 1, none⟩) (Nat.le_refl _) _⟩
end Go.Proofs.Ytgdchcaglkeghaa
