/- The walk of fmtchunk.form. -/
import Derived.Test.YtjcemacgiehklaaDoorFmt
import Derived.Deep.RegionHeld3
import Derived.Deep.DrawnRows
import Derived.Deep.DeepCutAuto
namespace Go.Proofs.YtjcemacgiehklaaDoor
open Go.RowKit
attribute [local go_sem ↓] Go.wp_at_zero Go.wp_at_succ

/-- The parts of a form. -/
def partN (c b r : Nat) (wide : Bool) (m j : Nat) : Nat := [if wide = true then 65534 else 1, c, r, r * (c * b / 8), c * b / 8, b, 22, b, m].getD j 0
/-- How many bytes the first parts have. -/
def wsum : Nat → Nat
  | 0 => 0
  | k + 1 => wsum k + wdN k
/-- The bytes of the first parts. -/
def formK (f : Nat → Nat) : Nat → List UInt8
  | 0 => []
  | k + 1 => formK f k ++ Le.bs (f k) (wdN k)
theorem formK_length (f : Nat → Nat) (k : Nat) : (formK f k).length = wsum k := by
  induction k with
  | zero => rfl
  | succ k ih => rw [formK, List.length_append, ih, Le.bs_length, wsum]
/-- How many parts a form has, and how many bytes. -/
def lastN (wide : Bool) : Nat := if wide = true then 9 else 6
def formN (wide : Bool) : Nat := if wide = true then 40 else 16
/-- The bytes of a form. -/
def formL (c b r : Nat) (wide : Bool) (m : Nat) : List UInt8 := formK (partN c b r wide m) (lastN wide) ++ if wide = true then guidL else []
theorem formL_length (c b r : Nat) (wide : Bool) (m : Nat) : (formL c b r wide m).length = formN wide := by
  unfold formL
  rw [List.length_append, formK_length]
  cases wide <;> rfl
theorem wd_bounds (j : Nat) (h : j < 9) : 1 ≤ wdN j ∧ wdN j ≤ 8 ∧ wsum (j + 1) = wsum j + wdN j ∧ wsum j + wdN j ≤ 24 := by
  have : j = 0 ∨ j = 1 ∨ j = 2 ∨ j = 3 ∨ j = 4 ∨ j = 5 ∨ j = 6 ∨ j = 7 ∨ j = 8 := by omega
  rcases this with h | h | h | h | h | h | h | h | h <;> subst h <;> decide
theorem partN_lt (c b r : Nat) (wide : Bool) (m j : Nat) (hj : j < 9) (h1 : c ≤ 6) (h2 : b ≤ 24) (h3 : r ≤ 1048576) (hm : m < 4294967296) : partN c b r wide m j < 256 ^ wdN j := by
  have hcb : c * b ≤ 6 * 24 := Nat.mul_le_mul h1 h2
  have hz : c * b / 8 ≤ 18 := by omega
  have hrz : r * (c * b / 8) ≤ 1048576 * 18 := Nat.mul_le_mul h3 hz
  have : j = 0 ∨ j = 1 ∨ j = 2 ∨ j = 3 ∨ j = 4 ∨ j = 5 ∨ j = 6 ∨ j = 7 ∨ j = 8 := by omega
  rcases this with h | h | h | h | h | h | h | h | h <;> subst h
  · cases wide <;> simp [partN, wdN, wdL]
  all_goals (simp [partN, wdN, wdL]; try omega)

theorem size_int (c b : Nat) (hc : c ≤ 6) (hb : b ≤ 24) : IntKind.u64.wrap (wrap64 ((wrap64 ((c : Int) * (b : Int))).tdiv 8)) = ((c * b / 8 : Nat) : Int) := by
  have hcb : c * b ≤ 6 * 24 := Nat.mul_le_mul hc hb
  have e : (c : Int) * (b : Int) = ((c * b : Nat) : Int) := by simp
  rw [e]
  generalize c * b = z at *
  have e1 : wrap64 (z : Int) = (z : Int) := by unfold wrap64; omega
  rw [e1]
  have e2 : ((z : Int)).tdiv 8 = ((z / 8 : Nat) : Int) := by rw [Int.tdiv_eq_ediv_of_nonneg (by omega)]; omega
  rw [e2]
  have e3 : wrap64 ((z / 8 : Nat) : Int) = ((z / 8 : Nat) : Int) := by unfold wrap64; omega
  rw [e3, IntKind.wrap_u64]
  omega
theorem second_int (r z : Nat) (hr : r ≤ 1048576) (hz : z ≤ 18) : IntKind.u64.wrap ((r : Int) * ((z : Nat) : Int)) = ((r * z : Nat) : Int) := by
  have h : r * z ≤ 1048576 * 18 := Nat.mul_le_mul hr hz
  have e : (r : Int) * (z : Int) = ((r * z : Nat) : Int) := by simp
  rw [e, IntKind.wrap_u64]
  generalize r * z = y at *
  omega
theorem part_cells (w : World) (c b r : Nat) (wide : Bool) (m : Nat) (cs : Array Value) (t : TypeId) (T : Nat) (hT : T = if wide = true then 65534 else 1)
    (hc : cs = #[.int .u64 (T : Int), .int .u64 (c : Int), .int .u64 (r : Int), .int .u64 ((r * (c * b / 8) : Nat) : Int), .int .u64 ((c * b / 8 : Nat) : Int), .int .u64 (b : Int), .int .u64 22, .int .u64 (b : Int), .int .u64 (m : Int)]) :
    ∀ j, j < 9 → (w.alloc (.cells cs t)).cell? ⟨w.heap.size, j, none⟩ = some (.int .u64 (partN c b r wide m j : Int)) := by
  intro j hj
  rw [World.cell?_alloc_at _ _ _ _ rfl, hc]
  have : j = 0 ∨ j = 1 ∨ j = 2 ∨ j = 3 ∨ j = 4 ∨ j = 5 ∨ j = 6 ∨ j = 7 ∨ j = 8 := by omega
  rcases this with h | h | h | h | h | h | h | h | h <;> subst h
  · rw [hT]; rfl
  all_goals rfl

set_option maxHeartbeats 2000000 in
theorem form_any (c b r : Nat) (wide : Bool) (m : Nat) (hc : c ≤ 6) (hb : b ≤ 24) (hr : r ≤ 1048576) (hm : m < 4294967296) (w : World) (hv : FVars w) :
    Calls Tryd.prog 22 #[.agg #[.int .i64 (c : Int), .int .i64 (b : Int), .int .i64 (r : Int)], .bool wide, .int .u64 (m : Int)] w fun e w' => ∃ A cap, e = .returned (.slice A (formN wide) cap) ∧ Owns w' w.heap.size (.slice A (formN wide) cap) (formL c b r wide m) ∧ Below w.heap.size w w' := by
  have HV := Lib.hid hv
  have HP := Lib.hid (fun j hj => partN_lt c b r wide m j hj hc hb hr hm)
  have HZ := Lib.hid (size_int c b hc hb)
  have HR := Lib.hid (second_int r (c * b / 8) hr (by have : c * b ≤ 6 * 24 := Nat.mul_le_mul hc hb; omega))
  clear hv
  have HF : Hid (formL c b r wide m = formK (partN c b r wide m) (lastN wide) ++ if wide = true then guidL else []) := Lib.hid rfl
  have HC0 := Lib.hid (fun W cs t T => part_cells W c b r wide m cs t T)
  generalize formL c b r wide m = FL at HF ⊢
  generalize partN c b r wide m = F at HP HC0 HF
  cases wide with
  | true =>
    go_enter Tryd.func22, Tryd.ntmps22
    go_wp2_with fail
    go_loopw [10, 45] (fun v i wr => ∃ (j : Nat) (A : Option Addr) (k : Nat), j ≤ 9 ∧ i = .int .i64 (j : Int) ∧ v = .slice A (wsum j) k ∧ Hid (Owns wr w.heap.size (.slice A (wsum j) k) (formK F j)) ∧ Hid (∀ j, j < 9 → wr.cell? ⟨w.heap.size + 1, j, none⟩ = some (.int .u64 (F j : Int))) ∧ Hid (Below w.heap.size w wr) ∧ Hid (w.heap.size + 2 ≤ wr.heap.size) ∧ Hid ((Value.slice A (wsum j) k).ownBlock ≠ some (w.heap.size + 1))) (fun _ i _ => 9 - (intOf i).toNat)
    case atStart =>
      have hsz : (w.alloc (.cells #[.int .i64 (c : Int), .int .i64 (b : Int), .int .i64 (r : Int)] 23)).heap.size = w.heap.size + 1 := by simp
      refine ⟨0, none, 0, by omega, rfl, rfl, Lib.hid (Owns.nil _ _), Lib.hid ?_, Lib.hid (((Below.refl _ _).alloc (Nat.le_refl _) _).alloc (by simp) _), Lib.hid (by simp), Lib.hid (by simp [Value.ownBlock])⟩
      rw [HZ.out, HR.out, ← hsz]
      exact HC0.out _ _ _ 65534 rfl rfl
    case round =>
      obtain ⟨j, A, k, hj, rfl, rfl, HO, HC, HB, HS, HN⟩ := hrel
      rename_i wr
      by_cases hlt : j < 9
      · have hcl := HC.out j hlt
        have hgl : wr.cell? ⟨0, j, none⟩ = some (.int .i64 (wdN j : Int)) := (HV.out.below HB.out).wd j hlt
        have HX : Hid (F j < 256 ^ wdN j) := Lib.hid (HP.out j hlt)
        obtain ⟨k1, k8, hs1, hs2⟩ := wd_bounds j hlt
        have HE : Hid (formK F (j + 1) = formK F j ++ Le.bs (F j) (wdN j)) := Lib.hid rfl
        have HL := Lib.hid (formK_length F j)
        have HS1 := Lib.hid hs1
        clear hs1
        generalize F j = x at hcl HX HE
        generalize formK F j = L at HO HE HL
        generalize wdN j = q at *
        go_upto_region 10 with fail
        have ij : (j : Int) < 9 := by omega
        have hb0 : 0 < w.heap.size := Nat.lt_of_lt_of_le (by decide) HV.out.old
        have hsz : w.heap.size + 2 ≤ wr.heap.size := HS.out
        go_region_held3 (fun w' => w'.cell? ⟨w.heap.size + 1, j, none⟩ = some (.int .u64 (x : Int)) ∧ w'.cell? ⟨0, j, none⟩ = some (.int .i64 (q : Int))) (go_keep) ((go_at_call 30; refine (bytes_ok x q k1 k8 HX.out _).mono ?_; rintro e w1 ⟨rfl, ho1, hb1⟩; have c1 := (hb1.cell (p := ⟨w.heap.size + 1, j, none⟩) (by simp; omega)).trans hcl; have c2 := (hb1.cell (p := ⟨0, j, none⟩) (by simp; omega)).trans hgl; have HO1 := Lib.hid ho1; have HB1 := Lib.hid hb1; clear ho1 hb1))
        have HBd : Hid (Below w.heap.size w w1) := Lib.hid (HB.out.drew.trans (HB1.out.mono HB.out.drew.size))
        have HO3 := Lib.hid (HO.out.drew.below HB1.out)
        have HC3 : Hid (∀ j, j < 9 → w1.cell? ⟨w.heap.size + 1, j, none⟩ = some (.int .u64 (F j : Int))) := Lib.hid (fun i hi => (HB1.out.cell (p := ⟨w.heap.size + 1, i, none⟩) (by simp; omega)).trans (HC.out i hi))
        have hs3 : wr.heap.size ≤ w1.heap.size := by simpa using HB1.out.size
        clear c1 c2 hcl hgl
        go_wp2_with (at_builtin; refine wpList_append_bytes rfl (.tmp 58) (.tmp 59) rfl w.heap.size _ L rfl HO3.out _ q q (Le.bs x q) rfl HO1.out.arg (wsum (j + 1)) (by rw [HL.out, HS1.out]) (by rw [HS1.out]; omega) HBd.out.size ?_; intro A1 c1 w2 hown1 hgr1 hat1)
        have HO2 := Lib.hid hown1
        have HG2 := Lib.hid hgr1
        have HA2 := Lib.hid hat1
        clear hown1 hgr1 hat1
        go_roundw
        case rel =>
          refine ⟨j + 1, A1, c1, by omega, by go_num, rfl, Lib.hid (by rw [HE.out]; exact HO2.out), Lib.hid (fun i hi => ?_), Lib.hid ?_, Lib.hid ?_, Lib.hid ?_⟩
          · exact HG2.out.cell (HC3.out i hi) (fun e => HN.out e.symm)
          · exact below_append HBd.out HO3.out (Nat.le_refl _) HG2.out
          · obtain ⟨_, _, _, q4, _⟩ := HG2.out
            omega
          · rcases HA2.out with h | h
            · rw [h]; exact HN.out
            · rw [h]
              intro h'
              injection h' with h'
              omega
        case measure => simp [intOf]; omega
      · obtain rfl : j = 9 := by omega
        have HG := Lib.hid (HV.out.below HB.out).gd
        have HL := Lib.hid (formK_length F 9)
        have HW9 : Hid (wsum 9 = 24) := Lib.hid rfl
        generalize wsum 9 = N9 at *
        go_wp2_with (at_builtin; refine wpList_append_bytes rfl (.tmp 63) (.tmp 64) rfl w.heap.size _ (formK F 9) rfl HO.out _ 16 16 guidL rfl HG.out 40 (by rw [HL.out, HW9.out]) (by omega) HB.out.size ?_; intro A1 c1 w2 hown1 hgr1 hat1)
        have HO2 := Lib.hid hown1
        have HG2 := Lib.hid hgr1
        clear hown1 hgr1 hat1
        go_wp2_with fail
        go_ret
        exact ⟨A1, c1, rfl, by rw [HF.out]; exact HO2.out, below_append HB.out HO.out (Nat.le_refl _) HG2.out⟩
  | false =>
    go_enter Tryd.func22, Tryd.ntmps22
    go_wp2_with fail
    go_loopw [10, 45] (fun v i wr => ∃ (j : Nat) (A : Option Addr) (k : Nat), j ≤ 6 ∧ i = .int .i64 (j : Int) ∧ v = .slice A (wsum j) k ∧ Hid (Owns wr w.heap.size (.slice A (wsum j) k) (formK F j)) ∧ Hid (∀ j, j < 9 → wr.cell? ⟨w.heap.size + 1, j, none⟩ = some (.int .u64 (F j : Int))) ∧ Hid (Below w.heap.size w wr) ∧ Hid (w.heap.size + 2 ≤ wr.heap.size) ∧ Hid ((Value.slice A (wsum j) k).ownBlock ≠ some (w.heap.size + 1))) (fun _ i _ => 6 - (intOf i).toNat)
    case atStart =>
      have hsz : (w.alloc (.cells #[.int .i64 (c : Int), .int .i64 (b : Int), .int .i64 (r : Int)] 23)).heap.size = w.heap.size + 1 := by simp
      refine ⟨0, none, 0, by omega, rfl, rfl, Lib.hid (Owns.nil _ _), Lib.hid ?_, Lib.hid (((Below.refl _ _).alloc (Nat.le_refl _) _).alloc (by simp) _), Lib.hid (by simp), Lib.hid (by simp [Value.ownBlock])⟩
      rw [HZ.out, HR.out, ← hsz]
      exact HC0.out _ _ _ 1 rfl rfl
    case round =>
      obtain ⟨j, A, k, hj, rfl, rfl, HO, HC, HB, HS, HN⟩ := hrel
      rename_i wr
      by_cases hlt : j < 6
      · have hcl := HC.out j (by omega)
        have hgl : wr.cell? ⟨0, j, none⟩ = some (.int .i64 (wdN j : Int)) := (HV.out.below HB.out).wd j (by omega)
        have HX : Hid (F j < 256 ^ wdN j) := Lib.hid (HP.out j (by omega))
        obtain ⟨k1, k8, hs1, hs2⟩ := wd_bounds j (by omega)
        have HE : Hid (formK F (j + 1) = formK F j ++ Le.bs (F j) (wdN j)) := Lib.hid rfl
        have HL := Lib.hid (formK_length F j)
        have HS1 := Lib.hid hs1
        clear hs1
        generalize F j = x at hcl HX HE
        generalize formK F j = L at HO HE HL
        generalize wdN j = q at *
        go_upto_region 10 with fail
        have ij : (j : Int) < 9 := by omega
        have hb0 : 0 < w.heap.size := Nat.lt_of_lt_of_le (by decide) HV.out.old
        have hsz : w.heap.size + 2 ≤ wr.heap.size := HS.out
        go_region_held3 (fun w' => w'.cell? ⟨w.heap.size + 1, j, none⟩ = some (.int .u64 (x : Int)) ∧ w'.cell? ⟨0, j, none⟩ = some (.int .i64 (q : Int))) (go_keep) ((go_at_call 30; refine (bytes_ok x q k1 k8 HX.out _).mono ?_; rintro e w1 ⟨rfl, ho1, hb1⟩; have c1 := (hb1.cell (p := ⟨w.heap.size + 1, j, none⟩) (by simp; omega)).trans hcl; have c2 := (hb1.cell (p := ⟨0, j, none⟩) (by simp; omega)).trans hgl; have HO1 := Lib.hid ho1; have HB1 := Lib.hid hb1; clear ho1 hb1))
        have HBd : Hid (Below w.heap.size w w1) := Lib.hid (HB.out.drew.trans (HB1.out.mono HB.out.drew.size))
        have HO3 := Lib.hid (HO.out.drew.below HB1.out)
        have HC3 : Hid (∀ j, j < 9 → w1.cell? ⟨w.heap.size + 1, j, none⟩ = some (.int .u64 (F j : Int))) := Lib.hid (fun i hi => (HB1.out.cell (p := ⟨w.heap.size + 1, i, none⟩) (by simp; omega)).trans (HC.out i hi))
        have hs3 : wr.heap.size ≤ w1.heap.size := by simpa using HB1.out.size
        clear c1 c2 hcl hgl
        go_wp2_with (at_builtin; refine wpList_append_bytes rfl (.tmp 58) (.tmp 59) rfl w.heap.size _ L rfl HO3.out _ q q (Le.bs x q) rfl HO1.out.arg (wsum (j + 1)) (by rw [HL.out, HS1.out]) (by rw [HS1.out]; omega) HBd.out.size ?_; intro A1 c1 w2 hown1 hgr1 hat1)
        have HO2 := Lib.hid hown1
        have HG2 := Lib.hid hgr1
        have HA2 := Lib.hid hat1
        clear hown1 hgr1 hat1
        go_roundw
        case rel =>
          refine ⟨j + 1, A1, c1, by omega, by go_num, rfl, Lib.hid (by rw [HE.out]; exact HO2.out), Lib.hid (fun i hi => ?_), Lib.hid ?_, Lib.hid ?_, Lib.hid ?_⟩
          · exact HG2.out.cell (HC3.out i hi) (fun e => HN.out e.symm)
          · exact below_append HBd.out HO3.out (Nat.le_refl _) HG2.out
          · obtain ⟨_, _, _, q4, _⟩ := HG2.out
            omega
          · rcases HA2.out with h | h
            · rw [h]; exact HN.out
            · rw [h]
              intro h'
              injection h' with h'
              omega
        case measure => simp [intOf]; omega
      · obtain rfl : j = 6 := by omega
        go_wp2_with fail
        go_ret
        have eF : FL = formK F 6 := by rw [HF.out]; exact List.append_nil _
        exact ⟨A, k, rfl, by rw [eF]; exact HO.out, HB.out⟩
end Go.Proofs.YtjcemacgiehklaaDoor
