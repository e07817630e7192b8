/- The walk of ape.end. -/
import Derived.Test.YtgdchcaglkeghaaGRow
import Derived.Test.YtgdchcaglkeghaaLeBytes
namespace Go.Proofs.Ytgdchcaglkeghaa
open Go.RowKit

/-- The magic. -/
def apeM : List UInt8 := [65, 80, 69, 84, 65, 71, 69, 88]
/-- The numbers of an end. -/
def evN (it ct fl j : Nat) : Nat := [2000, it + 32, ct, fl, 0, 0].getD j 0
/-- The magic and the first numbers. -/
def endK (it ct fl : Nat) : Nat → List UInt8
  | 0 => apeM
  | k + 1 => endK it ct fl k ++ Le.bs (evN it ct fl k) 4
theorem endK_length (it ct fl k : Nat) : (endK it ct fl k).length = 8 + 4 * k := by
  induction k with
  | zero => rfl
  | succ k ih => rw [endK, List.length_append, ih, Le.bs_length]; omega
/-- The bytes of an end. -/
def endL (it ct fl : Nat) : List UInt8 := endK it ct fl 6
theorem endL_length (it ct fl : Nat) : (endL it ct fl).length = 32 := endK_length it ct fl 6
theorem evN_lt (it ct fl j : Nat) (h1 : it ≤ 3000) (h2 : ct ≤ 1000) (h3 : fl < 4294967296) : evN it ct fl j < 256 ^ 4 := by
  unfold evN
  match j with
  | 0 => simp
  | 1 => simp; omega
  | 2 => simp; omega
  | 3 => simp; omega
  | 4 => simp
  | 5 => simp
  | j + 6 => simp

theorem ev_cells (w : World) (it ct fl : Nat) (cs : Array Value) (t : TypeId) (hc : cs = #[.int .u64 2000, .int .u64 ((it : Int) + 32), .int .u64 (ct : Int), .int .u64 (fl : Int), .int .u64 0, .int .u64 0]) :
    ∀ j, j < 6 → (w.alloc (.cells cs t)).cell? ⟨w.heap.size, j, none⟩ = some (.int .u64 (evN it ct fl j : Int)) := by
  intro j hj
  rw [World.cell?_alloc_at _ _ _ _ rfl, hc]
  match j with
  | 0 => rfl
  | 1 => rfl
  | 2 => rfl
  | 3 => rfl
  | 4 => rfl
  | 5 => rfl
  | j + 6 => omega

set_option maxHeartbeats 400000 in
theorem end_any (it ct fl : Nat) (h1 : it ≤ 3000) (h2 : ct ≤ 1000) (h3 : fl < 4294967296) (w : World) :
    Calls Try.prog 46 #[.int .i64 (it : Int), .int .i64 (ct : Int), .int .u64 (fl : Int)] w fun e w' => ∃ A cap, e = .returned (.slice A 32 cap) ∧ Owns w' w.heap.size (.slice A 32 cap) (endL it ct fl) ∧ Below w.heap.size w w' := by
  have kc := fun (w : World) (C : Array Value) (n c : Nat) => Lib.run_convert_bytes_const (P := Try.prog) w 22 5 C n c Try.underlying22 Try.underlying5
  have HV := Lib.hid (fun j => evN_lt it ct fl j h1 h2 h3)
  go_enter Try.func46, Try.ntmps46
  go_wp2_with fail
  clear kc
  go_loopw [7, 22] (fun v i wr => ∃ (j : Nat) (A : Option Addr) (c : Nat), j ≤ 6 ∧ i = .int .i64 (j : Int) ∧ v = .slice A (8 + 4 * j) c ∧ Hid (GRow wr w.heap.size (.slice A (8 + 4 * j) c) (endK it ct fl j)) ∧ Hid (0 < j → Owns wr w.heap.size (.slice A (8 + 4 * j) c) (endK it ct fl j)) ∧ Hid (∀ j, j < 6 → wr.cell? ⟨w.heap.size + 1, j, none⟩ = some (.int .u64 (evN it ct fl j : Int))) ∧ Hid (Below w.heap.size w wr) ∧ Hid (w.heap.size + 2 ≤ wr.heap.size) ∧ Hid ((Value.slice A (8 + 4 * j) c).ownBlock ≠ some (w.heap.size + 1))) (fun _ i _ => 6 - (intOf i).toNat)
  case atStart =>
    have hsz : (w.alloc (.cells #[.int .u8 65, .int .u8 80, .int .u8 69, .int .u8 84, .int .u8 65, .int .u8 71, .int .u8 69, .int .u8 88] 5 (8, 9))).heap.size = w.heap.size + 1 := by simp
    refine ⟨0, some ⟨w.heap.size, 0, none⟩, 8, by omega, rfl, rfl, Lib.hid (GRow.below (GRow.lit w _ apeM 8 rfl (by omega) 5 (8, 9) _ rfl (Nat.le_refl _)) ((Below.refl _ _).alloc (Nat.le_refl _) _)), Lib.hid (fun h => by omega), Lib.hid (fun j hj => ?_), Lib.hid (((Below.refl _ _).alloc (Nat.le_refl _) _).alloc (by simp) _), Lib.hid (by simp), Lib.hid (by simp [Value.ownBlock])⟩
    rw [← hsz]
    exact ev_cells _ it ct fl _ _ rfl j hj
  case round =>
    obtain ⟨j, A, c, hj, rfl, rfl, HG, HO, HC, HB, HS, HN⟩ := hrel
    rename_i wr
    by_cases hlt : j < 6
    · have hc := HC.out j hlt
      have HX : Hid (evN it ct fl j < 256 ^ 4) := Lib.hid (HV.out j)
      have HE : Hid (endK it ct fl (j + 1) = endK it ct fl j ++ Le.bs (evN it ct fl j) 4) := Lib.hid rfl
      have HL := Lib.hid (endK_length it ct fl j)
      generalize evN it ct fl j = x at hc HX HE
      generalize endK it ct fl j = L at HG HO HE HL
      go_wp2_with fail
      refine (bytes_ok x 4 (by omega) (by omega) HX.out _).mono ?_
      rintro e w1 ⟨rfl, ho1, hb1⟩
      have HO1 := Lib.hid ho1
      have HB1 := Lib.hid hb1
      clear ho1 hb1 hc
      go_wp2_with (at_builtin; refine wpList_append_g rfl (.tmp 31) (.tmp 32) rfl w.heap.size _ L rfl (HG.out.below HB1.out) _ 4 4 (Le.bs x 4) rfl HO1.out.arg (by omega) (8 + 4 * (j + 1)) (by rw [HL.out]; omega) (by omega) (Nat.le_trans HB.out.size HB1.out.size) ?_; intro A1 c1 w2 hown1 hgr1 hat1)
      have HO2 := Lib.hid hown1
      have HG2 := Lib.hid hgr1
      have HA2 := Lib.hid hat1
      clear hown1 hgr1 hat1
      go_roundw
      case rel =>
        refine ⟨j + 1, A1, c1, by omega, by go_num, rfl, Lib.hid (.inl (by rw [HE.out]; exact HO2.out)), Lib.hid (fun _ => by rw [HE.out]; exact HO2.out), Lib.hid (fun i hi => ?_), Lib.hid ?_, Lib.hid ?_, Lib.hid ?_⟩
        · have := HS.out
          have h7 := (HB1.out.cell (p := ⟨w.heap.size + 1, i, none⟩) (by simp; omega)).trans (HC.out i hi)
          exact HG2.out.cell h7 (fun e => HN.out e.symm)
        · exact below_append_g (HB.out.trans (HB1.out.mono HB.out.size)) (HG.out.below HB1.out) (Nat.le_refl _) HG2.out
        · have := HS.out
          have := HB1.out.size
          obtain ⟨_, _, _, q4, _⟩ := HG2.out
          omega
        · rcases HA2.out with h | h
          · rw [h]; exact HN.out
          · rw [h]
            have := HS.out
            have := HB1.out.size
            intro h'
            injection h' with h'
            omega
      case measure => simp [intOf]; omega
    · obtain rfl : j = 6 := by omega
      go_wp2
      go_ret
      exact ⟨A, c, rfl, HO.out (by omega), HB.out⟩
end Go.Proofs.Ytgdchcaglkeghaa
