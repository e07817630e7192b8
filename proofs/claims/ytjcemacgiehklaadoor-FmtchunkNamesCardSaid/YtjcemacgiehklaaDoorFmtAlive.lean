/- The walks of the laws' reads, none and alive (layer 32). -/
import Derived.Test.YtjcemacgiehklaaDoorFmtRead
namespace Go.Proofs.YtjcemacgiehklaaDoor
open Go.RowKit

/-- Are bytes read as a sound? -/
def rdsB (l : List UInt8) (c b r : Int) : Bool := readB l && ((rdN l 1 : Int) == c && ((rdN l 5 : Int) == b && (rdN l 2 : Int) == r))
theorem readP_no' {l : List UInt8} (h : readB l = false) : readP l = .tuple #[.agg #[.int .i64 0, .int .i64 0, .int .i64 0], .int .i64 12] := by unfold readP; rw [h]; rfl
theorem readP_yes' {l : List UInt8} (h : readB l = true) : readP l = .tuple #[.agg #[.int .i64 (rdN l 1 : Int), .int .i64 (rdN l 5 : Int), .int .i64 (rdN l 2 : Int)], .int .i64 0] := by unfold readP; rw [h]; rfl

set_option maxHeartbeats 2000000 in
theorem none_any (a : Option Addr) (len cap : Nat) (l : List UInt8) (w : World) (ha : BArg w a len cap l) (hv : FVars w) :
    Calls Tryd.prog 18 #[.slice a len cap] w fun e w' => e = .returned (.bool (!readB l)) ∧ Below w.heap.size w w' := by
  have C := Lib.hid (read_any a len cap l w ha hv)
  clear ha hv
  cases hr : readB l with
  | false =>
    rw [readP_no' hr] at C
    clear hr
    go_enter Tryd.func18, Tryd.ntmps18
    go_wp2_with fail
    refine C.out.mono ?_
    rintro e w2 ⟨rfl, hb⟩
    have HB := Lib.hid hb
    clear hb
    go_wp2_with fail
    go_ret
    exact ⟨rfl, HB.out.alloc HB.out.size _⟩
  | true =>
    rw [readP_yes' hr] at C
    clear hr
    generalize rdN l 1 = n1 at *
    generalize rdN l 5 = n5 at *
    generalize rdN l 2 = n2 at *
    go_enter Tryd.func18, Tryd.ntmps18
    go_wp2_with fail
    refine C.out.mono ?_
    rintro e w2 ⟨rfl, hb⟩
    have HB := Lib.hid hb
    clear hb
    go_wp2_with fail
    go_ret
    exact ⟨rfl, HB.out.alloc HB.out.size _⟩

set_option maxHeartbeats 2000000 in
theorem reads_any (a : Option Addr) (len cap : Nat) (l : List UInt8) (c b r : Int) (w : World) (ha : BArg w a len cap l) (hv : FVars w) :
    Calls Tryd.prog 17 #[.slice a len cap, .agg #[.int .i64 c, .int .i64 b, .int .i64 r]] w fun e w' => e = .returned (.bool (rdsB l c b r)) ∧ Below w.heap.size w w' := by
  obtain ⟨w1, hw1⟩ : ∃ w1, w1 = w.alloc (.cells #[.int .i64 c, .int .i64 b, .int .i64 r] 23) := ⟨_, rfl⟩
  have d1 : w1.cell? ⟨w.heap.size, 0, none⟩ = some (.int .i64 c) := by rw [hw1, World.cell?_alloc_at _ _ _ _ rfl]; rfl
  have d2 : w1.cell? ⟨w.heap.size, 1, none⟩ = some (.int .i64 b) := by rw [hw1, World.cell?_alloc_at _ _ _ _ rfl]; rfl
  have d3 : w1.cell? ⟨w.heap.size, 2, none⟩ = some (.int .i64 r) := by rw [hw1, World.cell?_alloc_at _ _ _ _ rfl]; rfl
  have hB : Below w.heap.size w w1 := by rw [hw1]; exact (Below.refl _ _).alloc (Nat.le_refl _) _
  have hz : w.heap.size < w1.heap.size := by rw [hw1]; simp
  have HW := Lib.hid hw1
  have HB := Lib.hid hB
  have C := Lib.hid (read_any a len cap l w1 (ha.below hB) (hv.below hB))
  have HR : Hid (rdsB l c b r = (readB l && ((rdN l 1 : Int) == c && ((rdN l 5 : Int) == b && (rdN l 2 : Int) == r)))) := Lib.hid rfl
  generalize rdsB l c b r = rs at *
  clear ha hv hw1 hB
  cases hr : readB l with
  | false =>
    have HR0 : Hid (rs = false) := Lib.hid (by rw [HR.out, hr]; rfl)
    rw [readP_no' hr] at C
    clear hr HR
    go_enter Tryd.func17, Tryd.ntmps17
    go_wp2_with fail
    rw [← HW.out]
    refine C.out.mono ?_
    rintro e w2 ⟨rfl, hb⟩
    have HB2 := Lib.hid (HB.out.trans (hb.mono HB.out.size))
    clear hb d1 d2 d3
    go_wp2_with fail
    go_ret
    exact ⟨by rw [HR0.out]; rfl, HB2.out.alloc HB2.out.size _⟩
  | true =>
    rw [hr, Bool.true_and] at HR
    rw [readP_yes' hr] at C
    clear hr
    generalize rdN l 1 = n1 at *
    generalize rdN l 5 = n5 at *
    generalize rdN l 2 = n2 at *
    cases hq1 : (n1 : Int) == c <;> cases hq2 : (n5 : Int) == b <;> cases hq3 : (n2 : Int) == r
    all_goals
      have HR0 := Lib.hid (HR.out.trans (by rw [hq1, hq2, hq3]))
      go_enter Tryd.func17, Tryd.ntmps17
      go_wp2_with fail
      rw [← HW.out]
      refine C.out.mono ?_
      rintro e w2 ⟨rfl, hb⟩
      have HB2 := Lib.hid (HB.out.trans (hb.mono HB.out.size))
      have e1 := (hb.cell (p := ⟨w.heap.size, 0, none⟩) hz).trans d1
      have e2 := (hb.cell (p := ⟨w.heap.size, 1, none⟩) hz).trans d2
      have e3 := (hb.cell (p := ⟨w.heap.size, 2, none⟩) hz).trans d3
      have hz2 := Nat.lt_of_lt_of_le hz hb.size
      clear hb d1 d2 d3
      go_wp2_with fail
      go_ret
      exact ⟨by rw [HR0.out]; rfl, HB2.out.alloc HB2.out.size _⟩
end Go.Proofs.YtjcemacgiehklaaDoor
