/- The walk of alive (layer 32). -/
import Derived.Test.YtjcemacgiehklaaDoorFmtAlive
import Derived.Test.YtjcemacgiehklaaDoorFmtWrite
namespace Go.Proofs.YtjcemacgiehklaaDoor
open Go.RowKit

theorem al32a : wrL 1 8 8000 = [1, 0, 1, 0, 64, 31, 0, 0, 64, 31, 0, 0, 1, 0, 8, 0] := by decide +kernel
theorem al32b : ((wrL 1 24 8000).getD 0 0).toNat = 254 ∧ ((wrL 1 24 8000).getD 1 0).toNat = 255 := by decide +kernel

set_option maxHeartbeats 2000000 in
theorem alive32_any (w : World) (hv : FVars w) :
    Calls Tryd.prog 19 #[] w fun e w' => e = .returned (.bool true) ∧ Below w.heap.size w w' := by
  have HV := Lib.hid hv
  clear hv
  go_enter Tryd.func19, Tryd.ntmps19
  go_wp2_with fail
  refine (write_any 1 8 8000 _ HV.out).mono ?_
  rintro e w1 ⟨A1, k1, rfl, ho, hb⟩
  rw [show wrN 1 8 8000 = 16 by decide] at ho ⊢
  rw [show sndE 1 8 8000 = 0 by decide]
  rw [al32a] at ho
  have HO1 := Lib.hid ho
  have HB1 := Lib.hid hb
  clear ho hb
  go_wp2_with fail
  refine (write_any 1 24 8000 _ (HV.out.below HB1.out)).mono ?_
  rintro e w2 ⟨A2, k2, rfl, ho, hb⟩
  rw [show wrN 1 24 8000 = 40 by decide] at ho ⊢
  rw [show sndE 1 24 8000 = 0 by decide]
  obtain ⟨g, hg, _, _⟩ := ho.where_ (by decide)
  subst hg
  have c0 := ho.cellAt (j := 0) (by decide)
  have c1 := ho.cellAt (j := 1) (by decide)
  rw [al32b.1] at c0
  rw [al32b.2] at c1
  have t1 := (HO1.out.below hb).arg.text
  have HB2 := Lib.hid (HB1.out.trans (hb.mono HB1.out.size))
  clear ho hb
  go_wp2_with fail
  go_ret
  exact ⟨rfl, HB2.out⟩
end Go.Proofs.YtjcemacgiehklaaDoor
