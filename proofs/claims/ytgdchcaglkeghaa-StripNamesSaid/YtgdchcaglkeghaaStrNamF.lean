/- StripNames: the facts (plain). -/
import Derived.Test.YtgdchcaglkeghaaStrWrM
namespace Go.Proofs.Ytgdchcaglkeghaa
open Go.RowKit

theorem tg_len (n : Nat) (h : Bool) (hn : n ≤ 3000) : (tgL n h).length = if h = true then n + 64 else n + 32 := by
  have he : apeE n 1 = 0 := by
    unfold apeE
    simp
    omega
  unfold tgL
  rw [awL_length, List.length_replicate]
  unfold awN
  rw [if_pos he]
theorem th_len (n : Nat) (hn : n ≤ 3990) : (thL n).length = n + 10 := by
  have he : idE n false = 0 := by unfold idE idN; rw [if_neg (by simp; omega)]
  rw [thL_length, if_pos he]
theorem ll_tgL0true : (tgL 0 true).length = 64 := (tg_len 0 true (by omega)).trans (by decide)
theorem ll_tgL9true : (tgL 9 true).length = 73 := (tg_len 9 true (by omega)).trans (by decide)
theorem ll_tgL3true : (tgL 3 true).length = 67 := (tg_len 3 true (by omega)).trans (by decide)
theorem ll_tgL5true : (tgL 5 true).length = 69 := (tg_len 5 true (by omega)).trans (by decide)
theorem ll_thL0 : (thL 0).length = 10 := th_len 0 (by omega)
theorem ll_thL1 : (thL 1).length = 11 := th_len 1 (by omega)
theorem ll_thL3990 : (thL 3990).length = 4000 := th_len 3990 (by omega)
theorem ll_thL991 : (thL 991).length = 1001 := th_len 991 (by omega)
theorem ll_tgL2936true : (tgL 2936 true).length = 3000 := (tg_len 2936 true (by omega)).trans (by decide)
theorem ll_tgL936true : (tgL 936 true).length = 1000 := (tg_len 936 true (by omega)).trans (by decide)
theorem ll_tgL0false : (tgL 0 false).length = 32 := (tg_len 0 false (by omega)).trans (by decide)
theorem ll_tgL7false : (tgL 7 false).length = 39 := (tg_len 7 false (by omega)).trans (by decide)
theorem ll_tgL1true : (tgL 1 true).length = 65 := (tg_len 1 true (by omega)).trans (by decide)
theorem ll_tgL2968false : (tgL 2968 false).length = 3000 := (tg_len 2968 false (by omega)).trans (by decide)
theorem ll_tgL968false : (tgL 968 false).length = 1000 := (tg_len 968 false (by omega)).trans (by decide)
theorem ll_tgL969false : (tgL 969 false).length = 1001 := (tg_len 969 false (by omega)).trans (by decide)
set_option linter.unusedSimpArgs false in
theorem lj0 : [tgL 0 true, tgL 5 true, thL 0, [73]].flatten.length = 144 := by
  simp only [List.flatten_cons, List.flatten_nil, List.length_append, List.length_nil, List.length_cons, List.length_take, ll_tgL0true, ll_tgL5true, ll_thL0]
set_option linter.unusedSimpArgs false in
theorem lj1 : [tgL 2936 true, tgL 936 true].flatten.length = 4000 := by
  simp only [List.flatten_cons, List.flatten_nil, List.length_append, List.length_nil, List.length_cons, List.length_take, ll_tgL2936true, ll_tgL936true]
set_option linter.unusedSimpArgs false in
theorem lj2 : [thL 1, [73, 68, 51]].flatten.length = 14 := by
  simp only [List.flatten_cons, List.flatten_nil, List.length_append, List.length_nil, List.length_cons, List.length_take, ll_thL1]
set_option linter.unusedSimpArgs false in
theorem lj3 : [thL 0, tgL 0 false].flatten.length = 42 := by
  simp only [List.flatten_cons, List.flatten_nil, List.length_append, List.length_nil, List.length_cons, List.length_take, ll_thL0, ll_tgL0false]
set_option linter.unusedSimpArgs false in
theorem lj4 : [thL 0, (tgL 9 true).take 72].flatten.length = 82 := by
  simp only [List.flatten_cons, List.flatten_nil, List.length_append, List.length_nil, List.length_cons, List.length_take, ll_tgL9true, ll_thL0]
  omega
set_option linter.unusedSimpArgs false in
theorem lj5 : [tgL 2936 true, thL 991].flatten.length = 4001 := by
  simp only [List.flatten_cons, List.flatten_nil, List.length_append, List.length_nil, List.length_cons, List.length_take, ll_thL991, ll_tgL2936true]
set_option linter.unusedSimpArgs false in
theorem lj6 : [thL 3990, thL 0].flatten.length = 4010 := by
  simp only [List.flatten_cons, List.flatten_nil, List.length_append, List.length_nil, List.length_cons, List.length_take, ll_thL0, ll_thL3990]
set_option linter.unusedSimpArgs false in
theorem lj7 : [thL 3990, [73, 68, 51]].flatten.length = 4003 := by
  simp only [List.flatten_cons, List.flatten_nil, List.length_append, List.length_nil, List.length_cons, List.length_take, ll_thL3990]
set_option linter.unusedSimpArgs false in
theorem lj8 : [tgL 0 true, tgL 7 false, tgL 1 true].flatten.length = 168 := by
  simp only [List.flatten_cons, List.flatten_nil, List.length_append, List.length_nil, List.length_cons, List.length_take, ll_tgL0true, ll_tgL7false, ll_tgL1true]
set_option linter.unusedSimpArgs false in
theorem lj9 : [[120], tgL 0 true].flatten.length = 65 := by
  simp only [List.flatten_cons, List.flatten_nil, List.length_append, List.length_nil, List.length_cons, List.length_take, ll_tgL0true]
set_option linter.unusedSimpArgs false in
theorem lj10 : [tgL 0 true, [120]].flatten.length = 65 := by
  simp only [List.flatten_cons, List.flatten_nil, List.length_append, List.length_nil, List.length_cons, List.length_take, ll_tgL0true]
set_option linter.unusedSimpArgs false in
theorem lj11 : [tgL 2968 false, tgL 968 false].flatten.length = 4000 := by
  simp only [List.flatten_cons, List.flatten_nil, List.length_append, List.length_nil, List.length_cons, List.length_take, ll_tgL2968false, ll_tgL968false]
set_option linter.unusedSimpArgs false in
theorem lj12 : [tgL 2968 false, tgL 969 false].flatten.length = 4001 := by
  simp only [List.flatten_cons, List.flatten_nil, List.length_append, List.length_nil, List.length_cons, List.length_take, ll_tgL2968false, ll_tgL969false]
set_option maxRecDepth 200000 in
theorem sn0 : frQ [] [] = true := by decide +kernel
set_option maxRecDepth 200000 in
theorem sn1 : frQ [73, 68] [] = true := by decide +kernel
set_option maxRecDepth 200000 in
theorem sn2 : frQ [65, 80, 69, 84, 65, 71, 69] [] = true := by decide +kernel
set_option maxRecDepth 200000 in
theorem sn3 : frQ ((tgL 0 true).drop 1) [] = true := by decide +kernel
set_option maxRecDepth 200000 in
theorem sn4 : frQ [tgL 0 true, tgL 5 true, thL 0, [73]].flatten [64, 69, 10] = true := by decide +kernel
set_option maxRecDepth 200000 in
theorem sn5 : frQ (thL 3990) [4000] = true := by decide +kernel
set_option maxRecDepth 200000 in
theorem sn6 : frQ [tgL 2936 true, tgL 936 true].flatten [3000, 1000] = true := by decide +kernel
set_option maxRecDepth 200000 in
theorem sn7 : faQ [73, 68, 51] 24 = true := by decide +kernel
set_option maxRecDepth 200000 in
theorem sn8 : faQ [65, 80, 69, 84, 65, 71, 69, 88] 24 = true := by decide +kernel
set_option maxRecDepth 200000 in
theorem sn9 : faQ [thL 1, [73, 68, 51]].flatten 24 = true := by decide +kernel
set_option maxRecDepth 200000 in
theorem sn10 : faQ [thL 0, tgL 0 false].flatten 12 = true := by decide +kernel
set_option maxRecDepth 200000 in
theorem sn11 : faQ [thL 0, (tgL 9 true).take 72].flatten 24 = true := by decide +kernel
set_option maxRecDepth 200000 in
theorem sn12 : faQ [tgL 2936 true, thL 991].flatten 4 = true := by decide +kernel
set_option maxRecDepth 200000 in
theorem sn13 : faQ [thL 3990, thL 0].flatten 4 = true := by decide +kernel
set_option maxRecDepth 200000 in
theorem sn14 : faQ [thL 3990, [73, 68, 51]].flatten 24 = true := by decide +kernel
set_option maxRecDepth 200000 in
theorem sn15 : bhQ [tgL 0 true, tgL 7 false, tgL 1 true].flatten 3 = true := by decide +kernel
set_option maxRecDepth 200000 in
theorem sn16 : bhQ [[120], tgL 0 true].flatten (-1) = true := by decide +kernel
set_option maxRecDepth 200000 in
theorem sn17 : bhQ [tgL 0 true, [120]].flatten (-1) = true := by decide +kernel
set_option maxRecDepth 200000 in
theorem sn18 : bhQ (thL 0) (-1) = true := by decide +kernel
set_option maxRecDepth 200000 in
theorem sn19 : bhQ [tgL 2968 false, tgL 968 false].flatten 2 = true := by decide +kernel
set_option maxRecDepth 200000 in
theorem sn20 : bhQ [tgL 2968 false, tgL 969 false].flatten (-1) = true := by decide +kernel
set_option maxRecDepth 200000 in
theorem sn21 : bhQ ((tgL 3 true).drop 32) (-1) = true := by decide +kernel
end Go.Proofs.Ytgdchcaglkeghaa
