/- append onto a row that is full, under a guard that says yes: a new row; what lay stays as it was. -/
import Derived.Test.YtjcemacgiehklaaDoorGRow
import Derived.Test.YtjcemacgiehklaaDoorOpAt
import Derived.BigFrame
namespace Go.Proofs.YtjcemacgiehklaaDoor
open Go.RowKit

theorem run_append_f (w : World) (ty : TypeId) (g : Nat) (l : List UInt8) (n : Nat) (hn : l.length = n) (h2 : BArg w (some ⟨g, 0, none⟩) n n l) (A : Option Addr) (m c : Nat) (k : List UInt8) (hr : BArg w A m c k) (hm : 0 < m) (N : Nat) (hN : n + m = N) (hsum : N ≤ 140737488355328) :
    ∃ A' cap' w', (Builtin.append_ #[24, 24] ty #[.slice (some ⟨g, 0, none⟩) n n, .slice A m c]).run Tryd.prog w = .ok (.slice A' N cap') w' ∧ Owns w' w.heap.size (.slice A' N cap') (l ++ k) ∧ Below w.heap.size w w' := by
  subst hn
  have hkl := hr.len_eq
  obtain ⟨ad, rfl, _, _, hc⟩ := hr.reads.2 hm
  obtain ⟨i, hi, hz, hs, hb⟩ := info_parts infoU8
  have hold : ∀ j u, (vb l)[j]? = some u → w.cell? ((⟨g, 0, none⟩ : Addr).add j) = some u := by
    intro j u hu
    rcases Nat.eq_zero_or_pos l.length with h0 | h0
    · have hn : l = [] := List.eq_nil_of_length_eq_zero h0
      subst hn
      simp [vb] at hu
    · obtain ⟨ad', h, _, _, hc'⟩ := h2.reads.2 h0
      injection h with h
      subst h
      exact hc' j u hu
  obtain ⟨v', w', hrun, h5, h6⟩ := run_append_arg_grows (P := Tryd.prog) w 24 ty 5 i _ 1 1 Tryd.underlying24 hi hz hs hb rfl (by omega) ⟨g, 0, none⟩ l.length l.length (vb l) (by rw [vb_length]; omega) hold ad m c (vb k) (by rw [vb_length]; omega) hc (by omega) (by unfold maxLen; omega) (by omega)
  have hO : Owns w' w.heap.size v' (l ++ k) := by
    unfold Owns
    rw [vb_append, List.length_append, hkl]
    exact h5
  obtain ⟨A', cap', rfl, _⟩ := hO.form
  have hlen : (l ++ k).length = N := by simp; omega
  rw [hlen] at hrun hO
  exact ⟨A', cap', w', hrun, hO, by obtain ⟨q1, q2, q3, q4, q5⟩ := h6; exact ⟨q1, q2, q3, q4, fun i hi => q5 i hi (by simp)⟩⟩

theorem wpList_append_f_w {ops : Array Oper} {rest : List Oper} {o : Oper} {a : Act} {w : World} {Q : Exit → Act → World → Prop} (hw : Region.wanted o (yielded ops a.tmps) = true) (s x : Operand)
    (ho : o.op = .call { callee := .builtin .append, args := #[s, x], argTypes := #[24, 24] })
    (g : Nat) (l : List UInt8) (n : Nat) (hn : l.length = n) (hs : a.eval s = .slice (some ⟨g, 0, none⟩) n n) (h2 : BArg w (some ⟨g, 0, none⟩) n n l) (A : Option Addr) (m c : Nat) (k : List UInt8) (hx : a.eval x = .slice A m c) (hr : BArg w A m c k) (hm : 0 < m)
    (N : Nat) (hN : n + m = N) (hsum : N ≤ 140737488355328)
    (h : ∀ A' cap' w', Owns w' w.heap.size (.slice A' N cap') (l ++ k) → Below w.heap.size w w' → wpList Tryd.prog ops Q rest (a.put o.dst (.slice A' N cap')) w') : wpList Tryd.prog ops Q (o :: rest) a w := by
  refine BigFrame.wpList_want hw fun _ hK => ?_
  obtain ⟨A', cap', w', hrun, h3, h4⟩ := run_append_f w o.type g l n hn h2 A m c k hr hm N hN hsum
  unfold Oper.wp execOp
  simp only [ho, resolve, invoke, builtin, Sem.run_bind, Sem.run_pure, Result.andThen_ok, List.map_toArray, List.map_cons, List.map_nil, hs, hx, hrun]
  exact hK _ _ (h A' cap' w' h3 h4)
end Go.Proofs.YtjcemacgiehklaaDoor
