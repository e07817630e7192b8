/- A slice of bytes that the call made: its own, or a full literal; append to it. -/
import Derived.Test.YtgdchcaglkeghaaBytes
import Derived.ArgAppend
namespace Go.Proofs.Ytgdchcaglkeghaa
open Go.RowKit

/-- v is a slice of the call's own or a full row in a block from base on, and holds the bytes l. -/
def GRow (w : World) (base : Nat) (v : Value) (l : List UInt8) : Prop :=
  Owns w base v l ∨ ∃ g, v = .slice (some ⟨g, 0, none⟩) l.length l.length ∧ base ≤ g ∧ BArg w (some ⟨g, 0, none⟩) l.length l.length l ∧ g < w.heap.size
section
variable {w w' : World} {base : Nat} {v : Value} {l : List UInt8}
theorem GRow.below (h : GRow w base v l) (hb : Below w.heap.size w w') : GRow w' base v l := by
  rcases h with h | ⟨g, e, h1, h2, h3⟩
  · exact .inl (h.below hb)
  · exact .inr ⟨g, e, h1, h2.below hb, Nat.lt_of_lt_of_le h3 hb.size⟩
theorem GRow.arg {A : Option Addr} {n cap : Nat} (h : GRow w base (.slice A n cap) l) : BArg w A n cap l := by
  rcases h with h | ⟨g, e, h1, h2, h3⟩
  · exact h.arg
  · injection e with e1 e2 e3
    rw [e1, e2, e3]; exact h2
theorem GRow.lt (h : GRow w base v l) : ∀ k, v.ownBlock = some k → base ≤ k ∧ k < w.heap.size := by
  rcases h with h | ⟨g, rfl, h1, h2, h3⟩
  · exact h.lt
  · intro k hk
    injection hk with hk
    subst hk
    exact ⟨h1, h3⟩
end
theorem GRow.lit (w : World) (base : Nat) (l : List UInt8) (n : Nat) (hn : l.length = n) (hb : n ≤ 9223372036854775807) (t : TypeId) (fr : Nat × Nat) (cs : Array Value) (hc : cs.toList = vb l) (hB : base ≤ w.heap.size) :
    GRow (w.alloc (.cells cs t fr)) base (.slice (some ⟨w.heap.size, 0, none⟩) n n) l := by
  subst hn
  exact .inr ⟨_, rfl, hB, BArg.lit w l _ rfl hb t fr cs hc, by simp⟩

theorem run_append_g (w : World) (base : Nat) (ty : TypeId) (v : Value) (l : List UInt8) (hown : GRow w base v l) (A : Option Addr) (m c : Nat) (k : List UInt8) (hr : BArg w A m c k) (hm : 0 < m) (N : Nat) (hN : l.length + m = N) (hsum : N ≤ 140737488355328) (hbase : base ≤ w.heap.size) :
    ∃ A' cap' w', (Builtin.append_ #[22, 22] ty #[v, .slice A m c]).run Try.prog w = .ok (.slice A' N cap') w' ∧ Owns w' base (.slice A' N cap') (l ++ k) ∧ w.grownBy w' v.ownBlock ∧
      ((Value.slice A' N cap').ownBlock = v.ownBlock ∨ (Value.slice A' N cap').ownBlock = some w.heap.size) := by
  rcases hown with hown | ⟨g, rfl, h1, h2, h3⟩
  · exact run_append_bytes w base ty v l hown A m c k hr N hN hsum hbase
  · have hkl := hr.len_eq
    obtain ⟨ad, rfl, _, _, hc⟩ := hr.reads.2 hm
    obtain ⟨i, hi, hz, hs, hb⟩ := info_parts infoU8
    have hold : ∀ j u, (vb l)[j]? = some u → w.cell? ((⟨g, 0, none⟩ : Addr).add j) = some u := by
      intro j u hu
      rcases Nat.eq_zero_or_pos l.length with h0 | h0
      · have hn : l = [] := List.eq_nil_of_length_eq_zero h0
        subst hn
        simp [vb] at hu
      · obtain ⟨ad', h, _, _, hc'⟩ := h2.reads.2 h0
        injection h with h
        subst h
        exact hc' j u hu
    obtain ⟨v', w', hrun, h5, h6⟩ := run_append_arg_grows (P := Try.prog) w 22 ty 5 i _ 1 1 Try.underlying22 hi hz hs hb rfl (by omega) ⟨g, 0, none⟩ l.length l.length (vb l) (by rw [vb_length]; omega) hold ad m c (vb k) (by rw [vb_length]; omega) hc (by omega) (by unfold maxLen; omega) (by omega)
    have hO : Owns w' w.heap.size v' (l ++ k) := by
      unfold Owns
      rw [vb_append, List.length_append, hkl]
      exact h5
    obtain ⟨A', cap', rfl, _⟩ := hO.form
    have hlen : (l ++ k).length = N := by simp; omega
    rw [hlen] at hrun hO
    refine ⟨A', cap', w', hrun, hO.mono hbase, (by obtain ⟨q1, q2, q3, q4, q5⟩ := h6; exact ⟨q1, q2, q3, q4, fun i hi _ => q5 i hi (by simp)⟩), .inr ?_⟩
    rcases hO.2 with ⟨h', h0⟩ | ⟨g', cap', cur, h', hb', hg', _⟩
    · omega
    · have hw' : w'.heap.size = w.heap.size + 1 := by
        have hr := run_append_grow (P := Try.prog) w 22 ty 5 i _ Try.underlying22 hi hz ⟨g, 0, none⟩ l.length l.length (vb l) (by rw [vb_length, hs]; omega) hold ad m c (vb k) (by rw [vb_length, hs]; omega) hc (by omega) (by omega) (growslice_fits (by omega) (by rw [hb]; omega))
        rw [hr] at hrun
        injection hrun with _ e2
        rw [← e2]; simp
      have := (Array.getElem?_eq_some_iff.1 hg').1
      rw [h']
      show some g' = _
      congr 1
      omega

theorem wpList_append_g {ops : Array Oper} {rest : List Oper} {o : Oper} {a : Act} {w : World} {Q : Exit → Act → World → Prop} (hgd : o.guard = none) (s x : Operand)
    (ho : o.op = .call { callee := .builtin .append, args := #[s, x], argTypes := #[22, 22] })
    (base : Nat) (v : Value) (l : List UInt8) (hs : a.eval s = v) (hown : GRow w base v l) (A : Option Addr) (m c : Nat) (k : List UInt8) (hx : a.eval x = .slice A m c) (hr : BArg w A m c k) (hm : 0 < m)
    (N : Nat) (hN : l.length + m = N) (hsum : N ≤ 140737488355328) (hbase : base ≤ w.heap.size)
    (h : ∀ A' cap' w', Owns w' base (.slice A' N cap') (l ++ k) → w.grownBy w' v.ownBlock → ((Value.slice A' N cap').ownBlock = v.ownBlock ∨ (Value.slice A' N cap').ownBlock = some w.heap.size) → wpList Try.prog ops Q rest (a.put o.dst (.slice A' N cap')) w') : wpList Try.prog ops Q (o :: rest) a w := by
  refine wpList_plain hgd fun _ hK => ?_
  obtain ⟨A', cap', w', hrun, h2, h3, h4⟩ := run_append_g w base o.type v l hown A m c k hr hm N hN hsum hbase
  unfold Oper.wp execOp
  simp only [ho, resolve, invoke, builtin, Sem.run_bind, Sem.run_pure, Result.andThen_ok, List.map_toArray, List.map_cons, List.map_nil, hs, hx, hrun]
  exact hK _ _ (h A' cap' w' h2 h3 h4)

theorem below_append_g {w0 w w' : World} {v : Value} {base : Nat} {l : List UInt8} (hB : Below w0.heap.size w0 w) (hown : GRow w base v l) (hb : w0.heap.size ≤ base) (hg : w.grownBy w' v.ownBlock) : Below w0.heap.size w0 w' :=
  hB.grown hg hB.size fun k hk => Nat.le_trans hb (hown.lt k hk).1
end Go.Proofs.Ytgdchcaglkeghaa
