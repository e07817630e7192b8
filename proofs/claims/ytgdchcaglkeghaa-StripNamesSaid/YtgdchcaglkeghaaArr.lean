/- Laws for arrays of integers by value: equality, load, store. General: no program of ours in sight. -/
import Derived.WalkKit
import Derived.Laws.Rows
import Derived.Laws.Tables
import Derived.Laws.StructEq
import Derived.Below
namespace Go.Proofs.Ytgdchcaglkeghaa
open Go.RowKit

section
variable {P : Program}

/-- Cells of integers. -/
def ints (k : IntKind) (l : List Int) : Array Value := (l.map (Value.int k)).toArray
theorem ints_size (k : IntKind) (l : List Int) : (ints k l).size = l.length := by simp [ints]
theorem ints_get (k : IntKind) (l : List Int) (i : Nat) : (ints k l)[i]? = (l[i]?).map (Value.int k) := by simp [ints]
theorem ints_one (k : IntKind) (l : List Int) : (ints k l).all (·.oneCell') = true := by
  simp [ints, Value.oneCell']

theorem run_part_int (w : World) (e : TypeId) (k k' : IntKind) (he : P.underlying e = some (.int k')) (l : List Int) (i : Nat) (x : Int) (hx : l[i]? = some x) :
    (part e (ints k l) i).run P w = .ok (.int k x) w := by
  have hg : (ints k l)[i]? = some (.int k x) := by rw [ints_get, hx]; rfl
  simp [part, isAgg, run_underlying he, hg]

theorem run_eql_rounds (w : World) (d : Nat) (e : TypeId) (k k' : IntKind) (he : P.underlying e = some (.int k')) (hd : ∀ a b, (Op.equalIn d e (.int k a) (.int k b)).run P w = .ok (a == b) w) (l m : List Int) (hl : l.length = m.length) :
    ∀ (c j : Nat), j + c = l.length → (forIn (List.range' j c) ((none, ()) : Option Bool × Unit) fun i _ => (do
      let a ← part e (ints k l) i
      let b ← part e (ints k m) i
      let q ← Op.equalIn d e a b
      if (!q) = true then pure (ForInStep.done (some false, ())) else pure (ForInStep.yield (none, ())) : Sem (ForInStep (Option Bool × Unit)))).run P w = .ok (if l.drop j == m.drop j then none else some false, ()) w := by
  intro c
  induction c with
  | zero =>
    intro j hj
    have h1 : l.drop j = [] := List.drop_eq_nil_of_le (by omega)
    have h2 : m.drop j = [] := List.drop_eq_nil_of_le (by omega)
    simp [h1, h2]
  | succ c ih =>
    intro j hj
    have h1 : j < l.length := by omega
    have h2 : j < m.length := by omega
    simp only [List.range'_succ, List.forIn_cons, Sem.run_bind]
    rw [run_part_int w e k k' he l j l[j] (List.getElem?_eq_getElem h1)]
    simp only [Result.andThen_ok]
    rw [run_part_int w e k k' he m j m[j] (List.getElem?_eq_getElem h2)]
    simp only [Result.andThen_ok, hd]
    have e1 : (l.drop j == m.drop j) = (l[j] == m[j] && l.drop (j + 1) == m.drop (j + 1)) := by
      rw [List.drop_eq_getElem_cons h1, List.drop_eq_getElem_cons h2]; rfl
    rw [e1]
    by_cases hq : l[j] = m[j]
    · have hb : (l[j] == m[j]) = true := by simp [hq]
      rw [hb]
      simp only [Bool.not_true, Bool.false_eq_true, if_false, Sem.run_pure, Result.andThen_ok]
      rw [ih (j + 1) (by omega)]
      rfl
    · have hb : (l[j] == m[j]) = false := by simp [hq]
      rw [hb]
      simp

theorem run_equalIn_array (w : World) (d : Nat) (t e : TypeId) (len : Nat) (k k' : IntKind) (ht : P.underlying t = some (.array len e)) (he : P.underlying e = some (.int k')) (hs : (P.info? e).map (·.size) = some 1)
    (l m : List Int) (hl : l.length = len) (hm : m.length = len) :
    (Op.equalIn (d + 2) t (.agg (ints k l)) (.agg (ints k m))).run P w = .ok (l == m) w := by
  have hz : (Go.sizeOf e).run P w = .ok 1 w := by
    cases hq : P.info? e with
    | none => simp [hq] at hs
    | some i => simp [hq] at hs; simp [Go.sizeOf, typeInfo, hq, hs]
  have hd : ∀ a b, (Op.equalIn (d + 1) e (.int k a) (.int k b)).run P w = .ok (a == b) w := fun a b => run_equalIn_int w d e k k' a b he
  generalize hdd : d + 1 = d' at hd
  have hd2 : d + 2 = d' + 1 := by omega
  rw [hd2]
  simp only [Op.equalIn, Sem.run_bind, run_underlying ht, Result.andThen_ok, hz, Nat.mul_one]
  rw [Std.Legacy.Range.forIn_eq_forIn_range']
  simp only [Std.Legacy.Range.size, Nat.sub_zero, Nat.add_sub_cancel, Nat.div_one]
  have key := run_eql_rounds (P := P) w d' e k k' he hd l m (by omega) len 0 (by omega)
  rw [key]
  simp only [List.drop_zero, Result.andThen_ok]
  cases hb : l == m <;> simp

/-- 'x == y' of two arrays of integers. -/
theorem run_eql_array (t e : TypeId) (len : Nat) (k k' : IntKind) (ht : P.underlying t = some (.array len e)) (he : P.underlying e = some (.int k')) (hs : (P.info? e).map (·.size) = some 1)
    (l m : List Int) (hl : l.length = len) (hm : m.length = len) (w : World) :
    (binOp .eql t (.agg (ints k l)) (.agg (ints k m))).run P w = .ok (.bool (l == m)) w := by
  rw [run_eql_struct, run_equalIn_array w 9998 t e len k k' ht he hs l m hl hm]
  rfl
theorem run_neq_array (t e : TypeId) (len : Nat) (k k' : IntKind) (ht : P.underlying t = some (.array len e)) (he : P.underlying e = some (.int k')) (hs : (P.info? e).map (·.size) = some 1)
    (l m : List Int) (hl : l.length = len) (hm : m.length = len) (w : World) :
    (binOp .neq t (.agg (ints k l)) (.agg (ints k m))).run P w = .ok (.bool (!(l == m))) w := by
  rw [run_neq_struct, run_equalIn_array w 9998 t e len k k' ht he hs l m hl hm]
  rfl

theorem setRow_alloc (w : World) (t : TypeId) (old cells : Array Value) : (w.alloc (.cells old t)).setRow w.heap.size cells = w.alloc (.cells cells t) := by
  show ({ w with heap := (w.heap.push (.cells old t)).modify w.heap.size _ } : World) = { w with heap := w.heap.push (.cells cells t) }
  congr 1
  apply Array.ext
  · simp
  · intro i h1 h2
    simp only [Array.getElem_modify, Array.getElem_push]
    by_cases hi : w.heap.size = i
    · subst hi; simp
    · have hlt : i < w.heap.size := by simp at h2; omega
      simp [hi, hlt]

/-- A whole array stored into a block that was just made. -/
theorem wpList_store_new {ops : Array Oper} {rest : List Oper} {o : Oper} {a : Act} {w : World} {Q : Exit → Act → World → Prop} (hgd : o.guard = none) (ty : TypeId) (x y : Operand) (ho : o.op = .store ty x y)
    (cells : Array Value) (hx : a.eval x = .pointer (some ⟨w.heap.size, 0, none⟩)) (hy : a.eval y = .agg cells)
    (t : TypeId) (old : Array Value) (hi : (P.info? ty).map (·.size) = some cells.size) (hold : old.size = cells.size) (h1 : cells.all (·.oneCell') = true)
    (h : wpList P ops Q rest (a.put o.dst undef) (w.alloc (.cells cells t))) : wpList P ops Q (o :: rest) a (w.alloc (.cells old t)) :=
  wpList_store_row hgd ty x y ho w.heap.size cells hx hy t old (heap_alloc_new w _) hi hold h1 (by rw [setRow_alloc]; exact h)
end
end Go.Proofs.Ytgdchcaglkeghaa
