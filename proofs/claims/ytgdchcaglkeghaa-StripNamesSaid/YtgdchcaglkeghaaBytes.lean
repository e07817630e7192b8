/- Slices of bytes in memory: what is told of one that is read, of one that the call owns; append, string(b), []byte(s), make. -/
import Derived.Test.YtgdchcaglkeghaaRows
import Derived.Test.YtgdchcaglkeghaaOpen
import Derived.WalkSpells
import Derived.WalkLawsBesides
import Derived.LoopTactic
import Derived.Outline
import Derived.OwnWalk
import Derived.Lib.Hide
import Derived.Lib.ConvBytes
import Derived.Lib.BufferRead
import Derived.Lib.SlBytesConst
import Derived.Handy
import Derived.Maps.AppendAt
import Derived.Laws.CopyOwn
import Derived.Laws.MakeOwn
import Derived.Laws.OwnMore
import Derived.Laws.IdiomStrings
import Derived.RegionTactic
import Derived.Deep.Onto
import Derived.Deep.AppendLies
namespace Go.Proofs.Ytgdchcaglkeghaa
open Go.RowKit

theorem below_drewN' {B : Nat} {a w : World} (h : Below B a w) (n : Nat) : Below B a (w.drewN n) := ⟨h.os, h.tape, h.output, h.size, h.block⟩

theorem Reads.keep {w w' : World} {B : Nat} {a : Option Addr} {n : Nat} {xs : List Value} (h : Reads w B a n xs) (hk : ∀ p : Addr, p.block < B → w'.cell? p = w.cell? p) : Reads w' B a n xs :=
  ⟨h.1, fun hn => by
    obtain ⟨ad, e, hs, hl, hc⟩ := h.2 hn
    exact ⟨ad, e, hs, hl, fun j u hu => (hk (ad.add j) (by rw [block_of_add]; exact hl)).trans (hc j u hu)⟩⟩
theorem Reads.below {w w' : World} {B : Nat} {a : Option Addr} {n : Nat} {xs : List Value} (h : Reads w B a n xs) (hb : Below B w w') : Reads w' B a n xs := h.keep fun _ hp => hb.cell hp
theorem Reads.more {w : World} {B B' : Nat} {a : Option Addr} {n : Nat} {xs : List Value} (h : Reads w B a n xs) (hB : B ≤ B') : Reads w B' a n xs :=
  ⟨h.1, fun hn => by
    obtain ⟨ad, e, hs, hl, hc⟩ := h.2 hn
    exact ⟨ad, e, hs, by omega, hc⟩⟩

section
variable {w w' : World} {a : Option Addr} {len cap : Nat} {l : List UInt8}
theorem BArg.at_ (h : BArg w a len cap l) {k : Nat} (hk : k < len) :
    ∃ ad c, a = some ad ∧ ad.spot = none ∧ ad.block < w.heap.size ∧ l[k]? = some c ∧ w.cell? (ad.add k) = some (.int .u8 (c.toNat : Int)) := by
  obtain ⟨ad, e, hs, hb, hc⟩ := h.reads.2 (by omega)
  have hl : k < l.length := by have := h.len_eq; omega
  refine ⟨ad, l[k], e, hs, hb, List.getElem?_eq_getElem hl, hc k _ ?_⟩
  rw [vb_get, List.getElem?_eq_getElem hl]; rfl
theorem BArg.below (h : BArg w a len cap l) (hb : Below w.heap.size w w') : BArg w' a len cap l :=
  ⟨h.len_eq, h.le, h.small, (h.reads.below hb).more hb.size, h.nil⟩
theorem BArg.drew (h : BArg w a len cap l) : BArg w.drew a len cap l := ⟨h.len_eq, h.le, h.small, h.reads, h.nil⟩
theorem BArg.drewN (h : BArg w a len cap l) (n : Nat) : BArg (w.drewN n) a len cap l := ⟨h.len_eq, h.le, h.small, h.reads, h.nil⟩
theorem BArg.alloc (h : BArg w a len cap l) (o : Obj) : BArg (w.alloc o) a len cap l := h.below ((Below.refl _ _).alloc (Nat.le_refl _) o)
/-- A piece of it. -/
theorem BArg.cut (h : BArg w a len cap l) {i j : Nat} (hi : i ≤ j) (hj : j ≤ len) :
    BArg w (if cap = i then a else a.map (·.add i)) (j - i) (cap - i) ((l.take j).drop i) := by
  have h1 := h.len_eq
  have h2 := h.le
  have h3 := h.small
  refine ⟨by simp; omega, by omega, by omega, ⟨by simp [vb]; omega, fun hn => ?_⟩, fun ha => ?_⟩
  · obtain ⟨ad, rfl, hs, hb, hc⟩ := h.reads.2 (by omega)
    rw [if_neg (by omega)]
    refine ⟨ad.add i, rfl, ?_, by rw [block_of_add]; exact hb, fun k u hu => ?_⟩
    · unfold Addr.add
      split
      · exact hs
      · rfl
    · rw [add_of_add]
      refine hc _ u ?_
      rw [vb_get, List.getElem?_drop] at hu
      rw [vb_get]
      rcases Nat.lt_or_ge (i + k) j with hk | hk
      · rwa [List.getElem?_take_of_lt hk] at hu
      · rw [List.getElem?_eq_none (by simp; omega)] at hu; cases hu
  · by_cases hc : cap = i
    · omega
    · rw [if_neg hc] at ha
      cases a with
      | none => have := h.nil rfl; omega
      | some x => simp at ha
theorem BArg.none_ (w : World) : BArg w none 0 0 [] := ⟨rfl, by omega, by omega, ⟨rfl, fun h => absurd h (by omega)⟩, fun _ => rfl⟩
/-- What a block holds. -/
theorem BArg.of_row {g n c : Nat} {cs : Array Value} {t : TypeId} {fr : Nat × Nat} (hg : w.heap[g]? = some (.cells cs t fr)) (hn : l.length = n) (hnc : n ≤ c) (hc : c ≤ 9223372036854775807) (hx : cs.toList.take n = vb l) :
    BArg w (some ⟨g, 0, none⟩) n c l := by
  refine ⟨hn, hnc, hc, ⟨by rw [vb_length, hn], fun h0 => ⟨⟨g, 0, none⟩, rfl, rfl, ?_, fun j u hu => ?_⟩⟩, fun h => by cases h⟩
  · exact (Array.getElem?_eq_some_iff.1 hg).1
  · have hj : j < n := by
      rcases Nat.lt_or_ge j n with h | h
      · exact h
      · rw [List.getElem?_eq_none (by rw [vb_length, hn]; exact h)] at hu; cases hu
    have e : (⟨g, 0, none⟩ : Addr).add j = ⟨g, j, none⟩ := by unfold Addr.add; split <;> simp_all
    rw [e, cell_of_row w g j _ _ _ hg, ← Array.getElem?_toList, ← List.getElem?_take_of_lt hj, hx, hu]
end

/-- v is a slice of the call's own, in a block from base on, and holds the bytes l. -/
def Owns (w : World) (base : Nat) (v : Value) (l : List UInt8) : Prop := w.ownsRow base 5 1 v l.length (vb l)
section
variable {w w' : World} {base : Nat} {v : Value} {l : List UInt8}
theorem Owns.nil (w : World) (base : Nat) : Owns w base (.slice none 0 0) [] := World.ownsRow_nil w base _ 1
theorem Owns.form (h : Owns w base v l) : ∃ A cap, v = .slice A l.length cap ∧ BArg w A l.length cap l := by
  rcases h.2 with ⟨rfl, h0⟩ | ⟨g, cap, cur, rfl, _, hg, hnc, hcm, hcs, hx⟩
  · have : l = [] := List.eq_nil_of_length_eq_zero h0
    subst this
    exact ⟨none, 0, rfl, BArg.none_ w⟩
  · unfold maxLen at hcm
    exact ⟨_, cap, rfl, BArg.of_row hg rfl hnc hcm (by simpa using hx)⟩
theorem Owns.arg {A : Option Addr} {n cap : Nat} (h : Owns w base (.slice A n cap) l) : BArg w A n cap l := by
  obtain ⟨A', cap', hv, hb⟩ := h.form
  injection hv with h1 h2 h3
  subst h1; subst h3
  rw [h2]; exact hb
theorem Owns.len {A : Option Addr} {n cap : Nat} (h : Owns w base (.slice A n cap) l) : l.length = n := h.arg.len_eq
theorem Owns.kept {row : Option Nat} (h : Owns w base v l) (hg : w.grownBy w' row) (hne : v.ownBlock = none ∨ v.ownBlock ≠ row) : Owns w' base v l := World.ownsRow.kept h hg hne
theorem grown_of_below (h : Below w.heap.size w w') (row : Option Nat) : w.grownBy w' row := ⟨h.os, h.tape, h.output, h.size, fun i hi _ => h.block i hi⟩
theorem Owns.below (h : Owns w base v l) (hb : Below w.heap.size w w') : Owns w' base v l := by
  refine h.kept (grown_of_below hb none) ?_
  cases hv : v.ownBlock with
  | none => exact .inl rfl
  | some k => exact .inr (by simp)
theorem Owns.alloc (h : Owns w base v l) (o : Obj) : Owns (w.alloc o) base v l := World.ownsRow.alloc h o
theorem Owns.drew (h : Owns w base v l) : Owns w.drew base v l := h
theorem Owns.drewN (h : Owns w base v l) (n : Nat) : Owns (w.drewN n) base v l := h
theorem Owns.mono (h : Owns w base v l) {b : Nat} (hb : b ≤ base) : Owns w b v l := World.ownsRow.mono h hb
theorem Owns.lt (h : Owns w base v l) : ∀ k, v.ownBlock = some k → base ≤ k ∧ k < w.heap.size := World.ownsRow.lt h
end

theorem infoU8 : (Try.prog.info? 5).map (fun i => (i.zero, i.size, i.bytes)) = some (some (.int .u8 0), 1, 1) := by kernel_rfl
theorem vb_append (a b : List UInt8) : vb (a ++ b) = vb a ++ vb b := by simp [vb]
theorem vb_one (l : List UInt8) : ∀ u ∈ vb l, u.oneCell' = true := by
  intro u hu
  obtain ⟨x, _, rfl⟩ := List.mem_map.1 hu
  rfl

theorem run_append_of_nil (w : World) (base : Nat) (ty : TypeId) (v : Value) (l : List UInt8) (hown : Owns w base v l) (c : Nat) : (Builtin.append_ #[22, 22] ty #[v, .slice none 0 c]).run Try.prog w = .ok v w := by
  obtain ⟨i, hi, _, _, _⟩ := info_parts infoU8
  have ht := Try.underlying22
  rcases hown.2 with ⟨rfl, h0⟩ | ⟨g, cap, cur, rfl, _, _, hnc, _⟩
  · simp [Builtin.append_, run_underlying ht, sizeOf, typeInfo, hi, Builtin.lenOf, Builtin.firstCells]
  · simp [Builtin.append_, run_underlying ht, sizeOf, typeInfo, hi, Builtin.lenOf, Builtin.firstCells, hnc, storeCells]

/-- append(v, b...) where v is the call's own. -/
theorem run_append_bytes (w : World) (base : Nat) (ty : TypeId) (v : Value) (l : List UInt8) (hown : Owns w base v l) (A : Option Addr) (m c : Nat) (k : List UInt8) (hr : BArg w A m c k) (N : Nat) (hN : l.length + m = N) (hsum : N ≤ 140737488355328) (hbase : base ≤ w.heap.size) :
    ∃ A' cap' w', (Builtin.append_ #[22, 22] ty #[v, .slice A m c]).run Try.prog w = .ok (.slice A' N cap') w' ∧ Owns w' base (.slice A' N cap') (l ++ k) ∧ w.grownBy w' v.ownBlock ∧
      ((Value.slice A' N cap').ownBlock = v.ownBlock ∨ (Value.slice A' N cap').ownBlock = some w.heap.size) := by
  have hkl := hr.len_eq
  have hlen : (l ++ k).length = N := by simp; omega
  have key : ∃ v' w', (Builtin.append_ #[22, 22] ty #[v, .slice A m c]).run Try.prog w = .ok v' w' ∧ Owns w' base v' (l ++ k) ∧ w.grownBy w' v.ownBlock ∧ (v'.ownBlock = v.ownBlock ∨ v'.ownBlock = some w.heap.size) := by
    rcases A with _ | ad
    · have hm : m = 0 := by
        rcases Nat.eq_zero_or_pos m with h0 | h0
        · exact h0
        · obtain ⟨ad, h, _⟩ := hr.reads.2 h0
          cases h
      subst hm
      have hn : k = [] := List.eq_nil_of_length_eq_zero hkl
      subst hn
      exact ⟨v, w, run_append_of_nil w base ty v l hown c, by simpa using hown, World.grownBy.refl w _, .inl rfl⟩
    · have hcells : ∀ j u, (vb k)[j]? = some u → w.cell? (ad.add j) = some u := by
        intro j u hu
        rcases Nat.eq_zero_or_pos m with h0 | h0
        · have hn : k = [] := List.eq_nil_of_length_eq_zero (by omega)
          subst hn
          simp [vb] at hu
        · obtain ⟨ad', h, _, _, hc⟩ := hr.reads.2 h0
          injection h with h
          subst h
          exact hc j u hu
      obtain ⟨i, hi, hz, hs, hb⟩ := info_parts infoU8
      obtain ⟨v', w', hrun, h2, h3, _, h5⟩ := run_append_own_at (P := Try.prog) w base 22 ty 5 i _ 1 1 Try.underlying22 hi hz hs hb rfl (by omega) v l.length (vb l) hown ad m c (vb k) (by rw [vb_length]; omega) hcells (vb_one k) (by unfold maxLen; omega) (by omega) hbase
      refine ⟨v', w', hrun, ?_, h3, h5⟩
      unfold Owns
      rw [vb_append, List.length_append, hkl]
      exact h2
  obtain ⟨v', w', hrun, hown', hg, hat⟩ := key
  obtain ⟨A', cap', rfl, _⟩ := hown'.form
  rw [hlen] at hrun hown' hat
  exact ⟨A', cap', w', hrun, hown', hg, hat⟩

theorem wp_append_bytes {o : Oper} {a : Act} {w : World} {K : Act → World → Prop} {Q : Exit → Act → World → Prop} (s x : Operand)
    (ho : o.op = .call { callee := .builtin .append, args := #[s, x], argTypes := #[22, 22] })
    (base : Nat) (v : Value) (l : List UInt8) (hs : a.eval s = v) (hown : Owns w base v l) (A : Option Addr) (m c : Nat) (k : List UInt8) (hx : a.eval x = .slice A m c) (hr : BArg w A m c k)
    (N : Nat) (hN : l.length + m = N) (hsum : N ≤ 140737488355328) (hbase : base ≤ w.heap.size)
    (h : ∀ A' cap' w', Owns w' base (.slice A' N cap') (l ++ k) → w.grownBy w' v.ownBlock → ((Value.slice A' N cap').ownBlock = v.ownBlock ∨ (Value.slice A' N cap').ownBlock = some w.heap.size) → K (a.put o.dst (.slice A' N cap')) w') : o.wp Try.prog a w K Q := by
  obtain ⟨A', cap', w', hrun, h2, h3, h4⟩ := run_append_bytes w base o.type v l hown A m c k hr N hN hsum hbase
  unfold Oper.wp execOp
  simp only [ho, resolve, invoke, builtin, Sem.run_bind, Sem.run_pure, Result.andThen_ok, List.map_toArray, List.map_cons, List.map_nil, hs, hx, hrun]
  exact h A' cap' w' h2 h3 h4

theorem wpList_append_bytes {ops : Array Oper} {rest : List Oper} {o : Oper} {a : Act} {w : World} {Q : Exit → Act → World → Prop} (hgd : o.guard = none) (s x : Operand)
    (ho : o.op = .call { callee := .builtin .append, args := #[s, x], argTypes := #[22, 22] })
    (base : Nat) (v : Value) (l : List UInt8) (hs : a.eval s = v) (hown : Owns w base v l) (A : Option Addr) (m c : Nat) (k : List UInt8) (hx : a.eval x = .slice A m c) (hr : BArg w A m c k)
    (N : Nat) (hN : l.length + m = N) (hsum : N ≤ 140737488355328) (hbase : base ≤ w.heap.size)
    (h : ∀ A' cap' w', Owns w' base (.slice A' N cap') (l ++ k) → w.grownBy w' v.ownBlock → ((Value.slice A' N cap').ownBlock = v.ownBlock ∨ (Value.slice A' N cap').ownBlock = some w.heap.size) → wpList Try.prog ops Q rest (a.put o.dst (.slice A' N cap')) w') : wpList Try.prog ops Q (o :: rest) a w :=
  wpList_plain hgd fun _ hK => wp_append_bytes s x ho base v l hs hown A m c k hx hr N hN hsum hbase fun A' cap' w' h2 h3 h4 => hK _ _ (h A' cap' w' h2 h3 h4)

theorem step_append_bytes {ops : Array Oper} {o : Oper} {a : Act} {w : World} {K : Act → World → Prop} {Q : Exit → Act → World → Prop} {E : Prop} (hgd : o.guard = none) (s x : Operand)
    (ho : o.op = .call { callee := .builtin .append, args := #[s, x], argTypes := #[22, 22] })
    (base : Nat) (v : Value) (l : List UInt8) (hs : a.eval s = v) (hown : Owns w base v l) (A : Option Addr) (m c : Nat) (k : List UInt8) (hx : a.eval x = .slice A m c) (hr : BArg w A m c k)
    (N : Nat) (hN : l.length + m = N) (hsum : N ≤ 140737488355328) (hbase : base ≤ w.heap.size)
    (h : ∀ A' cap' w', Owns w' base (.slice A' N cap') (l ++ k) → w.grownBy w' v.ownBlock → ((Value.slice A' N cap').ownBlock = v.ownBlock ∨ (Value.slice A' N cap').ownBlock = some w.heap.size) → K (a.put o.dst (.slice A' N cap')) w') :
    if Region.wanted o (yielded ops a.tmps) = true then Oper.wp Try.prog o a w K Q else E := by
  have hw : Region.wanted o (yielded ops a.tmps) = true := by simp [Region.wanted, hgd]
  rw [if_pos hw]
  exact wp_append_bytes s x ho base v l hs hown A m c k hx hr N hN hsum hbase h

/-- Below behind an append. -/
theorem below_append {w0 w w' : World} {v : Value} {base : Nat} {l : List UInt8} (hB : Below w0.heap.size w0 w) (hown : Owns w base v l) (hb : w0.heap.size ≤ base) (hg : w.grownBy w' v.ownBlock) : Below w0.heap.size w0 w' :=
  hB.grown hg hB.size fun k hk => Nat.le_trans hb (hown.lt k hk).1

/-- An old cell behind an append. -/
theorem cell_append {B : Nat} {w w' : World} {v : Value} {l : List UInt8} (hown : Owns w B v l) (hg : w.grownBy w' v.ownBlock) {p : Addr} (hp : p.block < B) (hB : B ≤ w.heap.size) {u : Value} (h : w.cell? p = some u) : w'.cell? p = some u := by
  rw [hg.cell_far p (by omega) (fun e => by have := (hown.lt _ e.symm).1; omega)]
  exact h

/-- A byte is stored into it. -/
theorem Owns.stored {w : World} {base g n cap : Nat} {l : List UInt8} (h : Owns w base (.slice (some ⟨g, 0, none⟩) n cap) l) (j : Nat) (c : UInt8) :
    Owns (w.setCell ⟨g, j, none⟩ (.int .u8 (c.toNat : Int))) base (.slice (some ⟨g, 0, none⟩) n cap) (l.set j c) ∧ w.grownBy (w.setCell ⟨g, j, none⟩ (.int .u8 (c.toNat : Int))) (some g) := by
  have hn := h.len
  unfold Owns at h ⊢
  rw [hn] at h
  have h2 := World.ownsRow.stored h j (.int .u8 (c.toNat : Int))
  refine ⟨?_, h2.2⟩
  rw [List.length_set, hn]
  have e : vb (l.set j c) = (vb l).set j (.int .u8 (c.toNat : Int)) := by simp [vb, List.map_set]
  rw [e]
  exact h2.1
theorem Owns.cellAt {w : World} {base g n cap : Nat} {l : List UInt8} (h : Owns w base (.slice (some ⟨g, 0, none⟩) n cap) l) {j : Nat} (hj : j < n) : w.cell? ⟨g, j, none⟩ = some (.int .u8 ((l.getD j 0).toNat : Int)) := by
  have hn := h.len
  unfold Owns at h
  rw [hn] at h
  rw [World.ownsRow.cellAt h j (by omega), vb_get]
  simp [List.getD, List.getElem?_eq_getElem (show j < l.length by omega)]
theorem Owns.free {w : World} {base g n cap : Nat} {l : List UInt8} (h : Owns w base (.slice (some ⟨g, 0, none⟩) n cap) l) (j : Nat) : w.frozen? ⟨g, j, none⟩ = false := by
  have hn := h.len
  unfold Owns at h
  rw [hn] at h
  exact World.ownsRow.frozenAt h j
/-- Where it lies, if it has a byte. -/
theorem Owns.where_ {w : World} {base n cap : Nat} {A : Option Addr} {l : List UInt8} (h : Owns w base (.slice A n cap) l) (hn : 0 < n) : ∃ g, A = some ⟨g, 0, none⟩ ∧ base ≤ g ∧ g < w.heap.size := by
  have hl := h.len
  rcases h.2 with ⟨h', h0⟩ | ⟨g, cap', cur, h', hb, hg, _⟩
  · omega
  · injection h' with h'
    exact ⟨g, h', hb, (Array.getElem?_eq_some_iff.1 hg).1⟩

/-- A string's bytes. -/
def sb (s : ByteArray) : List UInt8 := s.data.toList
theorem sb_mk (l : List UInt8) : sb ⟨l.toArray⟩ = l := rfl
theorem sb_size (s : ByteArray) : (sb s).length = s.size := by simp [sb]

/-- string(b). -/
theorem BArg.text {w : World} {a : Option Addr} {len cap : Nat} {l : List UInt8} (h : BArg w a len cap l) : (convert 22 9 (.slice a len cap)).run Try.prog w = .ok (.string ⟨l.toArray⟩) w := by
  have hl := h.len_eq
  rcases Nat.eq_zero_or_pos len with h0 | h0
  · subst h0
    have : l = [] := List.eq_nil_of_length_eq_zero hl
    subst this
    rcases a with _ | ad
    · exact Lib.run_convert_nil_bytes w _ _ _ cap Try.underlying22 Try.underlying5 Try.underlying9
    · exact run_convert_bytes_back w _ _ _ ad cap [] Try.underlying22 Try.underlying5 Try.underlying9 (fun j hj => by simp at hj)
  · obtain ⟨ad, rfl, _, _, hc⟩ := h.reads.2 h0
    subst hl
    exact run_convert_bytes_back w _ _ _ ad cap l Try.underlying22 Try.underlying5 Try.underlying9 (fun j hj => hc j _ (by rw [vb_get, List.getElem?_eq_getElem hj]; rfl))

/-- The world behind []byte(s), and the slice's capacity. -/
def tworld (w : World) (s : ByteArray) : World := Lib.bytesWorld w 5 s
def tcap (w : World) (s : ByteArray) : Nat := grownCap w s.size 0 5
theorem below_tworld (w : World) (s : ByteArray) : Below w.heap.size w (tworld w s) := by
  refine ⟨rfl, rfl, rfl, ?_, fun k hk => Lib.bytesWorld_at_old w _ s k hk⟩
  unfold tworld
  rw [Lib.bytesWorld_size]; omega
theorem BArg.of_text (w : World) (s : ByteArray) (g : Nat) (hg : g = w.heap.size) (hs : s.size ≤ 9223372036854775807) : BArg (tworld w s) (some ⟨g, 0, none⟩) s.size (tcap w s) (sb s) := by
  subst hg
  have h1 := grownCap_ge w s.size 0 5
  have h2 := grownCap_le_maxLen w s.size 0 5 (by unfold maxLen; omega)
  unfold maxLen at h2
  refine BArg.of_row (Lib.bytesWorld_at_new w 5 s) (sb_size s) h1 h2 ?_
  unfold Lib.bytesCells
  rw [Array.toList_append, List.take_append_of_le_length (by simp), List.take_of_length_le (by simp)]
  simp [vb, sb]
theorem run_text_bytes (s : ByteArray) (w : World) : (convert 9 22 (.string s)).run Try.prog w = .ok (.slice (some ⟨w.heap.size, 0, none⟩) s.size (tcap w s)) (tworld w s) :=
  Lib.run_convert_string_bytes w 9 22 5 s Try.underlying9 Try.underlying22 Try.underlying5

/-- The cells of n bytes 0. -/
def zb (n : Nat) : Array Value := (vb (List.replicate n 0)).toArray
theorem zb_list (n : Nat) : (zb n).toList = vb (List.replicate n 0) := rfl
/-- make([]byte, n). -/
theorem run_make_bytes (n : Nat) (hn : n ≤ 281474976710656) (w : World) :
    (Instr.makeSlice 22 (.int .i64 (n : Int)) (.int .i64 (n : Int))).run Try.prog w = .ok (.slice (some ⟨w.heap.size, 0, none⟩) n n) (w.alloc (.cells (zb n) 5)) := by
  obtain ⟨i, hi, hz, hs, hb⟩ := info_parts infoU8
  have h := run_make (P := Try.prog) w 22 5 i _ Try.underlying22 hi hz .i64 .i64 (n : Int) (n : Int) (by omega) (by omega) (by rw [hb]; omega) (by omega)
  simp only [Int.toNat_natCast, hs, Nat.mul_one] at h
  rw [h]
  have e : madeCells (Value.int .u8 0).cells n = zb n := by
    apply Array.ext'
    rw [zb_list]
    have : (Value.int .u8 0).cells = #[Value.int .u8 0] := rfl
    rw [this, toList_madeCells_one]
    simp [vb]
  rw [e]
theorem Owns.made (w : World) (base n : Nat) (hb : base ≤ w.heap.size) (hn : n ≤ 281474976710656) : Owns (w.alloc (.cells (zb n) 5)) base (.slice (some ⟨w.heap.size, 0, none⟩) n n) (List.replicate n 0) := by
  refine ⟨by simp [vb], .inr ⟨w.heap.size, n, zb n, by simp, hb, heap_alloc_new w _, by simp, by unfold maxLen; omega, by simp [zb, vb], ?_⟩⟩
  rw [zb_list, List.take_of_length_le (by simp [vb])]

theorem u64w {x : Int} (h : (Lit.int .u64 x).wf = true) : ∃ n : Nat, x = n ∧ n < 18446744073709551616 := by
  have h1 : IntKind.u64.min = 0 := by decide
  have h2 : IntKind.u64.max = 18446744073709551615 := by decide
  simp only [Lit.wf, Bool.and_eq_true, decide_eq_true_eq] at h
  exact ⟨x.toNat, by omega, by omega⟩
theorem u8w {x : Int} (h : (Lit.int .u8 x).wf = true) : ∃ n : Nat, x = n ∧ n < 256 := by
  have h1 : IntKind.u8.min = 0 := by decide
  have h2 : IntKind.u8.max = 255 := by decide
  simp only [Lit.wf, Bool.and_eq_true, decide_eq_true_eq] at h
  exact ⟨x.toNat, by omega, by omega⟩
theorem i64w {x : Int} (h : (Lit.int .i64 x).wf = true) : -9223372036854775808 ≤ x ∧ x ≤ 9223372036854775807 := by
  have h1 : IntKind.i64.min = -9223372036854775808 := by decide
  have h2 : IntKind.i64.max = 9223372036854775807 := by decide
  simp only [Lit.wf, Bool.and_eq_true, decide_eq_true_eq] at h
  exact ⟨by omega, by omega⟩
theorem u64bv {x : Int} (h : (Lit.int .u64 x).wf = true) : ∃ y : BitVec 64, x = (y.toNat : Int) := by
  obtain ⟨n, rfl, hn⟩ := u64w h
  exact ⟨BitVec.ofNat 64 n, by rw [BitVec.toNat_ofNat]; omega⟩
/-- A slice of no byte that was just made. -/
theorem Owns.lit0 (w : World) (base : Nat) (hb : base ≤ w.heap.size) : Owns (w.alloc (.cells #[] 5)) base (.slice (some ⟨w.heap.size, 0, none⟩) 0 0) [] :=
  ⟨rfl, .inr ⟨w.heap.size, 0, #[], rfl, hb, heap_alloc_new w _, by simp, by unfold maxLen; omega, rfl, rfl⟩⟩
/-- A slice that was just written out. -/
theorem BArg.lit (w : World) (l : List UInt8) (n : Nat) (hn : l.length = n) (hb : n ≤ 9223372036854775807) (t : TypeId) (fr : Nat × Nat) (cs : Array Value) (hc : cs.toList = vb l) :
    BArg (w.alloc (.cells cs t fr)) (some ⟨w.heap.size, 0, none⟩) n n l := by
  refine BArg.of_row (heap_alloc_new w _) hn (Nat.le_refl _) hb ?_
  rw [hc, List.take_of_length_le (by rw [vb_length]; omega)]
/-- The first bytes of a slice. -/
theorem BArg.upto {w : World} {a : Option Addr} {len cap : Nat} {l : List UInt8} (h : BArg w a len cap l) {k : Nat} (hk : k ≤ len) : BArg w a k cap (l.take k) := by
  have h1 := h.len_eq
  have h2 := h.le
  refine ⟨by simp; omega, by omega, h.small, ⟨by simp [vb]; omega, fun hn => ?_⟩, h.nil⟩
  obtain ⟨ad, e, hs, hb, hc⟩ := h.reads.2 (by omega)
  refine ⟨ad, e, hs, hb, fun j u hu => hc j u ?_⟩
  rw [vb_get] at hu ⊢
  rcases Nat.lt_or_ge j k with hj | hj
  · rwa [List.getElem?_take_of_lt hj] at hu
  · rw [List.getElem?_eq_none (by simp; omega)] at hu; cases hu
end Go.Proofs.Ytgdchcaglkeghaa
