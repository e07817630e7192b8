/- append(v, make([]byte, k)...): the translation hands the builtin the number. -/
import Derived.Test.YtgdchcaglkeghaaGRow
import Derived.Lib.AppendZerosOnto
namespace Go.Proofs.Ytgdchcaglkeghaa
open Go.RowKit

theorem zeroCells_one (x : Value) (n : Nat) : Builtin.zeroCells #[x] n = Array.replicate n x := by
  apply Array.ext
  · simp [Builtin.zeroCells]
  · intro i h1 h2
    simp [Builtin.zeroCells, Nat.mod_one]
theorem rep_vb (k : Nat) : (Array.replicate k (Value.int .u8 0)) = (vb (List.replicate k 0)).toArray := by
  apply Array.ext'
  simp [vb]

theorem run_append_room_zeros (w : World) (ty : TypeId) (g sLen sCap : Nat) (cur : Array Value) (hg : w.heap[g]? = some (.cells cur 5 (0, 0)))
    (k : Nat) (h0 : 0 < k) (h47 : k ≤ 140737488355328) (hroom : sLen + k ≤ sCap) (hfit : sLen + k ≤ cur.size) :
    (Builtin.append_ #[22, 3] ty #[.slice (some ⟨g, 0, none⟩) sLen sCap, .int .i64 (k : Int)]).run Try.prog w =
      .ok (.slice (some ⟨g, 0, none⟩) (sLen + k) sCap) (w.setRow g (cur.toList.take sLen ++ vb (List.replicate k 0) ++ cur.toList.drop (sLen + k)).toArray) := by
  obtain ⟨i, hi, hz, hs, hb⟩ := info_parts infoU8
  have ht := Try.underlying22
  have htn := Try.underlying3
  have hk : k ≠ 0 := by omega
  have hw : IntKind.i64.wrap (k : Int) = k := by rw [IntKind.wrap_i64]; omega
  have h48i : ¬ (281474976710656 < (k : Int)) := by omega
  have hneg : ¬ ((k : Int) < 0) := by omega
  have hl : (vb (List.replicate k 0)).length = k := by rw [vb_length]; simp
  have hst := run_storeCells_at Try.prog g sLen 5 (vb (List.replicate k 0)) 0 cur w hg (by rw [hl]; omega) (vb_one _)
  rw [hl] at hst
  simp only [Nat.add_zero] at hst
  have hzc : (Builtin.zeroCells (Value.int .u8 0).cells k).toList = vb (List.replicate k 0) := by
    have : (Value.int .u8 0).cells = #[Value.int .u8 0] := rfl
    rw [this, zeroCells_one, rep_vb]
  simp [Builtin.append_, run_underlying ht, run_underlying htn, sizeOf, typeInfo, zeroValue, hi, hz, hs, hb, asInt, asIntOf, hw, hneg, hk, h48i, hroom, Addr.add_lit, hzc, hst]

theorem run_append_zb (w : World) (base : Nat) (ty : TypeId) (v : Value) (l : List UInt8) (hown : Owns w base v l) (hl : 0 < l.length) (k : Nat) (h0 : 0 < k) (N : Nat) (hN : l.length + k = N) (hsum : N ≤ 140737488355328) (hbase : base ≤ w.heap.size) :
    ∃ A' cap' w', (Builtin.append_ #[22, 3] ty #[v, .int .i64 (k : Int)]).run Try.prog w = .ok (.slice A' N cap') w' ∧ Owns w' base (.slice A' N cap') (l ++ List.replicate k 0) ∧ w.grownBy w' v.ownBlock ∧
      ((Value.slice A' N cap').ownBlock = v.ownBlock ∨ (Value.slice A' N cap').ownBlock = some w.heap.size) := by
  subst hN
  obtain ⟨i, hi, hz, hs, hb⟩ := info_parts infoU8
  have hlen : (vb (l ++ List.replicate k 0)).length = (l.length + k) * 1 := by simp [vb]
  rcases hown.2 with ⟨_, h⟩ | ⟨g, cap, cur, rfl, hbg, hg, hnc, hcm, hcs, htake⟩
  · omega
  · simp only [Nat.mul_one] at hcs htake
    have h1 := hown.1
    have hlv : (vb (List.replicate k 0)).length = k := by rw [vb_length]; simp
    by_cases hroom : l.length + k ≤ cap
    · have hr := run_append_room_zeros w ty g l.length cap cur hg k h0 (by omega) hroom (by omega)
      refine ⟨_, _, _, hr, ⟨by simp [vb], .inr ⟨g, cap, _, by rw [List.length_append, List.length_replicate], hbg, setRow_heap w g cur _ 5 _ hg, by simpa using hroom, hcm, ?_, ?_⟩⟩, ⟨rfl, rfl, rfl, by simp, fun j _ hj => setRow_other w g j _ (fun e => hj (by simp [Value.ownBlock, e]))⟩, Or.inl rfl⟩
      · simp only [List.size_toArray, List.length_append, List.length_take, List.length_drop, Array.length_toList, hlv]
        omega
      · rw [htake, ← vb_append, List.length_append, List.length_replicate]
        have : l.length + k = (vb (l ++ List.replicate k 0)).length := by simp [vb]
        rw [Nat.mul_one, this]
        exact List.take_left
    · have holds : ∀ j u, (vb l)[j]? = some u → w.drew.cell? ((⟨g, 0, none⟩ : Addr).add j) = some u := hown.cells (g := g) rfl
      have hfc := run_firstCells_some (P := Try.prog) w.drew i.size l.length ⟨g, 0, none⟩ l.length cap (vb l) (by rw [hs, vb_length, Nat.mul_one]) holds
      have hr := Lib.run_append_grow_zeros (P := Try.prog) w 22 3 ty 5 i _ .i64 .i64 Try.underlying22 Try.underlying3 hi hz (some ⟨g, 0, none⟩) l.length cap (vb l) hfc k h0 (by omega) (by omega) (by omega) (by rw [hb]; omega) (growslice_fits (by omega) (by rw [hb]; omega))
      have hge := grownCap_ge w (l.length + k) cap 5
      have hcm' : grownCap w (l.length + k) cap 5 ≤ maxLen := grownCap_le_maxLen w (l.length + k) cap 5 (by unfold maxLen; omega)
      have hzc : ∀ n, Builtin.zeroCells (Value.int .u8 0).cells n = (vb (List.replicate n 0)).toArray := fun n => by
        have : (Value.int .u8 0).cells = #[Value.int .u8 0] := rfl
        rw [this, zeroCells_one, rep_vb]
      rw [hzc, hzc] at hr
      refine ⟨_, _, _, hr, ⟨by simp [vb], .inr ⟨w.heap.size, _, _, by rw [List.length_append, List.length_replicate], hbase, heap_alloc_new w.drew _, by simpa using hge, hcm', ?_, ?_⟩⟩, ⟨rfl, rfl, rfl, by simp, fun j hj _ => heap_alloc_old w.drew _ hj⟩, Or.inr rfl⟩
      · simp [vb]; omega
      · simp only [Array.toList_append, List.append_assoc]
        rw [← List.append_assoc, ← vb_append, Nat.mul_one]
        have : (l ++ List.replicate k 0).length = (vb (l ++ List.replicate k 0)).length := by simp [vb]
        rw [this]
        exact List.take_left

theorem wpList_append_zb {ops : Array Oper} {rest : List Oper} {o : Oper} {a : Act} {w : World} {Q : Exit → Act → World → Prop} (hgd : o.guard = none) (s x : Operand)
    (ho : o.op = .call { callee := .builtin .append, args := #[s, x], argTypes := #[22, 3] })
    (base : Nat) (v : Value) (l : List UInt8) (hs : a.eval s = v) (hown : Owns w base v l) (hl : 0 < l.length) (k : Nat) (hx : a.eval x = .int .i64 (k : Int)) (h0 : 0 < k)
    (N : Nat) (hN : l.length + k = N) (hsum : N ≤ 140737488355328) (hbase : base ≤ w.heap.size)
    (h : ∀ A' cap' w', Owns w' base (.slice A' N cap') (l ++ List.replicate k 0) → w.grownBy w' v.ownBlock → ((Value.slice A' N cap').ownBlock = v.ownBlock ∨ (Value.slice A' N cap').ownBlock = some w.heap.size) → wpList Try.prog ops Q rest (a.put o.dst (.slice A' N cap')) w') : wpList Try.prog ops Q (o :: rest) a w := by
  refine wpList_plain hgd fun _ hK => ?_
  obtain ⟨A', cap', w', hrun, h2, h3, h4⟩ := run_append_zb w base o.type v l hown hl k h0 N hN hsum hbase
  unfold Oper.wp execOp
  simp only [ho, resolve, invoke, builtin, Sem.run_bind, Sem.run_pure, Result.andThen_ok, List.map_toArray, List.map_cons, List.map_nil, hs, hx, hrun]
  exact hK _ _ (h A' cap' w' h2 h3 h4)
end Go.Proofs.Ytgdchcaglkeghaa
