/- How the arguments of the laws are opened: integers, strings, slices of bytes and of integers, arrays of integers. General: no function of the program in sight. -/
import Derived.Test.YtgdchcaglkeghaaArr
import Derived.ProofKit
import Derived.OpenShut
import Derived.ShutString
import Derived.ChangeOld
import Derived.Below
import Derived.Deep.Draws
import Derived.Deep.AppendLies
import Derived.Laws.OwnMore
import Derived.Lib.SmallJoins
namespace Go.Proofs.Ytgdchcaglkeghaa
open Go.ChangeShapes Go.WideShapes Go.ChangeAt Go.RowKit

theorem block_of_add (a : Addr) (n : Nat) : (a.add n).block = a.block := by unfold Addr.add; split <;> rfl
theorem add_of_add (a : Addr) (i j : Nat) : (a.add i).add j = a.add (i + j) := by
  unfold Addr.add
  by_cases hi : i = 0 <;> by_cases hj : j = 0 <;> simp [hi, hj, Nat.add_assoc]

/-- The slice value with address A holds the n cells xs, below block B. -/
def Reads (w : World) (B : Nat) (A : Option Addr) (n : Nat) (xs : List Value) : Prop :=
  xs.length = n ∧ (0 < n → ∃ ad, A = some ad ∧ ad.spot = none ∧ ad.block < B ∧ ∀ j u, xs[j]? = some u → w.cell? (ad.add j) = some u)

/-- Bytes as cells. -/
def vb (l : List UInt8) : List Value := l.map fun b => Value.int .u8 (b.toNat : Int)
theorem vb_length (l : List UInt8) : (vb l).length = l.length := by simp [vb]
theorem vb_get (l : List UInt8) (i : Nat) : (vb l)[i]? = (l[i]?).map fun b => Value.int .u8 (b.toNat : Int) := by simp [vb]

/-- What is told of a slice of bytes that came in. -/
structure BArg (w : World) (a : Option Addr) (len cap : Nat) (l : List UInt8) : Prop where
  len_eq : l.length = len
  le : len ≤ cap
  small : cap ≤ 9223372036854775807
  reads : Reads w w.heap.size a len (vb l)
  nil : a = none → cap = 0

/-- What is told of a slice of ints that came in. -/
structure IArg (w : World) (a : Option Addr) (len cap : Nat) (l : List Int) : Prop where
  len_eq : l.length = len
  le : len ≤ cap
  small : cap ≤ 9223372036854775807
  reads : Reads w w.heap.size a len (l.map (Value.int .i64))
  nil : a = none → cap = 0
  fit : ∀ x ∈ l, (Lit.int .i64 x).wf = true

theorem u8_of_wf {x : Int} (h : (Lit.int .u8 x).wf = true) : ∃ b : UInt8, x = (b.toNat : Int) := by
  have h1 : IntKind.u8.min = 0 := rfl
  have h2 : IntKind.u8.max = 255 := rfl
  simp only [Lit.wf, Bool.and_eq_true, decide_eq_true_eq] at h
  refine ⟨UInt8.ofNat x.toNat, ?_⟩
  rw [UInt8.toNat_ofNat']
  omega

theorem u8s_of_wf (zs : List Int) (h : ∀ n ∈ zs, (Lit.int .u8 n).wf = true) : ∃ l : List UInt8, zs = l.map fun b => (b.toNat : Int) := by
  induction zs with
  | nil => exact ⟨[], rfl⟩
  | cons z zs ih =>
    obtain ⟨l, rfl⟩ := ih fun n hn => h n (by simp [hn])
    obtain ⟨b, rfl⟩ := u8_of_wf (h z (by simp))
    exact ⟨b :: l, rfl⟩

section
variable {H : Type} {enc : TypeId × Value → H} {P : Program}

theorem open_row {k : IntKind} {t e : TypeId} (ht : P.underlying t = some (.slice e)) (he : P.underlying e = some (.int k)) (hc : P.cellsOf e = 1) {W : World} {a : Option Addr} {len cap : Nat} {d : DataW H} {p : List MemPlace}
    (h0 : DataW.Trod enc P W 0 (fun _ => true) true t (.slice a len cap) d p) :
    ∃ zs : List Int, zs.length = len ∧ len ≤ cap ∧ cap ≤ 9223372036854775807 ∧ Reads W W.heap.size a len (zs.map (Value.int k)) ∧ (a = none → cap = 0) ∧ ∀ n ∈ zs, (Lit.int k n).wf = true := by
  obtain ⟨fuel, hf⟩ := h0
  rcases open_ints ht he hc hf with ⟨hcs, _⟩ | ⟨x, l, c, zs, hcs, _, hl, hm, hz, _, hcell, hwz⟩
  · simp [Value.cells] at hcs
    obtain ⟨rfl, rfl, rfl⟩ := hcs
    exact ⟨[], rfl, Nat.le_refl _, by omega, ⟨rfl, fun h => absurd h (by omega)⟩, fun _ => rfl, fun _ h => by cases h⟩
  · simp [Value.cells] at hcs
    obtain ⟨rfl, rfl, rfl⟩ := hcs
    simp only [if_true] at hz
    unfold maxLen at hm
    refine ⟨zs.take len, by simp; omega, hl, hm, ⟨by simp; omega, fun hn => ?_⟩, (fun h => by cases h), fun n hn => hwz n (List.mem_of_mem_take hn)⟩
    have hc0 := hcell 0 (by omega)
    have hs : x.spot = none := by
      have := World.cell?_spot hc0
      simpa [Addr.add] using this
    refine ⟨x, rfl, hs, ?_, fun j u hu => ?_⟩
    · have := World.block_lt_of_cell? _ _ hc0
      simpa [block_of_add] using this
    · rw [List.getElem?_map] at hu
      have hj : j < len := by
        rcases Nat.lt_or_ge j len with h | h
        · exact h
        · rw [List.getElem?_eq_none (by simp; omega)] at hu; cases hu
      rw [hcell j (by omega)]
      rw [List.getElem?_take_of_lt hj] at hu
      simp only [List.getD]
      cases hzj : zs[j]? with
      | none => rw [hzj] at hu; cases hu
      | some z => rw [hzj] at hu; simpa using hu

theorem open_bytes {t e : TypeId} (ht : P.underlying t = some (.slice e)) (he : P.underlying e = some (.int .u8)) (hc : P.cellsOf e = 1) {W : World} {a : Option Addr} {len cap : Nat} {d : DataW H} {p : List MemPlace}
    (h0 : DataW.Trod enc P W 0 (fun _ => true) true t (.slice a len cap) d p) : ∃ l, BArg W a len cap l := by
  obtain ⟨zs, h1, h2, h3, h4, h5, h6⟩ := open_row ht he hc h0
  obtain ⟨l, rfl⟩ := u8s_of_wf zs h6
  refine ⟨l, by simpa using h1, h2, h3, ?_, h5⟩
  rw [List.map_map] at h4
  exact h4

theorem open_nums {t e : TypeId} (ht : P.underlying t = some (.slice e)) (he : P.underlying e = some (.int .i64)) (hc : P.cellsOf e = 1) {W : World} {a : Option Addr} {len cap : Nat} {d : DataW H} {p : List MemPlace}
    (h0 : DataW.Trod enc P W 0 (fun _ => true) true t (.slice a len cap) d p) : ∃ l, IArg W a len cap l := by
  obtain ⟨zs, h1, h2, h3, h4, h5, h6⟩ := open_row ht he hc h0
  exact ⟨zs, h1, h2, h3, h4, h5, h6⟩

/-- An array of n integers, by value. -/
theorem open_arr {k : IntKind} {t e : TypeId} {n : Nat} (ht : P.underlying t = some (.array n e)) (he : P.underlying e = some (.int k)) (hc : P.cellsOf e = 1) (hct : P.cellsOf t = n) {W : World} {r : Reach} {b0 : Nat} {v : Value} {d : DataW H} {p : List MemPlace}
    (hv : Value.okWide P W r b0 t v) (h0 : DataW.Trod enc P W 0 (fun _ => true) true t v d p) :
    ∃ zs : List Int, zs.length = n ∧ v = .agg (ints k zs) ∧ ∀ x ∈ zs, (Lit.int k x).wf = true := by
  simp only [Value.okWide, ht] at hv
  obtain ⟨cs, rfl, hsz, _⟩ := hv
  obtain ⟨fuel, hf⟩ := h0
  obtain ⟨xs, m, _, _, hlen, hxl, hall⟩ := DataW.trod_array ht hf
  rw [hc] at hall
  simp only [Value.cells, Nat.mul_one] at hall hlen
  have hcs : cs.toList.length = n := by simp; omega
  have key : ∀ i (hi : i < n), ∃ z, cs.toList[i]? = some (.int k z) ∧ (Lit.int k z).wf = true := fun i hi => by
    have h1 := hall i hi
    have h2 : (cs.toList.drop i).take 1 = [cs.toList[i]'(by omega)] := by
      rw [List.drop_eq_getElem_cons (by omega)]; rfl
    rw [h2, List.getElem?_eq_getElem (by omega)] at h1
    obtain ⟨z, hz, _, hw⟩ := DataW.trod_int he h1
    refine ⟨z, ?_, hw⟩
    rw [List.getElem?_eq_getElem (by omega)]
    simpa using hz
  refine ⟨cs.toList.map intOf, by simpa using hcs, ?_, fun x hx => ?_⟩
  · congr 1
    apply Array.ext'
    simp only [ints, List.map_map]
    apply List.ext_getElem?
    intro i
    rw [List.getElem?_map]
    rcases Nat.lt_or_ge i n with hi | hi
    · obtain ⟨z, hz, _⟩ := key i hi
      rw [hz]; simp [intOf]
    · rw [List.getElem?_eq_none (by omega)]; rfl
  · obtain ⟨v, hv, rfl⟩ := List.mem_map.1 hx
    obtain ⟨i, hi, rfl⟩ := List.mem_iff_getElem.1 hv
    obtain ⟨z, hz, hw⟩ := key i (by omega)
    rw [List.getElem?_eq_getElem hi] at hz
    simp only [Option.some.injEq] at hz
    rw [hz]; exact hw
end
end Go.Proofs.Ytgdchcaglkeghaa
