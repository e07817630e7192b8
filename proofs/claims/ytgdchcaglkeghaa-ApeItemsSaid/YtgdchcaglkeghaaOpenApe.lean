/- How an argument that is a tag is opened. -/
import Derived.Test.YtgdchcaglkeghaaRows
import Derived.Test.YtgdchcaglkeghaaOpen
namespace Go.Proofs.Ytgdchcaglkeghaa
open Go.ChangeShapes Go.WideShapes Go.ChangeAt Go.RowKit

theorem open_ape {H : Type} {enc : TypeId × Value → H} {W : World} {r : Reach} {b0 : Nat} {v : Value} {d : DataW H} {p : List MemPlace}
    (hv : Value.okWide Try.prog W r b0 30 v) (h : DataW.Trod enc Try.prog W 0 (fun _ => true) true 30 v d p) :
    ∃ a len cap l c b, v = .agg #[.slice a len cap, .int .i64 c, .bool b] ∧ BArg W a len cap l ∧ (Lit.int .i64 c).wf = true := by
  obtain ⟨v0, v1, v2, y0, y1, y2, n, rfl, _, _, h0, h1, h2⟩ := Joins.open_agg3 Try.underlying30 (by kernel_rfl) (by kernel_rfl) hv h
  obtain ⟨c, e1, _, hw⟩ := DataW.trod_int Try.underlying3 h1
  obtain ⟨b, e2, _⟩ := DataW.trod_bool Try.underlying4 h2
  injection e1 with e1
  injection e2 with e2
  subst e1
  subst e2
  have key : ∃ a len cap, v0 = .slice a len cap := by
    rcases DataW.trod_slice Try.underlying22 h0 with ⟨e, _⟩ | ⟨a, len, cap, _, _, _, _, e, _⟩
    · injection e with e; exact ⟨_, _, _, e⟩
    · injection e with e; exact ⟨_, _, _, e⟩
  obtain ⟨a, len, cap, rfl⟩ := key
  obtain ⟨l, hl⟩ := open_bytes Try.underlying22 Try.underlying5 (by kernel_rfl) (show DataW.Trod enc Try.prog W 0 (fun _ => true) true 22 (.slice a len cap) y0.1 y0.2 from ⟨n, h0⟩)
  exact ⟨a, len, cap, l, c, b, rfl, hl, hw⟩
end Go.Proofs.Ytgdchcaglkeghaa
