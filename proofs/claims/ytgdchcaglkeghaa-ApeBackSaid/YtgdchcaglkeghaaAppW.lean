/- append under a guard that says yes. -/
import Derived.Test.YtgdchcaglkeghaaOpAt
import Derived.BigFrame
namespace Go.Proofs.Ytgdchcaglkeghaa
open Go.RowKit

theorem wpList_append_bytes_w {ops : Array Oper} {rest : List Oper} {o : Oper} {a : Act} {w : World} {Q : Exit → Act → World → Prop} (hw : Region.wanted o (yielded ops a.tmps) = true) (s x : Operand)
    (ho : o.op = .call { callee := .builtin .append, args := #[s, x], argTypes := #[22, 22] })
    (base : Nat) (v : Value) (l : List UInt8) (hs : a.eval s = v) (hown : Owns w base v l) (A : Option Addr) (m c : Nat) (k : List UInt8) (hx : a.eval x = .slice A m c) (hr : BArg w A m c k)
    (N : Nat) (hN : l.length + m = N) (hsum : N ≤ 140737488355328) (hbase : base ≤ w.heap.size)
    (h : ∀ A' cap' w', Owns w' base (.slice A' N cap') (l ++ k) → w.grownBy w' v.ownBlock → ((Value.slice A' N cap').ownBlock = v.ownBlock ∨ (Value.slice A' N cap').ownBlock = some w.heap.size) → wpList Try.prog ops Q rest (a.put o.dst (.slice A' N cap')) w') : wpList Try.prog ops Q (o :: rest) a w :=
  BigFrame.wpList_want hw fun _ hK => wp_append_bytes s x ho base v l hs hown A m c k hx hr N hN hsum hbase fun A' cap' w' h2 h3 h4 => hK _ _ (h A' cap' w' h2 h3 h4)
end Go.Proofs.Ytgdchcaglkeghaa
