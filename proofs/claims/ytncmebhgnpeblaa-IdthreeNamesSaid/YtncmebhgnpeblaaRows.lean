/-
  No cell of these rows narrows 'for every input' (looked for: loops, veiled, ifaces, maps, wideKeys, modest, calm, conditions, laid).
  DERIVED. THE GIVEN ROWS OF THIS SEAT. 6 by the template 'for every input the law returns true; each argument reads behind the call as it read before'; 0 by the template 'total and deterministic' (their statements: YtncmebhgnpeblaaTotals.lean).
  GIVEN WITH THE SEED: the statements are not yours to turn. If you find one false, say at which input.
  Laid BY PROGRAM, IN A SANDBOX (cutbox-rows.mjs): the forced cells as the released guide's own fill.sh prints them over the translation 306dad008d231216… (all of the seat's roots in one cut). By AI agents, Wed Nov 11 2026. No macro, syntax, notation, axiom, sorry.
-/
import Derived.Test.YtncmebhgnpeblaaChecked
import GoSem.Claim
import GoSem.ClaimJoined
import GoSem.ClaimMapViews
import Derived.JoinedTies
import Derived.KernelRfl
namespace Go.Proofs.Ytncmebhgnpeblaa
/- THE CELL 'sum', in the pinned program and in every row, IS THE sha256 OF THE DUMP (.gsa) THAT YtncmebhgnpeblaaProg.lean LOADS. Nothing in Lean hashes anything: it is a label: what it is worth is what the hold of that sum in a sandbox is worth. -/
noncomputable def Try.pinned : Pinned := { name := "ytncmebhgnpeblaa", sum := "306dad008d231216d13afd818156ec969c7c623cf05bf224a6189ada4bc9b770", checked := Try.checked }
namespace Rows
def none {H : Type} : Left H := { results := [], args := [] }

/-- 'cadenzalaw28.IdthreeNumbers': WHATEVER THE INPUT: true; the input reads as it did. -/
def idthreeNumbersSpec : ChangeSpec := { name := "idthreeNumbers", fn := fun _ => fun
  | [d1, d2] => { results := [.lit (.bool true)], args := [d1, d2] }
  | _ => none }
def idthreeNumbersRow : OpenClaim := { program := "ytncmebhgnpeblaa", sum := "306dad008d231216d13afd818156ec969c7c623cf05bf224a6189ada4bc9b770", func := "cadenza/cadenzalaw28.IdthreeNumbers", spec := "idthreeNumbers", apart := false }
def IdthreeNumbersSaid : Prop := idthreeNumbersRow.holds Try.pinned (OpenSpec.ofChange idthreeNumbersSpec)

/-- ITS FALSE NEIGHBOUR: 'it returns false'. Refute it at one input. -/
def idthreeNumbersWrong : ChangeSpec := { name := "idthreeNumbers", fn := fun _ => fun
  | [d1, d2] => { results := [.lit (.bool false)], args := [d1, d2] }
  | _ => none }
def IdthreeNumbersWrongFalsely : Prop := idthreeNumbersRow.holds Try.pinned (OpenSpec.ofChange idthreeNumbersWrong)

/-- 'cadenzalaw28.IdthreeTags': WHATEVER THE INPUT: true; the input reads as it did. -/
def idthreeTagsSpec : ChangeSpec := { name := "idthreeTags", fn := fun _ => fun
  | [d1, d2, d3] => { results := [.lit (.bool true)], args := [d1, d2, d3] }
  | _ => none }
def idthreeTagsRow : OpenClaim := { program := "ytncmebhgnpeblaa", sum := "306dad008d231216d13afd818156ec969c7c623cf05bf224a6189ada4bc9b770", func := "cadenza/cadenzalaw28.IdthreeTags", spec := "idthreeTags", inPlace := ["internal/bytealg.MakeNoZero"], unfollowed := true, recurses := true, apart := false }
def IdthreeTagsSaid : Prop := idthreeTagsRow.holds Try.pinned (OpenSpec.ofChange idthreeTagsSpec)

/-- ITS FALSE NEIGHBOUR: 'it returns false'. Refute it at one input. -/
def idthreeTagsWrong : ChangeSpec := { name := "idthreeTags", fn := fun _ => fun
  | [d1, d2, d3] => { results := [.lit (.bool false)], args := [d1, d2, d3] }
  | _ => none }
def IdthreeTagsWrongFalsely : Prop := idthreeTagsRow.holds Try.pinned (OpenSpec.ofChange idthreeTagsWrong)

/-- 'cadenzalaw28.IdthreeNames': WHATEVER THE INPUT: true; the input reads as it did. -/
def idthreeNamesSpec : ChangeSpec := { name := "idthreeNames", fn := fun _ => fun
  | [] => { results := [.lit (.bool true)], args := [] }
  | _ => none }
def idthreeNamesRow : OpenClaim := { program := "ytncmebhgnpeblaa", sum := "306dad008d231216d13afd818156ec969c7c623cf05bf224a6189ada4bc9b770", func := "cadenza/cadenzalaw28.IdthreeNames", spec := "idthreeNames", inPlace := ["internal/bytealg.MakeNoZero"], unfollowed := true, recurses := true, apart := false }
def IdthreeNamesSaid : Prop := idthreeNamesRow.holds Try.pinned (OpenSpec.ofChange idthreeNamesSpec)

/-- ITS FALSE NEIGHBOUR: 'it returns false'. Refute it at one input. -/
def idthreeNamesWrong : ChangeSpec := { name := "idthreeNames", fn := fun _ => fun
  | [] => { results := [.lit (.bool false)], args := [] }
  | _ => none }
def IdthreeNamesWrongFalsely : Prop := idthreeNamesRow.holds Try.pinned (OpenSpec.ofChange idthreeNamesWrong)

/-- 'cadenzalaw28.IdthreeBack': WHATEVER THE INPUT: true; the input reads as it did. -/
def idthreeBackSpec : ChangeSpec := { name := "idthreeBack", fn := fun _ => fun
  | [d1, d2, d3, d4] => { results := [.lit (.bool true)], args := [d1, d2, d3, d4] }
  | _ => none }
def idthreeBackRow : OpenClaim := { program := "ytncmebhgnpeblaa", sum := "306dad008d231216d13afd818156ec969c7c623cf05bf224a6189ada4bc9b770", func := "cadenza/cadenzalaw28.IdthreeBack", spec := "idthreeBack", inPlace := ["internal/bytealg.MakeNoZero"], unfollowed := true, recurses := true, apart := false }
def IdthreeBackSaid : Prop := idthreeBackRow.holds Try.pinned (OpenSpec.ofChange idthreeBackSpec)

/-- ITS FALSE NEIGHBOUR: 'it returns false'. Refute it at one input. -/
def idthreeBackWrong : ChangeSpec := { name := "idthreeBack", fn := fun _ => fun
  | [d1, d2, d3, d4] => { results := [.lit (.bool false)], args := [d1, d2, d3, d4] }
  | _ => none }
def IdthreeBackWrongFalsely : Prop := idthreeBackRow.holds Try.pinned (OpenSpec.ofChange idthreeBackWrong)

/-- 'cadenzalaw28.IdthreeSafe': WHATEVER THE INPUT: true; the input reads as it did. -/
def idthreeSafeSpec : ChangeSpec := { name := "idthreeSafe", fn := fun _ => fun
  | [d1, d2, d3] => { results := [.lit (.bool true)], args := [d1, d2, d3] }
  | _ => none }
def idthreeSafeRow : OpenClaim := { program := "ytncmebhgnpeblaa", sum := "306dad008d231216d13afd818156ec969c7c623cf05bf224a6189ada4bc9b770", func := "cadenza/cadenzalaw28.IdthreeSafe", spec := "idthreeSafe", inPlace := ["internal/bytealg.MakeNoZero"], unfollowed := true, recurses := true, apart := false }
def IdthreeSafeSaid : Prop := idthreeSafeRow.holds Try.pinned (OpenSpec.ofChange idthreeSafeSpec)

/-- ITS FALSE NEIGHBOUR: 'it returns false'. Refute it at one input. -/
def idthreeSafeWrong : ChangeSpec := { name := "idthreeSafe", fn := fun _ => fun
  | [d1, d2, d3] => { results := [.lit (.bool false)], args := [d1, d2, d3] }
  | _ => none }
def IdthreeSafeWrongFalsely : Prop := idthreeSafeRow.holds Try.pinned (OpenSpec.ofChange idthreeSafeWrong)

/-- 'cadenzalaw28.IdthreeBody': WHATEVER THE INPUT: true; the input reads as it did. -/
def idthreeBodySpec : ChangeSpec := { name := "idthreeBody", fn := fun _ => fun
  | [d1, d2, d3, d4] => { results := [.lit (.bool true)], args := [d1, d2, d3, d4] }
  | _ => none }
def idthreeBodyRow : OpenClaim := { program := "ytncmebhgnpeblaa", sum := "306dad008d231216d13afd818156ec969c7c623cf05bf224a6189ada4bc9b770", func := "cadenza/cadenzalaw28.IdthreeBody", spec := "idthreeBody", inPlace := ["internal/bytealg.MakeNoZero"], unfollowed := true, recurses := true, apart := false }
def IdthreeBodySaid : Prop := idthreeBodyRow.holds Try.pinned (OpenSpec.ofChange idthreeBodySpec)

/-- ITS FALSE NEIGHBOUR: 'it returns false'. Refute it at one input. -/
def idthreeBodyWrong : ChangeSpec := { name := "idthreeBody", fn := fun _ => fun
  | [d1, d2, d3, d4] => { results := [.lit (.bool false)], args := [d1, d2, d3, d4] }
  | _ => none }
def IdthreeBodyWrongFalsely : Prop := idthreeBodyRow.holds Try.pinned (OpenSpec.ofChange idthreeBodyWrong)

/- THE SECOND FORM. 'bulk': how many values and letters a reading holds, each counted each time it is reached (what is shared counts as often as it is met; a slice's spare places count too). A statement '..UptoSaid' is the law's where the arguments, and the package variables that the reading takes, are together of bulk at most 1048576: NARROWER than '..Said'. Prove '..Said' where nothing that the law and all that it calls make is longer than what came in: it says more and counts as full. Else prove '..UptoSaid'. A law counts once. -/
mutual
def uptoBulk {H : Type} : DataW H → Nat
  | .lit (.string bytes) => bytes.length + 1
  | .lit _ => 1
  | .nil => 1
  | .ptr d => uptoBulk d + 1
  | .slice elems spare => uptoBulkAll elems + uptoBulkAll spare + 1
  | .agg parts => uptoBulkAll parts + 1
  | .iface _ d => uptoBulk d + 1
  | .map entries => uptoBulkEntries entries + 1
  | .held _ => 1
def uptoBulkAll {H : Type} : List (DataW H) → Nat
  | [] => 0
  | d :: r => uptoBulk d + uptoBulkAll r
def uptoBulkEntries {H : Type} : List (Lit × DataW H) → Nat
  | [] => 0
  | x :: r => uptoBulkEntry x + uptoBulkEntries r
def uptoBulkEntry {H : Type} : Lit × DataW H → Nat
  | (.string bytes, d) => bytes.length + uptoBulk d + 1
  | (_, d) => uptoBulk d + 1
 end
def uptoSmall : (H : Type) → List (DataW H) → Bool := fun _ ds => decide (uptoBulkAll ds ≤ 1048576)
def OpenSpec.upto (s : _root_.Go.ChangeSpec) : _root_.Go.OpenSpec := { _root_.Go.OpenSpec.ofChange s with cond := some uptoSmall }

/-- 'cadenzalaw28.IdthreeNumbers', WHERE WHAT IT READS IS OF BULK AT MOST 1048576: true; the input reads as it did. -/
def idthreeNumbersUptoRow : OpenClaim := { program := "ytncmebhgnpeblaa", sum := "306dad008d231216d13afd818156ec969c7c623cf05bf224a6189ada4bc9b770", func := "cadenza/cadenzalaw28.IdthreeNumbers", spec := "idthreeNumbers", apart := false, narrowed := true }
def IdthreeNumbersUptoSaid : Prop := idthreeNumbersUptoRow.holds Try.pinned (OpenSpec.upto idthreeNumbersSpec)

/-- 'cadenzalaw28.IdthreeTags', WHERE WHAT IT READS IS OF BULK AT MOST 1048576: true; the input reads as it did. -/
def idthreeTagsUptoRow : OpenClaim := { program := "ytncmebhgnpeblaa", sum := "306dad008d231216d13afd818156ec969c7c623cf05bf224a6189ada4bc9b770", func := "cadenza/cadenzalaw28.IdthreeTags", spec := "idthreeTags", inPlace := ["internal/bytealg.MakeNoZero"], unfollowed := true, recurses := true, apart := false, narrowed := true }
def IdthreeTagsUptoSaid : Prop := idthreeTagsUptoRow.holds Try.pinned (OpenSpec.upto idthreeTagsSpec)

/-- 'cadenzalaw28.IdthreeNames', WHERE WHAT IT READS IS OF BULK AT MOST 1048576: true; the input reads as it did. -/
def idthreeNamesUptoRow : OpenClaim := { program := "ytncmebhgnpeblaa", sum := "306dad008d231216d13afd818156ec969c7c623cf05bf224a6189ada4bc9b770", func := "cadenza/cadenzalaw28.IdthreeNames", spec := "idthreeNames", inPlace := ["internal/bytealg.MakeNoZero"], unfollowed := true, recurses := true, apart := false, narrowed := true }
def IdthreeNamesUptoSaid : Prop := idthreeNamesUptoRow.holds Try.pinned (OpenSpec.upto idthreeNamesSpec)

/-- 'cadenzalaw28.IdthreeBack', WHERE WHAT IT READS IS OF BULK AT MOST 1048576: true; the input reads as it did. -/
def idthreeBackUptoRow : OpenClaim := { program := "ytncmebhgnpeblaa", sum := "306dad008d231216d13afd818156ec969c7c623cf05bf224a6189ada4bc9b770", func := "cadenza/cadenzalaw28.IdthreeBack", spec := "idthreeBack", inPlace := ["internal/bytealg.MakeNoZero"], unfollowed := true, recurses := true, apart := false, narrowed := true }
def IdthreeBackUptoSaid : Prop := idthreeBackUptoRow.holds Try.pinned (OpenSpec.upto idthreeBackSpec)

/-- 'cadenzalaw28.IdthreeSafe', WHERE WHAT IT READS IS OF BULK AT MOST 1048576: true; the input reads as it did. -/
def idthreeSafeUptoRow : OpenClaim := { program := "ytncmebhgnpeblaa", sum := "306dad008d231216d13afd818156ec969c7c623cf05bf224a6189ada4bc9b770", func := "cadenza/cadenzalaw28.IdthreeSafe", spec := "idthreeSafe", inPlace := ["internal/bytealg.MakeNoZero"], unfollowed := true, recurses := true, apart := false, narrowed := true }
def IdthreeSafeUptoSaid : Prop := idthreeSafeUptoRow.holds Try.pinned (OpenSpec.upto idthreeSafeSpec)

/-- 'cadenzalaw28.IdthreeBody', WHERE WHAT IT READS IS OF BULK AT MOST 1048576: true; the input reads as it did. -/
def idthreeBodyUptoRow : OpenClaim := { program := "ytncmebhgnpeblaa", sum := "306dad008d231216d13afd818156ec969c7c623cf05bf224a6189ada4bc9b770", func := "cadenza/cadenzalaw28.IdthreeBody", spec := "idthreeBody", inPlace := ["internal/bytealg.MakeNoZero"], unfollowed := true, recurses := true, apart := false, narrowed := true }
def IdthreeBodyUptoSaid : Prop := idthreeBodyUptoRow.holds Try.pinned (OpenSpec.upto idthreeBodySpec)

end Rows
end Go.Proofs.Ytncmebhgnpeblaa
