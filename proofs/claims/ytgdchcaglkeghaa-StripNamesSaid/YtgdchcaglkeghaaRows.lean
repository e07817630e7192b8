/-
  No cell of these rows narrows 'for every input' (looked for: loops, veiled, ifaces, maps, wideKeys, modest, calm, conditions, laid).
  DERIVED. THE GIVEN ROWS OF THIS SEAT. 12 by the template 'for every input the law returns true; each argument reads behind the call as it read before'; 0 by the template 'total and deterministic' (their statements: YtgdchcaglkeghaaTotals.lean).
  GIVEN WITH THE SEED: the statements are not yours to turn. If you find one false, say at which input.
  Laid BY PROGRAM, IN A SANDBOX (cutbox-rows.mjs): the forced cells as the released guide's own fill.sh prints them over the translation c998e592dc240af9… (all of the seat's roots in one cut). By AI agents, Wed Nov 11 2026. No macro, syntax, notation, axiom, sorry.
-/
import Derived.Test.YtgdchcaglkeghaaChecked
import GoSem.Claim
import GoSem.ClaimJoined
import GoSem.ClaimMapViews
import Derived.JoinedTies
import Derived.KernelRfl
namespace Go.Proofs.Ytgdchcaglkeghaa
/- THE CELL 'sum', in the pinned program and in every row, IS THE sha256 OF THE DUMP (.gsa) THAT YtgdchcaglkeghaaProg.lean LOADS. Nothing in Lean hashes anything: it is a label: what it is worth is what the hold of that sum in a sandbox is worth. -/
noncomputable def Try.pinned : Pinned := { name := "ytgdchcaglkeghaa", sum := "c998e592dc240af916d41475cd25f84522de441fa07230605f9cdb95eb0c37b9", checked := Try.checked }
namespace Rows
def none {H : Type} : Left H := { results := [], args := [] }

/-- 'cadenzalaw30.StripJoin': WHATEVER THE INPUT: true; the input reads as it did. -/
def stripJoinSpec : ChangeSpec := { name := "stripJoin", fn := fun _ => fun
  | [d1, d2] => { results := [.lit (.bool true)], args := [d1, d2] }
  | _ => none }
def stripJoinRow : OpenClaim := { program := "ytgdchcaglkeghaa", sum := "c998e592dc240af916d41475cd25f84522de441fa07230605f9cdb95eb0c37b9", func := "cadenza/cadenzalaw30.StripJoin", spec := "stripJoin", inPlace := ["internal/bytealg.MakeNoZero"], unfollowed := true, recurses := true, apart := false }
def StripJoinSaid : Prop := stripJoinRow.holds Try.pinned (OpenSpec.ofChange stripJoinSpec)

/-- ITS FALSE NEIGHBOUR: 'it returns false'. Refute it at one input. -/
def stripJoinWrong : ChangeSpec := { name := "stripJoin", fn := fun _ => fun
  | [d1, d2] => { results := [.lit (.bool false)], args := [d1, d2] }
  | _ => none }
def StripJoinWrongFalsely : Prop := stripJoinRow.holds Try.pinned (OpenSpec.ofChange stripJoinWrong)

/-- 'cadenzalaw29.ApeWrites': WHATEVER THE INPUT: true; the input reads as it did. -/
def apeWritesSpec : ChangeSpec := { name := "apeWrites", fn := fun _ => fun
  | [d] => { results := [.lit (.bool true)], args := [d] }
  | _ => none }
def apeWritesRow : OpenClaim := { program := "ytgdchcaglkeghaa", sum := "c998e592dc240af916d41475cd25f84522de441fa07230605f9cdb95eb0c37b9", func := "cadenza/cadenzalaw29.ApeWrites", spec := "apeWrites", apart := false }
def ApeWritesSaid : Prop := apeWritesRow.holds Try.pinned (OpenSpec.ofChange apeWritesSpec)

/-- ITS FALSE NEIGHBOUR: 'it returns false'. Refute it at one input. -/
def apeWritesWrong : ChangeSpec := { name := "apeWrites", fn := fun _ => fun
  | [d] => { results := [.lit (.bool false)], args := [d] }
  | _ => none }
def ApeWritesWrongFalsely : Prop := apeWritesRow.holds Try.pinned (OpenSpec.ofChange apeWritesWrong)

/-- 'cadenzalaw30.StripWritten': WHATEVER THE INPUT: true; the input reads as it did. -/
def stripWrittenSpec : ChangeSpec := { name := "stripWritten", fn := fun _ => fun
  | [d1, d2] => { results := [.lit (.bool true)], args := [d1, d2] }
  | _ => none }
def stripWrittenRow : OpenClaim := { program := "ytgdchcaglkeghaa", sum := "c998e592dc240af916d41475cd25f84522de441fa07230605f9cdb95eb0c37b9", func := "cadenza/cadenzalaw30.StripWritten", spec := "stripWritten", inPlace := ["internal/bytealg.MakeNoZero"], unfollowed := true, recurses := true, apart := false }
def StripWrittenSaid : Prop := stripWrittenRow.holds Try.pinned (OpenSpec.ofChange stripWrittenSpec)

/-- ITS FALSE NEIGHBOUR: 'it returns false'. Refute it at one input. -/
def stripWrittenWrong : ChangeSpec := { name := "stripWritten", fn := fun _ => fun
  | [d1, d2] => { results := [.lit (.bool false)], args := [d1, d2] }
  | _ => none }
def StripWrittenWrongFalsely : Prop := stripWrittenRow.holds Try.pinned (OpenSpec.ofChange stripWrittenWrong)

/-- 'cadenzalaw30.StripBehinds': WHATEVER THE INPUT: true; the input reads as it did. -/
def stripBehindsSpec : ChangeSpec := { name := "stripBehinds", fn := fun _ => fun
  | [d] => { results := [.lit (.bool true)], args := [d] }
  | _ => none }
def stripBehindsRow : OpenClaim := { program := "ytgdchcaglkeghaa", sum := "c998e592dc240af916d41475cd25f84522de441fa07230605f9cdb95eb0c37b9", func := "cadenza/cadenzalaw30.StripBehinds", spec := "stripBehinds", unfollowed := true, recurses := true, apart := false }
def StripBehindsSaid : Prop := stripBehindsRow.holds Try.pinned (OpenSpec.ofChange stripBehindsSpec)

/-- ITS FALSE NEIGHBOUR: 'it returns false'. Refute it at one input. -/
def stripBehindsWrong : ChangeSpec := { name := "stripBehinds", fn := fun _ => fun
  | [d] => { results := [.lit (.bool false)], args := [d] }
  | _ => none }
def StripBehindsWrongFalsely : Prop := stripBehindsRow.holds Try.pinned (OpenSpec.ofChange stripBehindsWrong)

/-- 'cadenzalaw29.ApeSizes': WHATEVER THE INPUT: true; the input reads as it did. -/
def apeSizesSpec : ChangeSpec := { name := "apeSizes", fn := fun _ => fun
  | [d] => { results := [.lit (.bool true)], args := [d] }
  | _ => none }
def apeSizesRow : OpenClaim := { program := "ytgdchcaglkeghaa", sum := "c998e592dc240af916d41475cd25f84522de441fa07230605f9cdb95eb0c37b9", func := "cadenza/cadenzalaw29.ApeSizes", spec := "apeSizes", apart := false }
def ApeSizesSaid : Prop := apeSizesRow.holds Try.pinned (OpenSpec.ofChange apeSizesSpec)

/-- ITS FALSE NEIGHBOUR: 'it returns false'. Refute it at one input. -/
def apeSizesWrong : ChangeSpec := { name := "apeSizes", fn := fun _ => fun
  | [d] => { results := [.lit (.bool false)], args := [d] }
  | _ => none }
def ApeSizesWrongFalsely : Prop := apeSizesRow.holds Try.pinned (OpenSpec.ofChange apeSizesWrong)

/-- 'cadenzalaw29.ApeNames': WHATEVER THE INPUT: true; the input reads as it did. -/
def apeNamesSpec : ChangeSpec := { name := "apeNames", fn := fun _ => fun
  | [] => { results := [.lit (.bool true)], args := [] }
  | _ => none }
def apeNamesRow : OpenClaim := { program := "ytgdchcaglkeghaa", sum := "c998e592dc240af916d41475cd25f84522de441fa07230605f9cdb95eb0c37b9", func := "cadenza/cadenzalaw29.ApeNames", spec := "apeNames", apart := false }
def ApeNamesSaid : Prop := apeNamesRow.holds Try.pinned (OpenSpec.ofChange apeNamesSpec)

/-- ITS FALSE NEIGHBOUR: 'it returns false'. Refute it at one input. -/
def apeNamesWrong : ChangeSpec := { name := "apeNames", fn := fun _ => fun
  | [] => { results := [.lit (.bool false)], args := [] }
  | _ => none }
def ApeNamesWrongFalsely : Prop := apeNamesRow.holds Try.pinned (OpenSpec.ofChange apeNamesWrong)

/-- 'cadenzalaw29.ApeBack': WHATEVER THE INPUT: true; the input reads as it did. -/
def apeBackSpec : ChangeSpec := { name := "apeBack", fn := fun _ => fun
  | [d1, d2] => { results := [.lit (.bool true)], args := [d1, d2] }
  | _ => none }
def apeBackRow : OpenClaim := { program := "ytgdchcaglkeghaa", sum := "c998e592dc240af916d41475cd25f84522de441fa07230605f9cdb95eb0c37b9", func := "cadenza/cadenzalaw29.ApeBack", spec := "apeBack", apart := false }
def ApeBackSaid : Prop := apeBackRow.holds Try.pinned (OpenSpec.ofChange apeBackSpec)

/-- ITS FALSE NEIGHBOUR: 'it returns false'. Refute it at one input. -/
def apeBackWrong : ChangeSpec := { name := "apeBack", fn := fun _ => fun
  | [d1, d2] => { results := [.lit (.bool false)], args := [d1, d2] }
  | _ => none }
def ApeBackWrongFalsely : Prop := apeBackRow.holds Try.pinned (OpenSpec.ofChange apeBackWrong)

/-- 'cadenzalaw29.ApeCut': WHATEVER THE INPUT: true; the input reads as it did. -/
def apeCutSpec : ChangeSpec := { name := "apeCut", fn := fun _ => fun
  | [d1, d2] => { results := [.lit (.bool true)], args := [d1, d2] }
  | _ => none }
def apeCutRow : OpenClaim := { program := "ytgdchcaglkeghaa", sum := "c998e592dc240af916d41475cd25f84522de441fa07230605f9cdb95eb0c37b9", func := "cadenza/cadenzalaw29.ApeCut", spec := "apeCut", apart := false }
def ApeCutSaid : Prop := apeCutRow.holds Try.pinned (OpenSpec.ofChange apeCutSpec)

/-- ITS FALSE NEIGHBOUR: 'it returns false'. Refute it at one input. -/
def apeCutWrong : ChangeSpec := { name := "apeCut", fn := fun _ => fun
  | [d1, d2] => { results := [.lit (.bool false)], args := [d1, d2] }
  | _ => none }
def ApeCutWrongFalsely : Prop := apeCutRow.holds Try.pinned (OpenSpec.ofChange apeCutWrong)

/-- 'cadenzalaw29.ApeItems': WHATEVER THE INPUT: true; the input reads as it did. -/
def apeItemsSpec : ChangeSpec := { name := "apeItems", fn := fun _ => fun
  | [d1, d2, d3, d4, d5] => { results := [.lit (.bool true)], args := [d1, d2, d3, d4, d5] }
  | _ => none }
def apeItemsRow : OpenClaim := { program := "ytgdchcaglkeghaa", sum := "c998e592dc240af916d41475cd25f84522de441fa07230605f9cdb95eb0c37b9", func := "cadenza/cadenzalaw29.ApeItems", spec := "apeItems", apart := false }
def ApeItemsSaid : Prop := apeItemsRow.holds Try.pinned (OpenSpec.ofChange apeItemsSpec)

/-- ITS FALSE NEIGHBOUR: 'it returns false'. Refute it at one input. -/
def apeItemsWrong : ChangeSpec := { name := "apeItems", fn := fun _ => fun
  | [d1, d2, d3, d4, d5] => { results := [.lit (.bool false)], args := [d1, d2, d3, d4, d5] }
  | _ => none }
def ApeItemsWrongFalsely : Prop := apeItemsRow.holds Try.pinned (OpenSpec.ofChange apeItemsWrong)

/-- 'cadenzalaw30.StripFronts': WHATEVER THE INPUT: true; the input reads as it did. -/
def stripFrontsSpec : ChangeSpec := { name := "stripFronts", fn := fun _ => fun
  | [d] => { results := [.lit (.bool true)], args := [d] }
  | _ => none }
def stripFrontsRow : OpenClaim := { program := "ytgdchcaglkeghaa", sum := "c998e592dc240af916d41475cd25f84522de441fa07230605f9cdb95eb0c37b9", func := "cadenza/cadenzalaw30.StripFronts", spec := "stripFronts", unfollowed := true, recurses := true, apart := false }
def StripFrontsSaid : Prop := stripFrontsRow.holds Try.pinned (OpenSpec.ofChange stripFrontsSpec)

/-- ITS FALSE NEIGHBOUR: 'it returns false'. Refute it at one input. -/
def stripFrontsWrong : ChangeSpec := { name := "stripFronts", fn := fun _ => fun
  | [d] => { results := [.lit (.bool false)], args := [d] }
  | _ => none }
def StripFrontsWrongFalsely : Prop := stripFrontsRow.holds Try.pinned (OpenSpec.ofChange stripFrontsWrong)

/-- 'cadenzalaw30.StripNames': WHATEVER THE INPUT: true; the input reads as it did. -/
def stripNamesSpec : ChangeSpec := { name := "stripNames", fn := fun _ => fun
  | [] => { results := [.lit (.bool true)], args := [] }
  | _ => none }
def stripNamesRow : OpenClaim := { program := "ytgdchcaglkeghaa", sum := "c998e592dc240af916d41475cd25f84522de441fa07230605f9cdb95eb0c37b9", func := "cadenza/cadenzalaw30.StripNames", spec := "stripNames", inPlace := ["internal/bytealg.MakeNoZero"], unfollowed := true, recurses := true, apart := false }
def StripNamesSaid : Prop := stripNamesRow.holds Try.pinned (OpenSpec.ofChange stripNamesSpec)

/-- ITS FALSE NEIGHBOUR: 'it returns false'. Refute it at one input. -/
def stripNamesWrong : ChangeSpec := { name := "stripNames", fn := fun _ => fun
  | [] => { results := [.lit (.bool false)], args := [] }
  | _ => none }
def StripNamesWrongFalsely : Prop := stripNamesRow.holds Try.pinned (OpenSpec.ofChange stripNamesWrong)

/-- 'cadenzalaw30.StripLeft': WHATEVER THE INPUT: true; the input reads as it did. -/
def stripLeftSpec : ChangeSpec := { name := "stripLeft", fn := fun _ => fun
  | [d1, d2] => { results := [.lit (.bool true)], args := [d1, d2] }
  | _ => none }
def stripLeftRow : OpenClaim := { program := "ytgdchcaglkeghaa", sum := "c998e592dc240af916d41475cd25f84522de441fa07230605f9cdb95eb0c37b9", func := "cadenza/cadenzalaw30.StripLeft", spec := "stripLeft", inPlace := ["internal/bytealg.MakeNoZero"], unfollowed := true, recurses := true, apart := false }
def StripLeftSaid : Prop := stripLeftRow.holds Try.pinned (OpenSpec.ofChange stripLeftSpec)

/-- ITS FALSE NEIGHBOUR: 'it returns false'. Refute it at one input. -/
def stripLeftWrong : ChangeSpec := { name := "stripLeft", fn := fun _ => fun
  | [d1, d2] => { results := [.lit (.bool false)], args := [d1, d2] }
  | _ => none }
def StripLeftWrongFalsely : Prop := stripLeftRow.holds Try.pinned (OpenSpec.ofChange stripLeftWrong)

/- THE SECOND FORM. 'bulk': how many values and letters a reading holds, each counted each time it is reached (what is shared counts as often as it is met; a slice's spare places count too). A statement '..UptoSaid' is the law's where the arguments, and the package variables that the reading takes, are together of bulk at most 1048576: NARROWER than '..Said'. Prove '..Said' where nothing that the law and all that it calls make is longer than what came in: it says more and counts as full. Else prove '..UptoSaid'. A law counts once. -/
mutual
def uptoBulk {H : Type} : DataW H → Nat
  | .lit (.string bytes) => bytes.length + 1
  | .lit _ => 1
  | .nil => 1
  | .ptr d => uptoBulk d + 1
  | .slice elems spare => uptoBulkAll elems + uptoBulkAll spare + 1
  | .agg parts => uptoBulkAll parts + 1
  | .iface _ d => uptoBulk d + 1
  | .map entries => uptoBulkEntries entries + 1
  | .held _ => 1
def uptoBulkAll {H : Type} : List (DataW H) → Nat
  | [] => 0
  | d :: r => uptoBulk d + uptoBulkAll r
def uptoBulkEntries {H : Type} : List (Lit × DataW H) → Nat
  | [] => 0
  | x :: r => uptoBulkEntry x + uptoBulkEntries r
def uptoBulkEntry {H : Type} : Lit × DataW H → Nat
  | (.string bytes, d) => bytes.length + uptoBulk d + 1
  | (_, d) => uptoBulk d + 1
 end
def uptoSmall : (H : Type) → List (DataW H) → Bool := fun _ ds => decide (uptoBulkAll ds ≤ 1048576)
def OpenSpec.upto (s : _root_.Go.ChangeSpec) : _root_.Go.OpenSpec := { _root_.Go.OpenSpec.ofChange s with cond := some uptoSmall }

/-- 'cadenzalaw30.StripJoin', WHERE WHAT IT READS IS OF BULK AT MOST 1048576: true; the input reads as it did. -/
def stripJoinUptoRow : OpenClaim := { program := "ytgdchcaglkeghaa", sum := "c998e592dc240af916d41475cd25f84522de441fa07230605f9cdb95eb0c37b9", func := "cadenza/cadenzalaw30.StripJoin", spec := "stripJoin", inPlace := ["internal/bytealg.MakeNoZero"], unfollowed := true, recurses := true, apart := false, narrowed := true }
def StripJoinUptoSaid : Prop := stripJoinUptoRow.holds Try.pinned (OpenSpec.upto stripJoinSpec)

/-- 'cadenzalaw29.ApeWrites', WHERE WHAT IT READS IS OF BULK AT MOST 1048576: true; the input reads as it did. -/
def apeWritesUptoRow : OpenClaim := { program := "ytgdchcaglkeghaa", sum := "c998e592dc240af916d41475cd25f84522de441fa07230605f9cdb95eb0c37b9", func := "cadenza/cadenzalaw29.ApeWrites", spec := "apeWrites", apart := false, narrowed := true }
def ApeWritesUptoSaid : Prop := apeWritesUptoRow.holds Try.pinned (OpenSpec.upto apeWritesSpec)

/-- 'cadenzalaw30.StripWritten', WHERE WHAT IT READS IS OF BULK AT MOST 1048576: true; the input reads as it did. -/
def stripWrittenUptoRow : OpenClaim := { program := "ytgdchcaglkeghaa", sum := "c998e592dc240af916d41475cd25f84522de441fa07230605f9cdb95eb0c37b9", func := "cadenza/cadenzalaw30.StripWritten", spec := "stripWritten", inPlace := ["internal/bytealg.MakeNoZero"], unfollowed := true, recurses := true, apart := false, narrowed := true }
def StripWrittenUptoSaid : Prop := stripWrittenUptoRow.holds Try.pinned (OpenSpec.upto stripWrittenSpec)

/-- 'cadenzalaw30.StripBehinds', WHERE WHAT IT READS IS OF BULK AT MOST 1048576: true; the input reads as it did. -/
def stripBehindsUptoRow : OpenClaim := { program := "ytgdchcaglkeghaa", sum := "c998e592dc240af916d41475cd25f84522de441fa07230605f9cdb95eb0c37b9", func := "cadenza/cadenzalaw30.StripBehinds", spec := "stripBehinds", unfollowed := true, recurses := true, apart := false, narrowed := true }
def StripBehindsUptoSaid : Prop := stripBehindsUptoRow.holds Try.pinned (OpenSpec.upto stripBehindsSpec)

/-- 'cadenzalaw29.ApeSizes', WHERE WHAT IT READS IS OF BULK AT MOST 1048576: true; the input reads as it did. -/
def apeSizesUptoRow : OpenClaim := { program := "ytgdchcaglkeghaa", sum := "c998e592dc240af916d41475cd25f84522de441fa07230605f9cdb95eb0c37b9", func := "cadenza/cadenzalaw29.ApeSizes", spec := "apeSizes", apart := false, narrowed := true }
def ApeSizesUptoSaid : Prop := apeSizesUptoRow.holds Try.pinned (OpenSpec.upto apeSizesSpec)

/-- 'cadenzalaw29.ApeNames', WHERE WHAT IT READS IS OF BULK AT MOST 1048576: true; the input reads as it did. -/
def apeNamesUptoRow : OpenClaim := { program := "ytgdchcaglkeghaa", sum := "c998e592dc240af916d41475cd25f84522de441fa07230605f9cdb95eb0c37b9", func := "cadenza/cadenzalaw29.ApeNames", spec := "apeNames", apart := false, narrowed := true }
def ApeNamesUptoSaid : Prop := apeNamesUptoRow.holds Try.pinned (OpenSpec.upto apeNamesSpec)

/-- 'cadenzalaw29.ApeBack', WHERE WHAT IT READS IS OF BULK AT MOST 1048576: true; the input reads as it did. -/
def apeBackUptoRow : OpenClaim := { program := "ytgdchcaglkeghaa", sum := "c998e592dc240af916d41475cd25f84522de441fa07230605f9cdb95eb0c37b9", func := "cadenza/cadenzalaw29.ApeBack", spec := "apeBack", apart := false, narrowed := true }
def ApeBackUptoSaid : Prop := apeBackUptoRow.holds Try.pinned (OpenSpec.upto apeBackSpec)

/-- 'cadenzalaw29.ApeCut', WHERE WHAT IT READS IS OF BULK AT MOST 1048576: true; the input reads as it did. -/
def apeCutUptoRow : OpenClaim := { program := "ytgdchcaglkeghaa", sum := "c998e592dc240af916d41475cd25f84522de441fa07230605f9cdb95eb0c37b9", func := "cadenza/cadenzalaw29.ApeCut", spec := "apeCut", apart := false, narrowed := true }
def ApeCutUptoSaid : Prop := apeCutUptoRow.holds Try.pinned (OpenSpec.upto apeCutSpec)

/-- 'cadenzalaw29.ApeItems', WHERE WHAT IT READS IS OF BULK AT MOST 1048576: true; the input reads as it did. -/
def apeItemsUptoRow : OpenClaim := { program := "ytgdchcaglkeghaa", sum := "c998e592dc240af916d41475cd25f84522de441fa07230605f9cdb95eb0c37b9", func := "cadenza/cadenzalaw29.ApeItems", spec := "apeItems", apart := false, narrowed := true }
def ApeItemsUptoSaid : Prop := apeItemsUptoRow.holds Try.pinned (OpenSpec.upto apeItemsSpec)

/-- 'cadenzalaw30.StripFronts', WHERE WHAT IT READS IS OF BULK AT MOST 1048576: true; the input reads as it did. -/
def stripFrontsUptoRow : OpenClaim := { program := "ytgdchcaglkeghaa", sum := "c998e592dc240af916d41475cd25f84522de441fa07230605f9cdb95eb0c37b9", func := "cadenza/cadenzalaw30.StripFronts", spec := "stripFronts", unfollowed := true, recurses := true, apart := false, narrowed := true }
def StripFrontsUptoSaid : Prop := stripFrontsUptoRow.holds Try.pinned (OpenSpec.upto stripFrontsSpec)

/-- 'cadenzalaw30.StripNames', WHERE WHAT IT READS IS OF BULK AT MOST 1048576: true; the input reads as it did. -/
def stripNamesUptoRow : OpenClaim := { program := "ytgdchcaglkeghaa", sum := "c998e592dc240af916d41475cd25f84522de441fa07230605f9cdb95eb0c37b9", func := "cadenza/cadenzalaw30.StripNames", spec := "stripNames", inPlace := ["internal/bytealg.MakeNoZero"], unfollowed := true, recurses := true, apart := false, narrowed := true }
def StripNamesUptoSaid : Prop := stripNamesUptoRow.holds Try.pinned (OpenSpec.upto stripNamesSpec)

/-- 'cadenzalaw30.StripLeft', WHERE WHAT IT READS IS OF BULK AT MOST 1048576: true; the input reads as it did. -/
def stripLeftUptoRow : OpenClaim := { program := "ytgdchcaglkeghaa", sum := "c998e592dc240af916d41475cd25f84522de441fa07230605f9cdb95eb0c37b9", func := "cadenza/cadenzalaw30.StripLeft", spec := "stripLeft", inPlace := ["internal/bytealg.MakeNoZero"], unfollowed := true, recurses := true, apart := false, narrowed := true }
def StripLeftUptoSaid : Prop := stripLeftUptoRow.holds Try.pinned (OpenSpec.upto stripLeftSpec)

end Rows
end Go.Proofs.Ytgdchcaglkeghaa
