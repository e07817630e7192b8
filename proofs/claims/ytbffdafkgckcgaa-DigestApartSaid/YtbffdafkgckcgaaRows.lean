/-
  No cell of these rows narrows 'for every input' (looked for: loops, veiled, ifaces, maps, wideKeys, modest, calm, conditions, laid).
  DERIVED. THE GIVEN ROWS OF THIS SEAT. 12 by the template 'for every input the law returns true; each argument reads behind the call as it read before'; 0 by the template 'total and deterministic' (their statements: YtbffdafkgckcgaaTotals.lean).
  GIVEN WITH THE SEED: the statements are not yours to turn. If you find one false, say at which input.
  Laid BY PROGRAM, IN A SANDBOX (cutbox-rows.mjs): the forced cells as the released guide's own fill.sh prints them over the translation 63be0f970de2dc92… (all of the seat's roots in one cut). By AI agents, Wed Nov 11 2026. No macro, syntax, notation, axiom, sorry.
-/
import Derived.Test.YtbffdafkgckcgaaChecked
import GoSem.Claim
import GoSem.ClaimJoined
import GoSem.ClaimMapViews
import Derived.JoinedTies
import Derived.KernelRfl
namespace Go.Proofs.Ytbffdafkgckcgaa
/- THE CELL 'sum', in the pinned program and in every row, IS THE sha256 OF THE DUMP (.gsa) THAT YtbffdafkgckcgaaProg.lean LOADS. Nothing in Lean hashes anything: it is a label: what it is worth is what the hold of that sum in a sandbox is worth. -/
noncomputable def Try.pinned : Pinned := { name := "ytbffdafkgckcgaa", sum := "63be0f970de2dc9227427f9dc3f9d760a95dc899a4d71a0b5216354ee5ff1d2d", checked := Try.checked }
namespace Rows
def none {H : Type} : Left H := { results := [], args := [] }

/-- 'cadenzalaw01.LeSigns': WHATEVER THE INPUT: true; the input reads as it did. -/
def leSignsSpec : ChangeSpec := { name := "leSigns", fn := fun _ => fun
  | [d1, d2, d3] => { results := [.lit (.bool true)], args := [d1, d2, d3] }
  | _ => none }
def leSignsRow : OpenClaim := { program := "ytbffdafkgckcgaa", sum := "63be0f970de2dc9227427f9dc3f9d760a95dc899a4d71a0b5216354ee5ff1d2d", func := "cadenza/cadenzalaw01.LeSigns", spec := "leSigns", apart := false }
def LeSignsSaid : Prop := leSignsRow.holds Try.pinned (OpenSpec.ofChange leSignsSpec)

/-- ITS FALSE NEIGHBOUR: 'it returns false'. Refute it at one input. -/
def leSignsWrong : ChangeSpec := { name := "leSigns", fn := fun _ => fun
  | [d1, d2, d3] => { results := [.lit (.bool false)], args := [d1, d2, d3] }
  | _ => none }
def LeSignsWrongFalsely : Prop := leSignsRow.holds Try.pinned (OpenSpec.ofChange leSignsWrong)

/-- 'cadenzalaw01.LeSums': WHATEVER THE INPUT: true; the input reads as it did. -/
def leSumsSpec : ChangeSpec := { name := "leSums", fn := fun _ => fun
  | [d1, d2, d3] => { results := [.lit (.bool true)], args := [d1, d2, d3] }
  | _ => none }
def leSumsRow : OpenClaim := { program := "ytbffdafkgckcgaa", sum := "63be0f970de2dc9227427f9dc3f9d760a95dc899a4d71a0b5216354ee5ff1d2d", func := "cadenza/cadenzalaw01.LeSums", spec := "leSums", apart := false }
def LeSumsSaid : Prop := leSumsRow.holds Try.pinned (OpenSpec.ofChange leSumsSpec)

/-- ITS FALSE NEIGHBOUR: 'it returns false'. Refute it at one input. -/
def leSumsWrong : ChangeSpec := { name := "leSums", fn := fun _ => fun
  | [d1, d2, d3] => { results := [.lit (.bool false)], args := [d1, d2, d3] }
  | _ => none }
def LeSumsWrongFalsely : Prop := leSumsRow.holds Try.pinned (OpenSpec.ofChange leSumsWrong)

/-- 'cadenzalaw01.LeReads': WHATEVER THE INPUT: true; the input reads as it did. -/
def leReadsSpec : ChangeSpec := { name := "leReads", fn := fun _ => fun
  | [d1, d2, d3, d4] => { results := [.lit (.bool true)], args := [d1, d2, d3, d4] }
  | _ => none }
def leReadsRow : OpenClaim := { program := "ytbffdafkgckcgaa", sum := "63be0f970de2dc9227427f9dc3f9d760a95dc899a4d71a0b5216354ee5ff1d2d", func := "cadenza/cadenzalaw01.LeReads", spec := "leReads", apart := false }
def LeReadsSaid : Prop := leReadsRow.holds Try.pinned (OpenSpec.ofChange leReadsSpec)

/-- ITS FALSE NEIGHBOUR: 'it returns false'. Refute it at one input. -/
def leReadsWrong : ChangeSpec := { name := "leReads", fn := fun _ => fun
  | [d1, d2, d3, d4] => { results := [.lit (.bool false)], args := [d1, d2, d3, d4] }
  | _ => none }
def LeReadsWrongFalsely : Prop := leReadsRow.holds Try.pinned (OpenSpec.ofChange leReadsWrong)

/-- 'cadenzalaw01.LeBytes': WHATEVER THE INPUT: true; the input reads as it did. -/
def leBytesSpec : ChangeSpec := { name := "leBytes", fn := fun _ => fun
  | [d1, d2] => { results := [.lit (.bool true)], args := [d1, d2] }
  | _ => none }
def leBytesRow : OpenClaim := { program := "ytbffdafkgckcgaa", sum := "63be0f970de2dc9227427f9dc3f9d760a95dc899a4d71a0b5216354ee5ff1d2d", func := "cadenza/cadenzalaw01.LeBytes", spec := "leBytes", apart := false }
def LeBytesSaid : Prop := leBytesRow.holds Try.pinned (OpenSpec.ofChange leBytesSpec)

/-- ITS FALSE NEIGHBOUR: 'it returns false'. Refute it at one input. -/
def leBytesWrong : ChangeSpec := { name := "leBytes", fn := fun _ => fun
  | [d1, d2] => { results := [.lit (.bool false)], args := [d1, d2] }
  | _ => none }
def LeBytesWrongFalsely : Prop := leBytesRow.holds Try.pinned (OpenSpec.ofChange leBytesWrong)

/-- 'cadenzalaw01.LeTwos': WHATEVER THE INPUT: true; the input reads as it did. -/
def leTwosSpec : ChangeSpec := { name := "leTwos", fn := fun _ => fun
  | [d1, d2, d3] => { results := [.lit (.bool true)], args := [d1, d2, d3] }
  | _ => none }
def leTwosRow : OpenClaim := { program := "ytbffdafkgckcgaa", sum := "63be0f970de2dc9227427f9dc3f9d760a95dc899a4d71a0b5216354ee5ff1d2d", func := "cadenza/cadenzalaw01.LeTwos", spec := "leTwos", apart := false }
def LeTwosSaid : Prop := leTwosRow.holds Try.pinned (OpenSpec.ofChange leTwosSpec)

/-- ITS FALSE NEIGHBOUR: 'it returns false'. Refute it at one input. -/
def leTwosWrong : ChangeSpec := { name := "leTwos", fn := fun _ => fun
  | [d1, d2, d3] => { results := [.lit (.bool false)], args := [d1, d2, d3] }
  | _ => none }
def LeTwosWrongFalsely : Prop := leTwosRow.holds Try.pinned (OpenSpec.ofChange leTwosWrong)

/-- 'cadenzalaw01.LeBack': WHATEVER THE INPUT: true; the input reads as it did. -/
def leBackSpec : ChangeSpec := { name := "leBack", fn := fun _ => fun
  | [d1, d2, d3, d4, d5] => { results := [.lit (.bool true)], args := [d1, d2, d3, d4, d5] }
  | _ => none }
def leBackRow : OpenClaim := { program := "ytbffdafkgckcgaa", sum := "63be0f970de2dc9227427f9dc3f9d760a95dc899a4d71a0b5216354ee5ff1d2d", func := "cadenza/cadenzalaw01.LeBack", spec := "leBack", apart := false }
def LeBackSaid : Prop := leBackRow.holds Try.pinned (OpenSpec.ofChange leBackSpec)

/-- ITS FALSE NEIGHBOUR: 'it returns false'. Refute it at one input. -/
def leBackWrong : ChangeSpec := { name := "leBack", fn := fun _ => fun
  | [d1, d2, d3, d4, d5] => { results := [.lit (.bool false)], args := [d1, d2, d3, d4, d5] }
  | _ => none }
def LeBackWrongFalsely : Prop := leBackRow.holds Try.pinned (OpenSpec.ofChange leBackWrong)

/-- 'cadenzalaw27.DigestApart': WHATEVER THE INPUT: true; the input reads as it did. -/
def digestApartSpec : ChangeSpec := { name := "digestApart", fn := fun _ => fun
  | [d1, d2, d3] => { results := [.lit (.bool true)], args := [d1, d2, d3] }
  | _ => none }
def digestApartRow : OpenClaim := { program := "ytbffdafkgckcgaa", sum := "63be0f970de2dc9227427f9dc3f9d760a95dc899a4d71a0b5216354ee5ff1d2d", func := "cadenza/cadenzalaw27.DigestApart", spec := "digestApart", apart := false }
def DigestApartSaid : Prop := digestApartRow.holds Try.pinned (OpenSpec.ofChange digestApartSpec)

/-- ITS FALSE NEIGHBOUR: 'it returns false'. Refute it at one input. -/
def digestApartWrong : ChangeSpec := { name := "digestApart", fn := fun _ => fun
  | [d1, d2, d3] => { results := [.lit (.bool false)], args := [d1, d2, d3] }
  | _ => none }
def DigestApartWrongFalsely : Prop := digestApartRow.holds Try.pinned (OpenSpec.ofChange digestApartWrong)

/-- 'cadenzalaw01.LeNames': WHATEVER THE INPUT: true; the input reads as it did. -/
def leNamesSpec : ChangeSpec := { name := "leNames", fn := fun _ => fun
  | [] => { results := [.lit (.bool true)], args := [] }
  | _ => none }
def leNamesRow : OpenClaim := { program := "ytbffdafkgckcgaa", sum := "63be0f970de2dc9227427f9dc3f9d760a95dc899a4d71a0b5216354ee5ff1d2d", func := "cadenza/cadenzalaw01.LeNames", spec := "leNames", apart := false }
def LeNamesSaid : Prop := leNamesRow.holds Try.pinned (OpenSpec.ofChange leNamesSpec)

/-- ITS FALSE NEIGHBOUR: 'it returns false'. Refute it at one input. -/
def leNamesWrong : ChangeSpec := { name := "leNames", fn := fun _ => fun
  | [] => { results := [.lit (.bool false)], args := [] }
  | _ => none }
def LeNamesWrongFalsely : Prop := leNamesRow.holds Try.pinned (OpenSpec.ofChange leNamesWrong)

/-- 'cadenzalaw27.DigestFormat': WHATEVER THE INPUT: true; the input reads as it did. -/
def digestFormatSpec : ChangeSpec := { name := "digestFormat", fn := fun _ => fun
  | [d] => { results := [.lit (.bool true)], args := [d] }
  | _ => none }
def digestFormatRow : OpenClaim := { program := "ytbffdafkgckcgaa", sum := "63be0f970de2dc9227427f9dc3f9d760a95dc899a4d71a0b5216354ee5ff1d2d", func := "cadenza/cadenzalaw27.DigestFormat", spec := "digestFormat", apart := false }
def DigestFormatSaid : Prop := digestFormatRow.holds Try.pinned (OpenSpec.ofChange digestFormatSpec)

/-- ITS FALSE NEIGHBOUR: 'it returns false'. Refute it at one input. -/
def digestFormatWrong : ChangeSpec := { name := "digestFormat", fn := fun _ => fun
  | [d] => { results := [.lit (.bool false)], args := [d] }
  | _ => none }
def DigestFormatWrongFalsely : Prop := digestFormatRow.holds Try.pinned (OpenSpec.ofChange digestFormatWrong)

/-- 'cadenzalaw27.DigestTells': WHATEVER THE INPUT: true; the input reads as it did. -/
def digestTellsSpec : ChangeSpec := { name := "digestTells", fn := fun _ => fun
  | [d1, d2] => { results := [.lit (.bool true)], args := [d1, d2] }
  | _ => none }
def digestTellsRow : OpenClaim := { program := "ytbffdafkgckcgaa", sum := "63be0f970de2dc9227427f9dc3f9d760a95dc899a4d71a0b5216354ee5ff1d2d", func := "cadenza/cadenzalaw27.DigestTells", spec := "digestTells", apart := false }
def DigestTellsSaid : Prop := digestTellsRow.holds Try.pinned (OpenSpec.ofChange digestTellsSpec)

/-- ITS FALSE NEIGHBOUR: 'it returns false'. Refute it at one input. -/
def digestTellsWrong : ChangeSpec := { name := "digestTells", fn := fun _ => fun
  | [d1, d2] => { results := [.lit (.bool false)], args := [d1, d2] }
  | _ => none }
def DigestTellsWrongFalsely : Prop := digestTellsRow.holds Try.pinned (OpenSpec.ofChange digestTellsWrong)

/-- 'cadenzalaw27.DigestNames': WHATEVER THE INPUT: true; the input reads as it did. -/
def digestNamesSpec : ChangeSpec := { name := "digestNames", fn := fun _ => fun
  | [] => { results := [.lit (.bool true)], args := [] }
  | _ => none }
def digestNamesRow : OpenClaim := { program := "ytbffdafkgckcgaa", sum := "63be0f970de2dc9227427f9dc3f9d760a95dc899a4d71a0b5216354ee5ff1d2d", func := "cadenza/cadenzalaw27.DigestNames", spec := "digestNames", apart := false }
def DigestNamesSaid : Prop := digestNamesRow.holds Try.pinned (OpenSpec.ofChange digestNamesSpec)

/-- ITS FALSE NEIGHBOUR: 'it returns false'. Refute it at one input. -/
def digestNamesWrong : ChangeSpec := { name := "digestNames", fn := fun _ => fun
  | [] => { results := [.lit (.bool false)], args := [] }
  | _ => none }
def DigestNamesWrongFalsely : Prop := digestNamesRow.holds Try.pinned (OpenSpec.ofChange digestNamesWrong)

/-- 'cadenzalaw27.DigestBytes': WHATEVER THE INPUT: true; the input reads as it did. -/
def digestBytesSpec : ChangeSpec := { name := "digestBytes", fn := fun _ => fun
  | [d1, d2, d3] => { results := [.lit (.bool true)], args := [d1, d2, d3] }
  | _ => none }
def digestBytesRow : OpenClaim := { program := "ytbffdafkgckcgaa", sum := "63be0f970de2dc9227427f9dc3f9d760a95dc899a4d71a0b5216354ee5ff1d2d", func := "cadenza/cadenzalaw27.DigestBytes", spec := "digestBytes", apart := false }
def DigestBytesSaid : Prop := digestBytesRow.holds Try.pinned (OpenSpec.ofChange digestBytesSpec)

/-- ITS FALSE NEIGHBOUR: 'it returns false'. Refute it at one input. -/
def digestBytesWrong : ChangeSpec := { name := "digestBytes", fn := fun _ => fun
  | [d1, d2, d3] => { results := [.lit (.bool false)], args := [d1, d2, d3] }
  | _ => none }
def DigestBytesWrongFalsely : Prop := digestBytesRow.holds Try.pinned (OpenSpec.ofChange digestBytesWrong)

/- THE SECOND FORM. 'bulk': how many values and letters a reading holds, each counted each time it is reached (what is shared counts as often as it is met; a slice's spare places count too). A statement '..UptoSaid' is the law's where the arguments, and the package variables that the reading takes, are together of bulk at most 1048576: NARROWER than '..Said'. Prove '..Said' where nothing that the law and all that it calls make is longer than what came in: it says more and counts as full. Else prove '..UptoSaid'. A law counts once. -/
mutual
def uptoBulk {H : Type} : DataW H → Nat
  | .lit (.string bytes) => bytes.length + 1
  | .lit _ => 1
  | .nil => 1
  | .ptr d => uptoBulk d + 1
  | .slice elems spare => uptoBulkAll elems + uptoBulkAll spare + 1
  | .agg parts => uptoBulkAll parts + 1
  | .iface _ d => uptoBulk d + 1
  | .map entries => uptoBulkEntries entries + 1
  | .held _ => 1
def uptoBulkAll {H : Type} : List (DataW H) → Nat
  | [] => 0
  | d :: r => uptoBulk d + uptoBulkAll r
def uptoBulkEntries {H : Type} : List (Lit × DataW H) → Nat
  | [] => 0
  | x :: r => uptoBulkEntry x + uptoBulkEntries r
def uptoBulkEntry {H : Type} : Lit × DataW H → Nat
  | (.string bytes, d) => bytes.length + uptoBulk d + 1
  | (_, d) => uptoBulk d + 1
 end
def uptoSmall : (H : Type) → List (DataW H) → Bool := fun _ ds => decide (uptoBulkAll ds ≤ 1048576)
def OpenSpec.upto (s : _root_.Go.ChangeSpec) : _root_.Go.OpenSpec := { _root_.Go.OpenSpec.ofChange s with cond := some uptoSmall }

/-- 'cadenzalaw01.LeSigns', WHERE WHAT IT READS IS OF BULK AT MOST 1048576: true; the input reads as it did. -/
def leSignsUptoRow : OpenClaim := { program := "ytbffdafkgckcgaa", sum := "63be0f970de2dc9227427f9dc3f9d760a95dc899a4d71a0b5216354ee5ff1d2d", func := "cadenza/cadenzalaw01.LeSigns", spec := "leSigns", apart := false, narrowed := true }
def LeSignsUptoSaid : Prop := leSignsUptoRow.holds Try.pinned (OpenSpec.upto leSignsSpec)

/-- 'cadenzalaw01.LeSums', WHERE WHAT IT READS IS OF BULK AT MOST 1048576: true; the input reads as it did. -/
def leSumsUptoRow : OpenClaim := { program := "ytbffdafkgckcgaa", sum := "63be0f970de2dc9227427f9dc3f9d760a95dc899a4d71a0b5216354ee5ff1d2d", func := "cadenza/cadenzalaw01.LeSums", spec := "leSums", apart := false, narrowed := true }
def LeSumsUptoSaid : Prop := leSumsUptoRow.holds Try.pinned (OpenSpec.upto leSumsSpec)

/-- 'cadenzalaw01.LeReads', WHERE WHAT IT READS IS OF BULK AT MOST 1048576: true; the input reads as it did. -/
def leReadsUptoRow : OpenClaim := { program := "ytbffdafkgckcgaa", sum := "63be0f970de2dc9227427f9dc3f9d760a95dc899a4d71a0b5216354ee5ff1d2d", func := "cadenza/cadenzalaw01.LeReads", spec := "leReads", apart := false, narrowed := true }
def LeReadsUptoSaid : Prop := leReadsUptoRow.holds Try.pinned (OpenSpec.upto leReadsSpec)

/-- 'cadenzalaw01.LeBytes', WHERE WHAT IT READS IS OF BULK AT MOST 1048576: true; the input reads as it did. -/
def leBytesUptoRow : OpenClaim := { program := "ytbffdafkgckcgaa", sum := "63be0f970de2dc9227427f9dc3f9d760a95dc899a4d71a0b5216354ee5ff1d2d", func := "cadenza/cadenzalaw01.LeBytes", spec := "leBytes", apart := false, narrowed := true }
def LeBytesUptoSaid : Prop := leBytesUptoRow.holds Try.pinned (OpenSpec.upto leBytesSpec)

/-- 'cadenzalaw01.LeTwos', WHERE WHAT IT READS IS OF BULK AT MOST 1048576: true; the input reads as it did. -/
def leTwosUptoRow : OpenClaim := { program := "ytbffdafkgckcgaa", sum := "63be0f970de2dc9227427f9dc3f9d760a95dc899a4d71a0b5216354ee5ff1d2d", func := "cadenza/cadenzalaw01.LeTwos", spec := "leTwos", apart := false, narrowed := true }
def LeTwosUptoSaid : Prop := leTwosUptoRow.holds Try.pinned (OpenSpec.upto leTwosSpec)

/-- 'cadenzalaw01.LeBack', WHERE WHAT IT READS IS OF BULK AT MOST 1048576: true; the input reads as it did. -/
def leBackUptoRow : OpenClaim := { program := "ytbffdafkgckcgaa", sum := "63be0f970de2dc9227427f9dc3f9d760a95dc899a4d71a0b5216354ee5ff1d2d", func := "cadenza/cadenzalaw01.LeBack", spec := "leBack", apart := false, narrowed := true }
def LeBackUptoSaid : Prop := leBackUptoRow.holds Try.pinned (OpenSpec.upto leBackSpec)

/-- 'cadenzalaw27.DigestApart', WHERE WHAT IT READS IS OF BULK AT MOST 1048576: true; the input reads as it did. -/
def digestApartUptoRow : OpenClaim := { program := "ytbffdafkgckcgaa", sum := "63be0f970de2dc9227427f9dc3f9d760a95dc899a4d71a0b5216354ee5ff1d2d", func := "cadenza/cadenzalaw27.DigestApart", spec := "digestApart", apart := false, narrowed := true }
def DigestApartUptoSaid : Prop := digestApartUptoRow.holds Try.pinned (OpenSpec.upto digestApartSpec)

/-- 'cadenzalaw01.LeNames', WHERE WHAT IT READS IS OF BULK AT MOST 1048576: true; the input reads as it did. -/
def leNamesUptoRow : OpenClaim := { program := "ytbffdafkgckcgaa", sum := "63be0f970de2dc9227427f9dc3f9d760a95dc899a4d71a0b5216354ee5ff1d2d", func := "cadenza/cadenzalaw01.LeNames", spec := "leNames", apart := false, narrowed := true }
def LeNamesUptoSaid : Prop := leNamesUptoRow.holds Try.pinned (OpenSpec.upto leNamesSpec)

/-- 'cadenzalaw27.DigestFormat', WHERE WHAT IT READS IS OF BULK AT MOST 1048576: true; the input reads as it did. -/
def digestFormatUptoRow : OpenClaim := { program := "ytbffdafkgckcgaa", sum := "63be0f970de2dc9227427f9dc3f9d760a95dc899a4d71a0b5216354ee5ff1d2d", func := "cadenza/cadenzalaw27.DigestFormat", spec := "digestFormat", apart := false, narrowed := true }
def DigestFormatUptoSaid : Prop := digestFormatUptoRow.holds Try.pinned (OpenSpec.upto digestFormatSpec)

/-- 'cadenzalaw27.DigestTells', WHERE WHAT IT READS IS OF BULK AT MOST 1048576: true; the input reads as it did. -/
def digestTellsUptoRow : OpenClaim := { program := "ytbffdafkgckcgaa", sum := "63be0f970de2dc9227427f9dc3f9d760a95dc899a4d71a0b5216354ee5ff1d2d", func := "cadenza/cadenzalaw27.DigestTells", spec := "digestTells", apart := false, narrowed := true }
def DigestTellsUptoSaid : Prop := digestTellsUptoRow.holds Try.pinned (OpenSpec.upto digestTellsSpec)

/-- 'cadenzalaw27.DigestNames', WHERE WHAT IT READS IS OF BULK AT MOST 1048576: true; the input reads as it did. -/
def digestNamesUptoRow : OpenClaim := { program := "ytbffdafkgckcgaa", sum := "63be0f970de2dc9227427f9dc3f9d760a95dc899a4d71a0b5216354ee5ff1d2d", func := "cadenza/cadenzalaw27.DigestNames", spec := "digestNames", apart := false, narrowed := true }
def DigestNamesUptoSaid : Prop := digestNamesUptoRow.holds Try.pinned (OpenSpec.upto digestNamesSpec)

/-- 'cadenzalaw27.DigestBytes', WHERE WHAT IT READS IS OF BULK AT MOST 1048576: true; the input reads as it did. -/
def digestBytesUptoRow : OpenClaim := { program := "ytbffdafkgckcgaa", sum := "63be0f970de2dc9227427f9dc3f9d760a95dc899a4d71a0b5216354ee5ff1d2d", func := "cadenza/cadenzalaw27.DigestBytes", spec := "digestBytes", apart := false, narrowed := true }
def DigestBytesUptoSaid : Prop := digestBytesUptoRow.holds Try.pinned (OpenSpec.upto digestBytesSpec)

end Rows
end Go.Proofs.Ytbffdafkgckcgaa
