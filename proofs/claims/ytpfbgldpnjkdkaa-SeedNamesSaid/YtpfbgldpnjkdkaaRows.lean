/-
  No cell of these rows narrows 'for every input' (looked for: loops, veiled, ifaces, maps, wideKeys, modest, calm, conditions, laid).
  DERIVED. THE GIVEN ROWS OF THIS SEAT. 12 by the template 'for every input the law returns true; each argument reads behind the call as it read before'; 0 by the template 'total and deterministic' (their statements: YtpfbgldpnjkdkaaTotals.lean).
  GIVEN WITH THE SEED: the statements are not yours to turn. If you find one false, say at which input.
  Laid BY PROGRAM, IN A SANDBOX (cutbox-rows.mjs): the forced cells as the released guide's own fill.sh prints them over the translation f4fd4a4e66aef1d0… (all of the seat's roots in one cut). By AI agents, Wed Nov 11 2026. No macro, syntax, notation, axiom, sorry.
-/
import Derived.Test.YtpfbgldpnjkdkaaChecked
import GoSem.Claim
import GoSem.ClaimJoined
import GoSem.ClaimMapViews
import Derived.JoinedTies
import Derived.KernelRfl
namespace Go.Proofs.Ytpfbgldpnjkdkaa
/- THE CELL 'sum', in the pinned program and in every row, IS THE sha256 OF THE DUMP (.gsa) THAT YtpfbgldpnjkdkaaProg.lean LOADS. Nothing in Lean hashes anything: it is a label: what it is worth is what the hold of that sum in a sandbox is worth. -/
noncomputable def Try.pinned : Pinned := { name := "ytpfbgldpnjkdkaa", sum := "f4fd4a4e66aef1d039eed0e280dd8ab46c51d00d4811e5ebe3ea72814c73efdc", checked := Try.checked }
namespace Rows
def none {H : Type} : Left H := { results := [], args := [] }

/-- 'cadenzalaw16.SeedSmall': WHATEVER THE INPUT: true; the input reads as it did. -/
def seedSmallSpec : ChangeSpec := { name := "seedSmall", fn := fun _ => fun
  | [d1, d2, d3] => { results := [.lit (.bool true)], args := [d1, d2, d3] }
  | _ => none }
def seedSmallRow : OpenClaim := { program := "ytpfbgldpnjkdkaa", sum := "f4fd4a4e66aef1d039eed0e280dd8ab46c51d00d4811e5ebe3ea72814c73efdc", func := "cadenza/cadenzalaw16.SeedSmall", spec := "seedSmall", apart := false }
def SeedSmallSaid : Prop := seedSmallRow.holds Try.pinned (OpenSpec.ofChange seedSmallSpec)

/-- ITS FALSE NEIGHBOUR: 'it returns false'. Refute it at one input. -/
def seedSmallWrong : ChangeSpec := { name := "seedSmall", fn := fun _ => fun
  | [d1, d2, d3] => { results := [.lit (.bool false)], args := [d1, d2, d3] }
  | _ => none }
def SeedSmallWrongFalsely : Prop := seedSmallRow.holds Try.pinned (OpenSpec.ofChange seedSmallWrong)

/-- 'cadenzalaw16.SeedMixed': WHATEVER THE INPUT: true; the input reads as it did. -/
def seedMixedSpec : ChangeSpec := { name := "seedMixed", fn := fun _ => fun
  | [d1, d2] => { results := [.lit (.bool true)], args := [d1, d2] }
  | _ => none }
def seedMixedRow : OpenClaim := { program := "ytpfbgldpnjkdkaa", sum := "f4fd4a4e66aef1d039eed0e280dd8ab46c51d00d4811e5ebe3ea72814c73efdc", func := "cadenza/cadenzalaw16.SeedMixed", spec := "seedMixed", apart := false }
def SeedMixedSaid : Prop := seedMixedRow.holds Try.pinned (OpenSpec.ofChange seedMixedSpec)

/-- ITS FALSE NEIGHBOUR: 'it returns false'. Refute it at one input. -/
def seedMixedWrong : ChangeSpec := { name := "seedMixed", fn := fun _ => fun
  | [d1, d2] => { results := [.lit (.bool false)], args := [d1, d2] }
  | _ => none }
def SeedMixedWrongFalsely : Prop := seedMixedRow.holds Try.pinned (OpenSpec.ofChange seedMixedWrong)

/-- 'cadenzalaw16.SeedOne': WHATEVER THE INPUT: true; the input reads as it did. -/
def seedOneSpec : ChangeSpec := { name := "seedOne", fn := fun _ => fun
  | [d1, d2, d3] => { results := [.lit (.bool true)], args := [d1, d2, d3] }
  | _ => none }
def seedOneRow : OpenClaim := { program := "ytpfbgldpnjkdkaa", sum := "f4fd4a4e66aef1d039eed0e280dd8ab46c51d00d4811e5ebe3ea72814c73efdc", func := "cadenza/cadenzalaw16.SeedOne", spec := "seedOne", apart := false }
def SeedOneSaid : Prop := seedOneRow.holds Try.pinned (OpenSpec.ofChange seedOneSpec)

/-- ITS FALSE NEIGHBOUR: 'it returns false'. Refute it at one input. -/
def seedOneWrong : ChangeSpec := { name := "seedOne", fn := fun _ => fun
  | [d1, d2, d3] => { results := [.lit (.bool false)], args := [d1, d2, d3] }
  | _ => none }
def SeedOneWrongFalsely : Prop := seedOneRow.holds Try.pinned (OpenSpec.ofChange seedOneWrong)

/-- 'cadenzalaw04.Crc64Sums': WHATEVER THE INPUT: true; the input reads as it did. -/
def crc64SumsSpec : ChangeSpec := { name := "crc64Sums", fn := fun _ => fun
  | [d1, d2] => { results := [.lit (.bool true)], args := [d1, d2] }
  | _ => none }
def crc64SumsRow : OpenClaim := { program := "ytpfbgldpnjkdkaa", sum := "f4fd4a4e66aef1d039eed0e280dd8ab46c51d00d4811e5ebe3ea72814c73efdc", func := "cadenza/cadenzalaw04.Crc64Sums", spec := "crc64Sums", apart := false }
def Crc64SumsSaid : Prop := crc64SumsRow.holds Try.pinned (OpenSpec.ofChange crc64SumsSpec)

/-- ITS FALSE NEIGHBOUR: 'it returns false'. Refute it at one input. -/
def crc64SumsWrong : ChangeSpec := { name := "crc64Sums", fn := fun _ => fun
  | [d1, d2] => { results := [.lit (.bool false)], args := [d1, d2] }
  | _ => none }
def Crc64SumsWrongFalsely : Prop := crc64SumsRow.holds Try.pinned (OpenSpec.ofChange crc64SumsWrong)

/-- 'cadenzalaw04.Crc64Linear': WHATEVER THE INPUT: true; the input reads as it did. -/
def crc64LinearSpec : ChangeSpec := { name := "crc64Linear", fn := fun _ => fun
  | [d1, d2, d3] => { results := [.lit (.bool true)], args := [d1, d2, d3] }
  | _ => none }
def crc64LinearRow : OpenClaim := { program := "ytpfbgldpnjkdkaa", sum := "f4fd4a4e66aef1d039eed0e280dd8ab46c51d00d4811e5ebe3ea72814c73efdc", func := "cadenza/cadenzalaw04.Crc64Linear", spec := "crc64Linear", apart := false }
def Crc64LinearSaid : Prop := crc64LinearRow.holds Try.pinned (OpenSpec.ofChange crc64LinearSpec)

/-- ITS FALSE NEIGHBOUR: 'it returns false'. Refute it at one input. -/
def crc64LinearWrong : ChangeSpec := { name := "crc64Linear", fn := fun _ => fun
  | [d1, d2, d3] => { results := [.lit (.bool false)], args := [d1, d2, d3] }
  | _ => none }
def Crc64LinearWrongFalsely : Prop := crc64LinearRow.holds Try.pinned (OpenSpec.ofChange crc64LinearWrong)

/-- 'cadenzalaw04.Crc64Parts': WHATEVER THE INPUT: true; the input reads as it did. -/
def crc64PartsSpec : ChangeSpec := { name := "crc64Parts", fn := fun _ => fun
  | [d1, d2, d3, d4] => { results := [.lit (.bool true)], args := [d1, d2, d3, d4] }
  | _ => none }
def crc64PartsRow : OpenClaim := { program := "ytpfbgldpnjkdkaa", sum := "f4fd4a4e66aef1d039eed0e280dd8ab46c51d00d4811e5ebe3ea72814c73efdc", func := "cadenza/cadenzalaw04.Crc64Parts", spec := "crc64Parts", apart := false }
def Crc64PartsSaid : Prop := crc64PartsRow.holds Try.pinned (OpenSpec.ofChange crc64PartsSpec)

/-- ITS FALSE NEIGHBOUR: 'it returns false'. Refute it at one input. -/
def crc64PartsWrong : ChangeSpec := { name := "crc64Parts", fn := fun _ => fun
  | [d1, d2, d3, d4] => { results := [.lit (.bool false)], args := [d1, d2, d3, d4] }
  | _ => none }
def Crc64PartsWrongFalsely : Prop := crc64PartsRow.holds Try.pinned (OpenSpec.ofChange crc64PartsWrong)

/-- 'cadenzalaw04.Crc64Burst': WHATEVER THE INPUT: true; the input reads as it did. -/
def crc64BurstSpec : ChangeSpec := { name := "crc64Burst", fn := fun _ => fun
  | [d1, d2, d3] => { results := [.lit (.bool true)], args := [d1, d2, d3] }
  | _ => none }
def crc64BurstRow : OpenClaim := { program := "ytpfbgldpnjkdkaa", sum := "f4fd4a4e66aef1d039eed0e280dd8ab46c51d00d4811e5ebe3ea72814c73efdc", func := "cadenza/cadenzalaw04.Crc64Burst", spec := "crc64Burst", apart := false }
def Crc64BurstSaid : Prop := crc64BurstRow.holds Try.pinned (OpenSpec.ofChange crc64BurstSpec)

/-- ITS FALSE NEIGHBOUR: 'it returns false'. Refute it at one input. -/
def crc64BurstWrong : ChangeSpec := { name := "crc64Burst", fn := fun _ => fun
  | [d1, d2, d3] => { results := [.lit (.bool false)], args := [d1, d2, d3] }
  | _ => none }
def Crc64BurstWrongFalsely : Prop := crc64BurstRow.holds Try.pinned (OpenSpec.ofChange crc64BurstWrong)

/-- 'cadenzalaw04.Crc64Names': WHATEVER THE INPUT: true; the input reads as it did. -/
def crc64NamesSpec : ChangeSpec := { name := "crc64Names", fn := fun _ => fun
  | [] => { results := [.lit (.bool true)], args := [] }
  | _ => none }
def crc64NamesRow : OpenClaim := { program := "ytpfbgldpnjkdkaa", sum := "f4fd4a4e66aef1d039eed0e280dd8ab46c51d00d4811e5ebe3ea72814c73efdc", func := "cadenza/cadenzalaw04.Crc64Names", spec := "crc64Names", apart := false }
def Crc64NamesSaid : Prop := crc64NamesRow.holds Try.pinned (OpenSpec.ofChange crc64NamesSpec)

/-- ITS FALSE NEIGHBOUR: 'it returns false'. Refute it at one input. -/
def crc64NamesWrong : ChangeSpec := { name := "crc64Names", fn := fun _ => fun
  | [] => { results := [.lit (.bool false)], args := [] }
  | _ => none }
def Crc64NamesWrongFalsely : Prop := crc64NamesRow.holds Try.pinned (OpenSpec.ofChange crc64NamesWrong)

/-- 'cadenzalaw04.Crc64Table': WHATEVER THE INPUT: true; the input reads as it did. -/
def crc64TableSpec : ChangeSpec := { name := "crc64Table", fn := fun _ => fun
  | [d1, d2] => { results := [.lit (.bool true)], args := [d1, d2] }
  | _ => none }
def crc64TableRow : OpenClaim := { program := "ytpfbgldpnjkdkaa", sum := "f4fd4a4e66aef1d039eed0e280dd8ab46c51d00d4811e5ebe3ea72814c73efdc", func := "cadenza/cadenzalaw04.Crc64Table", spec := "crc64Table", apart := false }
def Crc64TableSaid : Prop := crc64TableRow.holds Try.pinned (OpenSpec.ofChange crc64TableSpec)

/-- ITS FALSE NEIGHBOUR: 'it returns false'. Refute it at one input. -/
def crc64TableWrong : ChangeSpec := { name := "crc64Table", fn := fun _ => fun
  | [d1, d2] => { results := [.lit (.bool false)], args := [d1, d2] }
  | _ => none }
def Crc64TableWrongFalsely : Prop := crc64TableRow.holds Try.pinned (OpenSpec.ofChange crc64TableWrong)

/-- 'cadenzalaw16.SeedTells': WHATEVER THE INPUT: true; the input reads as it did. -/
def seedTellsSpec : ChangeSpec := { name := "seedTells", fn := fun _ => fun
  | [d1, d2, d3] => { results := [.lit (.bool true)], args := [d1, d2, d3] }
  | _ => none }
def seedTellsRow : OpenClaim := { program := "ytpfbgldpnjkdkaa", sum := "f4fd4a4e66aef1d039eed0e280dd8ab46c51d00d4811e5ebe3ea72814c73efdc", func := "cadenza/cadenzalaw16.SeedTells", spec := "seedTells", apart := false }
def SeedTellsSaid : Prop := seedTellsRow.holds Try.pinned (OpenSpec.ofChange seedTellsSpec)

/-- ITS FALSE NEIGHBOUR: 'it returns false'. Refute it at one input. -/
def seedTellsWrong : ChangeSpec := { name := "seedTells", fn := fun _ => fun
  | [d1, d2, d3] => { results := [.lit (.bool false)], args := [d1, d2, d3] }
  | _ => none }
def SeedTellsWrongFalsely : Prop := seedTellsRow.holds Try.pinned (OpenSpec.ofChange seedTellsWrong)

/-- 'cadenzalaw16.SeedNames': WHATEVER THE INPUT: true; the input reads as it did. -/
def seedNamesSpec : ChangeSpec := { name := "seedNames", fn := fun _ => fun
  | [] => { results := [.lit (.bool true)], args := [] }
  | _ => none }
def seedNamesRow : OpenClaim := { program := "ytpfbgldpnjkdkaa", sum := "f4fd4a4e66aef1d039eed0e280dd8ab46c51d00d4811e5ebe3ea72814c73efdc", func := "cadenza/cadenzalaw16.SeedNames", spec := "seedNames", apart := false }
def SeedNamesSaid : Prop := seedNamesRow.holds Try.pinned (OpenSpec.ofChange seedNamesSpec)

/-- ITS FALSE NEIGHBOUR: 'it returns false'. Refute it at one input. -/
def seedNamesWrong : ChangeSpec := { name := "seedNames", fn := fun _ => fun
  | [] => { results := [.lit (.bool false)], args := [] }
  | _ => none }
def SeedNamesWrongFalsely : Prop := seedNamesRow.holds Try.pinned (OpenSpec.ofChange seedNamesWrong)

/-- 'cadenzalaw16.SeedPasswords': WHATEVER THE INPUT: true; the input reads as it did. -/
def seedPasswordsSpec : ChangeSpec := { name := "seedPasswords", fn := fun _ => fun
  | [d1, d2] => { results := [.lit (.bool true)], args := [d1, d2] }
  | _ => none }
def seedPasswordsRow : OpenClaim := { program := "ytpfbgldpnjkdkaa", sum := "f4fd4a4e66aef1d039eed0e280dd8ab46c51d00d4811e5ebe3ea72814c73efdc", func := "cadenza/cadenzalaw16.SeedPasswords", spec := "seedPasswords", apart := false }
def SeedPasswordsSaid : Prop := seedPasswordsRow.holds Try.pinned (OpenSpec.ofChange seedPasswordsSpec)

/-- ITS FALSE NEIGHBOUR: 'it returns false'. Refute it at one input. -/
def seedPasswordsWrong : ChangeSpec := { name := "seedPasswords", fn := fun _ => fun
  | [d1, d2] => { results := [.lit (.bool false)], args := [d1, d2] }
  | _ => none }
def SeedPasswordsWrongFalsely : Prop := seedPasswordsRow.holds Try.pinned (OpenSpec.ofChange seedPasswordsWrong)

/- THE SECOND FORM. 'bulk': how many values and letters a reading holds, each counted each time it is reached (what is shared counts as often as it is met; a slice's spare places count too). A statement '..UptoSaid' is the law's where the arguments, and the package variables that the reading takes, are together of bulk at most 1048576: NARROWER than '..Said'. Prove '..Said' where nothing that the law and all that it calls make is longer than what came in: it says more and counts as full. Else prove '..UptoSaid'. A law counts once. -/
mutual
def uptoBulk {H : Type} : DataW H → Nat
  | .lit (.string bytes) => bytes.length + 1
  | .lit _ => 1
  | .nil => 1
  | .ptr d => uptoBulk d + 1
  | .slice elems spare => uptoBulkAll elems + uptoBulkAll spare + 1
  | .agg parts => uptoBulkAll parts + 1
  | .iface _ d => uptoBulk d + 1
  | .map entries => uptoBulkEntries entries + 1
  | .held _ => 1
def uptoBulkAll {H : Type} : List (DataW H) → Nat
  | [] => 0
  | d :: r => uptoBulk d + uptoBulkAll r
def uptoBulkEntries {H : Type} : List (Lit × DataW H) → Nat
  | [] => 0
  | x :: r => uptoBulkEntry x + uptoBulkEntries r
def uptoBulkEntry {H : Type} : Lit × DataW H → Nat
  | (.string bytes, d) => bytes.length + uptoBulk d + 1
  | (_, d) => uptoBulk d + 1
 end
def uptoSmall : (H : Type) → List (DataW H) → Bool := fun _ ds => decide (uptoBulkAll ds ≤ 1048576)
def OpenSpec.upto (s : _root_.Go.ChangeSpec) : _root_.Go.OpenSpec := { _root_.Go.OpenSpec.ofChange s with cond := some uptoSmall }

/-- 'cadenzalaw16.SeedSmall', WHERE WHAT IT READS IS OF BULK AT MOST 1048576: true; the input reads as it did. -/
def seedSmallUptoRow : OpenClaim := { program := "ytpfbgldpnjkdkaa", sum := "f4fd4a4e66aef1d039eed0e280dd8ab46c51d00d4811e5ebe3ea72814c73efdc", func := "cadenza/cadenzalaw16.SeedSmall", spec := "seedSmall", apart := false, narrowed := true }
def SeedSmallUptoSaid : Prop := seedSmallUptoRow.holds Try.pinned (OpenSpec.upto seedSmallSpec)

/-- 'cadenzalaw16.SeedMixed', WHERE WHAT IT READS IS OF BULK AT MOST 1048576: true; the input reads as it did. -/
def seedMixedUptoRow : OpenClaim := { program := "ytpfbgldpnjkdkaa", sum := "f4fd4a4e66aef1d039eed0e280dd8ab46c51d00d4811e5ebe3ea72814c73efdc", func := "cadenza/cadenzalaw16.SeedMixed", spec := "seedMixed", apart := false, narrowed := true }
def SeedMixedUptoSaid : Prop := seedMixedUptoRow.holds Try.pinned (OpenSpec.upto seedMixedSpec)

/-- 'cadenzalaw16.SeedOne', WHERE WHAT IT READS IS OF BULK AT MOST 1048576: true; the input reads as it did. -/
def seedOneUptoRow : OpenClaim := { program := "ytpfbgldpnjkdkaa", sum := "f4fd4a4e66aef1d039eed0e280dd8ab46c51d00d4811e5ebe3ea72814c73efdc", func := "cadenza/cadenzalaw16.SeedOne", spec := "seedOne", apart := false, narrowed := true }
def SeedOneUptoSaid : Prop := seedOneUptoRow.holds Try.pinned (OpenSpec.upto seedOneSpec)

/-- 'cadenzalaw04.Crc64Sums', WHERE WHAT IT READS IS OF BULK AT MOST 1048576: true; the input reads as it did. -/
def crc64SumsUptoRow : OpenClaim := { program := "ytpfbgldpnjkdkaa", sum := "f4fd4a4e66aef1d039eed0e280dd8ab46c51d00d4811e5ebe3ea72814c73efdc", func := "cadenza/cadenzalaw04.Crc64Sums", spec := "crc64Sums", apart := false, narrowed := true }
def Crc64SumsUptoSaid : Prop := crc64SumsUptoRow.holds Try.pinned (OpenSpec.upto crc64SumsSpec)

/-- 'cadenzalaw04.Crc64Linear', WHERE WHAT IT READS IS OF BULK AT MOST 1048576: true; the input reads as it did. -/
def crc64LinearUptoRow : OpenClaim := { program := "ytpfbgldpnjkdkaa", sum := "f4fd4a4e66aef1d039eed0e280dd8ab46c51d00d4811e5ebe3ea72814c73efdc", func := "cadenza/cadenzalaw04.Crc64Linear", spec := "crc64Linear", apart := false, narrowed := true }
def Crc64LinearUptoSaid : Prop := crc64LinearUptoRow.holds Try.pinned (OpenSpec.upto crc64LinearSpec)

/-- 'cadenzalaw04.Crc64Parts', WHERE WHAT IT READS IS OF BULK AT MOST 1048576: true; the input reads as it did. -/
def crc64PartsUptoRow : OpenClaim := { program := "ytpfbgldpnjkdkaa", sum := "f4fd4a4e66aef1d039eed0e280dd8ab46c51d00d4811e5ebe3ea72814c73efdc", func := "cadenza/cadenzalaw04.Crc64Parts", spec := "crc64Parts", apart := false, narrowed := true }
def Crc64PartsUptoSaid : Prop := crc64PartsUptoRow.holds Try.pinned (OpenSpec.upto crc64PartsSpec)

/-- 'cadenzalaw04.Crc64Burst', WHERE WHAT IT READS IS OF BULK AT MOST 1048576: true; the input reads as it did. -/
def crc64BurstUptoRow : OpenClaim := { program := "ytpfbgldpnjkdkaa", sum := "f4fd4a4e66aef1d039eed0e280dd8ab46c51d00d4811e5ebe3ea72814c73efdc", func := "cadenza/cadenzalaw04.Crc64Burst", spec := "crc64Burst", apart := false, narrowed := true }
def Crc64BurstUptoSaid : Prop := crc64BurstUptoRow.holds Try.pinned (OpenSpec.upto crc64BurstSpec)

/-- 'cadenzalaw04.Crc64Names', WHERE WHAT IT READS IS OF BULK AT MOST 1048576: true; the input reads as it did. -/
def crc64NamesUptoRow : OpenClaim := { program := "ytpfbgldpnjkdkaa", sum := "f4fd4a4e66aef1d039eed0e280dd8ab46c51d00d4811e5ebe3ea72814c73efdc", func := "cadenza/cadenzalaw04.Crc64Names", spec := "crc64Names", apart := false, narrowed := true }
def Crc64NamesUptoSaid : Prop := crc64NamesUptoRow.holds Try.pinned (OpenSpec.upto crc64NamesSpec)

/-- 'cadenzalaw04.Crc64Table', WHERE WHAT IT READS IS OF BULK AT MOST 1048576: true; the input reads as it did. -/
def crc64TableUptoRow : OpenClaim := { program := "ytpfbgldpnjkdkaa", sum := "f4fd4a4e66aef1d039eed0e280dd8ab46c51d00d4811e5ebe3ea72814c73efdc", func := "cadenza/cadenzalaw04.Crc64Table", spec := "crc64Table", apart := false, narrowed := true }
def Crc64TableUptoSaid : Prop := crc64TableUptoRow.holds Try.pinned (OpenSpec.upto crc64TableSpec)

/-- 'cadenzalaw16.SeedTells', WHERE WHAT IT READS IS OF BULK AT MOST 1048576: true; the input reads as it did. -/
def seedTellsUptoRow : OpenClaim := { program := "ytpfbgldpnjkdkaa", sum := "f4fd4a4e66aef1d039eed0e280dd8ab46c51d00d4811e5ebe3ea72814c73efdc", func := "cadenza/cadenzalaw16.SeedTells", spec := "seedTells", apart := false, narrowed := true }
def SeedTellsUptoSaid : Prop := seedTellsUptoRow.holds Try.pinned (OpenSpec.upto seedTellsSpec)

/-- 'cadenzalaw16.SeedNames', WHERE WHAT IT READS IS OF BULK AT MOST 1048576: true; the input reads as it did. -/
def seedNamesUptoRow : OpenClaim := { program := "ytpfbgldpnjkdkaa", sum := "f4fd4a4e66aef1d039eed0e280dd8ab46c51d00d4811e5ebe3ea72814c73efdc", func := "cadenza/cadenzalaw16.SeedNames", spec := "seedNames", apart := false, narrowed := true }
def SeedNamesUptoSaid : Prop := seedNamesUptoRow.holds Try.pinned (OpenSpec.upto seedNamesSpec)

/-- 'cadenzalaw16.SeedPasswords', WHERE WHAT IT READS IS OF BULK AT MOST 1048576: true; the input reads as it did. -/
def seedPasswordsUptoRow : OpenClaim := { program := "ytpfbgldpnjkdkaa", sum := "f4fd4a4e66aef1d039eed0e280dd8ab46c51d00d4811e5ebe3ea72814c73efdc", func := "cadenza/cadenzalaw16.SeedPasswords", spec := "seedPasswords", apart := false, narrowed := true }
def SeedPasswordsUptoSaid : Prop := seedPasswordsUptoRow.holds Try.pinned (OpenSpec.upto seedPasswordsSpec)

end Rows
end Go.Proofs.Ytpfbgldpnjkdkaa
