/-
  NARROWER THAN 'FOR EVERY INPUT', by the rows' own cells (each row's printed sentence says how): FmtchunkWrites: laid · FmtchunkReads: laid · FmtchunkNames: laid · FmtchunkBack: laid · FmtchunkMasks: laid · FmtchunkAgain: laid.
  DERIVED. THE GIVEN ROWS OF THIS SEAT. 6 by the template 'for every input the law returns true; each argument reads behind the call as it read before'; 0 by the template 'total and deterministic' (their statements: YtjcemacgiehklaaDoorTotals.lean).
  GIVEN WITH THE SEED: the statements are not yours to turn. If you find one false, say at which input.
  Laid BY PROGRAM, IN A SANDBOX (cutbox-rows.mjs): the forced cells as the released guide's own fill.sh prints them over the translation 7ac20aefefbab330… (all of the seat's roots in one cut). By AI agents, Wed Nov 11 2026. No macro, syntax, notation, axiom, sorry.
-/
import Derived.Test.YtjcemacgiehklaaDoorChecked
import GoSem.Claim
import GoSem.ClaimJoined
import GoSem.ClaimMapViews
import Derived.JoinedTies
import Derived.KernelRfl
namespace Go.Proofs.YtjcemacgiehklaaDoor
/- THE CELL 'sum', in the pinned program and in every row, IS THE sha256 OF THE DUMP (.gsa) THAT YtjcemacgiehklaaDoorProg.lean LOADS. Nothing in Lean hashes anything: it is a label: what it is worth is what the hold of that sum in a sandbox is worth. -/
noncomputable def Tryd.pinned : Pinned := { name := "ytjcemacgiehklaadoor", sum := "7ac20aefefbab330b0ada48cacee950b80f4b86be4475abbb0672e9310b07fe7", checked := Tryd.checked }
namespace Rows
def none {H : Type} : Left H := { results := [], args := [] }

/- WHAT THE LISTED PACKAGE-LEVEL VARIABLES READ AS WHEN THE CALL BEGINS. Each datum BY PROGRAM (the guide's laid-datum.mjs) off the statement by which the dump's own 'gosem.cut.vars' lays the variable. In a bare row this is a premise. The card (YtjcemacgiehklaaDoorCards.lean) ties it to the program's text. -/
def laid_cadenza_fmtchunk_widths {H : Type} : DataW H := .agg [.lit (.int .i64 2), .lit (.int .i64 2), .lit (.int .i64 4), .lit (.int .i64 4), .lit (.int .i64 2), .lit (.int .i64 2), .lit (.int .i64 2), .lit (.int .i64 2), .lit (.int .i64 4)]
def laid_cadenza_fmtchunk_guid {H : Type} : DataW H := .agg [.lit (.int .u8 1), .lit (.int .u8 0), .lit (.int .u8 0), .lit (.int .u8 0), .lit (.int .u8 0), .lit (.int .u8 0), .lit (.int .u8 16), .lit (.int .u8 0), .lit (.int .u8 128), .lit (.int .u8 0), .lit (.int .u8 0), .lit (.int .u8 170), .lit (.int .u8 0), .lit (.int .u8 56), .lit (.int .u8 155), .lit (.int .u8 113)]

/-- 'cadenzalaw32.FmtchunkWrites': WHATEVER THE INPUT: true; the input reads as it did. -/
def fmtchunkWritesSpec : ChangeSpec := { name := "fmtchunkWrites", fn := fun _ => fun
  | [d] => { results := [.lit (.bool true)], args := [d] }
  | _ => none }
def fmtchunkWritesRow : OpenClaim := { program := "ytjcemacgiehklaadoor", sum := "7ac20aefefbab330b0ada48cacee950b80f4b86be4475abbb0672e9310b07fe7", func := "cadenza/cadenzalaw32.FmtchunkWrites", spec := "fmtchunkWrites", named := ["cadenza/fmtchunk.widths", "cadenza/fmtchunk.guid"], apart := false, laid := [("cadenza/fmtchunk.widths", laid_cadenza_fmtchunk_widths), ("cadenza/fmtchunk.guid", laid_cadenza_fmtchunk_guid)] }
def FmtchunkWritesSaid : Prop := fmtchunkWritesRow.holds Tryd.pinned (OpenSpec.ofChange fmtchunkWritesSpec)

/-- ITS FALSE NEIGHBOUR: 'it returns false'. Refute it at one input. -/
def fmtchunkWritesWrong : ChangeSpec := { name := "fmtchunkWrites", fn := fun _ => fun
  | [d] => { results := [.lit (.bool false)], args := [d] }
  | _ => none }
def FmtchunkWritesWrongFalsely : Prop := fmtchunkWritesRow.holds Tryd.pinned (OpenSpec.ofChange fmtchunkWritesWrong)

/-- 'cadenzalaw32.FmtchunkReads': WHATEVER THE INPUT: true; the input reads as it did. -/
def fmtchunkReadsSpec : ChangeSpec := { name := "fmtchunkReads", fn := fun _ => fun
  | [d] => { results := [.lit (.bool true)], args := [d] }
  | _ => none }
def fmtchunkReadsRow : OpenClaim := { program := "ytjcemacgiehklaadoor", sum := "7ac20aefefbab330b0ada48cacee950b80f4b86be4475abbb0672e9310b07fe7", func := "cadenza/cadenzalaw32.FmtchunkReads", spec := "fmtchunkReads", named := ["cadenza/fmtchunk.widths", "cadenza/fmtchunk.guid"], apart := false, laid := [("cadenza/fmtchunk.widths", laid_cadenza_fmtchunk_widths), ("cadenza/fmtchunk.guid", laid_cadenza_fmtchunk_guid)] }
def FmtchunkReadsSaid : Prop := fmtchunkReadsRow.holds Tryd.pinned (OpenSpec.ofChange fmtchunkReadsSpec)

/-- ITS FALSE NEIGHBOUR: 'it returns false'. Refute it at one input. -/
def fmtchunkReadsWrong : ChangeSpec := { name := "fmtchunkReads", fn := fun _ => fun
  | [d] => { results := [.lit (.bool false)], args := [d] }
  | _ => none }
def FmtchunkReadsWrongFalsely : Prop := fmtchunkReadsRow.holds Tryd.pinned (OpenSpec.ofChange fmtchunkReadsWrong)

/-- 'cadenzalaw32.FmtchunkNames': WHATEVER THE INPUT: true; the input reads as it did. -/
def fmtchunkNamesSpec : ChangeSpec := { name := "fmtchunkNames", fn := fun _ => fun
  | [] => { results := [.lit (.bool true)], args := [] }
  | _ => none }
def fmtchunkNamesRow : OpenClaim := { program := "ytjcemacgiehklaadoor", sum := "7ac20aefefbab330b0ada48cacee950b80f4b86be4475abbb0672e9310b07fe7", func := "cadenza/cadenzalaw32.FmtchunkNames", spec := "fmtchunkNames", named := ["cadenza/fmtchunk.widths", "cadenza/fmtchunk.guid"], apart := false, laid := [("cadenza/fmtchunk.widths", laid_cadenza_fmtchunk_widths), ("cadenza/fmtchunk.guid", laid_cadenza_fmtchunk_guid)] }
def FmtchunkNamesSaid : Prop := fmtchunkNamesRow.holds Tryd.pinned (OpenSpec.ofChange fmtchunkNamesSpec)

/-- ITS FALSE NEIGHBOUR: 'it returns false'. Refute it at one input. -/
def fmtchunkNamesWrong : ChangeSpec := { name := "fmtchunkNames", fn := fun _ => fun
  | [] => { results := [.lit (.bool false)], args := [] }
  | _ => none }
def FmtchunkNamesWrongFalsely : Prop := fmtchunkNamesRow.holds Tryd.pinned (OpenSpec.ofChange fmtchunkNamesWrong)

/-- 'cadenzalaw32.FmtchunkBack': WHATEVER THE INPUT: true; the input reads as it did. -/
def fmtchunkBackSpec : ChangeSpec := { name := "fmtchunkBack", fn := fun _ => fun
  | [d1, d2] => { results := [.lit (.bool true)], args := [d1, d2] }
  | _ => none }
def fmtchunkBackRow : OpenClaim := { program := "ytjcemacgiehklaadoor", sum := "7ac20aefefbab330b0ada48cacee950b80f4b86be4475abbb0672e9310b07fe7", func := "cadenza/cadenzalaw32.FmtchunkBack", spec := "fmtchunkBack", named := ["cadenza/fmtchunk.widths", "cadenza/fmtchunk.guid"], apart := false, laid := [("cadenza/fmtchunk.widths", laid_cadenza_fmtchunk_widths), ("cadenza/fmtchunk.guid", laid_cadenza_fmtchunk_guid)] }
def FmtchunkBackSaid : Prop := fmtchunkBackRow.holds Tryd.pinned (OpenSpec.ofChange fmtchunkBackSpec)

/-- ITS FALSE NEIGHBOUR: 'it returns false'. Refute it at one input. -/
def fmtchunkBackWrong : ChangeSpec := { name := "fmtchunkBack", fn := fun _ => fun
  | [d1, d2] => { results := [.lit (.bool false)], args := [d1, d2] }
  | _ => none }
def FmtchunkBackWrongFalsely : Prop := fmtchunkBackRow.holds Tryd.pinned (OpenSpec.ofChange fmtchunkBackWrong)

/-- 'cadenzalaw32.FmtchunkMasks': WHATEVER THE INPUT: true; the input reads as it did. -/
def fmtchunkMasksSpec : ChangeSpec := { name := "fmtchunkMasks", fn := fun _ => fun
  | [d1, d2, d3, d4] => { results := [.lit (.bool true)], args := [d1, d2, d3, d4] }
  | _ => none }
def fmtchunkMasksRow : OpenClaim := { program := "ytjcemacgiehklaadoor", sum := "7ac20aefefbab330b0ada48cacee950b80f4b86be4475abbb0672e9310b07fe7", func := "cadenza/cadenzalaw32.FmtchunkMasks", spec := "fmtchunkMasks", named := ["cadenza/fmtchunk.widths", "cadenza/fmtchunk.guid"], apart := false, laid := [("cadenza/fmtchunk.widths", laid_cadenza_fmtchunk_widths), ("cadenza/fmtchunk.guid", laid_cadenza_fmtchunk_guid)] }
def FmtchunkMasksSaid : Prop := fmtchunkMasksRow.holds Tryd.pinned (OpenSpec.ofChange fmtchunkMasksSpec)

/-- ITS FALSE NEIGHBOUR: 'it returns false'. Refute it at one input. -/
def fmtchunkMasksWrong : ChangeSpec := { name := "fmtchunkMasks", fn := fun _ => fun
  | [d1, d2, d3, d4] => { results := [.lit (.bool false)], args := [d1, d2, d3, d4] }
  | _ => none }
def FmtchunkMasksWrongFalsely : Prop := fmtchunkMasksRow.holds Tryd.pinned (OpenSpec.ofChange fmtchunkMasksWrong)

/-- 'cadenzalaw32.FmtchunkAgain': WHATEVER THE INPUT: true; the input reads as it did. -/
def fmtchunkAgainSpec : ChangeSpec := { name := "fmtchunkAgain", fn := fun _ => fun
  | [d] => { results := [.lit (.bool true)], args := [d] }
  | _ => none }
def fmtchunkAgainRow : OpenClaim := { program := "ytjcemacgiehklaadoor", sum := "7ac20aefefbab330b0ada48cacee950b80f4b86be4475abbb0672e9310b07fe7", func := "cadenza/cadenzalaw32.FmtchunkAgain", spec := "fmtchunkAgain", named := ["cadenza/fmtchunk.widths", "cadenza/fmtchunk.guid"], apart := false, laid := [("cadenza/fmtchunk.widths", laid_cadenza_fmtchunk_widths), ("cadenza/fmtchunk.guid", laid_cadenza_fmtchunk_guid)] }
def FmtchunkAgainSaid : Prop := fmtchunkAgainRow.holds Tryd.pinned (OpenSpec.ofChange fmtchunkAgainSpec)

/-- ITS FALSE NEIGHBOUR: 'it returns false'. Refute it at one input. -/
def fmtchunkAgainWrong : ChangeSpec := { name := "fmtchunkAgain", fn := fun _ => fun
  | [d] => { results := [.lit (.bool false)], args := [d] }
  | _ => none }
def FmtchunkAgainWrongFalsely : Prop := fmtchunkAgainRow.holds Tryd.pinned (OpenSpec.ofChange fmtchunkAgainWrong)

/- THE SECOND FORM. 'bulk': how many values and letters a reading holds, each counted each time it is reached (what is shared counts as often as it is met; a slice's spare places count too). A statement '..UptoSaid' is the law's where the arguments, and the package variables that the reading takes, are together of bulk at most 1048576: NARROWER than '..Said'. Prove '..Said' where nothing that the law and all that it calls make is longer than what came in: it says more and counts as full. Else prove '..UptoSaid'. A law counts once. -/
mutual
def uptoBulk {H : Type} : DataW H → Nat
  | .lit (.string bytes) => bytes.length + 1
  | .lit _ => 1
  | .nil => 1
  | .ptr d => uptoBulk d + 1
  | .slice elems spare => uptoBulkAll elems + uptoBulkAll spare + 1
  | .agg parts => uptoBulkAll parts + 1
  | .iface _ d => uptoBulk d + 1
  | .map entries => uptoBulkEntries entries + 1
  | .held _ => 1
def uptoBulkAll {H : Type} : List (DataW H) → Nat
  | [] => 0
  | d :: r => uptoBulk d + uptoBulkAll r
def uptoBulkEntries {H : Type} : List (Lit × DataW H) → Nat
  | [] => 0
  | x :: r => uptoBulkEntry x + uptoBulkEntries r
def uptoBulkEntry {H : Type} : Lit × DataW H → Nat
  | (.string bytes, d) => bytes.length + uptoBulk d + 1
  | (_, d) => uptoBulk d + 1
 end
def uptoSmall : (H : Type) → List (DataW H) → Bool := fun _ ds => decide (uptoBulkAll ds ≤ 1048576)
def OpenSpec.upto (s : _root_.Go.ChangeSpec) : _root_.Go.OpenSpec := { _root_.Go.OpenSpec.ofChange s with cond := some uptoSmall }

/-- 'cadenzalaw32.FmtchunkWrites', WHERE WHAT IT READS IS OF BULK AT MOST 1048576: true; the input reads as it did. -/
def fmtchunkWritesUptoRow : OpenClaim := { program := "ytjcemacgiehklaadoor", sum := "7ac20aefefbab330b0ada48cacee950b80f4b86be4475abbb0672e9310b07fe7", func := "cadenza/cadenzalaw32.FmtchunkWrites", spec := "fmtchunkWrites", named := ["cadenza/fmtchunk.widths", "cadenza/fmtchunk.guid"], apart := false, laid := [("cadenza/fmtchunk.widths", laid_cadenza_fmtchunk_widths), ("cadenza/fmtchunk.guid", laid_cadenza_fmtchunk_guid)], narrowed := true }
def FmtchunkWritesUptoSaid : Prop := fmtchunkWritesUptoRow.holds Tryd.pinned (OpenSpec.upto fmtchunkWritesSpec)

/-- 'cadenzalaw32.FmtchunkReads', WHERE WHAT IT READS IS OF BULK AT MOST 1048576: true; the input reads as it did. -/
def fmtchunkReadsUptoRow : OpenClaim := { program := "ytjcemacgiehklaadoor", sum := "7ac20aefefbab330b0ada48cacee950b80f4b86be4475abbb0672e9310b07fe7", func := "cadenza/cadenzalaw32.FmtchunkReads", spec := "fmtchunkReads", named := ["cadenza/fmtchunk.widths", "cadenza/fmtchunk.guid"], apart := false, laid := [("cadenza/fmtchunk.widths", laid_cadenza_fmtchunk_widths), ("cadenza/fmtchunk.guid", laid_cadenza_fmtchunk_guid)], narrowed := true }
def FmtchunkReadsUptoSaid : Prop := fmtchunkReadsUptoRow.holds Tryd.pinned (OpenSpec.upto fmtchunkReadsSpec)

/-- 'cadenzalaw32.FmtchunkNames', WHERE WHAT IT READS IS OF BULK AT MOST 1048576: true; the input reads as it did. -/
def fmtchunkNamesUptoRow : OpenClaim := { program := "ytjcemacgiehklaadoor", sum := "7ac20aefefbab330b0ada48cacee950b80f4b86be4475abbb0672e9310b07fe7", func := "cadenza/cadenzalaw32.FmtchunkNames", spec := "fmtchunkNames", named := ["cadenza/fmtchunk.widths", "cadenza/fmtchunk.guid"], apart := false, laid := [("cadenza/fmtchunk.widths", laid_cadenza_fmtchunk_widths), ("cadenza/fmtchunk.guid", laid_cadenza_fmtchunk_guid)], narrowed := true }
def FmtchunkNamesUptoSaid : Prop := fmtchunkNamesUptoRow.holds Tryd.pinned (OpenSpec.upto fmtchunkNamesSpec)

/-- 'cadenzalaw32.FmtchunkBack', WHERE WHAT IT READS IS OF BULK AT MOST 1048576: true; the input reads as it did. -/
def fmtchunkBackUptoRow : OpenClaim := { program := "ytjcemacgiehklaadoor", sum := "7ac20aefefbab330b0ada48cacee950b80f4b86be4475abbb0672e9310b07fe7", func := "cadenza/cadenzalaw32.FmtchunkBack", spec := "fmtchunkBack", named := ["cadenza/fmtchunk.widths", "cadenza/fmtchunk.guid"], apart := false, laid := [("cadenza/fmtchunk.widths", laid_cadenza_fmtchunk_widths), ("cadenza/fmtchunk.guid", laid_cadenza_fmtchunk_guid)], narrowed := true }
def FmtchunkBackUptoSaid : Prop := fmtchunkBackUptoRow.holds Tryd.pinned (OpenSpec.upto fmtchunkBackSpec)

/-- 'cadenzalaw32.FmtchunkMasks', WHERE WHAT IT READS IS OF BULK AT MOST 1048576: true; the input reads as it did. -/
def fmtchunkMasksUptoRow : OpenClaim := { program := "ytjcemacgiehklaadoor", sum := "7ac20aefefbab330b0ada48cacee950b80f4b86be4475abbb0672e9310b07fe7", func := "cadenza/cadenzalaw32.FmtchunkMasks", spec := "fmtchunkMasks", named := ["cadenza/fmtchunk.widths", "cadenza/fmtchunk.guid"], apart := false, laid := [("cadenza/fmtchunk.widths", laid_cadenza_fmtchunk_widths), ("cadenza/fmtchunk.guid", laid_cadenza_fmtchunk_guid)], narrowed := true }
def FmtchunkMasksUptoSaid : Prop := fmtchunkMasksUptoRow.holds Tryd.pinned (OpenSpec.upto fmtchunkMasksSpec)

/-- 'cadenzalaw32.FmtchunkAgain', WHERE WHAT IT READS IS OF BULK AT MOST 1048576: true; the input reads as it did. -/
def fmtchunkAgainUptoRow : OpenClaim := { program := "ytjcemacgiehklaadoor", sum := "7ac20aefefbab330b0ada48cacee950b80f4b86be4475abbb0672e9310b07fe7", func := "cadenza/cadenzalaw32.FmtchunkAgain", spec := "fmtchunkAgain", named := ["cadenza/fmtchunk.widths", "cadenza/fmtchunk.guid"], apart := false, laid := [("cadenza/fmtchunk.widths", laid_cadenza_fmtchunk_widths), ("cadenza/fmtchunk.guid", laid_cadenza_fmtchunk_guid)], narrowed := true }
def FmtchunkAgainUptoSaid : Prop := fmtchunkAgainUptoRow.holds Tryd.pinned (OpenSpec.upto fmtchunkAgainSpec)

end Rows
end Go.Proofs.YtjcemacgiehklaaDoor
