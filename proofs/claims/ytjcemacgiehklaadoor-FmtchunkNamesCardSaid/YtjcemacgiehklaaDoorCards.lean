/-
  DERIVED. GIVEN WITH THE SEED: THE CARDS: each row of YtjcemacgiehklaaDoorRows.lean that lists a variable, with what it lists TIED to the program's text (the seventh form; the later family's looks); each row that meets fmt, with fmt's text TOLD by the authors' own Lean function (tested against real Go, not proved from fmt's source: count such statements apart). THE CARD IS WHAT COUNTS. Prove the row's statement (the work); the ties are given (YtjcemacgiehklaaDoorTie.lean); close each card by the builder's one call (the guide's Derived/Test/ToyasCard.lean, 'card_holds'). Laid BY PROGRAM, IN A SANDBOX (cutbox-door.mjs). By AI agents, Wed Nov 11 2026. No macro, syntax, notation, axiom, sorry.
-/
import Derived.Test.YtjcemacgiehklaaDoorRows
import GoSem.ClaimSeven
namespace Go.Proofs.YtjcemacgiehklaaDoor
namespace Rows

/-- THE TIED CARD OF 'cadenzalaw32.FmtchunkWrites'. -/
def fmtchunkWritesCard : Claim7 := { stood := { row := fmtchunkWritesRow, standIns := [], harness := (true, "5c0545550c52fbcd4714f57cd4f58134b0b49eba282482acc5716b3ecf632033"), looks := false }, kinds := [], alts := [], laidByText := true, laidKinds := [.data, .widerDeep], laidTests := true, laidLooks := .later }
def FmtchunkWritesCardSaid : Prop := Claim7.holds Tryd.pinned (.plain (OpenSpec.ofChange fmtchunkWritesSpec)) fmtchunkWritesCard

/-- THE TIED CARD OF 'cadenzalaw32.FmtchunkReads'. -/
def fmtchunkReadsCard : Claim7 := { stood := { row := fmtchunkReadsRow, standIns := [], harness := (true, "5c0545550c52fbcd4714f57cd4f58134b0b49eba282482acc5716b3ecf632033"), looks := false }, kinds := [], alts := [], laidByText := true, laidKinds := [.data, .widerDeep], laidTests := true, laidLooks := .later }
def FmtchunkReadsCardSaid : Prop := Claim7.holds Tryd.pinned (.plain (OpenSpec.ofChange fmtchunkReadsSpec)) fmtchunkReadsCard

/-- THE TIED CARD OF 'cadenzalaw32.FmtchunkNames'. -/
def fmtchunkNamesCard : Claim7 := { stood := { row := fmtchunkNamesRow, standIns := [], harness := (true, "5c0545550c52fbcd4714f57cd4f58134b0b49eba282482acc5716b3ecf632033"), looks := false }, kinds := [], alts := [], laidByText := true, laidKinds := [.data, .widerDeep], laidTests := true, laidLooks := .later }
def FmtchunkNamesCardSaid : Prop := Claim7.holds Tryd.pinned (.plain (OpenSpec.ofChange fmtchunkNamesSpec)) fmtchunkNamesCard

/-- THE TIED CARD OF 'cadenzalaw32.FmtchunkBack'. -/
def fmtchunkBackCard : Claim7 := { stood := { row := fmtchunkBackRow, standIns := [], harness := (true, "5c0545550c52fbcd4714f57cd4f58134b0b49eba282482acc5716b3ecf632033"), looks := false }, kinds := [], alts := [], laidByText := true, laidKinds := [.data, .widerDeep], laidTests := true, laidLooks := .later }
def FmtchunkBackCardSaid : Prop := Claim7.holds Tryd.pinned (.plain (OpenSpec.ofChange fmtchunkBackSpec)) fmtchunkBackCard

/-- THE TIED CARD OF 'cadenzalaw32.FmtchunkMasks'. -/
def fmtchunkMasksCard : Claim7 := { stood := { row := fmtchunkMasksRow, standIns := [], harness := (true, "5c0545550c52fbcd4714f57cd4f58134b0b49eba282482acc5716b3ecf632033"), looks := false }, kinds := [], alts := [], laidByText := true, laidKinds := [.data, .widerDeep], laidTests := true, laidLooks := .later }
def FmtchunkMasksCardSaid : Prop := Claim7.holds Tryd.pinned (.plain (OpenSpec.ofChange fmtchunkMasksSpec)) fmtchunkMasksCard

/-- THE TIED CARD OF 'cadenzalaw32.FmtchunkAgain'. -/
def fmtchunkAgainCard : Claim7 := { stood := { row := fmtchunkAgainRow, standIns := [], harness := (true, "5c0545550c52fbcd4714f57cd4f58134b0b49eba282482acc5716b3ecf632033"), looks := false }, kinds := [], alts := [], laidByText := true, laidKinds := [.data, .widerDeep], laidTests := true, laidLooks := .later }
def FmtchunkAgainCardSaid : Prop := Claim7.holds Tryd.pinned (.plain (OpenSpec.ofChange fmtchunkAgainSpec)) fmtchunkAgainCard

/-- THE SECOND FORM's CARD OF 'cadenzalaw32.FmtchunkWrites'. -/
def fmtchunkWritesUptoCard : Claim7 := { stood := { row := fmtchunkWritesUptoRow, standIns := [], harness := (true, "5c0545550c52fbcd4714f57cd4f58134b0b49eba282482acc5716b3ecf632033"), looks := false }, kinds := [], alts := [], laidByText := true, laidKinds := [.data, .widerDeep], laidTests := true, laidLooks := .later }
def FmtchunkWritesUptoCardSaid : Prop := Claim7.holds Tryd.pinned (.plain (OpenSpec.upto fmtchunkWritesSpec)) fmtchunkWritesUptoCard

/-- THE SECOND FORM's CARD OF 'cadenzalaw32.FmtchunkReads'. -/
def fmtchunkReadsUptoCard : Claim7 := { stood := { row := fmtchunkReadsUptoRow, standIns := [], harness := (true, "5c0545550c52fbcd4714f57cd4f58134b0b49eba282482acc5716b3ecf632033"), looks := false }, kinds := [], alts := [], laidByText := true, laidKinds := [.data, .widerDeep], laidTests := true, laidLooks := .later }
def FmtchunkReadsUptoCardSaid : Prop := Claim7.holds Tryd.pinned (.plain (OpenSpec.upto fmtchunkReadsSpec)) fmtchunkReadsUptoCard

/-- THE SECOND FORM's CARD OF 'cadenzalaw32.FmtchunkNames'. -/
def fmtchunkNamesUptoCard : Claim7 := { stood := { row := fmtchunkNamesUptoRow, standIns := [], harness := (true, "5c0545550c52fbcd4714f57cd4f58134b0b49eba282482acc5716b3ecf632033"), looks := false }, kinds := [], alts := [], laidByText := true, laidKinds := [.data, .widerDeep], laidTests := true, laidLooks := .later }
def FmtchunkNamesUptoCardSaid : Prop := Claim7.holds Tryd.pinned (.plain (OpenSpec.upto fmtchunkNamesSpec)) fmtchunkNamesUptoCard

/-- THE SECOND FORM's CARD OF 'cadenzalaw32.FmtchunkBack'. -/
def fmtchunkBackUptoCard : Claim7 := { stood := { row := fmtchunkBackUptoRow, standIns := [], harness := (true, "5c0545550c52fbcd4714f57cd4f58134b0b49eba282482acc5716b3ecf632033"), looks := false }, kinds := [], alts := [], laidByText := true, laidKinds := [.data, .widerDeep], laidTests := true, laidLooks := .later }
def FmtchunkBackUptoCardSaid : Prop := Claim7.holds Tryd.pinned (.plain (OpenSpec.upto fmtchunkBackSpec)) fmtchunkBackUptoCard

/-- THE SECOND FORM's CARD OF 'cadenzalaw32.FmtchunkMasks'. -/
def fmtchunkMasksUptoCard : Claim7 := { stood := { row := fmtchunkMasksUptoRow, standIns := [], harness := (true, "5c0545550c52fbcd4714f57cd4f58134b0b49eba282482acc5716b3ecf632033"), looks := false }, kinds := [], alts := [], laidByText := true, laidKinds := [.data, .widerDeep], laidTests := true, laidLooks := .later }
def FmtchunkMasksUptoCardSaid : Prop := Claim7.holds Tryd.pinned (.plain (OpenSpec.upto fmtchunkMasksSpec)) fmtchunkMasksUptoCard

/-- THE SECOND FORM's CARD OF 'cadenzalaw32.FmtchunkAgain'. -/
def fmtchunkAgainUptoCard : Claim7 := { stood := { row := fmtchunkAgainUptoRow, standIns := [], harness := (true, "5c0545550c52fbcd4714f57cd4f58134b0b49eba282482acc5716b3ecf632033"), looks := false }, kinds := [], alts := [], laidByText := true, laidKinds := [.data, .widerDeep], laidTests := true, laidLooks := .later }
def FmtchunkAgainUptoCardSaid : Prop := Claim7.holds Tryd.pinned (.plain (OpenSpec.upto fmtchunkAgainSpec)) fmtchunkAgainUptoCard
end Rows
end Go.Proofs.YtjcemacgiehklaaDoor
