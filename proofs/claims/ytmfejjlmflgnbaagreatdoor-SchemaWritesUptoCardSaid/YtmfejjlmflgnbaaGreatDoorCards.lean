/-
  DERIVED. GIVEN WITH THE SEED: THE CARDS: each row of YtmfejjlmflgnbaaGreatDoorRows.lean that lists a variable, with what it lists TIED to the program's text (the seventh form; the later family's looks); each row that meets fmt, with fmt's text TOLD by the authors' own Lean function (tested against real Go, not proved from fmt's source: count such statements apart). THE CARD IS WHAT COUNTS. Prove the row's statement (the work); the ties are given (YtmfejjlmflgnbaaGreatDoorTie.lean); close each card by the builder's one call (the guide's Derived/Test/ToyasCard.lean, 'card_holds'). Laid BY PROGRAM, IN A SANDBOX (cutbox-door.mjs). By AI agents, Wed Nov 11 2026. No macro, syntax, notation, axiom, sorry.
-/
import Derived.Test.YtmfejjlmflgnbaaGreatDoorRows
import GoSem.ClaimSeven
namespace Go.Proofs.YtmfejjlmflgnbaaGreatDoor
namespace Rows

/-- THE TIED CARD OF 'tappetlaw04.PrintFits'. -/
def printFitsCard : Claim7 := { stood := { row := printFitsRow, standIns := [], harness := (true, "629b0f7bb3f3273c11bc756ac21855ddddce75172db39142c293da01bd728a35"), looks := true }, kinds := [], alts := [], laidByText := true, laidKinds := [.data, .data, .data, .data, .handle, .pinned, .pinned], laidTests := true, laidLooks := .later }
def PrintFitsCardSaid : Prop := Claim7.holds Tryz.pinned (.plain (OpenSpec.ofChange printFitsSpec)) printFitsCard

/-- THE TIED CARD OF 'tappetlaw04.PrintWrites'. -/
def printWritesCard : Claim7 := { stood := { row := printWritesRow, standIns := [], harness := (true, "629b0f7bb3f3273c11bc756ac21855ddddce75172db39142c293da01bd728a35"), looks := true }, kinds := [], alts := [], laidByText := true, laidKinds := [.data, .data, .data, .data, .handle, .pinned, .pinned], laidTests := true, laidLooks := .later }
def PrintWritesCardSaid : Prop := Claim7.holds Tryz.pinned (.plain (OpenSpec.ofChange printWritesSpec)) printWritesCard

/-- THE TIED CARD OF 'tappetlaw04.PrintPlain'. -/
def printPlainCard : Claim7 := { stood := { row := printPlainRow, standIns := [], harness := (true, "629b0f7bb3f3273c11bc756ac21855ddddce75172db39142c293da01bd728a35"), looks := true }, kinds := [], alts := [], laidByText := true, laidKinds := [.data, .data, .data, .data, .handle, .pinned, .pinned], laidTests := true, laidLooks := .later }
def PrintPlainCardSaid : Prop := Claim7.holds Tryz.pinned (.plain (OpenSpec.ofChange printPlainSpec)) printPlainCard

/-- THE TIED CARD OF 'tappetlaw04.PrintOwn'. -/
def printOwnCard : Claim7 := { stood := { row := printOwnRow, standIns := [], harness := (true, "629b0f7bb3f3273c11bc756ac21855ddddce75172db39142c293da01bd728a35"), looks := true }, kinds := [], alts := [], laidByText := true, laidKinds := [.data, .data, .data, .data, .handle, .pinned, .pinned], laidTests := true, laidLooks := .later }
def PrintOwnCardSaid : Prop := Claim7.holds Tryz.pinned (.plain (OpenSpec.ofChange printOwnSpec)) printOwnCard

/-- THE TIED CARD OF 'tappetlaw05.SchemaTable'. -/
def schemaTableCard : Claim7 := { stood := { row := schemaTableRow, standIns := [], harness := (true, "629b0f7bb3f3273c11bc756ac21855ddddce75172db39142c293da01bd728a35"), looks := true }, kinds := [], alts := [], laidByText := true, laidKinds := [.data, .data, .data, .data, .handle, .sentinel, .sentinel, .sentinel, .sentinel, .sentinel, .sentinel, .sentinel, .pinned, .pinned], laidTests := true, laidLooks := .later }
def SchemaTableCardSaid : Prop := Claim7.holds Tryz.pinned (.plain (OpenSpec.ofChange schemaTableSpec)) schemaTableCard

/-- THE TIED CARD OF 'tappetlaw05.SchemaReads'. -/
def schemaReadsCard : Claim7 := { stood := { row := schemaReadsRow, standIns := [], harness := (true, "629b0f7bb3f3273c11bc756ac21855ddddce75172db39142c293da01bd728a35"), looks := true }, kinds := [], alts := [], laidByText := true, laidKinds := [.data, .data, .data, .data, .handle, .sentinel, .sentinel, .sentinel, .sentinel, .sentinel, .sentinel, .sentinel, .pinned, .pinned], laidTests := true, laidLooks := .later }
def SchemaReadsCardSaid : Prop := Claim7.holds Tryz.pinned (.plain (OpenSpec.ofChange schemaReadsSpec)) schemaReadsCard

/-- THE TIED CARD OF 'tappetlaw05.SchemaWrites'. -/
def schemaWritesCard : Claim7 := { stood := { row := schemaWritesRow, standIns := [], harness := (true, "629b0f7bb3f3273c11bc756ac21855ddddce75172db39142c293da01bd728a35"), looks := true }, kinds := [], alts := [], laidByText := true, laidKinds := [.data, .data, .data, .data, .handle, .sentinel, .sentinel, .sentinel, .sentinel, .sentinel, .sentinel, .sentinel, .pinned, .pinned], laidTests := true, laidLooks := .later }
def SchemaWritesCardSaid : Prop := Claim7.holds Tryz.pinned (.plain (OpenSpec.ofChange schemaWritesSpec)) schemaWritesCard

/-- THE TIED CARD OF 'tappetlaw05.SchemaHolds'. -/
def schemaHoldsCard : Claim7 := { stood := { row := schemaHoldsRow, standIns := [], harness := (true, "629b0f7bb3f3273c11bc756ac21855ddddce75172db39142c293da01bd728a35"), looks := true }, kinds := [], alts := [], laidByText := true, laidKinds := [.data, .data, .data, .data, .handle, .sentinel, .sentinel, .sentinel, .sentinel, .sentinel, .sentinel, .sentinel, .pinned, .pinned], laidTests := true, laidLooks := .later }
def SchemaHoldsCardSaid : Prop := Claim7.holds Tryz.pinned (.plain (OpenSpec.ofChange schemaHoldsSpec)) schemaHoldsCard

/-- THE TIED CARD OF 'tappetlaw05.SchemaOwn'. -/
def schemaOwnCard : Claim7 := { stood := { row := schemaOwnRow, standIns := [], harness := (true, "629b0f7bb3f3273c11bc756ac21855ddddce75172db39142c293da01bd728a35"), looks := true }, kinds := [], alts := [], laidByText := true, laidKinds := [.data, .data, .data, .data, .handle, .sentinel, .sentinel, .sentinel, .sentinel, .sentinel, .sentinel, .sentinel, .pinned, .pinned], laidTests := true, laidLooks := .later }
def SchemaOwnCardSaid : Prop := Claim7.holds Tryz.pinned (.plain (OpenSpec.ofChange schemaOwnSpec)) schemaOwnCard

/-- THE SECOND FORM's CARD OF 'tappetlaw04.PrintFits'. -/
def printFitsUptoCard : Claim7 := { stood := { row := printFitsUptoRow, standIns := [], harness := (true, "629b0f7bb3f3273c11bc756ac21855ddddce75172db39142c293da01bd728a35"), looks := true }, kinds := [], alts := [], laidByText := true, laidKinds := [.data, .data, .data, .data, .handle, .pinned, .pinned], laidTests := true, laidLooks := .later }
def PrintFitsUptoCardSaid : Prop := Claim7.holds Tryz.pinned (.plain (OpenSpec.upto printFitsSpec)) printFitsUptoCard

/-- THE SECOND FORM's CARD OF 'tappetlaw04.PrintWrites'. -/
def printWritesUptoCard : Claim7 := { stood := { row := printWritesUptoRow, standIns := [], harness := (true, "629b0f7bb3f3273c11bc756ac21855ddddce75172db39142c293da01bd728a35"), looks := true }, kinds := [], alts := [], laidByText := true, laidKinds := [.data, .data, .data, .data, .handle, .pinned, .pinned], laidTests := true, laidLooks := .later }
def PrintWritesUptoCardSaid : Prop := Claim7.holds Tryz.pinned (.plain (OpenSpec.upto printWritesSpec)) printWritesUptoCard

/-- THE SECOND FORM's CARD OF 'tappetlaw04.PrintPlain'. -/
def printPlainUptoCard : Claim7 := { stood := { row := printPlainUptoRow, standIns := [], harness := (true, "629b0f7bb3f3273c11bc756ac21855ddddce75172db39142c293da01bd728a35"), looks := true }, kinds := [], alts := [], laidByText := true, laidKinds := [.data, .data, .data, .data, .handle, .pinned, .pinned], laidTests := true, laidLooks := .later }
def PrintPlainUptoCardSaid : Prop := Claim7.holds Tryz.pinned (.plain (OpenSpec.upto printPlainSpec)) printPlainUptoCard

/-- THE SECOND FORM's CARD OF 'tappetlaw04.PrintOwn'. -/
def printOwnUptoCard : Claim7 := { stood := { row := printOwnUptoRow, standIns := [], harness := (true, "629b0f7bb3f3273c11bc756ac21855ddddce75172db39142c293da01bd728a35"), looks := true }, kinds := [], alts := [], laidByText := true, laidKinds := [.data, .data, .data, .data, .handle, .pinned, .pinned], laidTests := true, laidLooks := .later }
def PrintOwnUptoCardSaid : Prop := Claim7.holds Tryz.pinned (.plain (OpenSpec.upto printOwnSpec)) printOwnUptoCard

/-- THE SECOND FORM's CARD OF 'tappetlaw05.SchemaTable'. -/
def schemaTableUptoCard : Claim7 := { stood := { row := schemaTableUptoRow, standIns := [], harness := (true, "629b0f7bb3f3273c11bc756ac21855ddddce75172db39142c293da01bd728a35"), looks := true }, kinds := [], alts := [], laidByText := true, laidKinds := [.data, .data, .data, .data, .handle, .sentinel, .sentinel, .sentinel, .sentinel, .sentinel, .sentinel, .sentinel, .pinned, .pinned], laidTests := true, laidLooks := .later }
def SchemaTableUptoCardSaid : Prop := Claim7.holds Tryz.pinned (.plain (OpenSpec.upto schemaTableSpec)) schemaTableUptoCard

/-- THE SECOND FORM's CARD OF 'tappetlaw05.SchemaReads'. -/
def schemaReadsUptoCard : Claim7 := { stood := { row := schemaReadsUptoRow, standIns := [], harness := (true, "629b0f7bb3f3273c11bc756ac21855ddddce75172db39142c293da01bd728a35"), looks := true }, kinds := [], alts := [], laidByText := true, laidKinds := [.data, .data, .data, .data, .handle, .sentinel, .sentinel, .sentinel, .sentinel, .sentinel, .sentinel, .sentinel, .pinned, .pinned], laidTests := true, laidLooks := .later }
def SchemaReadsUptoCardSaid : Prop := Claim7.holds Tryz.pinned (.plain (OpenSpec.upto schemaReadsSpec)) schemaReadsUptoCard

/-- THE SECOND FORM's CARD OF 'tappetlaw05.SchemaWrites'. -/
def schemaWritesUptoCard : Claim7 := { stood := { row := schemaWritesUptoRow, standIns := [], harness := (true, "629b0f7bb3f3273c11bc756ac21855ddddce75172db39142c293da01bd728a35"), looks := true }, kinds := [], alts := [], laidByText := true, laidKinds := [.data, .data, .data, .data, .handle, .sentinel, .sentinel, .sentinel, .sentinel, .sentinel, .sentinel, .sentinel, .pinned, .pinned], laidTests := true, laidLooks := .later }
def SchemaWritesUptoCardSaid : Prop := Claim7.holds Tryz.pinned (.plain (OpenSpec.upto schemaWritesSpec)) schemaWritesUptoCard

/-- THE SECOND FORM's CARD OF 'tappetlaw05.SchemaHolds'. -/
def schemaHoldsUptoCard : Claim7 := { stood := { row := schemaHoldsUptoRow, standIns := [], harness := (true, "629b0f7bb3f3273c11bc756ac21855ddddce75172db39142c293da01bd728a35"), looks := true }, kinds := [], alts := [], laidByText := true, laidKinds := [.data, .data, .data, .data, .handle, .sentinel, .sentinel, .sentinel, .sentinel, .sentinel, .sentinel, .sentinel, .pinned, .pinned], laidTests := true, laidLooks := .later }
def SchemaHoldsUptoCardSaid : Prop := Claim7.holds Tryz.pinned (.plain (OpenSpec.upto schemaHoldsSpec)) schemaHoldsUptoCard

/-- THE SECOND FORM's CARD OF 'tappetlaw05.SchemaOwn'. -/
def schemaOwnUptoCard : Claim7 := { stood := { row := schemaOwnUptoRow, standIns := [], harness := (true, "629b0f7bb3f3273c11bc756ac21855ddddce75172db39142c293da01bd728a35"), looks := true }, kinds := [], alts := [], laidByText := true, laidKinds := [.data, .data, .data, .data, .handle, .sentinel, .sentinel, .sentinel, .sentinel, .sentinel, .sentinel, .sentinel, .pinned, .pinned], laidTests := true, laidLooks := .later }
def SchemaOwnUptoCardSaid : Prop := Claim7.holds Tryz.pinned (.plain (OpenSpec.upto schemaOwnSpec)) schemaOwnUptoCard
end Rows
end Go.Proofs.YtmfejjlmflgnbaaGreatDoor
