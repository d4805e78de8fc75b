/-
  DERIVED. GIVEN WITH THE SEED: THE CARDS: each row of YtpecmmicndcgjaaGreatDoorRows.lean that lists a variable, with what it lists TIED to the program's text (the seventh form; the later family's looks); each row that meets fmt, with fmt's text TOLD by the authors' own Lean function (tested against real Go, not proved from fmt's source: count such statements apart). THE CARD IS WHAT COUNTS. Prove the row's statement (the work); the ties are given (YtpecmmicndcgjaaGreatDoorTie.lean); close each card by the builder's one call (the guide's Derived/Test/ToyasCard.lean, 'card_holds'). Laid BY PROGRAM, IN A SANDBOX (cutbox-door.mjs). By AI agents, Wed Nov 11 2026. No macro, syntax, notation, axiom, sorry.
-/
import Derived.Test.YtpecmmicndcgjaaGreatDoorRows
import GoSem.ClaimSeven
namespace Go.Proofs.YtpecmmicndcgjaaGreatDoor
namespace Rows

/-- THE TIED CARD OF 'tappetlaw02.TokenScans'. -/
def tokenScansCard : Claim7 := { stood := { row := tokenScansRow, standIns := [], harness := (true, "250107319f91b59f0be161c1bc1b4cdcfe159206983859b4736158ef727e192f"), looks := true }, kinds := [], alts := [], laidByText := true, laidKinds := [.data, .data, .data, .data, .handle, .sentinel, .sentinel, .pinned, .pinned], laidTests := true, laidLooks := .later }
def TokenScansCardSaid : Prop := Claim7.holds Tryz.pinned (.plain (OpenSpec.ofChange tokenScansSpec)) tokenScansCard

/-- THE TIED CARD OF 'tappetlaw02.TokenSpells'. -/
def tokenSpellsCard : Claim7 := { stood := { row := tokenSpellsRow, standIns := [], harness := (true, "250107319f91b59f0be161c1bc1b4cdcfe159206983859b4736158ef727e192f"), looks := true }, kinds := [], alts := [], laidByText := true, laidKinds := [.data, .data, .data, .data, .handle, .sentinel, .sentinel, .pinned, .pinned], laidTests := true, laidLooks := .later }
def TokenSpellsCardSaid : Prop := Claim7.holds Tryz.pinned (.plain (OpenSpec.ofChange tokenSpellsSpec)) tokenSpellsCard

/-- THE TIED CARD OF 'tappetlaw02.TokenJoins'. -/
def tokenJoinsCard : Claim7 := { stood := { row := tokenJoinsRow, standIns := [], harness := (true, "250107319f91b59f0be161c1bc1b4cdcfe159206983859b4736158ef727e192f"), looks := true }, kinds := [], alts := [], laidByText := true, laidKinds := [.data, .data, .data, .data, .handle, .sentinel, .sentinel, .pinned, .pinned], laidTests := true, laidLooks := .later }
def TokenJoinsCardSaid : Prop := Claim7.holds Tryz.pinned (.plain (OpenSpec.ofChange tokenJoinsSpec)) tokenJoinsCard

/-- THE TIED CARD OF 'tappetlaw02.TokenSpots'. -/
def tokenSpotsCard : Claim7 := { stood := { row := tokenSpotsRow, standIns := [], harness := (true, "250107319f91b59f0be161c1bc1b4cdcfe159206983859b4736158ef727e192f"), looks := true }, kinds := [], alts := [], laidByText := true, laidKinds := [.data, .data, .data, .data, .handle, .sentinel, .sentinel, .pinned, .pinned], laidTests := true, laidLooks := .later }
def TokenSpotsCardSaid : Prop := Claim7.holds Tryz.pinned (.plain (OpenSpec.ofChange tokenSpotsSpec)) tokenSpotsCard

/-- THE TIED CARD OF 'tappetlaw02.TokenBack'. -/
def tokenBackCard : Claim7 := { stood := { row := tokenBackRow, standIns := [], harness := (true, "250107319f91b59f0be161c1bc1b4cdcfe159206983859b4736158ef727e192f"), looks := true }, kinds := [], alts := [], laidByText := true, laidKinds := [.data, .data, .data, .data, .handle, .sentinel, .sentinel, .pinned, .pinned], laidTests := true, laidLooks := .later }
def TokenBackCardSaid : Prop := Claim7.holds Tryz.pinned (.plain (OpenSpec.ofChange tokenBackSpec)) tokenBackCard

/-- THE TIED CARD OF 'tappetlaw02.TokenSilent'. -/
def tokenSilentCard : Claim7 := { stood := { row := tokenSilentRow, standIns := [], harness := (true, "250107319f91b59f0be161c1bc1b4cdcfe159206983859b4736158ef727e192f"), looks := true }, kinds := [], alts := [], laidByText := true, laidKinds := [.data, .data, .data, .data, .handle, .sentinel, .sentinel, .pinned, .pinned], laidTests := true, laidLooks := .later }
def TokenSilentCardSaid : Prop := Claim7.holds Tryz.pinned (.plain (OpenSpec.ofChange tokenSilentSpec)) tokenSilentCard

/-- THE TIED CARD OF 'tappetlaw02.TokenOrder'. -/
def tokenOrderCard : Claim7 := { stood := { row := tokenOrderRow, standIns := [], harness := (true, "250107319f91b59f0be161c1bc1b4cdcfe159206983859b4736158ef727e192f"), looks := true }, kinds := [], alts := [], laidByText := true, laidKinds := [.data, .data, .data, .data, .handle, .sentinel, .sentinel, .pinned, .pinned], laidTests := true, laidLooks := .later }
def TokenOrderCardSaid : Prop := Claim7.holds Tryz.pinned (.plain (OpenSpec.ofChange tokenOrderSpec)) tokenOrderCard

/-- THE SECOND FORM's CARD OF 'tappetlaw02.TokenScans'. -/
def tokenScansUptoCard : Claim7 := { stood := { row := tokenScansUptoRow, standIns := [], harness := (true, "250107319f91b59f0be161c1bc1b4cdcfe159206983859b4736158ef727e192f"), looks := true }, kinds := [], alts := [], laidByText := true, laidKinds := [.data, .data, .data, .data, .handle, .sentinel, .sentinel, .pinned, .pinned], laidTests := true, laidLooks := .later }
def TokenScansUptoCardSaid : Prop := Claim7.holds Tryz.pinned (.plain (OpenSpec.upto tokenScansSpec)) tokenScansUptoCard

/-- THE SECOND FORM's CARD OF 'tappetlaw02.TokenSpells'. -/
def tokenSpellsUptoCard : Claim7 := { stood := { row := tokenSpellsUptoRow, standIns := [], harness := (true, "250107319f91b59f0be161c1bc1b4cdcfe159206983859b4736158ef727e192f"), looks := true }, kinds := [], alts := [], laidByText := true, laidKinds := [.data, .data, .data, .data, .handle, .sentinel, .sentinel, .pinned, .pinned], laidTests := true, laidLooks := .later }
def TokenSpellsUptoCardSaid : Prop := Claim7.holds Tryz.pinned (.plain (OpenSpec.upto tokenSpellsSpec)) tokenSpellsUptoCard

/-- THE SECOND FORM's CARD OF 'tappetlaw02.TokenJoins'. -/
def tokenJoinsUptoCard : Claim7 := { stood := { row := tokenJoinsUptoRow, standIns := [], harness := (true, "250107319f91b59f0be161c1bc1b4cdcfe159206983859b4736158ef727e192f"), looks := true }, kinds := [], alts := [], laidByText := true, laidKinds := [.data, .data, .data, .data, .handle, .sentinel, .sentinel, .pinned, .pinned], laidTests := true, laidLooks := .later }
def TokenJoinsUptoCardSaid : Prop := Claim7.holds Tryz.pinned (.plain (OpenSpec.upto tokenJoinsSpec)) tokenJoinsUptoCard

/-- THE SECOND FORM's CARD OF 'tappetlaw02.TokenSpots'. -/
def tokenSpotsUptoCard : Claim7 := { stood := { row := tokenSpotsUptoRow, standIns := [], harness := (true, "250107319f91b59f0be161c1bc1b4cdcfe159206983859b4736158ef727e192f"), looks := true }, kinds := [], alts := [], laidByText := true, laidKinds := [.data, .data, .data, .data, .handle, .sentinel, .sentinel, .pinned, .pinned], laidTests := true, laidLooks := .later }
def TokenSpotsUptoCardSaid : Prop := Claim7.holds Tryz.pinned (.plain (OpenSpec.upto tokenSpotsSpec)) tokenSpotsUptoCard

/-- THE SECOND FORM's CARD OF 'tappetlaw02.TokenBack'. -/
def tokenBackUptoCard : Claim7 := { stood := { row := tokenBackUptoRow, standIns := [], harness := (true, "250107319f91b59f0be161c1bc1b4cdcfe159206983859b4736158ef727e192f"), looks := true }, kinds := [], alts := [], laidByText := true, laidKinds := [.data, .data, .data, .data, .handle, .sentinel, .sentinel, .pinned, .pinned], laidTests := true, laidLooks := .later }
def TokenBackUptoCardSaid : Prop := Claim7.holds Tryz.pinned (.plain (OpenSpec.upto tokenBackSpec)) tokenBackUptoCard

/-- THE SECOND FORM's CARD OF 'tappetlaw02.TokenSilent'. -/
def tokenSilentUptoCard : Claim7 := { stood := { row := tokenSilentUptoRow, standIns := [], harness := (true, "250107319f91b59f0be161c1bc1b4cdcfe159206983859b4736158ef727e192f"), looks := true }, kinds := [], alts := [], laidByText := true, laidKinds := [.data, .data, .data, .data, .handle, .sentinel, .sentinel, .pinned, .pinned], laidTests := true, laidLooks := .later }
def TokenSilentUptoCardSaid : Prop := Claim7.holds Tryz.pinned (.plain (OpenSpec.upto tokenSilentSpec)) tokenSilentUptoCard

/-- THE SECOND FORM's CARD OF 'tappetlaw02.TokenOrder'. -/
def tokenOrderUptoCard : Claim7 := { stood := { row := tokenOrderUptoRow, standIns := [], harness := (true, "250107319f91b59f0be161c1bc1b4cdcfe159206983859b4736158ef727e192f"), looks := true }, kinds := [], alts := [], laidByText := true, laidKinds := [.data, .data, .data, .data, .handle, .sentinel, .sentinel, .pinned, .pinned], laidTests := true, laidLooks := .later }
def TokenOrderUptoCardSaid : Prop := Claim7.holds Tryz.pinned (.plain (OpenSpec.upto tokenOrderSpec)) tokenOrderUptoCard
end Rows
end Go.Proofs.YtpecmmicndcgjaaGreatDoor
