/-
  DERIVED. GIVEN WITH THE SEED: THE CARDS: each row of YtnjbdcdjcfhooaaGreatDoorRows.lean that lists a variable, with what it lists TIED to the program's text (the seventh form; the later family's looks); each row that meets fmt, with fmt's text TOLD by the authors' own Lean function (tested against real Go, not proved from fmt's source: count such statements apart). THE CARD IS WHAT COUNTS. Prove the row's statement (the work); the ties are given (YtnjbdcdjcfhooaaGreatDoorTie.lean); close each card by the builder's one call (the guide's Derived/Test/ToyasCard.lean, 'card_holds'). Laid BY PROGRAM, IN A SANDBOX (cutbox-door.mjs). By AI agents, Wed Nov 11 2026. No macro, syntax, notation, axiom, sorry.
-/
import Derived.Test.YtnjbdcdjcfhooaaGreatDoorRows
import GoSem.ClaimSeven
namespace Go.Proofs.YtnjbdcdjcfhooaaGreatDoor
namespace Rows

/-- THE TIED CARD OF 'vellumlaw26.CommandParses'. -/
def commandParsesCard : Claim7 := { stood := { row := commandParsesRow, standIns := [], harness := (true, "8a79f1cbe4cbe0b827adf0f6cc364f8cc62241dfff2f37c340b2934bee1663d3"), looks := true }, kinds := [], alts := [], laidByText := true, laidKinds := [.data, .data, .data, .data, .handle, .pinned], laidTests := true, laidLooks := .later }
def CommandParsesCardSaid : Prop := Claim7.holds Tryz.pinned (.plain (OpenSpec.ofChange commandParsesSpec)) commandParsesCard

/-- THE TIED CARD OF 'vellumlaw26.CommandPrints'. -/
def commandPrintsCard : Claim7 := { stood := { row := commandPrintsRow, standIns := [], harness := (true, "8a79f1cbe4cbe0b827adf0f6cc364f8cc62241dfff2f37c340b2934bee1663d3"), looks := true }, kinds := [], alts := [], laidByText := true, laidKinds := [.data, .data, .data, .data, .handle, .pinned], laidTests := true, laidLooks := .later }
def CommandPrintsCardSaid : Prop := Claim7.holds Tryz.pinned (.plain (OpenSpec.ofChange commandPrintsSpec)) commandPrintsCard

/-- THE TIED CARD OF 'vellumlaw26.CommandShows'. -/
def commandShowsCard : Claim7 := { stood := { row := commandShowsRow, standIns := [], harness := (true, "8a79f1cbe4cbe0b827adf0f6cc364f8cc62241dfff2f37c340b2934bee1663d3"), looks := true }, kinds := [], alts := [], laidByText := true, laidKinds := [.data, .data, .data, .data, .handle, .pinned], laidTests := true, laidLooks := .later }
def CommandShowsCardSaid : Prop := Claim7.holds Tryz.pinned (.plain (OpenSpec.ofChange commandShowsSpec)) commandShowsCard

/-- THE TIED CARD OF 'vellumlaw26.CommandBack'. -/
def commandBackCard : Claim7 := { stood := { row := commandBackRow, standIns := [], harness := (true, "8a79f1cbe4cbe0b827adf0f6cc364f8cc62241dfff2f37c340b2934bee1663d3"), looks := true }, kinds := [], alts := [], laidByText := true, laidKinds := [.data, .data, .data, .data, .handle, .pinned], laidTests := true, laidLooks := .later }
def CommandBackCardSaid : Prop := Claim7.holds Tryz.pinned (.plain (OpenSpec.ofChange commandBackSpec)) commandBackCard

/-- THE TIED CARD OF 'vellumlaw26.CommandBlanks'. -/
def commandBlanksCard : Claim7 := { stood := { row := commandBlanksRow, standIns := [], harness := (true, "8a79f1cbe4cbe0b827adf0f6cc364f8cc62241dfff2f37c340b2934bee1663d3"), looks := true }, kinds := [], alts := [], laidByText := true, laidKinds := [.data, .data, .data, .data, .handle, .pinned], laidTests := true, laidLooks := .later }
def CommandBlanksCardSaid : Prop := Claim7.holds Tryz.pinned (.plain (OpenSpec.ofChange commandBlanksSpec)) commandBlanksCard

/-- THE TIED CARD OF 'vellumlaw26.CommandNames'. -/
def commandNamesCard : Claim7 := { stood := { row := commandNamesRow, standIns := [], harness := (true, "8a79f1cbe4cbe0b827adf0f6cc364f8cc62241dfff2f37c340b2934bee1663d3"), looks := true }, kinds := [], alts := [], laidByText := true, laidKinds := [.data, .data, .data, .data, .handle, .pinned], laidTests := true, laidLooks := .later }
def CommandNamesCardSaid : Prop := Claim7.holds Tryz.pinned (.plain (OpenSpec.ofChange commandNamesSpec)) commandNamesCard

/-- THE TIED CARD OF 'vellumlaw26.CommandLines'. -/
def commandLinesCard : Claim7 := { stood := { row := commandLinesRow, standIns := [], harness := (true, "8a79f1cbe4cbe0b827adf0f6cc364f8cc62241dfff2f37c340b2934bee1663d3"), looks := true }, kinds := [], alts := [], laidByText := true, laidKinds := [.data, .data, .data, .data, .handle, .pinned], laidTests := true, laidLooks := .later }
def CommandLinesCardSaid : Prop := Claim7.holds Tryz.pinned (.plain (OpenSpec.ofChange commandLinesSpec)) commandLinesCard

/-- THE SECOND FORM's CARD OF 'vellumlaw26.CommandParses'. -/
def commandParsesUptoCard : Claim7 := { stood := { row := commandParsesUptoRow, standIns := [], harness := (true, "8a79f1cbe4cbe0b827adf0f6cc364f8cc62241dfff2f37c340b2934bee1663d3"), looks := true }, kinds := [], alts := [], laidByText := true, laidKinds := [.data, .data, .data, .data, .handle, .pinned], laidTests := true, laidLooks := .later }
def CommandParsesUptoCardSaid : Prop := Claim7.holds Tryz.pinned (.plain (OpenSpec.upto commandParsesSpec)) commandParsesUptoCard

/-- THE SECOND FORM's CARD OF 'vellumlaw26.CommandPrints'. -/
def commandPrintsUptoCard : Claim7 := { stood := { row := commandPrintsUptoRow, standIns := [], harness := (true, "8a79f1cbe4cbe0b827adf0f6cc364f8cc62241dfff2f37c340b2934bee1663d3"), looks := true }, kinds := [], alts := [], laidByText := true, laidKinds := [.data, .data, .data, .data, .handle, .pinned], laidTests := true, laidLooks := .later }
def CommandPrintsUptoCardSaid : Prop := Claim7.holds Tryz.pinned (.plain (OpenSpec.upto commandPrintsSpec)) commandPrintsUptoCard

/-- THE SECOND FORM's CARD OF 'vellumlaw26.CommandShows'. -/
def commandShowsUptoCard : Claim7 := { stood := { row := commandShowsUptoRow, standIns := [], harness := (true, "8a79f1cbe4cbe0b827adf0f6cc364f8cc62241dfff2f37c340b2934bee1663d3"), looks := true }, kinds := [], alts := [], laidByText := true, laidKinds := [.data, .data, .data, .data, .handle, .pinned], laidTests := true, laidLooks := .later }
def CommandShowsUptoCardSaid : Prop := Claim7.holds Tryz.pinned (.plain (OpenSpec.upto commandShowsSpec)) commandShowsUptoCard

/-- THE SECOND FORM's CARD OF 'vellumlaw26.CommandBack'. -/
def commandBackUptoCard : Claim7 := { stood := { row := commandBackUptoRow, standIns := [], harness := (true, "8a79f1cbe4cbe0b827adf0f6cc364f8cc62241dfff2f37c340b2934bee1663d3"), looks := true }, kinds := [], alts := [], laidByText := true, laidKinds := [.data, .data, .data, .data, .handle, .pinned], laidTests := true, laidLooks := .later }
def CommandBackUptoCardSaid : Prop := Claim7.holds Tryz.pinned (.plain (OpenSpec.upto commandBackSpec)) commandBackUptoCard

/-- THE SECOND FORM's CARD OF 'vellumlaw26.CommandBlanks'. -/
def commandBlanksUptoCard : Claim7 := { stood := { row := commandBlanksUptoRow, standIns := [], harness := (true, "8a79f1cbe4cbe0b827adf0f6cc364f8cc62241dfff2f37c340b2934bee1663d3"), looks := true }, kinds := [], alts := [], laidByText := true, laidKinds := [.data, .data, .data, .data, .handle, .pinned], laidTests := true, laidLooks := .later }
def CommandBlanksUptoCardSaid : Prop := Claim7.holds Tryz.pinned (.plain (OpenSpec.upto commandBlanksSpec)) commandBlanksUptoCard

/-- THE SECOND FORM's CARD OF 'vellumlaw26.CommandNames'. -/
def commandNamesUptoCard : Claim7 := { stood := { row := commandNamesUptoRow, standIns := [], harness := (true, "8a79f1cbe4cbe0b827adf0f6cc364f8cc62241dfff2f37c340b2934bee1663d3"), looks := true }, kinds := [], alts := [], laidByText := true, laidKinds := [.data, .data, .data, .data, .handle, .pinned], laidTests := true, laidLooks := .later }
def CommandNamesUptoCardSaid : Prop := Claim7.holds Tryz.pinned (.plain (OpenSpec.upto commandNamesSpec)) commandNamesUptoCard

/-- THE SECOND FORM's CARD OF 'vellumlaw26.CommandLines'. -/
def commandLinesUptoCard : Claim7 := { stood := { row := commandLinesUptoRow, standIns := [], harness := (true, "8a79f1cbe4cbe0b827adf0f6cc364f8cc62241dfff2f37c340b2934bee1663d3"), looks := true }, kinds := [], alts := [], laidByText := true, laidKinds := [.data, .data, .data, .data, .handle, .pinned], laidTests := true, laidLooks := .later }
def CommandLinesUptoCardSaid : Prop := Claim7.holds Tryz.pinned (.plain (OpenSpec.upto commandLinesSpec)) commandLinesUptoCard
end Rows
end Go.Proofs.YtnjbdcdjcfhooaaGreatDoor
