/-
  DERIVED. GIVEN WITH THE SEED: THE CARDS: each row of YtncphnpndkjkaaaGreatDoorRows.lean that lists a variable, with what it lists TIED to the program's text (the seventh form; the later family's looks); each row that meets fmt, with fmt's text TOLD by the authors' own Lean function (tested against real Go, not proved from fmt's source: count such statements apart). THE CARD IS WHAT COUNTS. Prove the row's statement (the work); the ties are given (YtncphnpndkjkaaaGreatDoorTie.lean); close each card by the builder's one call (the guide's Derived/Test/ToyasCard.lean, 'card_holds'). Laid BY PROGRAM, IN A SANDBOX (cutbox-door.mjs). By AI agents, Wed Nov 11 2026. No macro, syntax, notation, axiom, sorry.
-/
import Derived.Test.YtncphnpndkjkaaaGreatDoorRows
import GoSem.ClaimSeven
namespace Go.Proofs.YtncphnpndkjkaaaGreatDoor
namespace Rows

/-- THE TIED CARD OF 'vellumlaw18.BodyWhole'. -/
def bodyWholeCard : Claim7 := { stood := { row := bodyWholeRow, standIns := [], harness := (true, "f90e15b98772ad83d5388d7e70fbe48c7830e650295f893f8678c772cda32c7c"), looks := false }, kinds := [], alts := [], laidByText := true, laidKinds := [.data, .pinned], laidTests := true, laidLooks := .later }
def BodyWholeCardSaid : Prop := Claim7.holds Tryz.pinned (.plain (OpenSpec.ofChange bodyWholeSpec)) bodyWholeCard

/-- THE SECOND FORM's CARD OF 'vellumlaw18.BodyWhole'. -/
def bodyWholeUptoCard : Claim7 := { stood := { row := bodyWholeUptoRow, standIns := [], harness := (true, "f90e15b98772ad83d5388d7e70fbe48c7830e650295f893f8678c772cda32c7c"), looks := false }, kinds := [], alts := [], laidByText := true, laidKinds := [.data, .pinned], laidTests := true, laidLooks := .later }
def BodyWholeUptoCardSaid : Prop := Claim7.holds Tryz.pinned (.plain (OpenSpec.upto bodyWholeSpec)) bodyWholeUptoCard
end Rows
end Go.Proofs.YtncphnpndkjkaaaGreatDoor
