/-
  DERIVED. GIVEN WITH THE SEED: THE CARDS: each row of YtgajmgkhlkghjaaGreatDoorRows.lean that lists a variable, with what it lists TIED to the program's text (the seventh form; the later family's looks); each row that meets fmt, with fmt's text TOLD by the authors' own Lean function (tested against real Go, not proved from fmt's source: count such statements apart). THE CARD IS WHAT COUNTS. Prove the row's statement (the work); the ties are given (YtgajmgkhlkghjaaGreatDoorTie.lean); close each card by the builder's one call (the guide's Derived/Test/ToyasCard.lean, 'card_holds'). Laid BY PROGRAM, IN A SANDBOX (cutbox-door.mjs). By AI agents, Wed Nov 11 2026. No macro, syntax, notation, axiom, sorry.
-/
import Derived.Test.YtgajmgkhlkghjaaGreatDoorRows
import GoSem.ClaimSeven
namespace Go.Proofs.YtgajmgkhlkghjaaGreatDoor
namespace Rows

/-- THE TIED CARD OF 'vellumlaw17.ChunksTwo'. -/
def chunksTwoCard : Claim7 := { stood := { row := chunksTwoRow, standIns := [], harness := (true, "1488cc295ce0916ea43b08b320e04a9cb7ed23ea327b182aaf787de25f48976a"), looks := false }, kinds := [], alts := [], laidByText := true, laidKinds := [.data, .pinned], laidTests := true, laidLooks := .later }
def ChunksTwoCardSaid : Prop := Claim7.holds Tryz.pinned (.plain (OpenSpec.ofChange chunksTwoSpec)) chunksTwoCard

/-- THE TIED CARD OF 'vellumlaw17.ChunksNames'. -/
def chunksNamesCard : Claim7 := { stood := { row := chunksNamesRow, standIns := [], harness := (true, "1488cc295ce0916ea43b08b320e04a9cb7ed23ea327b182aaf787de25f48976a"), looks := false }, kinds := [], alts := [], laidByText := true, laidKinds := [.data, .pinned], laidTests := true, laidLooks := .later }
def ChunksNamesCardSaid : Prop := Claim7.holds Tryz.pinned (.plain (OpenSpec.ofChange chunksNamesSpec)) chunksNamesCard

/-- THE TIED CARD OF 'vellumlaw17.ChunksPlaces'. -/
def chunksPlacesCard : Claim7 := { stood := { row := chunksPlacesRow, standIns := [], harness := (true, "1488cc295ce0916ea43b08b320e04a9cb7ed23ea327b182aaf787de25f48976a"), looks := false }, kinds := [], alts := [], laidByText := true, laidKinds := [.data, .pinned], laidTests := true, laidLooks := .later }
def ChunksPlacesCardSaid : Prop := Claim7.holds Tryz.pinned (.plain (OpenSpec.ofChange chunksPlacesSpec)) chunksPlacesCard

/-- THE TIED CARD OF 'vellumlaw17.ChunksString'. -/
def chunksStringCard : Claim7 := { stood := { row := chunksStringRow, standIns := [], harness := (true, "1488cc295ce0916ea43b08b320e04a9cb7ed23ea327b182aaf787de25f48976a"), looks := false }, kinds := [], alts := [], laidByText := true, laidKinds := [.data, .pinned], laidTests := true, laidLooks := .later }
def ChunksStringCardSaid : Prop := Claim7.holds Tryz.pinned (.plain (OpenSpec.ofChange chunksStringSpec)) chunksStringCard

/-- THE SECOND FORM's CARD OF 'vellumlaw17.ChunksTwo'. -/
def chunksTwoUptoCard : Claim7 := { stood := { row := chunksTwoUptoRow, standIns := [], harness := (true, "1488cc295ce0916ea43b08b320e04a9cb7ed23ea327b182aaf787de25f48976a"), looks := false }, kinds := [], alts := [], laidByText := true, laidKinds := [.data, .pinned], laidTests := true, laidLooks := .later }
def ChunksTwoUptoCardSaid : Prop := Claim7.holds Tryz.pinned (.plain (OpenSpec.upto chunksTwoSpec)) chunksTwoUptoCard

/-- THE SECOND FORM's CARD OF 'vellumlaw17.ChunksNames'. -/
def chunksNamesUptoCard : Claim7 := { stood := { row := chunksNamesUptoRow, standIns := [], harness := (true, "1488cc295ce0916ea43b08b320e04a9cb7ed23ea327b182aaf787de25f48976a"), looks := false }, kinds := [], alts := [], laidByText := true, laidKinds := [.data, .pinned], laidTests := true, laidLooks := .later }
def ChunksNamesUptoCardSaid : Prop := Claim7.holds Tryz.pinned (.plain (OpenSpec.upto chunksNamesSpec)) chunksNamesUptoCard

/-- THE SECOND FORM's CARD OF 'vellumlaw17.ChunksPlaces'. -/
def chunksPlacesUptoCard : Claim7 := { stood := { row := chunksPlacesUptoRow, standIns := [], harness := (true, "1488cc295ce0916ea43b08b320e04a9cb7ed23ea327b182aaf787de25f48976a"), looks := false }, kinds := [], alts := [], laidByText := true, laidKinds := [.data, .pinned], laidTests := true, laidLooks := .later }
def ChunksPlacesUptoCardSaid : Prop := Claim7.holds Tryz.pinned (.plain (OpenSpec.upto chunksPlacesSpec)) chunksPlacesUptoCard

/-- THE SECOND FORM's CARD OF 'vellumlaw17.ChunksString'. -/
def chunksStringUptoCard : Claim7 := { stood := { row := chunksStringUptoRow, standIns := [], harness := (true, "1488cc295ce0916ea43b08b320e04a9cb7ed23ea327b182aaf787de25f48976a"), looks := false }, kinds := [], alts := [], laidByText := true, laidKinds := [.data, .pinned], laidTests := true, laidLooks := .later }
def ChunksStringUptoCardSaid : Prop := Claim7.holds Tryz.pinned (.plain (OpenSpec.upto chunksStringSpec)) chunksStringUptoCard
end Rows
end Go.Proofs.YtgajmgkhlkghjaaGreatDoor
