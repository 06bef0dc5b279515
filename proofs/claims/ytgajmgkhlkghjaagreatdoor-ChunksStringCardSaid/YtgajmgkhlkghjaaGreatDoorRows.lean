/-
  NARROWER THAN 'FOR EVERY INPUT', by the rows' own cells (each row's printed sentence says how): ChunksTwo: laid · ChunksNames: laid · ChunksPlaces: laid · ChunksString: laid.
  DERIVED. THE GIVEN ROWS OF THIS SEAT. 4 by the template 'for every input the law returns true; each argument reads behind the call as it read before'; 0 by the template 'total and deterministic' (their statements: YtgajmgkhlkghjaaGreatDoorTotals.lean).
  GIVEN WITH THE SEED: the statements are not yours to turn. If you find one false, say at which input.
  Laid BY PROGRAM, IN A SANDBOX (cutbox-rows.mjs): the forced cells as the released guide's own fill.sh prints them over the translation bce386cacaa1bc77… (all of the seat's roots in one cut). By AI agents, Wed Nov 11 2026. No macro, syntax, notation, axiom, sorry.
-/
import Derived.Test.YtgajmgkhlkghjaaGreatDoorChecked
import GoSem.PinnedTables
import GoSem.Claim
import GoSem.ClaimJoined
import GoSem.ClaimMapViews
import Derived.JoinedTies
import Derived.KernelRfl
namespace Go.Proofs.YtgajmgkhlkghjaaGreatDoor
/- THE CELL 'sum', in the pinned program and in every row, IS THE sha256 OF THE DUMP (.gsa) THAT YtgajmgkhlkghjaaGreatDoorProg.lean LOADS. Nothing in Lean hashes anything: it is a label: what it is worth is what the hold of that sum in a sandbox is worth. -/
noncomputable def Tryz.pinned : Pinned := { name := "ytgajmgkhlkghjaagreatdoor", sum := "bce386cacaa1bc77dcb9bceb631825fc746507d9bbf405ca3222ff06357435f1", checked := Tryz.checked }
namespace Rows
def none {H : Type} : Left H := { results := [], args := [] }

/- WHAT THE LISTED PACKAGE-LEVEL VARIABLES READ AS WHEN THE CALL BEGINS. Each datum BY PROGRAM (the guide's laid-datum.mjs) off the statement by which the dump's own 'gosem.cut.vars' lays the variable. In a bare row this is a premise. The card (YtgajmgkhlkghjaaGreatDoorCards.lean) ties it to the program's text. -/
def laid_unicode_utf8_acceptRanges {H : Type} : DataW H := .agg [.agg [.lit (.int .u8 128), .lit (.int .u8 191)], .agg [.lit (.int .u8 160), .lit (.int .u8 191)], .agg [.lit (.int .u8 128), .lit (.int .u8 159)], .agg [.lit (.int .u8 144), .lit (.int .u8 191)], .agg [.lit (.int .u8 128), .lit (.int .u8 143)], .agg [.lit (.int .u8 0), .lit (.int .u8 0)], .agg [.lit (.int .u8 0), .lit (.int .u8 0)], .agg [.lit (.int .u8 0), .lit (.int .u8 0)], .agg [.lit (.int .u8 0), .lit (.int .u8 0)], .agg [.lit (.int .u8 0), .lit (.int .u8 0)], .agg [.lit (.int .u8 0), .lit (.int .u8 0)], .agg [.lit (.int .u8 0), .lit (.int .u8 0)], .agg [.lit (.int .u8 0), .lit (.int .u8 0)], .agg [.lit (.int .u8 0), .lit (.int .u8 0)], .agg [.lit (.int .u8 0), .lit (.int .u8 0)], .agg [.lit (.int .u8 0), .lit (.int .u8 0)]]
/-- One of Go's own tables, pinned by name: the form's constant. -/
def laid_unicode_utf8_first : DataW Unit := Go.Pinned.utf8First

/-- 'vellumlaw17.ChunksTwo': WHATEVER THE INPUT: true; the input reads as it did. -/
def chunksTwoSpec : ChangeSpec := { name := "chunksTwo", fn := fun _ => fun
  | [d1, d2, d3] => { results := [.lit (.bool true)], args := [d1, d2, d3] }
  | _ => none }
def chunksTwoRow : OpenClaim := { program := "ytgajmgkhlkghjaagreatdoor", sum := "bce386cacaa1bc77dcb9bceb631825fc746507d9bbf405ca3222ff06357435f1", func := "vellum/vellumlaw17.ChunksTwo", spec := "chunksTwo", inPlace := ["slices.overlaps[vellum/chunks.part]", "internal/abi.NoEscape"], unfollowed := true, recurses := true, named := ["unicode/utf8.first", "unicode/utf8.acceptRanges"], apart := false, laid := [("unicode/utf8.acceptRanges", laid_unicode_utf8_acceptRanges), ("unicode/utf8.first", laid_unicode_utf8_first)] }
def ChunksTwoSaid : Prop := chunksTwoRow.holds Tryz.pinned (OpenSpec.ofChange chunksTwoSpec)

/-- ITS FALSE NEIGHBOUR: 'it returns false'. Refute it at one input. -/
def chunksTwoWrong : ChangeSpec := { name := "chunksTwo", fn := fun _ => fun
  | [d1, d2, d3] => { results := [.lit (.bool false)], args := [d1, d2, d3] }
  | _ => none }
def ChunksTwoWrongFalsely : Prop := chunksTwoRow.holds Tryz.pinned (OpenSpec.ofChange chunksTwoWrong)

/-- 'vellumlaw17.ChunksNames': WHATEVER THE INPUT: true; the input reads as it did. -/
def chunksNamesSpec : ChangeSpec := { name := "chunksNames", fn := fun _ => fun
  | [] => { results := [.lit (.bool true)], args := [] }
  | _ => none }
def chunksNamesRow : OpenClaim := { program := "ytgajmgkhlkghjaagreatdoor", sum := "bce386cacaa1bc77dcb9bceb631825fc746507d9bbf405ca3222ff06357435f1", func := "vellum/vellumlaw17.ChunksNames", spec := "chunksNames", inPlace := ["slices.overlaps[vellum/chunks.part]", "internal/abi.NoEscape"], unfollowed := true, recurses := true, named := ["unicode/utf8.first", "unicode/utf8.acceptRanges"], apart := false, laid := [("unicode/utf8.acceptRanges", laid_unicode_utf8_acceptRanges), ("unicode/utf8.first", laid_unicode_utf8_first)] }
def ChunksNamesSaid : Prop := chunksNamesRow.holds Tryz.pinned (OpenSpec.ofChange chunksNamesSpec)

/-- ITS FALSE NEIGHBOUR: 'it returns false'. Refute it at one input. -/
def chunksNamesWrong : ChangeSpec := { name := "chunksNames", fn := fun _ => fun
  | [] => { results := [.lit (.bool false)], args := [] }
  | _ => none }
def ChunksNamesWrongFalsely : Prop := chunksNamesRow.holds Tryz.pinned (OpenSpec.ofChange chunksNamesWrong)

/-- 'vellumlaw17.ChunksPlaces': WHATEVER THE INPUT: true; the input reads as it did. -/
def chunksPlacesSpec : ChangeSpec := { name := "chunksPlaces", fn := fun _ => fun
  | [d1, d2] => { results := [.lit (.bool true)], args := [d1, d2] }
  | _ => none }
def chunksPlacesRow : OpenClaim := { program := "ytgajmgkhlkghjaagreatdoor", sum := "bce386cacaa1bc77dcb9bceb631825fc746507d9bbf405ca3222ff06357435f1", func := "vellum/vellumlaw17.ChunksPlaces", spec := "chunksPlaces", inPlace := ["slices.overlaps[vellum/chunks.part]", "internal/abi.NoEscape"], unfollowed := true, recurses := true, named := ["unicode/utf8.first", "unicode/utf8.acceptRanges"], apart := false, laid := [("unicode/utf8.acceptRanges", laid_unicode_utf8_acceptRanges), ("unicode/utf8.first", laid_unicode_utf8_first)] }
def ChunksPlacesSaid : Prop := chunksPlacesRow.holds Tryz.pinned (OpenSpec.ofChange chunksPlacesSpec)

/-- ITS FALSE NEIGHBOUR: 'it returns false'. Refute it at one input. -/
def chunksPlacesWrong : ChangeSpec := { name := "chunksPlaces", fn := fun _ => fun
  | [d1, d2] => { results := [.lit (.bool false)], args := [d1, d2] }
  | _ => none }
def ChunksPlacesWrongFalsely : Prop := chunksPlacesRow.holds Tryz.pinned (OpenSpec.ofChange chunksPlacesWrong)

/-- 'vellumlaw17.ChunksString': WHATEVER THE INPUT: true; the input reads as it did. -/
def chunksStringSpec : ChangeSpec := { name := "chunksString", fn := fun _ => fun
  | [d] => { results := [.lit (.bool true)], args := [d] }
  | _ => none }
def chunksStringRow : OpenClaim := { program := "ytgajmgkhlkghjaagreatdoor", sum := "bce386cacaa1bc77dcb9bceb631825fc746507d9bbf405ca3222ff06357435f1", func := "vellum/vellumlaw17.ChunksString", spec := "chunksString", inPlace := ["slices.overlaps[vellum/chunks.part]", "internal/abi.NoEscape"], unfollowed := true, recurses := true, named := ["unicode/utf8.first", "unicode/utf8.acceptRanges"], apart := false, laid := [("unicode/utf8.acceptRanges", laid_unicode_utf8_acceptRanges), ("unicode/utf8.first", laid_unicode_utf8_first)] }
def ChunksStringSaid : Prop := chunksStringRow.holds Tryz.pinned (OpenSpec.ofChange chunksStringSpec)

/-- ITS FALSE NEIGHBOUR: 'it returns false'. Refute it at one input. -/
def chunksStringWrong : ChangeSpec := { name := "chunksString", fn := fun _ => fun
  | [d] => { results := [.lit (.bool false)], args := [d] }
  | _ => none }
def ChunksStringWrongFalsely : Prop := chunksStringRow.holds Tryz.pinned (OpenSpec.ofChange chunksStringWrong)

/- THE SECOND FORM. 'bulk': how many values and letters a reading holds, each counted each time it is reached (what is shared counts as often as it is met; a slice's spare places count too). A statement '..UptoSaid' is the law's where the arguments, and the package variables that the reading takes, are together of bulk at most 1048576: NARROWER than '..Said'. Prove '..Said' where nothing that the law and all that it calls make is longer than what came in: it says more and counts as full. Else prove '..UptoSaid'. A law counts once. -/
mutual
def uptoBulk {H : Type} : DataW H → Nat
  | .lit (.string bytes) => bytes.length + 1
  | .lit _ => 1
  | .nil => 1
  | .ptr d => uptoBulk d + 1
  | .slice elems spare => uptoBulkAll elems + uptoBulkAll spare + 1
  | .agg parts => uptoBulkAll parts + 1
  | .iface _ d => uptoBulk d + 1
  | .map entries => uptoBulkEntries entries + 1
  | .held _ => 1
def uptoBulkAll {H : Type} : List (DataW H) → Nat
  | [] => 0
  | d :: r => uptoBulk d + uptoBulkAll r
def uptoBulkEntries {H : Type} : List (Lit × DataW H) → Nat
  | [] => 0
  | x :: r => uptoBulkEntry x + uptoBulkEntries r
def uptoBulkEntry {H : Type} : Lit × DataW H → Nat
  | (.string bytes, d) => bytes.length + uptoBulk d + 1
  | (_, d) => uptoBulk d + 1
 end
def uptoSmall : (H : Type) → List (DataW H) → Bool := fun _ ds => decide (uptoBulkAll ds ≤ 1048576)
def OpenSpec.upto (s : _root_.Go.ChangeSpec) : _root_.Go.OpenSpec := { _root_.Go.OpenSpec.ofChange s with cond := some uptoSmall }

/-- 'vellumlaw17.ChunksTwo', WHERE WHAT IT READS IS OF BULK AT MOST 1048576: true; the input reads as it did. -/
def chunksTwoUptoRow : OpenClaim := { program := "ytgajmgkhlkghjaagreatdoor", sum := "bce386cacaa1bc77dcb9bceb631825fc746507d9bbf405ca3222ff06357435f1", func := "vellum/vellumlaw17.ChunksTwo", spec := "chunksTwo", inPlace := ["slices.overlaps[vellum/chunks.part]", "internal/abi.NoEscape"], unfollowed := true, recurses := true, named := ["unicode/utf8.first", "unicode/utf8.acceptRanges"], apart := false, laid := [("unicode/utf8.acceptRanges", laid_unicode_utf8_acceptRanges), ("unicode/utf8.first", laid_unicode_utf8_first)], narrowed := true }
def ChunksTwoUptoSaid : Prop := chunksTwoUptoRow.holds Tryz.pinned (OpenSpec.upto chunksTwoSpec)

/-- 'vellumlaw17.ChunksNames', WHERE WHAT IT READS IS OF BULK AT MOST 1048576: true; the input reads as it did. -/
def chunksNamesUptoRow : OpenClaim := { program := "ytgajmgkhlkghjaagreatdoor", sum := "bce386cacaa1bc77dcb9bceb631825fc746507d9bbf405ca3222ff06357435f1", func := "vellum/vellumlaw17.ChunksNames", spec := "chunksNames", inPlace := ["slices.overlaps[vellum/chunks.part]", "internal/abi.NoEscape"], unfollowed := true, recurses := true, named := ["unicode/utf8.first", "unicode/utf8.acceptRanges"], apart := false, laid := [("unicode/utf8.acceptRanges", laid_unicode_utf8_acceptRanges), ("unicode/utf8.first", laid_unicode_utf8_first)], narrowed := true }
def ChunksNamesUptoSaid : Prop := chunksNamesUptoRow.holds Tryz.pinned (OpenSpec.upto chunksNamesSpec)

/-- 'vellumlaw17.ChunksPlaces', WHERE WHAT IT READS IS OF BULK AT MOST 1048576: true; the input reads as it did. -/
def chunksPlacesUptoRow : OpenClaim := { program := "ytgajmgkhlkghjaagreatdoor", sum := "bce386cacaa1bc77dcb9bceb631825fc746507d9bbf405ca3222ff06357435f1", func := "vellum/vellumlaw17.ChunksPlaces", spec := "chunksPlaces", inPlace := ["slices.overlaps[vellum/chunks.part]", "internal/abi.NoEscape"], unfollowed := true, recurses := true, named := ["unicode/utf8.first", "unicode/utf8.acceptRanges"], apart := false, laid := [("unicode/utf8.acceptRanges", laid_unicode_utf8_acceptRanges), ("unicode/utf8.first", laid_unicode_utf8_first)], narrowed := true }
def ChunksPlacesUptoSaid : Prop := chunksPlacesUptoRow.holds Tryz.pinned (OpenSpec.upto chunksPlacesSpec)

/-- 'vellumlaw17.ChunksString', WHERE WHAT IT READS IS OF BULK AT MOST 1048576: true; the input reads as it did. -/
def chunksStringUptoRow : OpenClaim := { program := "ytgajmgkhlkghjaagreatdoor", sum := "bce386cacaa1bc77dcb9bceb631825fc746507d9bbf405ca3222ff06357435f1", func := "vellum/vellumlaw17.ChunksString", spec := "chunksString", inPlace := ["slices.overlaps[vellum/chunks.part]", "internal/abi.NoEscape"], unfollowed := true, recurses := true, named := ["unicode/utf8.first", "unicode/utf8.acceptRanges"], apart := false, laid := [("unicode/utf8.acceptRanges", laid_unicode_utf8_acceptRanges), ("unicode/utf8.first", laid_unicode_utf8_first)], narrowed := true }
def ChunksStringUptoSaid : Prop := chunksStringUptoRow.holds Tryz.pinned (OpenSpec.upto chunksStringSpec)

end Rows
end Go.Proofs.YtgajmgkhlkghjaaGreatDoor
