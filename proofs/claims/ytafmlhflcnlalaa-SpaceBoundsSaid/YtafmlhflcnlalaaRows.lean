/-
  No cell of these rows narrows 'for every input' (looked for: loops, veiled, ifaces, maps, wideKeys, modest, calm, conditions, laid).
  DERIVED. THE GIVEN ROWS OF THIS SEAT. 4 by the template 'for every input the law returns true; each argument reads behind the call as it read before'; 0 by the template 'total and deterministic' (their statements: YtafmlhflcnlalaaTotals.lean).
  GIVEN WITH THE SEED: the statements are not yours to turn. If you find one false, say at which input.
  Laid BY PROGRAM, IN A SANDBOX (cutbox-rows.mjs): the forced cells as the released guide's own fill.sh prints them over the translation bbf2ba3ad090c6b5… (all of the seat's roots in one cut). By AI agents, Wed Nov 11 2026. No macro, syntax, notation, axiom, sorry.
-/
import Derived.Test.YtafmlhflcnlalaaChecked
import GoSem.Claim
import GoSem.ClaimJoined
import GoSem.ClaimMapViews
import Derived.JoinedTies
import Derived.KernelRfl
namespace Go.Proofs.Ytafmlhflcnlalaa
/- THE CELL 'sum', in the pinned program and in every row, IS THE sha256 OF THE DUMP (.gsa) THAT YtafmlhflcnlalaaProg.lean LOADS. Nothing in Lean hashes anything: it is a label: what it is worth is what the hold of that sum in a sandbox is worth. -/
noncomputable def Try.pinned : Pinned := { name := "ytafmlhflcnlalaa", sum := "bbf2ba3ad090c6b504d133c0abdcdd53f54e3e345aa3a7bae7db66b51ca57ede", checked := Try.checked }
namespace Rows
def none {H : Type} : Left H := { results := [], args := [] }

/-- 'vellumlaw29.SpaceBounds': WHATEVER THE INPUT: true; the input reads as it did. -/
def spaceBoundsSpec : ChangeSpec := { name := "spaceBounds", fn := fun _ => fun
  | [d1, d2] => { results := [.lit (.bool true)], args := [d1, d2] }
  | _ => none }
def spaceBoundsRow : OpenClaim := { program := "ytafmlhflcnlalaa", sum := "bbf2ba3ad090c6b504d133c0abdcdd53f54e3e345aa3a7bae7db66b51ca57ede", func := "vellum/vellumlaw29.SpaceBounds", spec := "spaceBounds", apart := false }
def SpaceBoundsSaid : Prop := spaceBoundsRow.holds Try.pinned (OpenSpec.ofChange spaceBoundsSpec)

/-- ITS FALSE NEIGHBOUR: 'it returns false'. Refute it at one input. -/
def spaceBoundsWrong : ChangeSpec := { name := "spaceBounds", fn := fun _ => fun
  | [d1, d2] => { results := [.lit (.bool false)], args := [d1, d2] }
  | _ => none }
def SpaceBoundsWrongFalsely : Prop := spaceBoundsRow.holds Try.pinned (OpenSpec.ofChange spaceBoundsWrong)

/-- 'vellumlaw29.SpaceLeast': WHATEVER THE INPUT: true; the input reads as it did. -/
def spaceLeastSpec : ChangeSpec := { name := "spaceLeast", fn := fun _ => fun
  | [d] => { results := [.lit (.bool true)], args := [d] }
  | _ => none }
def spaceLeastRow : OpenClaim := { program := "ytafmlhflcnlalaa", sum := "bbf2ba3ad090c6b504d133c0abdcdd53f54e3e345aa3a7bae7db66b51ca57ede", func := "vellum/vellumlaw29.SpaceLeast", spec := "spaceLeast", apart := false }
def SpaceLeastSaid : Prop := spaceLeastRow.holds Try.pinned (OpenSpec.ofChange spaceLeastSpec)

/-- ITS FALSE NEIGHBOUR: 'it returns false'. Refute it at one input. -/
def spaceLeastWrong : ChangeSpec := { name := "spaceLeast", fn := fun _ => fun
  | [d] => { results := [.lit (.bool false)], args := [d] }
  | _ => none }
def SpaceLeastWrongFalsely : Prop := spaceLeastRow.holds Try.pinned (OpenSpec.ofChange spaceLeastWrong)

/-- 'vellumlaw29.SpaceRises': WHATEVER THE INPUT: true; the input reads as it did. -/
def spaceRisesSpec : ChangeSpec := { name := "spaceRises", fn := fun _ => fun
  | [d1, d2] => { results := [.lit (.bool true)], args := [d1, d2] }
  | _ => none }
def spaceRisesRow : OpenClaim := { program := "ytafmlhflcnlalaa", sum := "bbf2ba3ad090c6b504d133c0abdcdd53f54e3e345aa3a7bae7db66b51ca57ede", func := "vellum/vellumlaw29.SpaceRises", spec := "spaceRises", apart := false }
def SpaceRisesSaid : Prop := spaceRisesRow.holds Try.pinned (OpenSpec.ofChange spaceRisesSpec)

/-- ITS FALSE NEIGHBOUR: 'it returns false'. Refute it at one input. -/
def spaceRisesWrong : ChangeSpec := { name := "spaceRises", fn := fun _ => fun
  | [d1, d2] => { results := [.lit (.bool false)], args := [d1, d2] }
  | _ => none }
def SpaceRisesWrongFalsely : Prop := spaceRisesRow.holds Try.pinned (OpenSpec.ofChange spaceRisesWrong)

/-- 'vellumlaw29.SpaceSizes': WHATEVER THE INPUT: true; the input reads as it did. -/
def spaceSizesSpec : ChangeSpec := { name := "spaceSizes", fn := fun _ => fun
  | [d1, d2] => { results := [.lit (.bool true)], args := [d1, d2] }
  | _ => none }
def spaceSizesRow : OpenClaim := { program := "ytafmlhflcnlalaa", sum := "bbf2ba3ad090c6b504d133c0abdcdd53f54e3e345aa3a7bae7db66b51ca57ede", func := "vellum/vellumlaw29.SpaceSizes", spec := "spaceSizes", apart := false }
def SpaceSizesSaid : Prop := spaceSizesRow.holds Try.pinned (OpenSpec.ofChange spaceSizesSpec)

/-- ITS FALSE NEIGHBOUR: 'it returns false'. Refute it at one input. -/
def spaceSizesWrong : ChangeSpec := { name := "spaceSizes", fn := fun _ => fun
  | [d1, d2] => { results := [.lit (.bool false)], args := [d1, d2] }
  | _ => none }
def SpaceSizesWrongFalsely : Prop := spaceSizesRow.holds Try.pinned (OpenSpec.ofChange spaceSizesWrong)

/- THE SECOND FORM. 'bulk': how many values and letters a reading holds, each counted each time it is reached (what is shared counts as often as it is met; a slice's spare places count too). A statement '..UptoSaid' is the law's where the arguments, and the package variables that the reading takes, are together of bulk at most 1048576: NARROWER than '..Said'. Prove '..Said' where nothing that the law and all that it calls make is longer than what came in: it says more and counts as full. Else prove '..UptoSaid'. A law counts once. -/
mutual
def uptoBulk {H : Type} : DataW H → Nat
  | .lit (.string bytes) => bytes.length + 1
  | .lit _ => 1
  | .nil => 1
  | .ptr d => uptoBulk d + 1
  | .slice elems spare => uptoBulkAll elems + uptoBulkAll spare + 1
  | .agg parts => uptoBulkAll parts + 1
  | .iface _ d => uptoBulk d + 1
  | .map entries => uptoBulkEntries entries + 1
  | .held _ => 1
def uptoBulkAll {H : Type} : List (DataW H) → Nat
  | [] => 0
  | d :: r => uptoBulk d + uptoBulkAll r
def uptoBulkEntries {H : Type} : List (Lit × DataW H) → Nat
  | [] => 0
  | x :: r => uptoBulkEntry x + uptoBulkEntries r
def uptoBulkEntry {H : Type} : Lit × DataW H → Nat
  | (.string bytes, d) => bytes.length + uptoBulk d + 1
  | (_, d) => uptoBulk d + 1
 end
def uptoSmall : (H : Type) → List (DataW H) → Bool := fun _ ds => decide (uptoBulkAll ds ≤ 1048576)
def OpenSpec.upto (s : _root_.Go.ChangeSpec) : _root_.Go.OpenSpec := { _root_.Go.OpenSpec.ofChange s with cond := some uptoSmall }

/-- 'vellumlaw29.SpaceBounds', WHERE WHAT IT READS IS OF BULK AT MOST 1048576: true; the input reads as it did. -/
def spaceBoundsUptoRow : OpenClaim := { program := "ytafmlhflcnlalaa", sum := "bbf2ba3ad090c6b504d133c0abdcdd53f54e3e345aa3a7bae7db66b51ca57ede", func := "vellum/vellumlaw29.SpaceBounds", spec := "spaceBounds", apart := false, narrowed := true }
def SpaceBoundsUptoSaid : Prop := spaceBoundsUptoRow.holds Try.pinned (OpenSpec.upto spaceBoundsSpec)

/-- 'vellumlaw29.SpaceLeast', WHERE WHAT IT READS IS OF BULK AT MOST 1048576: true; the input reads as it did. -/
def spaceLeastUptoRow : OpenClaim := { program := "ytafmlhflcnlalaa", sum := "bbf2ba3ad090c6b504d133c0abdcdd53f54e3e345aa3a7bae7db66b51ca57ede", func := "vellum/vellumlaw29.SpaceLeast", spec := "spaceLeast", apart := false, narrowed := true }
def SpaceLeastUptoSaid : Prop := spaceLeastUptoRow.holds Try.pinned (OpenSpec.upto spaceLeastSpec)

/-- 'vellumlaw29.SpaceRises', WHERE WHAT IT READS IS OF BULK AT MOST 1048576: true; the input reads as it did. -/
def spaceRisesUptoRow : OpenClaim := { program := "ytafmlhflcnlalaa", sum := "bbf2ba3ad090c6b504d133c0abdcdd53f54e3e345aa3a7bae7db66b51ca57ede", func := "vellum/vellumlaw29.SpaceRises", spec := "spaceRises", apart := false, narrowed := true }
def SpaceRisesUptoSaid : Prop := spaceRisesUptoRow.holds Try.pinned (OpenSpec.upto spaceRisesSpec)

/-- 'vellumlaw29.SpaceSizes', WHERE WHAT IT READS IS OF BULK AT MOST 1048576: true; the input reads as it did. -/
def spaceSizesUptoRow : OpenClaim := { program := "ytafmlhflcnlalaa", sum := "bbf2ba3ad090c6b504d133c0abdcdd53f54e3e345aa3a7bae7db66b51ca57ede", func := "vellum/vellumlaw29.SpaceSizes", spec := "spaceSizes", apart := false, narrowed := true }
def SpaceSizesUptoSaid : Prop := spaceSizesUptoRow.holds Try.pinned (OpenSpec.upto spaceSizesSpec)

end Rows
end Go.Proofs.Ytafmlhflcnlalaa
