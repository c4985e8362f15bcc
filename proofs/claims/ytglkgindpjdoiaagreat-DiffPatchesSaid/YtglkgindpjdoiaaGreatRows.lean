/-
  No cell of these rows narrows 'for every input' (looked for: loops, veiled, ifaces, maps, wideKeys, modest, calm, conditions, laid).
  DERIVED. THE GIVEN ROWS OF THIS SEAT. 5 by the template 'for every input the law returns true; each argument reads behind the call as it read before'; 0 by the template 'total and deterministic' (their statements: YtglkgindpjdoiaaGreatTotals.lean).
  GIVEN WITH THE SEED: the statements are not yours to turn. If you find one false, say at which input.
  Laid BY PROGRAM, IN A SANDBOX (cutbox-rows.mjs): the forced cells as the released guide's own fill.sh prints them over the translation 3ea1b7384f80cec5… (all of the seat's roots in one cut). By AI agents, Wed Nov 11 2026. No macro, syntax, notation, axiom, sorry.
-/
import Derived.Test.YtglkgindpjdoiaaGreatChecked
import GoSem.Claim
import GoSem.ClaimJoined
import GoSem.ClaimMapViews
import Derived.JoinedTies
import Derived.KernelRfl
namespace Go.Proofs.YtglkgindpjdoiaaGreat
/- THE CELL 'sum', in the pinned program and in every row, IS THE sha256 OF THE DUMP (.gsa) THAT YtglkgindpjdoiaaGreatProg.lean LOADS. Nothing in Lean hashes anything: it is a label: what it is worth is what the hold of that sum in a sandbox is worth. -/
noncomputable def Tryz.pinned : Pinned := { name := "ytglkgindpjdoiaagreat", sum := "3ea1b7384f80cec54a4ce8f467b06f8b8927343e9a703f7f50686bda29bddb6c", checked := Tryz.checked }
namespace Rows
def none {H : Type} : Left H := { results := [], args := [] }

/-- 'parterrelaw11.SketchFaces': WHATEVER THE INPUT: true; the input reads as it did. -/
def sketchFacesSpec : ChangeSpec := { name := "sketchFaces", fn := fun _ => fun
  | [d1, d2, d3, d4] => { results := [.lit (.bool true)], args := [d1, d2, d3, d4] }
  | _ => none }
def sketchFacesRow : OpenClaim := { program := "ytglkgindpjdoiaagreat", sum := "3ea1b7384f80cec54a4ce8f467b06f8b8927343e9a703f7f50686bda29bddb6c", func := "parterre/parterrelaw11.SketchFaces", spec := "sketchFaces", inPlace := ["slices.overlaps[uint32]", "slices.overlaps[[]uint32]", "slices.overlaps[parterre/api.Edge]"], unfollowed := true, recurses := true, apart := false }
def SketchFacesSaid : Prop := sketchFacesRow.holds Tryz.pinned (OpenSpec.ofChange sketchFacesSpec)

/-- ITS FALSE NEIGHBOUR: 'it returns false'. Refute it at one input. -/
def sketchFacesWrong : ChangeSpec := { name := "sketchFaces", fn := fun _ => fun
  | [d1, d2, d3, d4] => { results := [.lit (.bool false)], args := [d1, d2, d3, d4] }
  | _ => none }
def SketchFacesWrongFalsely : Prop := sketchFacesRow.holds Tryz.pinned (OpenSpec.ofChange sketchFacesWrong)

/-- 'parterrelaw11.SketchUndoes': WHATEVER THE INPUT: true; the input reads as it did. -/
def sketchUndoesSpec : ChangeSpec := { name := "sketchUndoes", fn := fun _ => fun
  | [d1, d2] => { results := [.lit (.bool true)], args := [d1, d2] }
  | _ => none }
def sketchUndoesRow : OpenClaim := { program := "ytglkgindpjdoiaagreat", sum := "3ea1b7384f80cec54a4ce8f467b06f8b8927343e9a703f7f50686bda29bddb6c", func := "parterre/parterrelaw11.SketchUndoes", spec := "sketchUndoes", inPlace := ["slices.overlaps[uint32]", "slices.overlaps[[]uint32]", "slices.overlaps[parterre/api.Edge]"], unfollowed := true, recurses := true, apart := false }
def SketchUndoesSaid : Prop := sketchUndoesRow.holds Tryz.pinned (OpenSpec.ofChange sketchUndoesSpec)

/-- ITS FALSE NEIGHBOUR: 'it returns false'. Refute it at one input. -/
def sketchUndoesWrong : ChangeSpec := { name := "sketchUndoes", fn := fun _ => fun
  | [d1, d2] => { results := [.lit (.bool false)], args := [d1, d2] }
  | _ => none }
def SketchUndoesWrongFalsely : Prop := sketchUndoesRow.holds Tryz.pinned (OpenSpec.ofChange sketchUndoesWrong)

/-- 'parterrelaw17.DiffPatches': WHATEVER THE INPUT: true; the input reads as it did. -/
def diffPatchesSpec : ChangeSpec := { name := "diffPatches", fn := fun _ => fun
  | [d1, d2] => { results := [.lit (.bool true)], args := [d1, d2] }
  | _ => none }
def diffPatchesRow : OpenClaim := { program := "ytglkgindpjdoiaagreat", sum := "3ea1b7384f80cec54a4ce8f467b06f8b8927343e9a703f7f50686bda29bddb6c", func := "parterre/parterrelaw17.DiffPatches", spec := "diffPatches", inPlace := ["slices.overlaps[uint32]", "slices.overlaps[[]uint32]", "slices.overlaps[parterre/api.Edge]"], unfollowed := true, recurses := true, apart := false }
def DiffPatchesSaid : Prop := diffPatchesRow.holds Tryz.pinned (OpenSpec.ofChange diffPatchesSpec)

/-- ITS FALSE NEIGHBOUR: 'it returns false'. Refute it at one input. -/
def diffPatchesWrong : ChangeSpec := { name := "diffPatches", fn := fun _ => fun
  | [d1, d2] => { results := [.lit (.bool false)], args := [d1, d2] }
  | _ => none }
def DiffPatchesWrongFalsely : Prop := diffPatchesRow.holds Tryz.pinned (OpenSpec.ofChange diffPatchesWrong)

/-- 'parterrelaw17.DiffShort': WHATEVER THE INPUT: true; the input reads as it did. -/
def diffShortSpec : ChangeSpec := { name := "diffShort", fn := fun _ => fun
  | [d1, d2, d3] => { results := [.lit (.bool true)], args := [d1, d2, d3] }
  | _ => none }
def diffShortRow : OpenClaim := { program := "ytglkgindpjdoiaagreat", sum := "3ea1b7384f80cec54a4ce8f467b06f8b8927343e9a703f7f50686bda29bddb6c", func := "parterre/parterrelaw17.DiffShort", spec := "diffShort", inPlace := ["slices.overlaps[uint32]", "slices.overlaps[[]uint32]", "slices.overlaps[parterre/api.Edge]"], unfollowed := true, recurses := true, apart := false }
def DiffShortSaid : Prop := diffShortRow.holds Tryz.pinned (OpenSpec.ofChange diffShortSpec)

/-- ITS FALSE NEIGHBOUR: 'it returns false'. Refute it at one input. -/
def diffShortWrong : ChangeSpec := { name := "diffShort", fn := fun _ => fun
  | [d1, d2, d3] => { results := [.lit (.bool false)], args := [d1, d2, d3] }
  | _ => none }
def DiffShortWrongFalsely : Prop := diffShortRow.holds Tryz.pinned (OpenSpec.ofChange diffShortWrong)

/-- 'parterrelaw17.DiffTwice': WHATEVER THE INPUT: true; the input reads as it did. -/
def diffTwiceSpec : ChangeSpec := { name := "diffTwice", fn := fun _ => fun
  | [d1, d2, d3] => { results := [.lit (.bool true)], args := [d1, d2, d3] }
  | _ => none }
def diffTwiceRow : OpenClaim := { program := "ytglkgindpjdoiaagreat", sum := "3ea1b7384f80cec54a4ce8f467b06f8b8927343e9a703f7f50686bda29bddb6c", func := "parterre/parterrelaw17.DiffTwice", spec := "diffTwice", inPlace := ["slices.overlaps[uint32]", "slices.overlaps[[]uint32]", "slices.overlaps[parterre/api.Edge]"], unfollowed := true, recurses := true, apart := false }
def DiffTwiceSaid : Prop := diffTwiceRow.holds Tryz.pinned (OpenSpec.ofChange diffTwiceSpec)

/-- ITS FALSE NEIGHBOUR: 'it returns false'. Refute it at one input. -/
def diffTwiceWrong : ChangeSpec := { name := "diffTwice", fn := fun _ => fun
  | [d1, d2, d3] => { results := [.lit (.bool false)], args := [d1, d2, d3] }
  | _ => none }
def DiffTwiceWrongFalsely : Prop := diffTwiceRow.holds Tryz.pinned (OpenSpec.ofChange diffTwiceWrong)

/- THE SECOND FORM. 'bulk': how many values and letters a reading holds, each counted each time it is reached (what is shared counts as often as it is met; a slice's spare places count too). A statement '..UptoSaid' is the law's where the arguments, and the package variables that the reading takes, are together of bulk at most 1048576: NARROWER than '..Said'. Prove '..Said' where nothing that the law and all that it calls make is longer than what came in: it says more and counts as full. Else prove '..UptoSaid'. A law counts once. -/
mutual
def uptoBulk {H : Type} : DataW H → Nat
  | .lit (.string bytes) => bytes.length + 1
  | .lit _ => 1
  | .nil => 1
  | .ptr d => uptoBulk d + 1
  | .slice elems spare => uptoBulkAll elems + uptoBulkAll spare + 1
  | .agg parts => uptoBulkAll parts + 1
  | .iface _ d => uptoBulk d + 1
  | .map entries => uptoBulkEntries entries + 1
  | .held _ => 1
def uptoBulkAll {H : Type} : List (DataW H) → Nat
  | [] => 0
  | d :: r => uptoBulk d + uptoBulkAll r
def uptoBulkEntries {H : Type} : List (Lit × DataW H) → Nat
  | [] => 0
  | x :: r => uptoBulkEntry x + uptoBulkEntries r
def uptoBulkEntry {H : Type} : Lit × DataW H → Nat
  | (.string bytes, d) => bytes.length + uptoBulk d + 1
  | (_, d) => uptoBulk d + 1
 end
def uptoSmall : (H : Type) → List (DataW H) → Bool := fun _ ds => decide (uptoBulkAll ds ≤ 1048576)
def OpenSpec.upto (s : _root_.Go.ChangeSpec) : _root_.Go.OpenSpec := { _root_.Go.OpenSpec.ofChange s with cond := some uptoSmall }

/-- 'parterrelaw11.SketchFaces', WHERE WHAT IT READS IS OF BULK AT MOST 1048576: true; the input reads as it did. -/
def sketchFacesUptoRow : OpenClaim := { program := "ytglkgindpjdoiaagreat", sum := "3ea1b7384f80cec54a4ce8f467b06f8b8927343e9a703f7f50686bda29bddb6c", func := "parterre/parterrelaw11.SketchFaces", spec := "sketchFaces", inPlace := ["slices.overlaps[uint32]", "slices.overlaps[[]uint32]", "slices.overlaps[parterre/api.Edge]"], unfollowed := true, recurses := true, apart := false, narrowed := true }
def SketchFacesUptoSaid : Prop := sketchFacesUptoRow.holds Tryz.pinned (OpenSpec.upto sketchFacesSpec)

/-- 'parterrelaw11.SketchUndoes', WHERE WHAT IT READS IS OF BULK AT MOST 1048576: true; the input reads as it did. -/
def sketchUndoesUptoRow : OpenClaim := { program := "ytglkgindpjdoiaagreat", sum := "3ea1b7384f80cec54a4ce8f467b06f8b8927343e9a703f7f50686bda29bddb6c", func := "parterre/parterrelaw11.SketchUndoes", spec := "sketchUndoes", inPlace := ["slices.overlaps[uint32]", "slices.overlaps[[]uint32]", "slices.overlaps[parterre/api.Edge]"], unfollowed := true, recurses := true, apart := false, narrowed := true }
def SketchUndoesUptoSaid : Prop := sketchUndoesUptoRow.holds Tryz.pinned (OpenSpec.upto sketchUndoesSpec)

/-- 'parterrelaw17.DiffPatches', WHERE WHAT IT READS IS OF BULK AT MOST 1048576: true; the input reads as it did. -/
def diffPatchesUptoRow : OpenClaim := { program := "ytglkgindpjdoiaagreat", sum := "3ea1b7384f80cec54a4ce8f467b06f8b8927343e9a703f7f50686bda29bddb6c", func := "parterre/parterrelaw17.DiffPatches", spec := "diffPatches", inPlace := ["slices.overlaps[uint32]", "slices.overlaps[[]uint32]", "slices.overlaps[parterre/api.Edge]"], unfollowed := true, recurses := true, apart := false, narrowed := true }
def DiffPatchesUptoSaid : Prop := diffPatchesUptoRow.holds Tryz.pinned (OpenSpec.upto diffPatchesSpec)

/-- 'parterrelaw17.DiffShort', WHERE WHAT IT READS IS OF BULK AT MOST 1048576: true; the input reads as it did. -/
def diffShortUptoRow : OpenClaim := { program := "ytglkgindpjdoiaagreat", sum := "3ea1b7384f80cec54a4ce8f467b06f8b8927343e9a703f7f50686bda29bddb6c", func := "parterre/parterrelaw17.DiffShort", spec := "diffShort", inPlace := ["slices.overlaps[uint32]", "slices.overlaps[[]uint32]", "slices.overlaps[parterre/api.Edge]"], unfollowed := true, recurses := true, apart := false, narrowed := true }
def DiffShortUptoSaid : Prop := diffShortUptoRow.holds Tryz.pinned (OpenSpec.upto diffShortSpec)

/-- 'parterrelaw17.DiffTwice', WHERE WHAT IT READS IS OF BULK AT MOST 1048576: true; the input reads as it did. -/
def diffTwiceUptoRow : OpenClaim := { program := "ytglkgindpjdoiaagreat", sum := "3ea1b7384f80cec54a4ce8f467b06f8b8927343e9a703f7f50686bda29bddb6c", func := "parterre/parterrelaw17.DiffTwice", spec := "diffTwice", inPlace := ["slices.overlaps[uint32]", "slices.overlaps[[]uint32]", "slices.overlaps[parterre/api.Edge]"], unfollowed := true, recurses := true, apart := false, narrowed := true }
def DiffTwiceUptoSaid : Prop := diffTwiceUptoRow.holds Tryz.pinned (OpenSpec.upto diffTwiceSpec)

end Rows
end Go.Proofs.YtglkgindpjdoiaaGreat
