/-
  No cell of these rows narrows 'for every input' (looked for: loops, veiled, ifaces, maps, wideKeys, modest, calm, conditions, laid).
  DERIVED. THE GIVEN ROWS OF THIS SEAT. 10 by the template 'for every input the law returns true; each argument reads behind the call as it read before'; 0 by the template 'total and deterministic' (their statements: YtjpnhjembncdkaaGreatTotals.lean).
  GIVEN WITH THE SEED: the statements are not yours to turn. If you find one false, say at which input.
  Laid BY PROGRAM, IN A SANDBOX (cutbox-rows.mjs): the forced cells as the released guide's own fill.sh prints them over the translation b48a6d7bfe9488a5… (all of the seat's roots in one cut). By AI agents, Wed Nov 11 2026. No macro, syntax, notation, axiom, sorry.
-/
import Derived.Test.YtjpnhjembncdkaaGreatChecked
import GoSem.Claim
import GoSem.ClaimJoined
import GoSem.ClaimMapViews
import Derived.JoinedTies
import Derived.KernelRfl
namespace Go.Proofs.YtjpnhjembncdkaaGreat
/- THE CELL 'sum', in the pinned program and in every row, IS THE sha256 OF THE DUMP (.gsa) THAT YtjpnhjembncdkaaGreatProg.lean LOADS. Nothing in Lean hashes anything: it is a label: what it is worth is what the hold of that sum in a sandbox is worth. -/
noncomputable def Tryz.pinned : Pinned := { name := "ytjpnhjembncdkaagreat", sum := "b48a6d7bfe9488a53d82c612d719ee42920497ff566ca61b6a715cc5af126663", checked := Tryz.checked }
namespace Rows
def none {H : Type} : Left H := { results := [], args := [] }

/-- 'parterrelaw13.BlockApart': WHATEVER THE INPUT: true; the input reads as it did. -/
def blockApartSpec : ChangeSpec := { name := "blockApart", fn := fun _ => fun
  | [d] => { results := [.lit (.bool true)], args := [d] }
  | _ => none }
def blockApartRow : OpenClaim := { program := "ytjpnhjembncdkaagreat", sum := "b48a6d7bfe9488a53d82c612d719ee42920497ff566ca61b6a715cc5af126663", func := "parterre/parterrelaw13.BlockApart", spec := "blockApart", unfollowed := true, recurses := true, apart := false }
def BlockApartSaid : Prop := blockApartRow.holds Tryz.pinned (OpenSpec.ofChange blockApartSpec)

/-- ITS FALSE NEIGHBOUR: 'it returns false'. Refute it at one input. -/
def blockApartWrong : ChangeSpec := { name := "blockApart", fn := fun _ => fun
  | [d] => { results := [.lit (.bool false)], args := [d] }
  | _ => none }
def BlockApartWrongFalsely : Prop := blockApartRow.holds Tryz.pinned (OpenSpec.ofChange blockApartWrong)

/-- 'parterrelaw13.BlockCuts': WHATEVER THE INPUT: true; the input reads as it did. -/
def blockCutsSpec : ChangeSpec := { name := "blockCuts", fn := fun _ => fun
  | [d] => { results := [.lit (.bool true)], args := [d] }
  | _ => none }
def blockCutsRow : OpenClaim := { program := "ytjpnhjembncdkaagreat", sum := "b48a6d7bfe9488a53d82c612d719ee42920497ff566ca61b6a715cc5af126663", func := "parterre/parterrelaw13.BlockCuts", spec := "blockCuts", unfollowed := true, recurses := true, apart := false }
def BlockCutsSaid : Prop := blockCutsRow.holds Tryz.pinned (OpenSpec.ofChange blockCutsSpec)

/-- ITS FALSE NEIGHBOUR: 'it returns false'. Refute it at one input. -/
def blockCutsWrong : ChangeSpec := { name := "blockCuts", fn := fun _ => fun
  | [d] => { results := [.lit (.bool false)], args := [d] }
  | _ => none }
def BlockCutsWrongFalsely : Prop := blockCutsRow.holds Tryz.pinned (OpenSpec.ofChange blockCutsWrong)

/-- 'parterrelaw11.SketchFaces': WHATEVER THE INPUT: true; the input reads as it did. -/
def sketchFacesSpec : ChangeSpec := { name := "sketchFaces", fn := fun _ => fun
  | [d1, d2, d3, d4] => { results := [.lit (.bool true)], args := [d1, d2, d3, d4] }
  | _ => none }
def sketchFacesRow : OpenClaim := { program := "ytjpnhjembncdkaagreat", sum := "b48a6d7bfe9488a53d82c612d719ee42920497ff566ca61b6a715cc5af126663", func := "parterre/parterrelaw11.SketchFaces", spec := "sketchFaces", inPlace := ["slices.overlaps[uint32]", "slices.overlaps[[]uint32]", "slices.overlaps[parterre/api.Edge]"], unfollowed := true, recurses := true, apart := false }
def SketchFacesSaid : Prop := sketchFacesRow.holds Tryz.pinned (OpenSpec.ofChange sketchFacesSpec)

/-- ITS FALSE NEIGHBOUR: 'it returns false'. Refute it at one input. -/
def sketchFacesWrong : ChangeSpec := { name := "sketchFaces", fn := fun _ => fun
  | [d1, d2, d3, d4] => { results := [.lit (.bool false)], args := [d1, d2, d3, d4] }
  | _ => none }
def SketchFacesWrongFalsely : Prop := sketchFacesRow.holds Tryz.pinned (OpenSpec.ofChange sketchFacesWrong)

/-- 'parterrelaw11.SketchUndoes': WHATEVER THE INPUT: true; the input reads as it did. -/
def sketchUndoesSpec : ChangeSpec := { name := "sketchUndoes", fn := fun _ => fun
  | [d1, d2] => { results := [.lit (.bool true)], args := [d1, d2] }
  | _ => none }
def sketchUndoesRow : OpenClaim := { program := "ytjpnhjembncdkaagreat", sum := "b48a6d7bfe9488a53d82c612d719ee42920497ff566ca61b6a715cc5af126663", func := "parterre/parterrelaw11.SketchUndoes", spec := "sketchUndoes", inPlace := ["slices.overlaps[uint32]", "slices.overlaps[[]uint32]", "slices.overlaps[parterre/api.Edge]"], unfollowed := true, recurses := true, apart := false }
def SketchUndoesSaid : Prop := sketchUndoesRow.holds Tryz.pinned (OpenSpec.ofChange sketchUndoesSpec)

/-- ITS FALSE NEIGHBOUR: 'it returns false'. Refute it at one input. -/
def sketchUndoesWrong : ChangeSpec := { name := "sketchUndoes", fn := fun _ => fun
  | [d1, d2] => { results := [.lit (.bool false)], args := [d1, d2] }
  | _ => none }
def SketchUndoesWrongFalsely : Prop := sketchUndoesRow.holds Tryz.pinned (OpenSpec.ofChange sketchUndoesWrong)

/-- 'parterrelaw17.DiffTells': WHATEVER THE INPUT: true; the input reads as it did. -/
def diffTellsSpec : ChangeSpec := { name := "diffTells", fn := fun _ => fun
  | [d1, d2] => { results := [.lit (.bool true)], args := [d1, d2] }
  | _ => none }
def diffTellsRow : OpenClaim := { program := "ytjpnhjembncdkaagreat", sum := "b48a6d7bfe9488a53d82c612d719ee42920497ff566ca61b6a715cc5af126663", func := "parterre/parterrelaw17.DiffTells", spec := "diffTells", inPlace := ["slices.overlaps[uint32]", "slices.overlaps[[]uint32]", "slices.overlaps[parterre/api.Edge]"], unfollowed := true, recurses := true, apart := false }
def DiffTellsSaid : Prop := diffTellsRow.holds Tryz.pinned (OpenSpec.ofChange diffTellsSpec)

/-- ITS FALSE NEIGHBOUR: 'it returns false'. Refute it at one input. -/
def diffTellsWrong : ChangeSpec := { name := "diffTells", fn := fun _ => fun
  | [d1, d2] => { results := [.lit (.bool false)], args := [d1, d2] }
  | _ => none }
def DiffTellsWrongFalsely : Prop := diffTellsRow.holds Tryz.pinned (OpenSpec.ofChange diffTellsWrong)

/-- 'parterrelaw17.DiffPatches': WHATEVER THE INPUT: true; the input reads as it did. -/
def diffPatchesSpec : ChangeSpec := { name := "diffPatches", fn := fun _ => fun
  | [d1, d2] => { results := [.lit (.bool true)], args := [d1, d2] }
  | _ => none }
def diffPatchesRow : OpenClaim := { program := "ytjpnhjembncdkaagreat", sum := "b48a6d7bfe9488a53d82c612d719ee42920497ff566ca61b6a715cc5af126663", func := "parterre/parterrelaw17.DiffPatches", spec := "diffPatches", inPlace := ["slices.overlaps[uint32]", "slices.overlaps[[]uint32]", "slices.overlaps[parterre/api.Edge]"], unfollowed := true, recurses := true, apart := false }
def DiffPatchesSaid : Prop := diffPatchesRow.holds Tryz.pinned (OpenSpec.ofChange diffPatchesSpec)

/-- ITS FALSE NEIGHBOUR: 'it returns false'. Refute it at one input. -/
def diffPatchesWrong : ChangeSpec := { name := "diffPatches", fn := fun _ => fun
  | [d1, d2] => { results := [.lit (.bool false)], args := [d1, d2] }
  | _ => none }
def DiffPatchesWrongFalsely : Prop := diffPatchesRow.holds Tryz.pinned (OpenSpec.ofChange diffPatchesWrong)

/-- 'parterrelaw17.DiffShort': WHATEVER THE INPUT: true; the input reads as it did. -/
def diffShortSpec : ChangeSpec := { name := "diffShort", fn := fun _ => fun
  | [d1, d2, d3] => { results := [.lit (.bool true)], args := [d1, d2, d3] }
  | _ => none }
def diffShortRow : OpenClaim := { program := "ytjpnhjembncdkaagreat", sum := "b48a6d7bfe9488a53d82c612d719ee42920497ff566ca61b6a715cc5af126663", func := "parterre/parterrelaw17.DiffShort", spec := "diffShort", inPlace := ["slices.overlaps[uint32]", "slices.overlaps[[]uint32]", "slices.overlaps[parterre/api.Edge]"], unfollowed := true, recurses := true, apart := false }
def DiffShortSaid : Prop := diffShortRow.holds Tryz.pinned (OpenSpec.ofChange diffShortSpec)

/-- ITS FALSE NEIGHBOUR: 'it returns false'. Refute it at one input. -/
def diffShortWrong : ChangeSpec := { name := "diffShort", fn := fun _ => fun
  | [d1, d2, d3] => { results := [.lit (.bool false)], args := [d1, d2, d3] }
  | _ => none }
def DiffShortWrongFalsely : Prop := diffShortRow.holds Tryz.pinned (OpenSpec.ofChange diffShortWrong)

/-- 'parterrelaw17.DiffTwice': WHATEVER THE INPUT: true; the input reads as it did. -/
def diffTwiceSpec : ChangeSpec := { name := "diffTwice", fn := fun _ => fun
  | [d1, d2, d3] => { results := [.lit (.bool true)], args := [d1, d2, d3] }
  | _ => none }
def diffTwiceRow : OpenClaim := { program := "ytjpnhjembncdkaagreat", sum := "b48a6d7bfe9488a53d82c612d719ee42920497ff566ca61b6a715cc5af126663", func := "parterre/parterrelaw17.DiffTwice", spec := "diffTwice", inPlace := ["slices.overlaps[uint32]", "slices.overlaps[[]uint32]", "slices.overlaps[parterre/api.Edge]"], unfollowed := true, recurses := true, apart := false }
def DiffTwiceSaid : Prop := diffTwiceRow.holds Tryz.pinned (OpenSpec.ofChange diffTwiceSpec)

/-- ITS FALSE NEIGHBOUR: 'it returns false'. Refute it at one input. -/
def diffTwiceWrong : ChangeSpec := { name := "diffTwice", fn := fun _ => fun
  | [d1, d2, d3] => { results := [.lit (.bool false)], args := [d1, d2, d3] }
  | _ => none }
def DiffTwiceWrongFalsely : Prop := diffTwiceRow.holds Tryz.pinned (OpenSpec.ofChange diffTwiceWrong)

/-- 'parterrelaw33.CanonRenames': WHATEVER THE INPUT: true; the input reads as it did. -/
def canonRenamesSpec : ChangeSpec := { name := "canonRenames", fn := fun _ => fun
  | [d1, d2] => { results := [.lit (.bool true)], args := [d1, d2] }
  | _ => none }
def canonRenamesRow : OpenClaim := { program := "ytjpnhjembncdkaagreat", sum := "b48a6d7bfe9488a53d82c612d719ee42920497ff566ca61b6a715cc5af126663", func := "parterre/parterrelaw33.CanonRenames", spec := "canonRenames", unfollowed := true, recurses := true, apart := false }
def CanonRenamesSaid : Prop := canonRenamesRow.holds Tryz.pinned (OpenSpec.ofChange canonRenamesSpec)

/-- ITS FALSE NEIGHBOUR: 'it returns false'. Refute it at one input. -/
def canonRenamesWrong : ChangeSpec := { name := "canonRenames", fn := fun _ => fun
  | [d1, d2] => { results := [.lit (.bool false)], args := [d1, d2] }
  | _ => none }
def CanonRenamesWrongFalsely : Prop := canonRenamesRow.holds Tryz.pinned (OpenSpec.ofChange canonRenamesWrong)

/-- 'parterrelaw11.SketchBytes': WHATEVER THE INPUT: true; the input reads as it did. -/
def sketchBytesSpec : ChangeSpec := { name := "sketchBytes", fn := fun _ => fun
  | [d1, d2, d3] => { results := [.lit (.bool true)], args := [d1, d2, d3] }
  | _ => none }
def sketchBytesRow : OpenClaim := { program := "ytjpnhjembncdkaagreat", sum := "b48a6d7bfe9488a53d82c612d719ee42920497ff566ca61b6a715cc5af126663", func := "parterre/parterrelaw11.SketchBytes", spec := "sketchBytes", inPlace := ["slices.overlaps[uint32]", "slices.overlaps[[]uint32]", "slices.overlaps[parterre/api.Edge]", "internal/abi.NoEscape"], unfollowed := true, recurses := true, apart := false }
def SketchBytesSaid : Prop := sketchBytesRow.holds Tryz.pinned (OpenSpec.ofChange sketchBytesSpec)

/-- ITS FALSE NEIGHBOUR: 'it returns false'. Refute it at one input. -/
def sketchBytesWrong : ChangeSpec := { name := "sketchBytes", fn := fun _ => fun
  | [d1, d2, d3] => { results := [.lit (.bool false)], args := [d1, d2, d3] }
  | _ => none }
def SketchBytesWrongFalsely : Prop := sketchBytesRow.holds Tryz.pinned (OpenSpec.ofChange sketchBytesWrong)

/- THE SECOND FORM. 'bulk': how many values and letters a reading holds, each counted each time it is reached (what is shared counts as often as it is met; a slice's spare places count too). A statement '..UptoSaid' is the law's where the arguments, and the package variables that the reading takes, are together of bulk at most 1048576: NARROWER than '..Said'. Prove '..Said' where nothing that the law and all that it calls make is longer than what came in: it says more and counts as full. Else prove '..UptoSaid'. A law counts once. -/
mutual
def uptoBulk {H : Type} : DataW H → Nat
  | .lit (.string bytes) => bytes.length + 1
  | .lit _ => 1
  | .nil => 1
  | .ptr d => uptoBulk d + 1
  | .slice elems spare => uptoBulkAll elems + uptoBulkAll spare + 1
  | .agg parts => uptoBulkAll parts + 1
  | .iface _ d => uptoBulk d + 1
  | .map entries => uptoBulkEntries entries + 1
  | .held _ => 1
def uptoBulkAll {H : Type} : List (DataW H) → Nat
  | [] => 0
  | d :: r => uptoBulk d + uptoBulkAll r
def uptoBulkEntries {H : Type} : List (Lit × DataW H) → Nat
  | [] => 0
  | x :: r => uptoBulkEntry x + uptoBulkEntries r
def uptoBulkEntry {H : Type} : Lit × DataW H → Nat
  | (.string bytes, d) => bytes.length + uptoBulk d + 1
  | (_, d) => uptoBulk d + 1
 end
def uptoSmall : (H : Type) → List (DataW H) → Bool := fun _ ds => decide (uptoBulkAll ds ≤ 1048576)
def OpenSpec.upto (s : _root_.Go.ChangeSpec) : _root_.Go.OpenSpec := { _root_.Go.OpenSpec.ofChange s with cond := some uptoSmall }

/-- 'parterrelaw13.BlockApart', WHERE WHAT IT READS IS OF BULK AT MOST 1048576: true; the input reads as it did. -/
def blockApartUptoRow : OpenClaim := { program := "ytjpnhjembncdkaagreat", sum := "b48a6d7bfe9488a53d82c612d719ee42920497ff566ca61b6a715cc5af126663", func := "parterre/parterrelaw13.BlockApart", spec := "blockApart", unfollowed := true, recurses := true, apart := false, narrowed := true }
def BlockApartUptoSaid : Prop := blockApartUptoRow.holds Tryz.pinned (OpenSpec.upto blockApartSpec)

/-- 'parterrelaw13.BlockCuts', WHERE WHAT IT READS IS OF BULK AT MOST 1048576: true; the input reads as it did. -/
def blockCutsUptoRow : OpenClaim := { program := "ytjpnhjembncdkaagreat", sum := "b48a6d7bfe9488a53d82c612d719ee42920497ff566ca61b6a715cc5af126663", func := "parterre/parterrelaw13.BlockCuts", spec := "blockCuts", unfollowed := true, recurses := true, apart := false, narrowed := true }
def BlockCutsUptoSaid : Prop := blockCutsUptoRow.holds Tryz.pinned (OpenSpec.upto blockCutsSpec)

/-- 'parterrelaw11.SketchFaces', WHERE WHAT IT READS IS OF BULK AT MOST 1048576: true; the input reads as it did. -/
def sketchFacesUptoRow : OpenClaim := { program := "ytjpnhjembncdkaagreat", sum := "b48a6d7bfe9488a53d82c612d719ee42920497ff566ca61b6a715cc5af126663", func := "parterre/parterrelaw11.SketchFaces", spec := "sketchFaces", inPlace := ["slices.overlaps[uint32]", "slices.overlaps[[]uint32]", "slices.overlaps[parterre/api.Edge]"], unfollowed := true, recurses := true, apart := false, narrowed := true }
def SketchFacesUptoSaid : Prop := sketchFacesUptoRow.holds Tryz.pinned (OpenSpec.upto sketchFacesSpec)

/-- 'parterrelaw11.SketchUndoes', WHERE WHAT IT READS IS OF BULK AT MOST 1048576: true; the input reads as it did. -/
def sketchUndoesUptoRow : OpenClaim := { program := "ytjpnhjembncdkaagreat", sum := "b48a6d7bfe9488a53d82c612d719ee42920497ff566ca61b6a715cc5af126663", func := "parterre/parterrelaw11.SketchUndoes", spec := "sketchUndoes", inPlace := ["slices.overlaps[uint32]", "slices.overlaps[[]uint32]", "slices.overlaps[parterre/api.Edge]"], unfollowed := true, recurses := true, apart := false, narrowed := true }
def SketchUndoesUptoSaid : Prop := sketchUndoesUptoRow.holds Tryz.pinned (OpenSpec.upto sketchUndoesSpec)

/-- 'parterrelaw17.DiffTells', WHERE WHAT IT READS IS OF BULK AT MOST 1048576: true; the input reads as it did. -/
def diffTellsUptoRow : OpenClaim := { program := "ytjpnhjembncdkaagreat", sum := "b48a6d7bfe9488a53d82c612d719ee42920497ff566ca61b6a715cc5af126663", func := "parterre/parterrelaw17.DiffTells", spec := "diffTells", inPlace := ["slices.overlaps[uint32]", "slices.overlaps[[]uint32]", "slices.overlaps[parterre/api.Edge]"], unfollowed := true, recurses := true, apart := false, narrowed := true }
def DiffTellsUptoSaid : Prop := diffTellsUptoRow.holds Tryz.pinned (OpenSpec.upto diffTellsSpec)

/-- 'parterrelaw17.DiffPatches', WHERE WHAT IT READS IS OF BULK AT MOST 1048576: true; the input reads as it did. -/
def diffPatchesUptoRow : OpenClaim := { program := "ytjpnhjembncdkaagreat", sum := "b48a6d7bfe9488a53d82c612d719ee42920497ff566ca61b6a715cc5af126663", func := "parterre/parterrelaw17.DiffPatches", spec := "diffPatches", inPlace := ["slices.overlaps[uint32]", "slices.overlaps[[]uint32]", "slices.overlaps[parterre/api.Edge]"], unfollowed := true, recurses := true, apart := false, narrowed := true }
def DiffPatchesUptoSaid : Prop := diffPatchesUptoRow.holds Tryz.pinned (OpenSpec.upto diffPatchesSpec)

/-- 'parterrelaw17.DiffShort', WHERE WHAT IT READS IS OF BULK AT MOST 1048576: true; the input reads as it did. -/
def diffShortUptoRow : OpenClaim := { program := "ytjpnhjembncdkaagreat", sum := "b48a6d7bfe9488a53d82c612d719ee42920497ff566ca61b6a715cc5af126663", func := "parterre/parterrelaw17.DiffShort", spec := "diffShort", inPlace := ["slices.overlaps[uint32]", "slices.overlaps[[]uint32]", "slices.overlaps[parterre/api.Edge]"], unfollowed := true, recurses := true, apart := false, narrowed := true }
def DiffShortUptoSaid : Prop := diffShortUptoRow.holds Tryz.pinned (OpenSpec.upto diffShortSpec)

/-- 'parterrelaw17.DiffTwice', WHERE WHAT IT READS IS OF BULK AT MOST 1048576: true; the input reads as it did. -/
def diffTwiceUptoRow : OpenClaim := { program := "ytjpnhjembncdkaagreat", sum := "b48a6d7bfe9488a53d82c612d719ee42920497ff566ca61b6a715cc5af126663", func := "parterre/parterrelaw17.DiffTwice", spec := "diffTwice", inPlace := ["slices.overlaps[uint32]", "slices.overlaps[[]uint32]", "slices.overlaps[parterre/api.Edge]"], unfollowed := true, recurses := true, apart := false, narrowed := true }
def DiffTwiceUptoSaid : Prop := diffTwiceUptoRow.holds Tryz.pinned (OpenSpec.upto diffTwiceSpec)

/-- 'parterrelaw33.CanonRenames', WHERE WHAT IT READS IS OF BULK AT MOST 1048576: true; the input reads as it did. -/
def canonRenamesUptoRow : OpenClaim := { program := "ytjpnhjembncdkaagreat", sum := "b48a6d7bfe9488a53d82c612d719ee42920497ff566ca61b6a715cc5af126663", func := "parterre/parterrelaw33.CanonRenames", spec := "canonRenames", unfollowed := true, recurses := true, apart := false, narrowed := true }
def CanonRenamesUptoSaid : Prop := canonRenamesUptoRow.holds Tryz.pinned (OpenSpec.upto canonRenamesSpec)

/-- 'parterrelaw11.SketchBytes', WHERE WHAT IT READS IS OF BULK AT MOST 1048576: true; the input reads as it did. -/
def sketchBytesUptoRow : OpenClaim := { program := "ytjpnhjembncdkaagreat", sum := "b48a6d7bfe9488a53d82c612d719ee42920497ff566ca61b6a715cc5af126663", func := "parterre/parterrelaw11.SketchBytes", spec := "sketchBytes", inPlace := ["slices.overlaps[uint32]", "slices.overlaps[[]uint32]", "slices.overlaps[parterre/api.Edge]", "internal/abi.NoEscape"], unfollowed := true, recurses := true, apart := false, narrowed := true }
def SketchBytesUptoSaid : Prop := sketchBytesUptoRow.holds Tryz.pinned (OpenSpec.upto sketchBytesSpec)

end Rows
end Go.Proofs.YtjpnhjembncdkaaGreat
