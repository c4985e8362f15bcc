/-
  No cell of these rows narrows 'for every input' (looked for: loops, veiled, ifaces, maps, wideKeys, modest, calm, conditions, laid).
  DERIVED. THE GIVEN ROWS OF THIS SEAT. 14 by the template 'for every input the law returns true; each argument reads behind the call as it read before'; 0 by the template 'total and deterministic' (their statements: YtlnefdmdabhobaaGreatTotals.lean).
  GIVEN WITH THE SEED: the statements are not yours to turn. If you find one false, say at which input.
  Laid BY PROGRAM, IN A SANDBOX (cutbox-rows.mjs): the forced cells as the released guide's own fill.sh prints them over the translation be4408cbbb7acfbf… (all of the seat's roots in one cut). By AI agents, Wed Nov 11 2026. No macro, syntax, notation, axiom, sorry.
-/
import Derived.Test.YtlnefdmdabhobaaGreatChecked
import GoSem.Claim
import GoSem.ClaimJoined
import GoSem.ClaimMapViews
import Derived.JoinedTies
import Derived.KernelRfl
namespace Go.Proofs.YtlnefdmdabhobaaGreat
/- THE CELL 'sum', in the pinned program and in every row, IS THE sha256 OF THE DUMP (.gsa) THAT YtlnefdmdabhobaaGreatProg.lean LOADS. Nothing in Lean hashes anything: it is a label: what it is worth is what the hold of that sum in a sandbox is worth. -/
noncomputable def Tryz.pinned : Pinned := { name := "ytlnefdmdabhobaagreat", sum := "be4408cbbb7acfbf4c36e721de6a0fff37b7d0ff963eb8abe08910dd446e1527", checked := Tryz.checked }
namespace Rows
def none {H : Type} : Left H := { results := [], args := [] }

/-- 'parterrelaw37.StatMaps': WHATEVER THE INPUT: true; the input reads as it did. -/
def statMapsSpec : ChangeSpec := { name := "statMaps", fn := fun _ => fun
  | [d1, d2] => { results := [.lit (.bool true)], args := [d1, d2] }
  | _ => none }
def statMapsRow : OpenClaim := { program := "ytlnefdmdabhobaagreat", sum := "be4408cbbb7acfbf4c36e721de6a0fff37b7d0ff963eb8abe08910dd446e1527", func := "parterre/parterrelaw37.StatMaps", spec := "statMaps", unfollowed := true, recurses := true, plainKeys := false, apart := false }
def StatMapsSaid : Prop := statMapsRow.holds Tryz.pinned (OpenSpec.ofChange statMapsSpec)

/-- ITS FALSE NEIGHBOUR: 'it returns false'. Refute it at one input. -/
def statMapsWrong : ChangeSpec := { name := "statMaps", fn := fun _ => fun
  | [d1, d2] => { results := [.lit (.bool false)], args := [d1, d2] }
  | _ => none }
def StatMapsWrongFalsely : Prop := statMapsRow.holds Tryz.pinned (OpenSpec.ofChange statMapsWrong)

/-- 'parterrelaw37.StatSums': WHATEVER THE INPUT: true; the input reads as it did. -/
def statSumsSpec : ChangeSpec := { name := "statSums", fn := fun _ => fun
  | [d] => { results := [.lit (.bool true)], args := [d] }
  | _ => none }
def statSumsRow : OpenClaim := { program := "ytlnefdmdabhobaagreat", sum := "be4408cbbb7acfbf4c36e721de6a0fff37b7d0ff963eb8abe08910dd446e1527", func := "parterre/parterrelaw37.StatSums", spec := "statSums", unfollowed := true, recurses := true, plainKeys := false, apart := false }
def StatSumsSaid : Prop := statSumsRow.holds Tryz.pinned (OpenSpec.ofChange statSumsSpec)

/-- ITS FALSE NEIGHBOUR: 'it returns false'. Refute it at one input. -/
def statSumsWrong : ChangeSpec := { name := "statSums", fn := fun _ => fun
  | [d] => { results := [.lit (.bool false)], args := [d] }
  | _ => none }
def StatSumsWrongFalsely : Prop := statSumsRow.holds Tryz.pinned (OpenSpec.ofChange statSumsWrong)

/-- 'parterrelaw13.BlockCuts': WHATEVER THE INPUT: true; the input reads as it did. -/
def blockCutsSpec : ChangeSpec := { name := "blockCuts", fn := fun _ => fun
  | [d] => { results := [.lit (.bool true)], args := [d] }
  | _ => none }
def blockCutsRow : OpenClaim := { program := "ytlnefdmdabhobaagreat", sum := "be4408cbbb7acfbf4c36e721de6a0fff37b7d0ff963eb8abe08910dd446e1527", func := "parterre/parterrelaw13.BlockCuts", spec := "blockCuts", unfollowed := true, recurses := true, plainKeys := false, apart := false }
def BlockCutsSaid : Prop := blockCutsRow.holds Tryz.pinned (OpenSpec.ofChange blockCutsSpec)

/-- ITS FALSE NEIGHBOUR: 'it returns false'. Refute it at one input. -/
def blockCutsWrong : ChangeSpec := { name := "blockCuts", fn := fun _ => fun
  | [d] => { results := [.lit (.bool false)], args := [d] }
  | _ => none }
def BlockCutsWrongFalsely : Prop := blockCutsRow.holds Tryz.pinned (OpenSpec.ofChange blockCutsWrong)

/-- 'parterrelaw13.BlockApart': WHATEVER THE INPUT: true; the input reads as it did. -/
def blockApartSpec : ChangeSpec := { name := "blockApart", fn := fun _ => fun
  | [d] => { results := [.lit (.bool true)], args := [d] }
  | _ => none }
def blockApartRow : OpenClaim := { program := "ytlnefdmdabhobaagreat", sum := "be4408cbbb7acfbf4c36e721de6a0fff37b7d0ff963eb8abe08910dd446e1527", func := "parterre/parterrelaw13.BlockApart", spec := "blockApart", unfollowed := true, recurses := true, plainKeys := false, apart := false }
def BlockApartSaid : Prop := blockApartRow.holds Tryz.pinned (OpenSpec.ofChange blockApartSpec)

/-- ITS FALSE NEIGHBOUR: 'it returns false'. Refute it at one input. -/
def blockApartWrong : ChangeSpec := { name := "blockApart", fn := fun _ => fun
  | [d] => { results := [.lit (.bool false)], args := [d] }
  | _ => none }
def BlockApartWrongFalsely : Prop := blockApartRow.holds Tryz.pinned (OpenSpec.ofChange blockApartWrong)

/-- 'parterrelaw11.SketchFaces': WHATEVER THE INPUT: true; the input reads as it did. -/
def sketchFacesSpec : ChangeSpec := { name := "sketchFaces", fn := fun _ => fun
  | [d1, d2, d3, d4] => { results := [.lit (.bool true)], args := [d1, d2, d3, d4] }
  | _ => none }
def sketchFacesRow : OpenClaim := { program := "ytlnefdmdabhobaagreat", sum := "be4408cbbb7acfbf4c36e721de6a0fff37b7d0ff963eb8abe08910dd446e1527", func := "parterre/parterrelaw11.SketchFaces", spec := "sketchFaces", inPlace := ["slices.overlaps[uint32]", "slices.overlaps[[]uint32]", "slices.overlaps[parterre/api.Edge]"], unfollowed := true, recurses := true, plainKeys := false, apart := false }
def SketchFacesSaid : Prop := sketchFacesRow.holds Tryz.pinned (OpenSpec.ofChange sketchFacesSpec)

/-- ITS FALSE NEIGHBOUR: 'it returns false'. Refute it at one input. -/
def sketchFacesWrong : ChangeSpec := { name := "sketchFaces", fn := fun _ => fun
  | [d1, d2, d3, d4] => { results := [.lit (.bool false)], args := [d1, d2, d3, d4] }
  | _ => none }
def SketchFacesWrongFalsely : Prop := sketchFacesRow.holds Tryz.pinned (OpenSpec.ofChange sketchFacesWrong)

/-- 'parterrelaw11.SketchUndoes': WHATEVER THE INPUT: true; the input reads as it did. -/
def sketchUndoesSpec : ChangeSpec := { name := "sketchUndoes", fn := fun _ => fun
  | [d1, d2] => { results := [.lit (.bool true)], args := [d1, d2] }
  | _ => none }
def sketchUndoesRow : OpenClaim := { program := "ytlnefdmdabhobaagreat", sum := "be4408cbbb7acfbf4c36e721de6a0fff37b7d0ff963eb8abe08910dd446e1527", func := "parterre/parterrelaw11.SketchUndoes", spec := "sketchUndoes", inPlace := ["slices.overlaps[uint32]", "slices.overlaps[[]uint32]", "slices.overlaps[parterre/api.Edge]"], unfollowed := true, recurses := true, plainKeys := false, apart := false }
def SketchUndoesSaid : Prop := sketchUndoesRow.holds Tryz.pinned (OpenSpec.ofChange sketchUndoesSpec)

/-- ITS FALSE NEIGHBOUR: 'it returns false'. Refute it at one input. -/
def sketchUndoesWrong : ChangeSpec := { name := "sketchUndoes", fn := fun _ => fun
  | [d1, d2] => { results := [.lit (.bool false)], args := [d1, d2] }
  | _ => none }
def SketchUndoesWrongFalsely : Prop := sketchUndoesRow.holds Tryz.pinned (OpenSpec.ofChange sketchUndoesWrong)

/-- 'parterrelaw33.CanonWalks': WHATEVER THE INPUT: true; the input reads as it did. -/
def canonWalksSpec : ChangeSpec := { name := "canonWalks", fn := fun _ => fun
  | [d1, d2] => { results := [.lit (.bool true)], args := [d1, d2] }
  | _ => none }
def canonWalksRow : OpenClaim := { program := "ytlnefdmdabhobaagreat", sum := "be4408cbbb7acfbf4c36e721de6a0fff37b7d0ff963eb8abe08910dd446e1527", func := "parterre/parterrelaw33.CanonWalks", spec := "canonWalks", unfollowed := true, recurses := true, plainKeys := false, apart := false }
def CanonWalksSaid : Prop := canonWalksRow.holds Tryz.pinned (OpenSpec.ofChange canonWalksSpec)

/-- ITS FALSE NEIGHBOUR: 'it returns false'. Refute it at one input. -/
def canonWalksWrong : ChangeSpec := { name := "canonWalks", fn := fun _ => fun
  | [d1, d2] => { results := [.lit (.bool false)], args := [d1, d2] }
  | _ => none }
def CanonWalksWrongFalsely : Prop := canonWalksRow.holds Tryz.pinned (OpenSpec.ofChange canonWalksWrong)

/-- 'parterrelaw33.CanonSame': WHATEVER THE INPUT: true; the input reads as it did. -/
def canonSameSpec : ChangeSpec := { name := "canonSame", fn := fun _ => fun
  | [d1, d2] => { results := [.lit (.bool true)], args := [d1, d2] }
  | _ => none }
def canonSameRow : OpenClaim := { program := "ytlnefdmdabhobaagreat", sum := "be4408cbbb7acfbf4c36e721de6a0fff37b7d0ff963eb8abe08910dd446e1527", func := "parterre/parterrelaw33.CanonSame", spec := "canonSame", unfollowed := true, recurses := true, plainKeys := false, apart := false }
def CanonSameSaid : Prop := canonSameRow.holds Tryz.pinned (OpenSpec.ofChange canonSameSpec)

/-- ITS FALSE NEIGHBOUR: 'it returns false'. Refute it at one input. -/
def canonSameWrong : ChangeSpec := { name := "canonSame", fn := fun _ => fun
  | [d1, d2] => { results := [.lit (.bool false)], args := [d1, d2] }
  | _ => none }
def CanonSameWrongFalsely : Prop := canonSameRow.holds Tryz.pinned (OpenSpec.ofChange canonSameWrong)

/-- 'parterrelaw33.CanonLess': WHATEVER THE INPUT: true; the input reads as it did. -/
def canonLessSpec : ChangeSpec := { name := "canonLess", fn := fun _ => fun
  | [d1, d2] => { results := [.lit (.bool true)], args := [d1, d2] }
  | _ => none }
def canonLessRow : OpenClaim := { program := "ytlnefdmdabhobaagreat", sum := "be4408cbbb7acfbf4c36e721de6a0fff37b7d0ff963eb8abe08910dd446e1527", func := "parterre/parterrelaw33.CanonLess", spec := "canonLess", unfollowed := true, recurses := true, plainKeys := false, apart := false }
def CanonLessSaid : Prop := canonLessRow.holds Tryz.pinned (OpenSpec.ofChange canonLessSpec)

/-- ITS FALSE NEIGHBOUR: 'it returns false'. Refute it at one input. -/
def canonLessWrong : ChangeSpec := { name := "canonLess", fn := fun _ => fun
  | [d1, d2] => { results := [.lit (.bool false)], args := [d1, d2] }
  | _ => none }
def CanonLessWrongFalsely : Prop := canonLessRow.holds Tryz.pinned (OpenSpec.ofChange canonLessWrong)

/-- 'parterrelaw33.CanonRenames': WHATEVER THE INPUT: true; the input reads as it did. -/
def canonRenamesSpec : ChangeSpec := { name := "canonRenames", fn := fun _ => fun
  | [d1, d2] => { results := [.lit (.bool true)], args := [d1, d2] }
  | _ => none }
def canonRenamesRow : OpenClaim := { program := "ytlnefdmdabhobaagreat", sum := "be4408cbbb7acfbf4c36e721de6a0fff37b7d0ff963eb8abe08910dd446e1527", func := "parterre/parterrelaw33.CanonRenames", spec := "canonRenames", unfollowed := true, recurses := true, plainKeys := false, apart := false }
def CanonRenamesSaid : Prop := canonRenamesRow.holds Tryz.pinned (OpenSpec.ofChange canonRenamesSpec)

/-- ITS FALSE NEIGHBOUR: 'it returns false'. Refute it at one input. -/
def canonRenamesWrong : ChangeSpec := { name := "canonRenames", fn := fun _ => fun
  | [d1, d2] => { results := [.lit (.bool false)], args := [d1, d2] }
  | _ => none }
def CanonRenamesWrongFalsely : Prop := canonRenamesRow.holds Tryz.pinned (OpenSpec.ofChange canonRenamesWrong)

/-- 'parterrelaw17.DiffTells': WHATEVER THE INPUT: true; the input reads as it did. -/
def diffTellsSpec : ChangeSpec := { name := "diffTells", fn := fun _ => fun
  | [d1, d2] => { results := [.lit (.bool true)], args := [d1, d2] }
  | _ => none }
def diffTellsRow : OpenClaim := { program := "ytlnefdmdabhobaagreat", sum := "be4408cbbb7acfbf4c36e721de6a0fff37b7d0ff963eb8abe08910dd446e1527", func := "parterre/parterrelaw17.DiffTells", spec := "diffTells", inPlace := ["slices.overlaps[uint32]", "slices.overlaps[[]uint32]", "slices.overlaps[parterre/api.Edge]"], unfollowed := true, recurses := true, plainKeys := false, apart := false }
def DiffTellsSaid : Prop := diffTellsRow.holds Tryz.pinned (OpenSpec.ofChange diffTellsSpec)

/-- ITS FALSE NEIGHBOUR: 'it returns false'. Refute it at one input. -/
def diffTellsWrong : ChangeSpec := { name := "diffTells", fn := fun _ => fun
  | [d1, d2] => { results := [.lit (.bool false)], args := [d1, d2] }
  | _ => none }
def DiffTellsWrongFalsely : Prop := diffTellsRow.holds Tryz.pinned (OpenSpec.ofChange diffTellsWrong)

/-- 'parterrelaw17.DiffPatches': WHATEVER THE INPUT: true; the input reads as it did. -/
def diffPatchesSpec : ChangeSpec := { name := "diffPatches", fn := fun _ => fun
  | [d1, d2] => { results := [.lit (.bool true)], args := [d1, d2] }
  | _ => none }
def diffPatchesRow : OpenClaim := { program := "ytlnefdmdabhobaagreat", sum := "be4408cbbb7acfbf4c36e721de6a0fff37b7d0ff963eb8abe08910dd446e1527", func := "parterre/parterrelaw17.DiffPatches", spec := "diffPatches", inPlace := ["slices.overlaps[uint32]", "slices.overlaps[[]uint32]", "slices.overlaps[parterre/api.Edge]"], unfollowed := true, recurses := true, plainKeys := false, apart := false }
def DiffPatchesSaid : Prop := diffPatchesRow.holds Tryz.pinned (OpenSpec.ofChange diffPatchesSpec)

/-- ITS FALSE NEIGHBOUR: 'it returns false'. Refute it at one input. -/
def diffPatchesWrong : ChangeSpec := { name := "diffPatches", fn := fun _ => fun
  | [d1, d2] => { results := [.lit (.bool false)], args := [d1, d2] }
  | _ => none }
def DiffPatchesWrongFalsely : Prop := diffPatchesRow.holds Tryz.pinned (OpenSpec.ofChange diffPatchesWrong)

/-- 'parterrelaw17.DiffShort': WHATEVER THE INPUT: true; the input reads as it did. -/
def diffShortSpec : ChangeSpec := { name := "diffShort", fn := fun _ => fun
  | [d1, d2, d3] => { results := [.lit (.bool true)], args := [d1, d2, d3] }
  | _ => none }
def diffShortRow : OpenClaim := { program := "ytlnefdmdabhobaagreat", sum := "be4408cbbb7acfbf4c36e721de6a0fff37b7d0ff963eb8abe08910dd446e1527", func := "parterre/parterrelaw17.DiffShort", spec := "diffShort", inPlace := ["slices.overlaps[uint32]", "slices.overlaps[[]uint32]", "slices.overlaps[parterre/api.Edge]"], unfollowed := true, recurses := true, plainKeys := false, apart := false }
def DiffShortSaid : Prop := diffShortRow.holds Tryz.pinned (OpenSpec.ofChange diffShortSpec)

/-- ITS FALSE NEIGHBOUR: 'it returns false'. Refute it at one input. -/
def diffShortWrong : ChangeSpec := { name := "diffShort", fn := fun _ => fun
  | [d1, d2, d3] => { results := [.lit (.bool false)], args := [d1, d2, d3] }
  | _ => none }
def DiffShortWrongFalsely : Prop := diffShortRow.holds Tryz.pinned (OpenSpec.ofChange diffShortWrong)

/-- 'parterrelaw17.DiffTwice': WHATEVER THE INPUT: true; the input reads as it did. -/
def diffTwiceSpec : ChangeSpec := { name := "diffTwice", fn := fun _ => fun
  | [d1, d2, d3] => { results := [.lit (.bool true)], args := [d1, d2, d3] }
  | _ => none }
def diffTwiceRow : OpenClaim := { program := "ytlnefdmdabhobaagreat", sum := "be4408cbbb7acfbf4c36e721de6a0fff37b7d0ff963eb8abe08910dd446e1527", func := "parterre/parterrelaw17.DiffTwice", spec := "diffTwice", inPlace := ["slices.overlaps[uint32]", "slices.overlaps[[]uint32]", "slices.overlaps[parterre/api.Edge]"], unfollowed := true, recurses := true, plainKeys := false, apart := false }
def DiffTwiceSaid : Prop := diffTwiceRow.holds Tryz.pinned (OpenSpec.ofChange diffTwiceSpec)

/-- ITS FALSE NEIGHBOUR: 'it returns false'. Refute it at one input. -/
def diffTwiceWrong : ChangeSpec := { name := "diffTwice", fn := fun _ => fun
  | [d1, d2, d3] => { results := [.lit (.bool false)], args := [d1, d2, d3] }
  | _ => none }
def DiffTwiceWrongFalsely : Prop := diffTwiceRow.holds Tryz.pinned (OpenSpec.ofChange diffTwiceWrong)

/- THE SECOND FORM. 'bulk': how many values and letters a reading holds, each counted each time it is reached (what is shared counts as often as it is met; a slice's spare places count too). A statement '..UptoSaid' is the law's where the arguments, and the package variables that the reading takes, are together of bulk at most 1048576: NARROWER than '..Said'. Prove '..Said' where nothing that the law and all that it calls make is longer than what came in: it says more and counts as full. Else prove '..UptoSaid'. A law counts once. -/
mutual
def uptoBulk {H : Type} : DataW H → Nat
  | .lit (.string bytes) => bytes.length + 1
  | .lit _ => 1
  | .nil => 1
  | .ptr d => uptoBulk d + 1
  | .slice elems spare => uptoBulkAll elems + uptoBulkAll spare + 1
  | .agg parts => uptoBulkAll parts + 1
  | .iface _ d => uptoBulk d + 1
  | .map entries => uptoBulkEntries entries + 1
  | .held _ => 1
def uptoBulkAll {H : Type} : List (DataW H) → Nat
  | [] => 0
  | d :: r => uptoBulk d + uptoBulkAll r
def uptoBulkEntries {H : Type} : List (Lit × DataW H) → Nat
  | [] => 0
  | x :: r => uptoBulkEntry x + uptoBulkEntries r
def uptoBulkEntry {H : Type} : Lit × DataW H → Nat
  | (.string bytes, d) => bytes.length + uptoBulk d + 1
  | (_, d) => uptoBulk d + 1
 end
def uptoSmall : (H : Type) → List (DataW H) → Bool := fun _ ds => decide (uptoBulkAll ds ≤ 1048576)
def OpenSpec.upto (s : _root_.Go.ChangeSpec) : _root_.Go.OpenSpec := { _root_.Go.OpenSpec.ofChange s with cond := some uptoSmall }

/-- 'parterrelaw37.StatMaps', WHERE WHAT IT READS IS OF BULK AT MOST 1048576: true; the input reads as it did. -/
def statMapsUptoRow : OpenClaim := { program := "ytlnefdmdabhobaagreat", sum := "be4408cbbb7acfbf4c36e721de6a0fff37b7d0ff963eb8abe08910dd446e1527", func := "parterre/parterrelaw37.StatMaps", spec := "statMaps", unfollowed := true, recurses := true, plainKeys := false, apart := false, narrowed := true }
def StatMapsUptoSaid : Prop := statMapsUptoRow.holds Tryz.pinned (OpenSpec.upto statMapsSpec)

/-- 'parterrelaw37.StatSums', WHERE WHAT IT READS IS OF BULK AT MOST 1048576: true; the input reads as it did. -/
def statSumsUptoRow : OpenClaim := { program := "ytlnefdmdabhobaagreat", sum := "be4408cbbb7acfbf4c36e721de6a0fff37b7d0ff963eb8abe08910dd446e1527", func := "parterre/parterrelaw37.StatSums", spec := "statSums", unfollowed := true, recurses := true, plainKeys := false, apart := false, narrowed := true }
def StatSumsUptoSaid : Prop := statSumsUptoRow.holds Tryz.pinned (OpenSpec.upto statSumsSpec)

/-- 'parterrelaw13.BlockCuts', WHERE WHAT IT READS IS OF BULK AT MOST 1048576: true; the input reads as it did. -/
def blockCutsUptoRow : OpenClaim := { program := "ytlnefdmdabhobaagreat", sum := "be4408cbbb7acfbf4c36e721de6a0fff37b7d0ff963eb8abe08910dd446e1527", func := "parterre/parterrelaw13.BlockCuts", spec := "blockCuts", unfollowed := true, recurses := true, plainKeys := false, apart := false, narrowed := true }
def BlockCutsUptoSaid : Prop := blockCutsUptoRow.holds Tryz.pinned (OpenSpec.upto blockCutsSpec)

/-- 'parterrelaw13.BlockApart', WHERE WHAT IT READS IS OF BULK AT MOST 1048576: true; the input reads as it did. -/
def blockApartUptoRow : OpenClaim := { program := "ytlnefdmdabhobaagreat", sum := "be4408cbbb7acfbf4c36e721de6a0fff37b7d0ff963eb8abe08910dd446e1527", func := "parterre/parterrelaw13.BlockApart", spec := "blockApart", unfollowed := true, recurses := true, plainKeys := false, apart := false, narrowed := true }
def BlockApartUptoSaid : Prop := blockApartUptoRow.holds Tryz.pinned (OpenSpec.upto blockApartSpec)

/-- 'parterrelaw11.SketchFaces', WHERE WHAT IT READS IS OF BULK AT MOST 1048576: true; the input reads as it did. -/
def sketchFacesUptoRow : OpenClaim := { program := "ytlnefdmdabhobaagreat", sum := "be4408cbbb7acfbf4c36e721de6a0fff37b7d0ff963eb8abe08910dd446e1527", func := "parterre/parterrelaw11.SketchFaces", spec := "sketchFaces", inPlace := ["slices.overlaps[uint32]", "slices.overlaps[[]uint32]", "slices.overlaps[parterre/api.Edge]"], unfollowed := true, recurses := true, plainKeys := false, apart := false, narrowed := true }
def SketchFacesUptoSaid : Prop := sketchFacesUptoRow.holds Tryz.pinned (OpenSpec.upto sketchFacesSpec)

/-- 'parterrelaw11.SketchUndoes', WHERE WHAT IT READS IS OF BULK AT MOST 1048576: true; the input reads as it did. -/
def sketchUndoesUptoRow : OpenClaim := { program := "ytlnefdmdabhobaagreat", sum := "be4408cbbb7acfbf4c36e721de6a0fff37b7d0ff963eb8abe08910dd446e1527", func := "parterre/parterrelaw11.SketchUndoes", spec := "sketchUndoes", inPlace := ["slices.overlaps[uint32]", "slices.overlaps[[]uint32]", "slices.overlaps[parterre/api.Edge]"], unfollowed := true, recurses := true, plainKeys := false, apart := false, narrowed := true }
def SketchUndoesUptoSaid : Prop := sketchUndoesUptoRow.holds Tryz.pinned (OpenSpec.upto sketchUndoesSpec)

/-- 'parterrelaw33.CanonWalks', WHERE WHAT IT READS IS OF BULK AT MOST 1048576: true; the input reads as it did. -/
def canonWalksUptoRow : OpenClaim := { program := "ytlnefdmdabhobaagreat", sum := "be4408cbbb7acfbf4c36e721de6a0fff37b7d0ff963eb8abe08910dd446e1527", func := "parterre/parterrelaw33.CanonWalks", spec := "canonWalks", unfollowed := true, recurses := true, plainKeys := false, apart := false, narrowed := true }
def CanonWalksUptoSaid : Prop := canonWalksUptoRow.holds Tryz.pinned (OpenSpec.upto canonWalksSpec)

/-- 'parterrelaw33.CanonSame', WHERE WHAT IT READS IS OF BULK AT MOST 1048576: true; the input reads as it did. -/
def canonSameUptoRow : OpenClaim := { program := "ytlnefdmdabhobaagreat", sum := "be4408cbbb7acfbf4c36e721de6a0fff37b7d0ff963eb8abe08910dd446e1527", func := "parterre/parterrelaw33.CanonSame", spec := "canonSame", unfollowed := true, recurses := true, plainKeys := false, apart := false, narrowed := true }
def CanonSameUptoSaid : Prop := canonSameUptoRow.holds Tryz.pinned (OpenSpec.upto canonSameSpec)

/-- 'parterrelaw33.CanonLess', WHERE WHAT IT READS IS OF BULK AT MOST 1048576: true; the input reads as it did. -/
def canonLessUptoRow : OpenClaim := { program := "ytlnefdmdabhobaagreat", sum := "be4408cbbb7acfbf4c36e721de6a0fff37b7d0ff963eb8abe08910dd446e1527", func := "parterre/parterrelaw33.CanonLess", spec := "canonLess", unfollowed := true, recurses := true, plainKeys := false, apart := false, narrowed := true }
def CanonLessUptoSaid : Prop := canonLessUptoRow.holds Tryz.pinned (OpenSpec.upto canonLessSpec)

/-- 'parterrelaw33.CanonRenames', WHERE WHAT IT READS IS OF BULK AT MOST 1048576: true; the input reads as it did. -/
def canonRenamesUptoRow : OpenClaim := { program := "ytlnefdmdabhobaagreat", sum := "be4408cbbb7acfbf4c36e721de6a0fff37b7d0ff963eb8abe08910dd446e1527", func := "parterre/parterrelaw33.CanonRenames", spec := "canonRenames", unfollowed := true, recurses := true, plainKeys := false, apart := false, narrowed := true }
def CanonRenamesUptoSaid : Prop := canonRenamesUptoRow.holds Tryz.pinned (OpenSpec.upto canonRenamesSpec)

/-- 'parterrelaw17.DiffTells', WHERE WHAT IT READS IS OF BULK AT MOST 1048576: true; the input reads as it did. -/
def diffTellsUptoRow : OpenClaim := { program := "ytlnefdmdabhobaagreat", sum := "be4408cbbb7acfbf4c36e721de6a0fff37b7d0ff963eb8abe08910dd446e1527", func := "parterre/parterrelaw17.DiffTells", spec := "diffTells", inPlace := ["slices.overlaps[uint32]", "slices.overlaps[[]uint32]", "slices.overlaps[parterre/api.Edge]"], unfollowed := true, recurses := true, plainKeys := false, apart := false, narrowed := true }
def DiffTellsUptoSaid : Prop := diffTellsUptoRow.holds Tryz.pinned (OpenSpec.upto diffTellsSpec)

/-- 'parterrelaw17.DiffPatches', WHERE WHAT IT READS IS OF BULK AT MOST 1048576: true; the input reads as it did. -/
def diffPatchesUptoRow : OpenClaim := { program := "ytlnefdmdabhobaagreat", sum := "be4408cbbb7acfbf4c36e721de6a0fff37b7d0ff963eb8abe08910dd446e1527", func := "parterre/parterrelaw17.DiffPatches", spec := "diffPatches", inPlace := ["slices.overlaps[uint32]", "slices.overlaps[[]uint32]", "slices.overlaps[parterre/api.Edge]"], unfollowed := true, recurses := true, plainKeys := false, apart := false, narrowed := true }
def DiffPatchesUptoSaid : Prop := diffPatchesUptoRow.holds Tryz.pinned (OpenSpec.upto diffPatchesSpec)

/-- 'parterrelaw17.DiffShort', WHERE WHAT IT READS IS OF BULK AT MOST 1048576: true; the input reads as it did. -/
def diffShortUptoRow : OpenClaim := { program := "ytlnefdmdabhobaagreat", sum := "be4408cbbb7acfbf4c36e721de6a0fff37b7d0ff963eb8abe08910dd446e1527", func := "parterre/parterrelaw17.DiffShort", spec := "diffShort", inPlace := ["slices.overlaps[uint32]", "slices.overlaps[[]uint32]", "slices.overlaps[parterre/api.Edge]"], unfollowed := true, recurses := true, plainKeys := false, apart := false, narrowed := true }
def DiffShortUptoSaid : Prop := diffShortUptoRow.holds Tryz.pinned (OpenSpec.upto diffShortSpec)

/-- 'parterrelaw17.DiffTwice', WHERE WHAT IT READS IS OF BULK AT MOST 1048576: true; the input reads as it did. -/
def diffTwiceUptoRow : OpenClaim := { program := "ytlnefdmdabhobaagreat", sum := "be4408cbbb7acfbf4c36e721de6a0fff37b7d0ff963eb8abe08910dd446e1527", func := "parterre/parterrelaw17.DiffTwice", spec := "diffTwice", inPlace := ["slices.overlaps[uint32]", "slices.overlaps[[]uint32]", "slices.overlaps[parterre/api.Edge]"], unfollowed := true, recurses := true, plainKeys := false, apart := false, narrowed := true }
def DiffTwiceUptoSaid : Prop := diffTwiceUptoRow.holds Tryz.pinned (OpenSpec.upto diffTwiceSpec)

end Rows
end Go.Proofs.YtlnefdmdabhobaaGreat
