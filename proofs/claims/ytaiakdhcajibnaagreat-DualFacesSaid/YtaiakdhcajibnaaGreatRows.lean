/-
  No cell of these rows narrows 'for every input' (looked for: loops, veiled, ifaces, maps, wideKeys, modest, calm, conditions, laid).
  DERIVED. THE GIVEN ROWS OF THIS SEAT. 11 by the template 'for every input the law returns true; each argument reads behind the call as it read before'; 0 by the template 'total and deterministic' (their statements: YtaiakdhcajibnaaGreatTotals.lean).
  GIVEN WITH THE SEED: the statements are not yours to turn. If you find one false, say at which input.
  Laid BY PROGRAM, IN A SANDBOX (cutbox-rows.mjs): the forced cells as the released guide's own fill.sh prints them over the translation cde73556a30d8c18… (all of the seat's roots in one cut). By AI agents, Wed Nov 11 2026. No macro, syntax, notation, axiom, sorry.
-/
import Derived.Test.YtaiakdhcajibnaaGreatChecked
import GoSem.Claim
import GoSem.ClaimJoined
import GoSem.ClaimMapViews
import Derived.JoinedTies
import Derived.KernelRfl
namespace Go.Proofs.YtaiakdhcajibnaaGreat
/- THE CELL 'sum', in the pinned program and in every row, IS THE sha256 OF THE DUMP (.gsa) THAT YtaiakdhcajibnaaGreatProg.lean LOADS. Nothing in Lean hashes anything: it is a label: what it is worth is what the hold of that sum in a sandbox is worth. -/
noncomputable def Tryz.pinned : Pinned := { name := "ytaiakdhcajibnaagreat", sum := "cde73556a30d8c18311e24fff10a13625ae5b61229b21d34b7efa9de22f075ec", checked := Tryz.checked }
namespace Rows
def none {H : Type} : Left H := { results := [], args := [] }

/-- 'parterrelaw32.DualFaces': WHATEVER THE INPUT: true; the input reads as it did. -/
def dualFacesSpec : ChangeSpec := { name := "dualFaces", fn := fun _ => fun
  | [d1, d2, d3] => { results := [.lit (.bool true)], args := [d1, d2, d3] }
  | _ => none }
def dualFacesRow : OpenClaim := { program := "ytaiakdhcajibnaagreat", sum := "cde73556a30d8c18311e24fff10a13625ae5b61229b21d34b7efa9de22f075ec", func := "parterre/parterrelaw32.DualFaces", spec := "dualFaces", unfollowed := true, recurses := true, plainKeys := false, apart := false }
def DualFacesSaid : Prop := dualFacesRow.holds Tryz.pinned (OpenSpec.ofChange dualFacesSpec)

/-- ITS FALSE NEIGHBOUR: 'it returns false'. Refute it at one input. -/
def dualFacesWrong : ChangeSpec := { name := "dualFaces", fn := fun _ => fun
  | [d1, d2, d3] => { results := [.lit (.bool false)], args := [d1, d2, d3] }
  | _ => none }
def DualFacesWrongFalsely : Prop := dualFacesRow.holds Tryz.pinned (OpenSpec.ofChange dualFacesWrong)

/-- 'parterrelaw11.SketchMakes': WHATEVER THE INPUT: true; the input reads as it did. -/
def sketchMakesSpec : ChangeSpec := { name := "sketchMakes", fn := fun _ => fun
  | [d1, d2, d3] => { results := [.lit (.bool true)], args := [d1, d2, d3] }
  | _ => none }
def sketchMakesRow : OpenClaim := { program := "ytaiakdhcajibnaagreat", sum := "cde73556a30d8c18311e24fff10a13625ae5b61229b21d34b7efa9de22f075ec", func := "parterre/parterrelaw11.SketchMakes", spec := "sketchMakes", inPlace := ["slices.overlaps[uint32]", "slices.overlaps[[]uint32]", "slices.overlaps[parterre/api.Edge]"], unfollowed := true, recurses := true, plainKeys := false, apart := false }
def SketchMakesSaid : Prop := sketchMakesRow.holds Tryz.pinned (OpenSpec.ofChange sketchMakesSpec)

/-- ITS FALSE NEIGHBOUR: 'it returns false'. Refute it at one input. -/
def sketchMakesWrong : ChangeSpec := { name := "sketchMakes", fn := fun _ => fun
  | [d1, d2, d3] => { results := [.lit (.bool false)], args := [d1, d2, d3] }
  | _ => none }
def SketchMakesWrongFalsely : Prop := sketchMakesRow.holds Tryz.pinned (OpenSpec.ofChange sketchMakesWrong)

/-- 'parterrelaw37.StatTables': WHATEVER THE INPUT: true; the input reads as it did. -/
def statTablesSpec : ChangeSpec := { name := "statTables", fn := fun _ => fun
  | [d] => { results := [.lit (.bool true)], args := [d] }
  | _ => none }
def statTablesRow : OpenClaim := { program := "ytaiakdhcajibnaagreat", sum := "cde73556a30d8c18311e24fff10a13625ae5b61229b21d34b7efa9de22f075ec", func := "parterre/parterrelaw37.StatTables", spec := "statTables", unfollowed := true, recurses := true, plainKeys := false, apart := false }
def StatTablesSaid : Prop := statTablesRow.holds Tryz.pinned (OpenSpec.ofChange statTablesSpec)

/-- ITS FALSE NEIGHBOUR: 'it returns false'. Refute it at one input. -/
def statTablesWrong : ChangeSpec := { name := "statTables", fn := fun _ => fun
  | [d] => { results := [.lit (.bool false)], args := [d] }
  | _ => none }
def StatTablesWrongFalsely : Prop := statTablesRow.holds Tryz.pinned (OpenSpec.ofChange statTablesWrong)

/-- 'parterrelaw34.ColorRight': WHATEVER THE INPUT: true; the input reads as it did. -/
def colorRightSpec : ChangeSpec := { name := "colorRight", fn := fun _ => fun
  | [d1, d2, d3] => { results := [.lit (.bool true)], args := [d1, d2, d3] }
  | _ => none }
def colorRightRow : OpenClaim := { program := "ytaiakdhcajibnaagreat", sum := "cde73556a30d8c18311e24fff10a13625ae5b61229b21d34b7efa9de22f075ec", func := "parterre/parterrelaw34.ColorRight", spec := "colorRight", unfollowed := true, recurses := true, plainKeys := false, apart := false }
def ColorRightSaid : Prop := colorRightRow.holds Tryz.pinned (OpenSpec.ofChange colorRightSpec)

/-- ITS FALSE NEIGHBOUR: 'it returns false'. Refute it at one input. -/
def colorRightWrong : ChangeSpec := { name := "colorRight", fn := fun _ => fun
  | [d1, d2, d3] => { results := [.lit (.bool false)], args := [d1, d2, d3] }
  | _ => none }
def ColorRightWrongFalsely : Prop := colorRightRow.holds Tryz.pinned (OpenSpec.ofChange colorRightWrong)

/-- 'parterrelaw13.BlockLooks': WHATEVER THE INPUT: true; the input reads as it did. -/
def blockLooksSpec : ChangeSpec := { name := "blockLooks", fn := fun _ => fun
  | [d1, d2] => { results := [.lit (.bool true)], args := [d1, d2] }
  | _ => none }
def blockLooksRow : OpenClaim := { program := "ytaiakdhcajibnaagreat", sum := "cde73556a30d8c18311e24fff10a13625ae5b61229b21d34b7efa9de22f075ec", func := "parterre/parterrelaw13.BlockLooks", spec := "blockLooks", unfollowed := true, recurses := true, plainKeys := false, apart := false }
def BlockLooksSaid : Prop := blockLooksRow.holds Tryz.pinned (OpenSpec.ofChange blockLooksSpec)

/-- ITS FALSE NEIGHBOUR: 'it returns false'. Refute it at one input. -/
def blockLooksWrong : ChangeSpec := { name := "blockLooks", fn := fun _ => fun
  | [d1, d2] => { results := [.lit (.bool false)], args := [d1, d2] }
  | _ => none }
def BlockLooksWrongFalsely : Prop := blockLooksRow.holds Tryz.pinned (OpenSpec.ofChange blockLooksWrong)

/-- 'parterrelaw35.TreeTells': WHATEVER THE INPUT: true; the input reads as it did. -/
def treeTellsSpec : ChangeSpec := { name := "treeTells", fn := fun _ => fun
  | [d1, d2] => { results := [.lit (.bool true)], args := [d1, d2] }
  | _ => none }
def treeTellsRow : OpenClaim := { program := "ytaiakdhcajibnaagreat", sum := "cde73556a30d8c18311e24fff10a13625ae5b61229b21d34b7efa9de22f075ec", func := "parterre/parterrelaw35.TreeTells", spec := "treeTells", unfollowed := true, recurses := true, plainKeys := false, apart := false }
def TreeTellsSaid : Prop := treeTellsRow.holds Tryz.pinned (OpenSpec.ofChange treeTellsSpec)

/-- ITS FALSE NEIGHBOUR: 'it returns false'. Refute it at one input. -/
def treeTellsWrong : ChangeSpec := { name := "treeTells", fn := fun _ => fun
  | [d1, d2] => { results := [.lit (.bool false)], args := [d1, d2] }
  | _ => none }
def TreeTellsWrongFalsely : Prop := treeTellsRow.holds Tryz.pinned (OpenSpec.ofChange treeTellsWrong)

/-- 'parterrelaw35.TreeCounts': WHATEVER THE INPUT: true; the input reads as it did. -/
def treeCountsSpec : ChangeSpec := { name := "treeCounts", fn := fun _ => fun
  | [d] => { results := [.lit (.bool true)], args := [d] }
  | _ => none }
def treeCountsRow : OpenClaim := { program := "ytaiakdhcajibnaagreat", sum := "cde73556a30d8c18311e24fff10a13625ae5b61229b21d34b7efa9de22f075ec", func := "parterre/parterrelaw35.TreeCounts", spec := "treeCounts", unfollowed := true, recurses := true, plainKeys := false, apart := false }
def TreeCountsSaid : Prop := treeCountsRow.holds Tryz.pinned (OpenSpec.ofChange treeCountsSpec)

/-- ITS FALSE NEIGHBOUR: 'it returns false'. Refute it at one input. -/
def treeCountsWrong : ChangeSpec := { name := "treeCounts", fn := fun _ => fun
  | [d] => { results := [.lit (.bool false)], args := [d] }
  | _ => none }
def TreeCountsWrongFalsely : Prop := treeCountsRow.holds Tryz.pinned (OpenSpec.ofChange treeCountsWrong)

/-- 'parterrelaw37.StatMaps': WHATEVER THE INPUT: true; the input reads as it did. -/
def statMapsSpec : ChangeSpec := { name := "statMaps", fn := fun _ => fun
  | [d1, d2] => { results := [.lit (.bool true)], args := [d1, d2] }
  | _ => none }
def statMapsRow : OpenClaim := { program := "ytaiakdhcajibnaagreat", sum := "cde73556a30d8c18311e24fff10a13625ae5b61229b21d34b7efa9de22f075ec", func := "parterre/parterrelaw37.StatMaps", spec := "statMaps", unfollowed := true, recurses := true, plainKeys := false, apart := false }
def StatMapsSaid : Prop := statMapsRow.holds Tryz.pinned (OpenSpec.ofChange statMapsSpec)

/-- ITS FALSE NEIGHBOUR: 'it returns false'. Refute it at one input. -/
def statMapsWrong : ChangeSpec := { name := "statMaps", fn := fun _ => fun
  | [d1, d2] => { results := [.lit (.bool false)], args := [d1, d2] }
  | _ => none }
def StatMapsWrongFalsely : Prop := statMapsRow.holds Tryz.pinned (OpenSpec.ofChange statMapsWrong)

/-- 'parterrelaw35.TreeCuts': WHATEVER THE INPUT: true; the input reads as it did. -/
def treeCutsSpec : ChangeSpec := { name := "treeCuts", fn := fun _ => fun
  | [d1, d2] => { results := [.lit (.bool true)], args := [d1, d2] }
  | _ => none }
def treeCutsRow : OpenClaim := { program := "ytaiakdhcajibnaagreat", sum := "cde73556a30d8c18311e24fff10a13625ae5b61229b21d34b7efa9de22f075ec", func := "parterre/parterrelaw35.TreeCuts", spec := "treeCuts", unfollowed := true, recurses := true, plainKeys := false, apart := false }
def TreeCutsSaid : Prop := treeCutsRow.holds Tryz.pinned (OpenSpec.ofChange treeCutsSpec)

/-- ITS FALSE NEIGHBOUR: 'it returns false'. Refute it at one input. -/
def treeCutsWrong : ChangeSpec := { name := "treeCuts", fn := fun _ => fun
  | [d1, d2] => { results := [.lit (.bool false)], args := [d1, d2] }
  | _ => none }
def TreeCutsWrongFalsely : Prop := treeCutsRow.holds Tryz.pinned (OpenSpec.ofChange treeCutsWrong)

/-- 'parterrelaw34.ColorTells': WHATEVER THE INPUT: true; the input reads as it did. -/
def colorTellsSpec : ChangeSpec := { name := "colorTells", fn := fun _ => fun
  | [d1, d2] => { results := [.lit (.bool true)], args := [d1, d2] }
  | _ => none }
def colorTellsRow : OpenClaim := { program := "ytaiakdhcajibnaagreat", sum := "cde73556a30d8c18311e24fff10a13625ae5b61229b21d34b7efa9de22f075ec", func := "parterre/parterrelaw34.ColorTells", spec := "colorTells", unfollowed := true, recurses := true, plainKeys := false, apart := false }
def ColorTellsSaid : Prop := colorTellsRow.holds Tryz.pinned (OpenSpec.ofChange colorTellsSpec)

/-- ITS FALSE NEIGHBOUR: 'it returns false'. Refute it at one input. -/
def colorTellsWrong : ChangeSpec := { name := "colorTells", fn := fun _ => fun
  | [d1, d2] => { results := [.lit (.bool false)], args := [d1, d2] }
  | _ => none }
def ColorTellsWrongFalsely : Prop := colorTellsRow.holds Tryz.pinned (OpenSpec.ofChange colorTellsWrong)

/-- 'parterrelaw13.BlockApart': WHATEVER THE INPUT: true; the input reads as it did. -/
def blockApartSpec : ChangeSpec := { name := "blockApart", fn := fun _ => fun
  | [d] => { results := [.lit (.bool true)], args := [d] }
  | _ => none }
def blockApartRow : OpenClaim := { program := "ytaiakdhcajibnaagreat", sum := "cde73556a30d8c18311e24fff10a13625ae5b61229b21d34b7efa9de22f075ec", func := "parterre/parterrelaw13.BlockApart", spec := "blockApart", unfollowed := true, recurses := true, plainKeys := false, apart := false }
def BlockApartSaid : Prop := blockApartRow.holds Tryz.pinned (OpenSpec.ofChange blockApartSpec)

/-- ITS FALSE NEIGHBOUR: 'it returns false'. Refute it at one input. -/
def blockApartWrong : ChangeSpec := { name := "blockApart", fn := fun _ => fun
  | [d] => { results := [.lit (.bool false)], args := [d] }
  | _ => none }
def BlockApartWrongFalsely : Prop := blockApartRow.holds Tryz.pinned (OpenSpec.ofChange blockApartWrong)

/- THE SECOND FORM. 'bulk': how many values and letters a reading holds, each counted each time it is reached (what is shared counts as often as it is met; a slice's spare places count too). A statement '..UptoSaid' is the law's where the arguments, and the package variables that the reading takes, are together of bulk at most 1048576: NARROWER than '..Said'. Prove '..Said' where nothing that the law and all that it calls make is longer than what came in: it says more and counts as full. Else prove '..UptoSaid'. A law counts once. -/
mutual
def uptoBulk {H : Type} : DataW H → Nat
  | .lit (.string bytes) => bytes.length + 1
  | .lit _ => 1
  | .nil => 1
  | .ptr d => uptoBulk d + 1
  | .slice elems spare => uptoBulkAll elems + uptoBulkAll spare + 1
  | .agg parts => uptoBulkAll parts + 1
  | .iface _ d => uptoBulk d + 1
  | .map entries => uptoBulkEntries entries + 1
  | .held _ => 1
def uptoBulkAll {H : Type} : List (DataW H) → Nat
  | [] => 0
  | d :: r => uptoBulk d + uptoBulkAll r
def uptoBulkEntries {H : Type} : List (Lit × DataW H) → Nat
  | [] => 0
  | x :: r => uptoBulkEntry x + uptoBulkEntries r
def uptoBulkEntry {H : Type} : Lit × DataW H → Nat
  | (.string bytes, d) => bytes.length + uptoBulk d + 1
  | (_, d) => uptoBulk d + 1
 end
def uptoSmall : (H : Type) → List (DataW H) → Bool := fun _ ds => decide (uptoBulkAll ds ≤ 1048576)
def OpenSpec.upto (s : _root_.Go.ChangeSpec) : _root_.Go.OpenSpec := { _root_.Go.OpenSpec.ofChange s with cond := some uptoSmall }

/-- 'parterrelaw32.DualFaces', WHERE WHAT IT READS IS OF BULK AT MOST 1048576: true; the input reads as it did. -/
def dualFacesUptoRow : OpenClaim := { program := "ytaiakdhcajibnaagreat", sum := "cde73556a30d8c18311e24fff10a13625ae5b61229b21d34b7efa9de22f075ec", func := "parterre/parterrelaw32.DualFaces", spec := "dualFaces", unfollowed := true, recurses := true, plainKeys := false, apart := false, narrowed := true }
def DualFacesUptoSaid : Prop := dualFacesUptoRow.holds Tryz.pinned (OpenSpec.upto dualFacesSpec)

/-- 'parterrelaw11.SketchMakes', WHERE WHAT IT READS IS OF BULK AT MOST 1048576: true; the input reads as it did. -/
def sketchMakesUptoRow : OpenClaim := { program := "ytaiakdhcajibnaagreat", sum := "cde73556a30d8c18311e24fff10a13625ae5b61229b21d34b7efa9de22f075ec", func := "parterre/parterrelaw11.SketchMakes", spec := "sketchMakes", inPlace := ["slices.overlaps[uint32]", "slices.overlaps[[]uint32]", "slices.overlaps[parterre/api.Edge]"], unfollowed := true, recurses := true, plainKeys := false, apart := false, narrowed := true }
def SketchMakesUptoSaid : Prop := sketchMakesUptoRow.holds Tryz.pinned (OpenSpec.upto sketchMakesSpec)

/-- 'parterrelaw37.StatTables', WHERE WHAT IT READS IS OF BULK AT MOST 1048576: true; the input reads as it did. -/
def statTablesUptoRow : OpenClaim := { program := "ytaiakdhcajibnaagreat", sum := "cde73556a30d8c18311e24fff10a13625ae5b61229b21d34b7efa9de22f075ec", func := "parterre/parterrelaw37.StatTables", spec := "statTables", unfollowed := true, recurses := true, plainKeys := false, apart := false, narrowed := true }
def StatTablesUptoSaid : Prop := statTablesUptoRow.holds Tryz.pinned (OpenSpec.upto statTablesSpec)

/-- 'parterrelaw34.ColorRight', WHERE WHAT IT READS IS OF BULK AT MOST 1048576: true; the input reads as it did. -/
def colorRightUptoRow : OpenClaim := { program := "ytaiakdhcajibnaagreat", sum := "cde73556a30d8c18311e24fff10a13625ae5b61229b21d34b7efa9de22f075ec", func := "parterre/parterrelaw34.ColorRight", spec := "colorRight", unfollowed := true, recurses := true, plainKeys := false, apart := false, narrowed := true }
def ColorRightUptoSaid : Prop := colorRightUptoRow.holds Tryz.pinned (OpenSpec.upto colorRightSpec)

/-- 'parterrelaw13.BlockLooks', WHERE WHAT IT READS IS OF BULK AT MOST 1048576: true; the input reads as it did. -/
def blockLooksUptoRow : OpenClaim := { program := "ytaiakdhcajibnaagreat", sum := "cde73556a30d8c18311e24fff10a13625ae5b61229b21d34b7efa9de22f075ec", func := "parterre/parterrelaw13.BlockLooks", spec := "blockLooks", unfollowed := true, recurses := true, plainKeys := false, apart := false, narrowed := true }
def BlockLooksUptoSaid : Prop := blockLooksUptoRow.holds Tryz.pinned (OpenSpec.upto blockLooksSpec)

/-- 'parterrelaw35.TreeTells', WHERE WHAT IT READS IS OF BULK AT MOST 1048576: true; the input reads as it did. -/
def treeTellsUptoRow : OpenClaim := { program := "ytaiakdhcajibnaagreat", sum := "cde73556a30d8c18311e24fff10a13625ae5b61229b21d34b7efa9de22f075ec", func := "parterre/parterrelaw35.TreeTells", spec := "treeTells", unfollowed := true, recurses := true, plainKeys := false, apart := false, narrowed := true }
def TreeTellsUptoSaid : Prop := treeTellsUptoRow.holds Tryz.pinned (OpenSpec.upto treeTellsSpec)

/-- 'parterrelaw35.TreeCounts', WHERE WHAT IT READS IS OF BULK AT MOST 1048576: true; the input reads as it did. -/
def treeCountsUptoRow : OpenClaim := { program := "ytaiakdhcajibnaagreat", sum := "cde73556a30d8c18311e24fff10a13625ae5b61229b21d34b7efa9de22f075ec", func := "parterre/parterrelaw35.TreeCounts", spec := "treeCounts", unfollowed := true, recurses := true, plainKeys := false, apart := false, narrowed := true }
def TreeCountsUptoSaid : Prop := treeCountsUptoRow.holds Tryz.pinned (OpenSpec.upto treeCountsSpec)

/-- 'parterrelaw37.StatMaps', WHERE WHAT IT READS IS OF BULK AT MOST 1048576: true; the input reads as it did. -/
def statMapsUptoRow : OpenClaim := { program := "ytaiakdhcajibnaagreat", sum := "cde73556a30d8c18311e24fff10a13625ae5b61229b21d34b7efa9de22f075ec", func := "parterre/parterrelaw37.StatMaps", spec := "statMaps", unfollowed := true, recurses := true, plainKeys := false, apart := false, narrowed := true }
def StatMapsUptoSaid : Prop := statMapsUptoRow.holds Tryz.pinned (OpenSpec.upto statMapsSpec)

/-- 'parterrelaw35.TreeCuts', WHERE WHAT IT READS IS OF BULK AT MOST 1048576: true; the input reads as it did. -/
def treeCutsUptoRow : OpenClaim := { program := "ytaiakdhcajibnaagreat", sum := "cde73556a30d8c18311e24fff10a13625ae5b61229b21d34b7efa9de22f075ec", func := "parterre/parterrelaw35.TreeCuts", spec := "treeCuts", unfollowed := true, recurses := true, plainKeys := false, apart := false, narrowed := true }
def TreeCutsUptoSaid : Prop := treeCutsUptoRow.holds Tryz.pinned (OpenSpec.upto treeCutsSpec)

/-- 'parterrelaw34.ColorTells', WHERE WHAT IT READS IS OF BULK AT MOST 1048576: true; the input reads as it did. -/
def colorTellsUptoRow : OpenClaim := { program := "ytaiakdhcajibnaagreat", sum := "cde73556a30d8c18311e24fff10a13625ae5b61229b21d34b7efa9de22f075ec", func := "parterre/parterrelaw34.ColorTells", spec := "colorTells", unfollowed := true, recurses := true, plainKeys := false, apart := false, narrowed := true }
def ColorTellsUptoSaid : Prop := colorTellsUptoRow.holds Tryz.pinned (OpenSpec.upto colorTellsSpec)

/-- 'parterrelaw13.BlockApart', WHERE WHAT IT READS IS OF BULK AT MOST 1048576: true; the input reads as it did. -/
def blockApartUptoRow : OpenClaim := { program := "ytaiakdhcajibnaagreat", sum := "cde73556a30d8c18311e24fff10a13625ae5b61229b21d34b7efa9de22f075ec", func := "parterre/parterrelaw13.BlockApart", spec := "blockApart", unfollowed := true, recurses := true, plainKeys := false, apart := false, narrowed := true }
def BlockApartUptoSaid : Prop := blockApartUptoRow.holds Tryz.pinned (OpenSpec.upto blockApartSpec)

end Rows
end Go.Proofs.YtaiakdhcajibnaaGreat
