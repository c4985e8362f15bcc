/-
  No cell of these rows narrows 'for every input' (looked for: loops, veiled, ifaces, maps, wideKeys, modest, calm, conditions, laid).
  DERIVED. THE GIVEN ROWS OF THIS SEAT. 12 by the template 'for every input the law returns true; each argument reads behind the call as it read before'; 0 by the template 'total and deterministic' (their statements: YtomfeddgeihipaaGreatTotals.lean).
  GIVEN WITH THE SEED: the statements are not yours to turn. If you find one false, say at which input.
  Laid BY PROGRAM, IN A SANDBOX (cutbox-rows.mjs): the forced cells as the released guide's own fill.sh prints them over the translation 87677c2bf345ec74… (all of the seat's roots in one cut). By AI agents, Wed Nov 11 2026. No macro, syntax, notation, axiom, sorry.
-/
import Derived.Test.YtomfeddgeihipaaGreatChecked
import GoSem.Claim
import GoSem.ClaimJoined
import GoSem.ClaimMapViews
import Derived.JoinedTies
import Derived.KernelRfl
namespace Go.Proofs.YtomfeddgeihipaaGreat
/- THE CELL 'sum', in the pinned program and in every row, IS THE sha256 OF THE DUMP (.gsa) THAT YtomfeddgeihipaaGreatProg.lean LOADS. Nothing in Lean hashes anything: it is a label: what it is worth is what the hold of that sum in a sandbox is worth. -/
noncomputable def Tryz.pinned : Pinned := { name := "ytomfeddgeihipaagreat", sum := "87677c2bf345ec7416a26835ff3cffb7c3474b727facad32625d0d04dc16522f", checked := Tryz.checked }
namespace Rows
def none {H : Type} : Left H := { results := [], args := [] }

/-- 'parterrelaw37.StatTables': WHATEVER THE INPUT: true; the input reads as it did. -/
def statTablesSpec : ChangeSpec := { name := "statTables", fn := fun _ => fun
  | [d] => { results := [.lit (.bool true)], args := [d] }
  | _ => none }
def statTablesRow : OpenClaim := { program := "ytomfeddgeihipaagreat", sum := "87677c2bf345ec7416a26835ff3cffb7c3474b727facad32625d0d04dc16522f", func := "parterre/parterrelaw37.StatTables", spec := "statTables", unfollowed := true, recurses := true, plainKeys := false, apart := false }
def StatTablesSaid : Prop := statTablesRow.holds Tryz.pinned (OpenSpec.ofChange statTablesSpec)

/-- ITS FALSE NEIGHBOUR: 'it returns false'. Refute it at one input. -/
def statTablesWrong : ChangeSpec := { name := "statTables", fn := fun _ => fun
  | [d] => { results := [.lit (.bool false)], args := [d] }
  | _ => none }
def StatTablesWrongFalsely : Prop := statTablesRow.holds Tryz.pinned (OpenSpec.ofChange statTablesWrong)

/-- 'parterrelaw34.ColorRight': WHATEVER THE INPUT: true; the input reads as it did. -/
def colorRightSpec : ChangeSpec := { name := "colorRight", fn := fun _ => fun
  | [d1, d2, d3] => { results := [.lit (.bool true)], args := [d1, d2, d3] }
  | _ => none }
def colorRightRow : OpenClaim := { program := "ytomfeddgeihipaagreat", sum := "87677c2bf345ec7416a26835ff3cffb7c3474b727facad32625d0d04dc16522f", func := "parterre/parterrelaw34.ColorRight", spec := "colorRight", unfollowed := true, recurses := true, plainKeys := false, apart := false }
def ColorRightSaid : Prop := colorRightRow.holds Tryz.pinned (OpenSpec.ofChange colorRightSpec)

/-- ITS FALSE NEIGHBOUR: 'it returns false'. Refute it at one input. -/
def colorRightWrong : ChangeSpec := { name := "colorRight", fn := fun _ => fun
  | [d1, d2, d3] => { results := [.lit (.bool false)], args := [d1, d2, d3] }
  | _ => none }
def ColorRightWrongFalsely : Prop := colorRightRow.holds Tryz.pinned (OpenSpec.ofChange colorRightWrong)

/-- 'parterrelaw13.BlockLooks': WHATEVER THE INPUT: true; the input reads as it did. -/
def blockLooksSpec : ChangeSpec := { name := "blockLooks", fn := fun _ => fun
  | [d1, d2] => { results := [.lit (.bool true)], args := [d1, d2] }
  | _ => none }
def blockLooksRow : OpenClaim := { program := "ytomfeddgeihipaagreat", sum := "87677c2bf345ec7416a26835ff3cffb7c3474b727facad32625d0d04dc16522f", func := "parterre/parterrelaw13.BlockLooks", spec := "blockLooks", unfollowed := true, recurses := true, plainKeys := false, apart := false }
def BlockLooksSaid : Prop := blockLooksRow.holds Tryz.pinned (OpenSpec.ofChange blockLooksSpec)

/-- ITS FALSE NEIGHBOUR: 'it returns false'. Refute it at one input. -/
def blockLooksWrong : ChangeSpec := { name := "blockLooks", fn := fun _ => fun
  | [d1, d2] => { results := [.lit (.bool false)], args := [d1, d2] }
  | _ => none }
def BlockLooksWrongFalsely : Prop := blockLooksRow.holds Tryz.pinned (OpenSpec.ofChange blockLooksWrong)

/-- 'parterrelaw13.BlockApart': WHATEVER THE INPUT: true; the input reads as it did. -/
def blockApartSpec : ChangeSpec := { name := "blockApart", fn := fun _ => fun
  | [d] => { results := [.lit (.bool true)], args := [d] }
  | _ => none }
def blockApartRow : OpenClaim := { program := "ytomfeddgeihipaagreat", sum := "87677c2bf345ec7416a26835ff3cffb7c3474b727facad32625d0d04dc16522f", func := "parterre/parterrelaw13.BlockApart", spec := "blockApart", unfollowed := true, recurses := true, plainKeys := false, apart := false }
def BlockApartSaid : Prop := blockApartRow.holds Tryz.pinned (OpenSpec.ofChange blockApartSpec)

/-- ITS FALSE NEIGHBOUR: 'it returns false'. Refute it at one input. -/
def blockApartWrong : ChangeSpec := { name := "blockApart", fn := fun _ => fun
  | [d] => { results := [.lit (.bool false)], args := [d] }
  | _ => none }
def BlockApartWrongFalsely : Prop := blockApartRow.holds Tryz.pinned (OpenSpec.ofChange blockApartWrong)

/-- 'parterrelaw13.BlockCuts': WHATEVER THE INPUT: true; the input reads as it did. -/
def blockCutsSpec : ChangeSpec := { name := "blockCuts", fn := fun _ => fun
  | [d] => { results := [.lit (.bool true)], args := [d] }
  | _ => none }
def blockCutsRow : OpenClaim := { program := "ytomfeddgeihipaagreat", sum := "87677c2bf345ec7416a26835ff3cffb7c3474b727facad32625d0d04dc16522f", func := "parterre/parterrelaw13.BlockCuts", spec := "blockCuts", unfollowed := true, recurses := true, plainKeys := false, apart := false }
def BlockCutsSaid : Prop := blockCutsRow.holds Tryz.pinned (OpenSpec.ofChange blockCutsSpec)

/-- ITS FALSE NEIGHBOUR: 'it returns false'. Refute it at one input. -/
def blockCutsWrong : ChangeSpec := { name := "blockCuts", fn := fun _ => fun
  | [d] => { results := [.lit (.bool false)], args := [d] }
  | _ => none }
def BlockCutsWrongFalsely : Prop := blockCutsRow.holds Tryz.pinned (OpenSpec.ofChange blockCutsWrong)

/-- 'parterrelaw13.BlockPaths': WHATEVER THE INPUT: true; the input reads as it did. -/
def blockPathsSpec : ChangeSpec := { name := "blockPaths", fn := fun _ => fun
  | [d1, d2, d3, d4, d5] => { results := [.lit (.bool true)], args := [d1, d2, d3, d4, d5] }
  | _ => none }
def blockPathsRow : OpenClaim := { program := "ytomfeddgeihipaagreat", sum := "87677c2bf345ec7416a26835ff3cffb7c3474b727facad32625d0d04dc16522f", func := "parterre/parterrelaw13.BlockPaths", spec := "blockPaths", unfollowed := true, recurses := true, plainKeys := false, apart := false }
def BlockPathsSaid : Prop := blockPathsRow.holds Tryz.pinned (OpenSpec.ofChange blockPathsSpec)

/-- ITS FALSE NEIGHBOUR: 'it returns false'. Refute it at one input. -/
def blockPathsWrong : ChangeSpec := { name := "blockPaths", fn := fun _ => fun
  | [d1, d2, d3, d4, d5] => { results := [.lit (.bool false)], args := [d1, d2, d3, d4, d5] }
  | _ => none }
def BlockPathsWrongFalsely : Prop := blockPathsRow.holds Tryz.pinned (OpenSpec.ofChange blockPathsWrong)

/-- 'parterrelaw35.TreeCuts': WHATEVER THE INPUT: true; the input reads as it did. -/
def treeCutsSpec : ChangeSpec := { name := "treeCuts", fn := fun _ => fun
  | [d1, d2] => { results := [.lit (.bool true)], args := [d1, d2] }
  | _ => none }
def treeCutsRow : OpenClaim := { program := "ytomfeddgeihipaagreat", sum := "87677c2bf345ec7416a26835ff3cffb7c3474b727facad32625d0d04dc16522f", func := "parterre/parterrelaw35.TreeCuts", spec := "treeCuts", unfollowed := true, recurses := true, plainKeys := false, apart := false }
def TreeCutsSaid : Prop := treeCutsRow.holds Tryz.pinned (OpenSpec.ofChange treeCutsSpec)

/-- ITS FALSE NEIGHBOUR: 'it returns false'. Refute it at one input. -/
def treeCutsWrong : ChangeSpec := { name := "treeCuts", fn := fun _ => fun
  | [d1, d2] => { results := [.lit (.bool false)], args := [d1, d2] }
  | _ => none }
def TreeCutsWrongFalsely : Prop := treeCutsRow.holds Tryz.pinned (OpenSpec.ofChange treeCutsWrong)

/-- 'parterrelaw34.ColorTells': WHATEVER THE INPUT: true; the input reads as it did. -/
def colorTellsSpec : ChangeSpec := { name := "colorTells", fn := fun _ => fun
  | [d1, d2] => { results := [.lit (.bool true)], args := [d1, d2] }
  | _ => none }
def colorTellsRow : OpenClaim := { program := "ytomfeddgeihipaagreat", sum := "87677c2bf345ec7416a26835ff3cffb7c3474b727facad32625d0d04dc16522f", func := "parterre/parterrelaw34.ColorTells", spec := "colorTells", unfollowed := true, recurses := true, plainKeys := false, apart := false }
def ColorTellsSaid : Prop := colorTellsRow.holds Tryz.pinned (OpenSpec.ofChange colorTellsSpec)

/-- ITS FALSE NEIGHBOUR: 'it returns false'. Refute it at one input. -/
def colorTellsWrong : ChangeSpec := { name := "colorTells", fn := fun _ => fun
  | [d1, d2] => { results := [.lit (.bool false)], args := [d1, d2] }
  | _ => none }
def ColorTellsWrongFalsely : Prop := colorTellsRow.holds Tryz.pinned (OpenSpec.ofChange colorTellsWrong)

/-- 'parterrelaw35.TreeTells': WHATEVER THE INPUT: true; the input reads as it did. -/
def treeTellsSpec : ChangeSpec := { name := "treeTells", fn := fun _ => fun
  | [d1, d2] => { results := [.lit (.bool true)], args := [d1, d2] }
  | _ => none }
def treeTellsRow : OpenClaim := { program := "ytomfeddgeihipaagreat", sum := "87677c2bf345ec7416a26835ff3cffb7c3474b727facad32625d0d04dc16522f", func := "parterre/parterrelaw35.TreeTells", spec := "treeTells", unfollowed := true, recurses := true, plainKeys := false, apart := false }
def TreeTellsSaid : Prop := treeTellsRow.holds Tryz.pinned (OpenSpec.ofChange treeTellsSpec)

/-- ITS FALSE NEIGHBOUR: 'it returns false'. Refute it at one input. -/
def treeTellsWrong : ChangeSpec := { name := "treeTells", fn := fun _ => fun
  | [d1, d2] => { results := [.lit (.bool false)], args := [d1, d2] }
  | _ => none }
def TreeTellsWrongFalsely : Prop := treeTellsRow.holds Tryz.pinned (OpenSpec.ofChange treeTellsWrong)

/-- 'parterrelaw35.TreeCounts': WHATEVER THE INPUT: true; the input reads as it did. -/
def treeCountsSpec : ChangeSpec := { name := "treeCounts", fn := fun _ => fun
  | [d] => { results := [.lit (.bool true)], args := [d] }
  | _ => none }
def treeCountsRow : OpenClaim := { program := "ytomfeddgeihipaagreat", sum := "87677c2bf345ec7416a26835ff3cffb7c3474b727facad32625d0d04dc16522f", func := "parterre/parterrelaw35.TreeCounts", spec := "treeCounts", unfollowed := true, recurses := true, plainKeys := false, apart := false }
def TreeCountsSaid : Prop := treeCountsRow.holds Tryz.pinned (OpenSpec.ofChange treeCountsSpec)

/-- ITS FALSE NEIGHBOUR: 'it returns false'. Refute it at one input. -/
def treeCountsWrong : ChangeSpec := { name := "treeCounts", fn := fun _ => fun
  | [d] => { results := [.lit (.bool false)], args := [d] }
  | _ => none }
def TreeCountsWrongFalsely : Prop := treeCountsRow.holds Tryz.pinned (OpenSpec.ofChange treeCountsWrong)

/-- 'parterrelaw37.StatMaps': WHATEVER THE INPUT: true; the input reads as it did. -/
def statMapsSpec : ChangeSpec := { name := "statMaps", fn := fun _ => fun
  | [d1, d2] => { results := [.lit (.bool true)], args := [d1, d2] }
  | _ => none }
def statMapsRow : OpenClaim := { program := "ytomfeddgeihipaagreat", sum := "87677c2bf345ec7416a26835ff3cffb7c3474b727facad32625d0d04dc16522f", func := "parterre/parterrelaw37.StatMaps", spec := "statMaps", unfollowed := true, recurses := true, plainKeys := false, apart := false }
def StatMapsSaid : Prop := statMapsRow.holds Tryz.pinned (OpenSpec.ofChange statMapsSpec)

/-- ITS FALSE NEIGHBOUR: 'it returns false'. Refute it at one input. -/
def statMapsWrong : ChangeSpec := { name := "statMaps", fn := fun _ => fun
  | [d1, d2] => { results := [.lit (.bool false)], args := [d1, d2] }
  | _ => none }
def StatMapsWrongFalsely : Prop := statMapsRow.holds Tryz.pinned (OpenSpec.ofChange statMapsWrong)

/-- 'parterrelaw37.StatSums': WHATEVER THE INPUT: true; the input reads as it did. -/
def statSumsSpec : ChangeSpec := { name := "statSums", fn := fun _ => fun
  | [d] => { results := [.lit (.bool true)], args := [d] }
  | _ => none }
def statSumsRow : OpenClaim := { program := "ytomfeddgeihipaagreat", sum := "87677c2bf345ec7416a26835ff3cffb7c3474b727facad32625d0d04dc16522f", func := "parterre/parterrelaw37.StatSums", spec := "statSums", unfollowed := true, recurses := true, plainKeys := false, apart := false }
def StatSumsSaid : Prop := statSumsRow.holds Tryz.pinned (OpenSpec.ofChange statSumsSpec)

/-- ITS FALSE NEIGHBOUR: 'it returns false'. Refute it at one input. -/
def statSumsWrong : ChangeSpec := { name := "statSums", fn := fun _ => fun
  | [d] => { results := [.lit (.bool false)], args := [d] }
  | _ => none }
def StatSumsWrongFalsely : Prop := statSumsRow.holds Tryz.pinned (OpenSpec.ofChange statSumsWrong)

/- THE SECOND FORM. 'bulk': how many values and letters a reading holds, each counted each time it is reached (what is shared counts as often as it is met; a slice's spare places count too). A statement '..UptoSaid' is the law's where the arguments, and the package variables that the reading takes, are together of bulk at most 1048576: NARROWER than '..Said'. Prove '..Said' where nothing that the law and all that it calls make is longer than what came in: it says more and counts as full. Else prove '..UptoSaid'. A law counts once. -/
mutual
def uptoBulk {H : Type} : DataW H → Nat
  | .lit (.string bytes) => bytes.length + 1
  | .lit _ => 1
  | .nil => 1
  | .ptr d => uptoBulk d + 1
  | .slice elems spare => uptoBulkAll elems + uptoBulkAll spare + 1
  | .agg parts => uptoBulkAll parts + 1
  | .iface _ d => uptoBulk d + 1
  | .map entries => uptoBulkEntries entries + 1
  | .held _ => 1
def uptoBulkAll {H : Type} : List (DataW H) → Nat
  | [] => 0
  | d :: r => uptoBulk d + uptoBulkAll r
def uptoBulkEntries {H : Type} : List (Lit × DataW H) → Nat
  | [] => 0
  | x :: r => uptoBulkEntry x + uptoBulkEntries r
def uptoBulkEntry {H : Type} : Lit × DataW H → Nat
  | (.string bytes, d) => bytes.length + uptoBulk d + 1
  | (_, d) => uptoBulk d + 1
 end
def uptoSmall : (H : Type) → List (DataW H) → Bool := fun _ ds => decide (uptoBulkAll ds ≤ 1048576)
def OpenSpec.upto (s : _root_.Go.ChangeSpec) : _root_.Go.OpenSpec := { _root_.Go.OpenSpec.ofChange s with cond := some uptoSmall }

/-- 'parterrelaw37.StatTables', WHERE WHAT IT READS IS OF BULK AT MOST 1048576: true; the input reads as it did. -/
def statTablesUptoRow : OpenClaim := { program := "ytomfeddgeihipaagreat", sum := "87677c2bf345ec7416a26835ff3cffb7c3474b727facad32625d0d04dc16522f", func := "parterre/parterrelaw37.StatTables", spec := "statTables", unfollowed := true, recurses := true, plainKeys := false, apart := false, narrowed := true }
def StatTablesUptoSaid : Prop := statTablesUptoRow.holds Tryz.pinned (OpenSpec.upto statTablesSpec)

/-- 'parterrelaw34.ColorRight', WHERE WHAT IT READS IS OF BULK AT MOST 1048576: true; the input reads as it did. -/
def colorRightUptoRow : OpenClaim := { program := "ytomfeddgeihipaagreat", sum := "87677c2bf345ec7416a26835ff3cffb7c3474b727facad32625d0d04dc16522f", func := "parterre/parterrelaw34.ColorRight", spec := "colorRight", unfollowed := true, recurses := true, plainKeys := false, apart := false, narrowed := true }
def ColorRightUptoSaid : Prop := colorRightUptoRow.holds Tryz.pinned (OpenSpec.upto colorRightSpec)

/-- 'parterrelaw13.BlockLooks', WHERE WHAT IT READS IS OF BULK AT MOST 1048576: true; the input reads as it did. -/
def blockLooksUptoRow : OpenClaim := { program := "ytomfeddgeihipaagreat", sum := "87677c2bf345ec7416a26835ff3cffb7c3474b727facad32625d0d04dc16522f", func := "parterre/parterrelaw13.BlockLooks", spec := "blockLooks", unfollowed := true, recurses := true, plainKeys := false, apart := false, narrowed := true }
def BlockLooksUptoSaid : Prop := blockLooksUptoRow.holds Tryz.pinned (OpenSpec.upto blockLooksSpec)

/-- 'parterrelaw13.BlockApart', WHERE WHAT IT READS IS OF BULK AT MOST 1048576: true; the input reads as it did. -/
def blockApartUptoRow : OpenClaim := { program := "ytomfeddgeihipaagreat", sum := "87677c2bf345ec7416a26835ff3cffb7c3474b727facad32625d0d04dc16522f", func := "parterre/parterrelaw13.BlockApart", spec := "blockApart", unfollowed := true, recurses := true, plainKeys := false, apart := false, narrowed := true }
def BlockApartUptoSaid : Prop := blockApartUptoRow.holds Tryz.pinned (OpenSpec.upto blockApartSpec)

/-- 'parterrelaw13.BlockCuts', WHERE WHAT IT READS IS OF BULK AT MOST 1048576: true; the input reads as it did. -/
def blockCutsUptoRow : OpenClaim := { program := "ytomfeddgeihipaagreat", sum := "87677c2bf345ec7416a26835ff3cffb7c3474b727facad32625d0d04dc16522f", func := "parterre/parterrelaw13.BlockCuts", spec := "blockCuts", unfollowed := true, recurses := true, plainKeys := false, apart := false, narrowed := true }
def BlockCutsUptoSaid : Prop := blockCutsUptoRow.holds Tryz.pinned (OpenSpec.upto blockCutsSpec)

/-- 'parterrelaw13.BlockPaths', WHERE WHAT IT READS IS OF BULK AT MOST 1048576: true; the input reads as it did. -/
def blockPathsUptoRow : OpenClaim := { program := "ytomfeddgeihipaagreat", sum := "87677c2bf345ec7416a26835ff3cffb7c3474b727facad32625d0d04dc16522f", func := "parterre/parterrelaw13.BlockPaths", spec := "blockPaths", unfollowed := true, recurses := true, plainKeys := false, apart := false, narrowed := true }
def BlockPathsUptoSaid : Prop := blockPathsUptoRow.holds Tryz.pinned (OpenSpec.upto blockPathsSpec)

/-- 'parterrelaw35.TreeCuts', WHERE WHAT IT READS IS OF BULK AT MOST 1048576: true; the input reads as it did. -/
def treeCutsUptoRow : OpenClaim := { program := "ytomfeddgeihipaagreat", sum := "87677c2bf345ec7416a26835ff3cffb7c3474b727facad32625d0d04dc16522f", func := "parterre/parterrelaw35.TreeCuts", spec := "treeCuts", unfollowed := true, recurses := true, plainKeys := false, apart := false, narrowed := true }
def TreeCutsUptoSaid : Prop := treeCutsUptoRow.holds Tryz.pinned (OpenSpec.upto treeCutsSpec)

/-- 'parterrelaw34.ColorTells', WHERE WHAT IT READS IS OF BULK AT MOST 1048576: true; the input reads as it did. -/
def colorTellsUptoRow : OpenClaim := { program := "ytomfeddgeihipaagreat", sum := "87677c2bf345ec7416a26835ff3cffb7c3474b727facad32625d0d04dc16522f", func := "parterre/parterrelaw34.ColorTells", spec := "colorTells", unfollowed := true, recurses := true, plainKeys := false, apart := false, narrowed := true }
def ColorTellsUptoSaid : Prop := colorTellsUptoRow.holds Tryz.pinned (OpenSpec.upto colorTellsSpec)

/-- 'parterrelaw35.TreeTells', WHERE WHAT IT READS IS OF BULK AT MOST 1048576: true; the input reads as it did. -/
def treeTellsUptoRow : OpenClaim := { program := "ytomfeddgeihipaagreat", sum := "87677c2bf345ec7416a26835ff3cffb7c3474b727facad32625d0d04dc16522f", func := "parterre/parterrelaw35.TreeTells", spec := "treeTells", unfollowed := true, recurses := true, plainKeys := false, apart := false, narrowed := true }
def TreeTellsUptoSaid : Prop := treeTellsUptoRow.holds Tryz.pinned (OpenSpec.upto treeTellsSpec)

/-- 'parterrelaw35.TreeCounts', WHERE WHAT IT READS IS OF BULK AT MOST 1048576: true; the input reads as it did. -/
def treeCountsUptoRow : OpenClaim := { program := "ytomfeddgeihipaagreat", sum := "87677c2bf345ec7416a26835ff3cffb7c3474b727facad32625d0d04dc16522f", func := "parterre/parterrelaw35.TreeCounts", spec := "treeCounts", unfollowed := true, recurses := true, plainKeys := false, apart := false, narrowed := true }
def TreeCountsUptoSaid : Prop := treeCountsUptoRow.holds Tryz.pinned (OpenSpec.upto treeCountsSpec)

/-- 'parterrelaw37.StatMaps', WHERE WHAT IT READS IS OF BULK AT MOST 1048576: true; the input reads as it did. -/
def statMapsUptoRow : OpenClaim := { program := "ytomfeddgeihipaagreat", sum := "87677c2bf345ec7416a26835ff3cffb7c3474b727facad32625d0d04dc16522f", func := "parterre/parterrelaw37.StatMaps", spec := "statMaps", unfollowed := true, recurses := true, plainKeys := false, apart := false, narrowed := true }
def StatMapsUptoSaid : Prop := statMapsUptoRow.holds Tryz.pinned (OpenSpec.upto statMapsSpec)

/-- 'parterrelaw37.StatSums', WHERE WHAT IT READS IS OF BULK AT MOST 1048576: true; the input reads as it did. -/
def statSumsUptoRow : OpenClaim := { program := "ytomfeddgeihipaagreat", sum := "87677c2bf345ec7416a26835ff3cffb7c3474b727facad32625d0d04dc16522f", func := "parterre/parterrelaw37.StatSums", spec := "statSums", unfollowed := true, recurses := true, plainKeys := false, apart := false, narrowed := true }
def StatSumsUptoSaid : Prop := statSumsUptoRow.holds Tryz.pinned (OpenSpec.upto statSumsSpec)

end Rows
end Go.Proofs.YtomfeddgeihipaaGreat
