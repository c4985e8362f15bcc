/-
  No cell of these rows narrows 'for every input' (looked for: loops, veiled, ifaces, maps, wideKeys, modest, calm, conditions, laid).
  DERIVED. THE GIVEN ROWS OF THIS SEAT. 10 by the template 'for every input the law returns true; each argument reads behind the call as it read before'; 0 by the template 'total and deterministic' (their statements: YtphdhggoaijfoaaTotals.lean).
  GIVEN WITH THE SEED: the statements are not yours to turn. If you find one false, say at which input.
  Laid BY PROGRAM, IN A SANDBOX (cutbox-rows.mjs): the forced cells as the released guide's own fill.sh prints them over the translation 5f059498b274d26b… (all of the seat's roots in one cut). By AI agents, Wed Nov 11 2026. No macro, syntax, notation, axiom, sorry.
-/
import Derived.Test.YtphdhggoaijfoaaChecked
import GoSem.Claim
import GoSem.ClaimJoined
import GoSem.ClaimMapViews
import Derived.JoinedTies
import Derived.KernelRfl
namespace Go.Proofs.Ytphdhggoaijfoaa
/- THE CELL 'sum', in the pinned program and in every row, IS THE sha256 OF THE DUMP (.gsa) THAT YtphdhggoaijfoaaProg.lean LOADS. Nothing in Lean hashes anything: it is a label: what it is worth is what the hold of that sum in a sandbox is worth. -/
noncomputable def Try.pinned : Pinned := { name := "ytphdhggoaijfoaa", sum := "5f059498b274d26bf436399270a5a54f860c2a49a85194e19dc0ed4cbb4ff2d3", checked := Try.checked }
namespace Rows
def none {H : Type} : Left H := { results := [], args := [] }

/-- 'parterrelaw08.DartEnds': WHATEVER THE INPUT: true; the input reads as it did. -/
def dartEndsSpec : ChangeSpec := { name := "dartEnds", fn := fun _ => fun
  | [d1, d2, d3] => { results := [.lit (.bool true)], args := [d1, d2, d3] }
  | _ => none }
def dartEndsRow : OpenClaim := { program := "ytphdhggoaijfoaa", sum := "5f059498b274d26bf436399270a5a54f860c2a49a85194e19dc0ed4cbb4ff2d3", func := "parterre/parterrelaw08.DartEnds", spec := "dartEnds", plainKeys := false, apart := false }
def DartEndsSaid : Prop := dartEndsRow.holds Try.pinned (OpenSpec.ofChange dartEndsSpec)

/-- ITS FALSE NEIGHBOUR: 'it returns false'. Refute it at one input. -/
def dartEndsWrong : ChangeSpec := { name := "dartEnds", fn := fun _ => fun
  | [d1, d2, d3] => { results := [.lit (.bool false)], args := [d1, d2, d3] }
  | _ => none }
def DartEndsWrongFalsely : Prop := dartEndsRow.holds Try.pinned (OpenSpec.ofChange dartEndsWrong)

/-- 'parterrelaw08.DartTurns': WHATEVER THE INPUT: true; the input reads as it did. -/
def dartTurnsSpec : ChangeSpec := { name := "dartTurns", fn := fun _ => fun
  | [d1, d2, d3] => { results := [.lit (.bool true)], args := [d1, d2, d3] }
  | _ => none }
def dartTurnsRow : OpenClaim := { program := "ytphdhggoaijfoaa", sum := "5f059498b274d26bf436399270a5a54f860c2a49a85194e19dc0ed4cbb4ff2d3", func := "parterre/parterrelaw08.DartTurns", spec := "dartTurns", unfollowed := true, recurses := true, plainKeys := false, apart := false }
def DartTurnsSaid : Prop := dartTurnsRow.holds Try.pinned (OpenSpec.ofChange dartTurnsSpec)

/-- ITS FALSE NEIGHBOUR: 'it returns false'. Refute it at one input. -/
def dartTurnsWrong : ChangeSpec := { name := "dartTurns", fn := fun _ => fun
  | [d1, d2, d3] => { results := [.lit (.bool false)], args := [d1, d2, d3] }
  | _ => none }
def DartTurnsWrongFalsely : Prop := dartTurnsRow.holds Try.pinned (OpenSpec.ofChange dartTurnsWrong)

/-- 'parterrelaw08.DartBegins': WHATEVER THE INPUT: true; the input reads as it did. -/
def dartBeginsSpec : ChangeSpec := { name := "dartBegins", fn := fun _ => fun
  | [d1, d2, d3, d4] => { results := [.lit (.bool true)], args := [d1, d2, d3, d4] }
  | _ => none }
def dartBeginsRow : OpenClaim := { program := "ytphdhggoaijfoaa", sum := "5f059498b274d26bf436399270a5a54f860c2a49a85194e19dc0ed4cbb4ff2d3", func := "parterre/parterrelaw08.DartBegins", spec := "dartBegins", unfollowed := true, recurses := true, plainKeys := false, apart := false }
def DartBeginsSaid : Prop := dartBeginsRow.holds Try.pinned (OpenSpec.ofChange dartBeginsSpec)

/-- ITS FALSE NEIGHBOUR: 'it returns false'. Refute it at one input. -/
def dartBeginsWrong : ChangeSpec := { name := "dartBegins", fn := fun _ => fun
  | [d1, d2, d3, d4] => { results := [.lit (.bool false)], args := [d1, d2, d3, d4] }
  | _ => none }
def DartBeginsWrongFalsely : Prop := dartBeginsRow.holds Try.pinned (OpenSpec.ofChange dartBeginsWrong)

/-- 'parterrelaw09.GraphChecks': WHATEVER THE INPUT: true; the input reads as it did. -/
def graphChecksSpec : ChangeSpec := { name := "graphChecks", fn := fun _ => fun
  | [d] => { results := [.lit (.bool true)], args := [d] }
  | _ => none }
def graphChecksRow : OpenClaim := { program := "ytphdhggoaijfoaa", sum := "5f059498b274d26bf436399270a5a54f860c2a49a85194e19dc0ed4cbb4ff2d3", func := "parterre/parterrelaw09.GraphChecks", spec := "graphChecks", unfollowed := true, recurses := true, plainKeys := false, apart := false }
def GraphChecksSaid : Prop := graphChecksRow.holds Try.pinned (OpenSpec.ofChange graphChecksSpec)

/-- ITS FALSE NEIGHBOUR: 'it returns false'. Refute it at one input. -/
def graphChecksWrong : ChangeSpec := { name := "graphChecks", fn := fun _ => fun
  | [d] => { results := [.lit (.bool false)], args := [d] }
  | _ => none }
def GraphChecksWrongFalsely : Prop := graphChecksRow.holds Try.pinned (OpenSpec.ofChange graphChecksWrong)

/-- 'parterrelaw09.GraphLooks': WHATEVER THE INPUT: true; the input reads as it did. -/
def graphLooksSpec : ChangeSpec := { name := "graphLooks", fn := fun _ => fun
  | [d1, d2, d3, d4] => { results := [.lit (.bool true)], args := [d1, d2, d3, d4] }
  | _ => none }
def graphLooksRow : OpenClaim := { program := "ytphdhggoaijfoaa", sum := "5f059498b274d26bf436399270a5a54f860c2a49a85194e19dc0ed4cbb4ff2d3", func := "parterre/parterrelaw09.GraphLooks", spec := "graphLooks", unfollowed := true, recurses := true, plainKeys := false, apart := false }
def GraphLooksSaid : Prop := graphLooksRow.holds Try.pinned (OpenSpec.ofChange graphLooksSpec)

/-- ITS FALSE NEIGHBOUR: 'it returns false'. Refute it at one input. -/
def graphLooksWrong : ChangeSpec := { name := "graphLooks", fn := fun _ => fun
  | [d1, d2, d3, d4] => { results := [.lit (.bool false)], args := [d1, d2, d3, d4] }
  | _ => none }
def GraphLooksWrongFalsely : Prop := graphLooksRow.holds Try.pinned (OpenSpec.ofChange graphLooksWrong)

/-- 'parterrelaw18.UnionOf': WHATEVER THE INPUT: true; the input reads as it did. -/
def unionOfSpec : ChangeSpec := { name := "unionOf", fn := fun _ => fun
  | [d1, d2, d3] => { results := [.lit (.bool true)], args := [d1, d2, d3] }
  | _ => none }
def unionOfRow : OpenClaim := { program := "ytphdhggoaijfoaa", sum := "5f059498b274d26bf436399270a5a54f860c2a49a85194e19dc0ed4cbb4ff2d3", func := "parterre/parterrelaw18.UnionOf", spec := "unionOf", unfollowed := true, recurses := true, plainKeys := false, apart := false }
def UnionOfSaid : Prop := unionOfRow.holds Try.pinned (OpenSpec.ofChange unionOfSpec)

/-- ITS FALSE NEIGHBOUR: 'it returns false'. Refute it at one input. -/
def unionOfWrong : ChangeSpec := { name := "unionOf", fn := fun _ => fun
  | [d1, d2, d3] => { results := [.lit (.bool false)], args := [d1, d2, d3] }
  | _ => none }
def UnionOfWrongFalsely : Prop := unionOfRow.holds Try.pinned (OpenSpec.ofChange unionOfWrong)

/-- 'parterrelaw18.UnionTurns': WHATEVER THE INPUT: true; the input reads as it did. -/
def unionTurnsSpec : ChangeSpec := { name := "unionTurns", fn := fun _ => fun
  | [d1, d2, d3] => { results := [.lit (.bool true)], args := [d1, d2, d3] }
  | _ => none }
def unionTurnsRow : OpenClaim := { program := "ytphdhggoaijfoaa", sum := "5f059498b274d26bf436399270a5a54f860c2a49a85194e19dc0ed4cbb4ff2d3", func := "parterre/parterrelaw18.UnionTurns", spec := "unionTurns", unfollowed := true, recurses := true, plainKeys := false, apart := false }
def UnionTurnsSaid : Prop := unionTurnsRow.holds Try.pinned (OpenSpec.ofChange unionTurnsSpec)

/-- ITS FALSE NEIGHBOUR: 'it returns false'. Refute it at one input. -/
def unionTurnsWrong : ChangeSpec := { name := "unionTurns", fn := fun _ => fun
  | [d1, d2, d3] => { results := [.lit (.bool false)], args := [d1, d2, d3] }
  | _ => none }
def UnionTurnsWrongFalsely : Prop := unionTurnsRow.holds Try.pinned (OpenSpec.ofChange unionTurnsWrong)

/-- 'parterrelaw18.UnionPicks': WHATEVER THE INPUT: true; the input reads as it did. -/
def unionPicksSpec : ChangeSpec := { name := "unionPicks", fn := fun _ => fun
  | [d1, d2, d3] => { results := [.lit (.bool true)], args := [d1, d2, d3] }
  | _ => none }
def unionPicksRow : OpenClaim := { program := "ytphdhggoaijfoaa", sum := "5f059498b274d26bf436399270a5a54f860c2a49a85194e19dc0ed4cbb4ff2d3", func := "parterre/parterrelaw18.UnionPicks", spec := "unionPicks", unfollowed := true, recurses := true, plainKeys := false, apart := false }
def UnionPicksSaid : Prop := unionPicksRow.holds Try.pinned (OpenSpec.ofChange unionPicksSpec)

/-- ITS FALSE NEIGHBOUR: 'it returns false'. Refute it at one input. -/
def unionPicksWrong : ChangeSpec := { name := "unionPicks", fn := fun _ => fun
  | [d1, d2, d3] => { results := [.lit (.bool false)], args := [d1, d2, d3] }
  | _ => none }
def UnionPicksWrongFalsely : Prop := unionPicksRow.holds Try.pinned (OpenSpec.ofChange unionPicksWrong)

/-- 'parterrelaw10.RotChecks': WHATEVER THE INPUT: true; the input reads as it did. -/
def rotChecksSpec : ChangeSpec := { name := "rotChecks", fn := fun _ => fun
  | [d] => { results := [.lit (.bool true)], args := [d] }
  | _ => none }
def rotChecksRow : OpenClaim := { program := "ytphdhggoaijfoaa", sum := "5f059498b274d26bf436399270a5a54f860c2a49a85194e19dc0ed4cbb4ff2d3", func := "parterre/parterrelaw10.RotChecks", spec := "rotChecks", unfollowed := true, recurses := true, plainKeys := false, apart := false }
def RotChecksSaid : Prop := rotChecksRow.holds Try.pinned (OpenSpec.ofChange rotChecksSpec)

/-- ITS FALSE NEIGHBOUR: 'it returns false'. Refute it at one input. -/
def rotChecksWrong : ChangeSpec := { name := "rotChecks", fn := fun _ => fun
  | [d] => { results := [.lit (.bool false)], args := [d] }
  | _ => none }
def RotChecksWrongFalsely : Prop := rotChecksRow.holds Try.pinned (OpenSpec.ofChange rotChecksWrong)

/-- 'parterrelaw10.RotMakes': WHATEVER THE INPUT: true; the input reads as it did. -/
def rotMakesSpec : ChangeSpec := { name := "rotMakes", fn := fun _ => fun
  | [d1, d2] => { results := [.lit (.bool true)], args := [d1, d2] }
  | _ => none }
def rotMakesRow : OpenClaim := { program := "ytphdhggoaijfoaa", sum := "5f059498b274d26bf436399270a5a54f860c2a49a85194e19dc0ed4cbb4ff2d3", func := "parterre/parterrelaw10.RotMakes", spec := "rotMakes", unfollowed := true, recurses := true, plainKeys := false, apart := false }
def RotMakesSaid : Prop := rotMakesRow.holds Try.pinned (OpenSpec.ofChange rotMakesSpec)

/-- ITS FALSE NEIGHBOUR: 'it returns false'. Refute it at one input. -/
def rotMakesWrong : ChangeSpec := { name := "rotMakes", fn := fun _ => fun
  | [d1, d2] => { results := [.lit (.bool false)], args := [d1, d2] }
  | _ => none }
def RotMakesWrongFalsely : Prop := rotMakesRow.holds Try.pinned (OpenSpec.ofChange rotMakesWrong)

/- THE SECOND FORM. 'bulk': how many values and letters a reading holds, each counted each time it is reached (what is shared counts as often as it is met; a slice's spare places count too). A statement '..UptoSaid' is the law's where the arguments, and the package variables that the reading takes, are together of bulk at most 1048576: NARROWER than '..Said'. Prove '..Said' where nothing that the law and all that it calls make is longer than what came in: it says more and counts as full. Else prove '..UptoSaid'. A law counts once. -/
mutual
def uptoBulk {H : Type} : DataW H → Nat
  | .lit (.string bytes) => bytes.length + 1
  | .lit _ => 1
  | .nil => 1
  | .ptr d => uptoBulk d + 1
  | .slice elems spare => uptoBulkAll elems + uptoBulkAll spare + 1
  | .agg parts => uptoBulkAll parts + 1
  | .iface _ d => uptoBulk d + 1
  | .map entries => uptoBulkEntries entries + 1
  | .held _ => 1
def uptoBulkAll {H : Type} : List (DataW H) → Nat
  | [] => 0
  | d :: r => uptoBulk d + uptoBulkAll r
def uptoBulkEntries {H : Type} : List (Lit × DataW H) → Nat
  | [] => 0
  | x :: r => uptoBulkEntry x + uptoBulkEntries r
def uptoBulkEntry {H : Type} : Lit × DataW H → Nat
  | (.string bytes, d) => bytes.length + uptoBulk d + 1
  | (_, d) => uptoBulk d + 1
 end
def uptoSmall : (H : Type) → List (DataW H) → Bool := fun _ ds => decide (uptoBulkAll ds ≤ 1048576)
def OpenSpec.upto (s : _root_.Go.ChangeSpec) : _root_.Go.OpenSpec := { _root_.Go.OpenSpec.ofChange s with cond := some uptoSmall }

/-- 'parterrelaw08.DartEnds', WHERE WHAT IT READS IS OF BULK AT MOST 1048576: true; the input reads as it did. -/
def dartEndsUptoRow : OpenClaim := { program := "ytphdhggoaijfoaa", sum := "5f059498b274d26bf436399270a5a54f860c2a49a85194e19dc0ed4cbb4ff2d3", func := "parterre/parterrelaw08.DartEnds", spec := "dartEnds", plainKeys := false, apart := false, narrowed := true }
def DartEndsUptoSaid : Prop := dartEndsUptoRow.holds Try.pinned (OpenSpec.upto dartEndsSpec)

/-- 'parterrelaw08.DartTurns', WHERE WHAT IT READS IS OF BULK AT MOST 1048576: true; the input reads as it did. -/
def dartTurnsUptoRow : OpenClaim := { program := "ytphdhggoaijfoaa", sum := "5f059498b274d26bf436399270a5a54f860c2a49a85194e19dc0ed4cbb4ff2d3", func := "parterre/parterrelaw08.DartTurns", spec := "dartTurns", unfollowed := true, recurses := true, plainKeys := false, apart := false, narrowed := true }
def DartTurnsUptoSaid : Prop := dartTurnsUptoRow.holds Try.pinned (OpenSpec.upto dartTurnsSpec)

/-- 'parterrelaw08.DartBegins', WHERE WHAT IT READS IS OF BULK AT MOST 1048576: true; the input reads as it did. -/
def dartBeginsUptoRow : OpenClaim := { program := "ytphdhggoaijfoaa", sum := "5f059498b274d26bf436399270a5a54f860c2a49a85194e19dc0ed4cbb4ff2d3", func := "parterre/parterrelaw08.DartBegins", spec := "dartBegins", unfollowed := true, recurses := true, plainKeys := false, apart := false, narrowed := true }
def DartBeginsUptoSaid : Prop := dartBeginsUptoRow.holds Try.pinned (OpenSpec.upto dartBeginsSpec)

/-- 'parterrelaw09.GraphChecks', WHERE WHAT IT READS IS OF BULK AT MOST 1048576: true; the input reads as it did. -/
def graphChecksUptoRow : OpenClaim := { program := "ytphdhggoaijfoaa", sum := "5f059498b274d26bf436399270a5a54f860c2a49a85194e19dc0ed4cbb4ff2d3", func := "parterre/parterrelaw09.GraphChecks", spec := "graphChecks", unfollowed := true, recurses := true, plainKeys := false, apart := false, narrowed := true }
def GraphChecksUptoSaid : Prop := graphChecksUptoRow.holds Try.pinned (OpenSpec.upto graphChecksSpec)

/-- 'parterrelaw09.GraphLooks', WHERE WHAT IT READS IS OF BULK AT MOST 1048576: true; the input reads as it did. -/
def graphLooksUptoRow : OpenClaim := { program := "ytphdhggoaijfoaa", sum := "5f059498b274d26bf436399270a5a54f860c2a49a85194e19dc0ed4cbb4ff2d3", func := "parterre/parterrelaw09.GraphLooks", spec := "graphLooks", unfollowed := true, recurses := true, plainKeys := false, apart := false, narrowed := true }
def GraphLooksUptoSaid : Prop := graphLooksUptoRow.holds Try.pinned (OpenSpec.upto graphLooksSpec)

/-- 'parterrelaw18.UnionOf', WHERE WHAT IT READS IS OF BULK AT MOST 1048576: true; the input reads as it did. -/
def unionOfUptoRow : OpenClaim := { program := "ytphdhggoaijfoaa", sum := "5f059498b274d26bf436399270a5a54f860c2a49a85194e19dc0ed4cbb4ff2d3", func := "parterre/parterrelaw18.UnionOf", spec := "unionOf", unfollowed := true, recurses := true, plainKeys := false, apart := false, narrowed := true }
def UnionOfUptoSaid : Prop := unionOfUptoRow.holds Try.pinned (OpenSpec.upto unionOfSpec)

/-- 'parterrelaw18.UnionTurns', WHERE WHAT IT READS IS OF BULK AT MOST 1048576: true; the input reads as it did. -/
def unionTurnsUptoRow : OpenClaim := { program := "ytphdhggoaijfoaa", sum := "5f059498b274d26bf436399270a5a54f860c2a49a85194e19dc0ed4cbb4ff2d3", func := "parterre/parterrelaw18.UnionTurns", spec := "unionTurns", unfollowed := true, recurses := true, plainKeys := false, apart := false, narrowed := true }
def UnionTurnsUptoSaid : Prop := unionTurnsUptoRow.holds Try.pinned (OpenSpec.upto unionTurnsSpec)

/-- 'parterrelaw18.UnionPicks', WHERE WHAT IT READS IS OF BULK AT MOST 1048576: true; the input reads as it did. -/
def unionPicksUptoRow : OpenClaim := { program := "ytphdhggoaijfoaa", sum := "5f059498b274d26bf436399270a5a54f860c2a49a85194e19dc0ed4cbb4ff2d3", func := "parterre/parterrelaw18.UnionPicks", spec := "unionPicks", unfollowed := true, recurses := true, plainKeys := false, apart := false, narrowed := true }
def UnionPicksUptoSaid : Prop := unionPicksUptoRow.holds Try.pinned (OpenSpec.upto unionPicksSpec)

/-- 'parterrelaw10.RotChecks', WHERE WHAT IT READS IS OF BULK AT MOST 1048576: true; the input reads as it did. -/
def rotChecksUptoRow : OpenClaim := { program := "ytphdhggoaijfoaa", sum := "5f059498b274d26bf436399270a5a54f860c2a49a85194e19dc0ed4cbb4ff2d3", func := "parterre/parterrelaw10.RotChecks", spec := "rotChecks", unfollowed := true, recurses := true, plainKeys := false, apart := false, narrowed := true }
def RotChecksUptoSaid : Prop := rotChecksUptoRow.holds Try.pinned (OpenSpec.upto rotChecksSpec)

/-- 'parterrelaw10.RotMakes', WHERE WHAT IT READS IS OF BULK AT MOST 1048576: true; the input reads as it did. -/
def rotMakesUptoRow : OpenClaim := { program := "ytphdhggoaijfoaa", sum := "5f059498b274d26bf436399270a5a54f860c2a49a85194e19dc0ed4cbb4ff2d3", func := "parterre/parterrelaw10.RotMakes", spec := "rotMakes", unfollowed := true, recurses := true, plainKeys := false, apart := false, narrowed := true }
def RotMakesUptoSaid : Prop := rotMakesUptoRow.holds Try.pinned (OpenSpec.upto rotMakesSpec)

end Rows
end Go.Proofs.Ytphdhggoaijfoaa
