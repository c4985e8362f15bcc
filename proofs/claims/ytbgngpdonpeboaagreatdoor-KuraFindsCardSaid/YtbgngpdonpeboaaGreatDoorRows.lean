/-
  NARROWER THAN 'FOR EVERY INPUT', by the rows' own cells (each row's printed sentence says how): PlaneTold: laid · PlaneLess: laid · KuraLeast: laid · PlaneTries: laid · KuraFinds: laid · CertKura: laid.
  DERIVED. THE GIVEN ROWS OF THIS SEAT. 6 by the template 'for every input the law returns true; each argument reads behind the call as it read before'; 0 by the template 'total and deterministic' (their statements: YtbgngpdonpeboaaGreatDoorTotals.lean).
  GIVEN WITH THE SEED: the statements are not yours to turn. If you find one false, say at which input.
  Laid BY PROGRAM, IN A SANDBOX (cutbox-rows.mjs): the forced cells as the released guide's own fill.sh prints them over the translation cde25b31b10e2189… (all of the seat's roots in one cut). By AI agents, Wed Nov 11 2026. No macro, syntax, notation, axiom, sorry.
-/
import Derived.Test.YtbgngpdonpeboaaGreatDoorChecked
import GoSem.Claim
import GoSem.ClaimJoined
import GoSem.ClaimMapViews
import Derived.JoinedTies
import Derived.KernelRfl
namespace Go.Proofs.YtbgngpdonpeboaaGreatDoor
/- THE CELL 'sum', in the pinned program and in every row, IS THE sha256 OF THE DUMP (.gsa) THAT YtbgngpdonpeboaaGreatDoorProg.lean LOADS. Nothing in Lean hashes anything: it is a label: what it is worth is what the hold of that sum in a sandbox is worth. -/
noncomputable def Tryz.pinned : Pinned := { name := "ytbgngpdonpeboaagreatdoor", sum := "cde25b31b10e2189964dc88ca5f7d3d51aa094d5f6e39eb4c9432620309ece10", checked := Tryz.checked }
namespace Rows
def none {H : Type} : Left H := { results := [], args := [] }

/- WHAT THE LISTED PACKAGE-LEVEL VARIABLES READ AS WHEN THE CALL BEGINS. Each datum BY PROGRAM (the guide's laid-datum.mjs) off the statement by which the dump's own 'gosem.cut.vars' lays the variable. In a bare row this is a premise. The card (YtbgngpdonpeboaaGreatDoorCards.lean) ties it to the program's text. -/
def laid_math_bits_deBruijn64tab {H : Type} : DataW H := .agg [.lit (.int .u8 0), .lit (.int .u8 1), .lit (.int .u8 56), .lit (.int .u8 2), .lit (.int .u8 57), .lit (.int .u8 49), .lit (.int .u8 28), .lit (.int .u8 3), .lit (.int .u8 61), .lit (.int .u8 58), .lit (.int .u8 42), .lit (.int .u8 50), .lit (.int .u8 38), .lit (.int .u8 29), .lit (.int .u8 17), .lit (.int .u8 4), .lit (.int .u8 62), .lit (.int .u8 47), .lit (.int .u8 59), .lit (.int .u8 36), .lit (.int .u8 45), .lit (.int .u8 43), .lit (.int .u8 51), .lit (.int .u8 22), .lit (.int .u8 53), .lit (.int .u8 39), .lit (.int .u8 33), .lit (.int .u8 30), .lit (.int .u8 24), .lit (.int .u8 18), .lit (.int .u8 12), .lit (.int .u8 5), .lit (.int .u8 63), .lit (.int .u8 55), .lit (.int .u8 48), .lit (.int .u8 27), .lit (.int .u8 60), .lit (.int .u8 41), .lit (.int .u8 37), .lit (.int .u8 16), .lit (.int .u8 46), .lit (.int .u8 35), .lit (.int .u8 44), .lit (.int .u8 21), .lit (.int .u8 52), .lit (.int .u8 32), .lit (.int .u8 23), .lit (.int .u8 11), .lit (.int .u8 54), .lit (.int .u8 26), .lit (.int .u8 40), .lit (.int .u8 15), .lit (.int .u8 34), .lit (.int .u8 20), .lit (.int .u8 31), .lit (.int .u8 10), .lit (.int .u8 25), .lit (.int .u8 14), .lit (.int .u8 19), .lit (.int .u8 9), .lit (.int .u8 13), .lit (.int .u8 8), .lit (.int .u8 7), .lit (.int .u8 6)]

/-- 'parterrelaw14.PlaneTold': WHATEVER THE INPUT: true; the input reads as it did. -/
def planeToldSpec : ChangeSpec := { name := "planeTold", fn := fun _ => fun
  | [d] => { results := [.lit (.bool true)], args := [d] }
  | _ => none }
def planeToldRow : OpenClaim := { program := "ytbgngpdonpeboaagreatdoor", sum := "cde25b31b10e2189964dc88ca5f7d3d51aa094d5f6e39eb4c9432620309ece10", func := "parterre/parterrelaw14.PlaneTold", spec := "planeTold", unfollowed := true, recurses := true, named := ["math/bits.deBruijn64tab"], plainKeys := false, apart := false, laid := [("math/bits.deBruijn64tab", laid_math_bits_deBruijn64tab)] }
def PlaneToldSaid : Prop := planeToldRow.holds Tryz.pinned (OpenSpec.ofChange planeToldSpec)

/-- ITS FALSE NEIGHBOUR: 'it returns false'. Refute it at one input. -/
def planeToldWrong : ChangeSpec := { name := "planeTold", fn := fun _ => fun
  | [d] => { results := [.lit (.bool false)], args := [d] }
  | _ => none }
def PlaneToldWrongFalsely : Prop := planeToldRow.holds Tryz.pinned (OpenSpec.ofChange planeToldWrong)

/-- 'parterrelaw14.PlaneLess': WHATEVER THE INPUT: true; the input reads as it did. -/
def planeLessSpec : ChangeSpec := { name := "planeLess", fn := fun _ => fun
  | [d1, d2] => { results := [.lit (.bool true)], args := [d1, d2] }
  | _ => none }
def planeLessRow : OpenClaim := { program := "ytbgngpdonpeboaagreatdoor", sum := "cde25b31b10e2189964dc88ca5f7d3d51aa094d5f6e39eb4c9432620309ece10", func := "parterre/parterrelaw14.PlaneLess", spec := "planeLess", unfollowed := true, recurses := true, named := ["math/bits.deBruijn64tab"], plainKeys := false, apart := false, laid := [("math/bits.deBruijn64tab", laid_math_bits_deBruijn64tab)] }
def PlaneLessSaid : Prop := planeLessRow.holds Tryz.pinned (OpenSpec.ofChange planeLessSpec)

/-- ITS FALSE NEIGHBOUR: 'it returns false'. Refute it at one input. -/
def planeLessWrong : ChangeSpec := { name := "planeLess", fn := fun _ => fun
  | [d1, d2] => { results := [.lit (.bool false)], args := [d1, d2] }
  | _ => none }
def PlaneLessWrongFalsely : Prop := planeLessRow.holds Tryz.pinned (OpenSpec.ofChange planeLessWrong)

/-- 'parterrelaw15.KuraLeast': WHATEVER THE INPUT: true; the input reads as it did. -/
def kuraLeastSpec : ChangeSpec := { name := "kuraLeast", fn := fun _ => fun
  | [d] => { results := [.lit (.bool true)], args := [d] }
  | _ => none }
def kuraLeastRow : OpenClaim := { program := "ytbgngpdonpeboaagreatdoor", sum := "cde25b31b10e2189964dc88ca5f7d3d51aa094d5f6e39eb4c9432620309ece10", func := "parterre/parterrelaw15.KuraLeast", spec := "kuraLeast", unfollowed := true, recurses := true, named := ["math/bits.deBruijn64tab"], plainKeys := false, apart := false, laid := [("math/bits.deBruijn64tab", laid_math_bits_deBruijn64tab)] }
def KuraLeastSaid : Prop := kuraLeastRow.holds Tryz.pinned (OpenSpec.ofChange kuraLeastSpec)

/-- ITS FALSE NEIGHBOUR: 'it returns false'. Refute it at one input. -/
def kuraLeastWrong : ChangeSpec := { name := "kuraLeast", fn := fun _ => fun
  | [d] => { results := [.lit (.bool false)], args := [d] }
  | _ => none }
def KuraLeastWrongFalsely : Prop := kuraLeastRow.holds Tryz.pinned (OpenSpec.ofChange kuraLeastWrong)

/-- 'parterrelaw14.PlaneTries': WHATEVER THE INPUT: true; the input reads as it did. -/
def planeTriesSpec : ChangeSpec := { name := "planeTries", fn := fun _ => fun
  | [d] => { results := [.lit (.bool true)], args := [d] }
  | _ => none }
def planeTriesRow : OpenClaim := { program := "ytbgngpdonpeboaagreatdoor", sum := "cde25b31b10e2189964dc88ca5f7d3d51aa094d5f6e39eb4c9432620309ece10", func := "parterre/parterrelaw14.PlaneTries", spec := "planeTries", unfollowed := true, recurses := true, named := ["math/bits.deBruijn64tab"], plainKeys := false, apart := false, laid := [("math/bits.deBruijn64tab", laid_math_bits_deBruijn64tab)] }
def PlaneTriesSaid : Prop := planeTriesRow.holds Tryz.pinned (OpenSpec.ofChange planeTriesSpec)

/-- ITS FALSE NEIGHBOUR: 'it returns false'. Refute it at one input. -/
def planeTriesWrong : ChangeSpec := { name := "planeTries", fn := fun _ => fun
  | [d] => { results := [.lit (.bool false)], args := [d] }
  | _ => none }
def PlaneTriesWrongFalsely : Prop := planeTriesRow.holds Tryz.pinned (OpenSpec.ofChange planeTriesWrong)

/-- 'parterrelaw15.KuraFinds': WHATEVER THE INPUT: true; the input reads as it did. -/
def kuraFindsSpec : ChangeSpec := { name := "kuraFinds", fn := fun _ => fun
  | [d] => { results := [.lit (.bool true)], args := [d] }
  | _ => none }
def kuraFindsRow : OpenClaim := { program := "ytbgngpdonpeboaagreatdoor", sum := "cde25b31b10e2189964dc88ca5f7d3d51aa094d5f6e39eb4c9432620309ece10", func := "parterre/parterrelaw15.KuraFinds", spec := "kuraFinds", unfollowed := true, recurses := true, named := ["math/bits.deBruijn64tab"], plainKeys := false, apart := false, laid := [("math/bits.deBruijn64tab", laid_math_bits_deBruijn64tab)] }
def KuraFindsSaid : Prop := kuraFindsRow.holds Tryz.pinned (OpenSpec.ofChange kuraFindsSpec)

/-- ITS FALSE NEIGHBOUR: 'it returns false'. Refute it at one input. -/
def kuraFindsWrong : ChangeSpec := { name := "kuraFinds", fn := fun _ => fun
  | [d] => { results := [.lit (.bool false)], args := [d] }
  | _ => none }
def KuraFindsWrongFalsely : Prop := kuraFindsRow.holds Tryz.pinned (OpenSpec.ofChange kuraFindsWrong)

/-- 'parterrelaw16.CertKura': WHATEVER THE INPUT: true; the input reads as it did. -/
def certKuraSpec : ChangeSpec := { name := "certKura", fn := fun _ => fun
  | [d] => { results := [.lit (.bool true)], args := [d] }
  | _ => none }
def certKuraRow : OpenClaim := { program := "ytbgngpdonpeboaagreatdoor", sum := "cde25b31b10e2189964dc88ca5f7d3d51aa094d5f6e39eb4c9432620309ece10", func := "parterre/parterrelaw16.CertKura", spec := "certKura", unfollowed := true, recurses := true, named := ["math/bits.deBruijn64tab"], plainKeys := false, apart := false, laid := [("math/bits.deBruijn64tab", laid_math_bits_deBruijn64tab)] }
def CertKuraSaid : Prop := certKuraRow.holds Tryz.pinned (OpenSpec.ofChange certKuraSpec)

/-- ITS FALSE NEIGHBOUR: 'it returns false'. Refute it at one input. -/
def certKuraWrong : ChangeSpec := { name := "certKura", fn := fun _ => fun
  | [d] => { results := [.lit (.bool false)], args := [d] }
  | _ => none }
def CertKuraWrongFalsely : Prop := certKuraRow.holds Tryz.pinned (OpenSpec.ofChange certKuraWrong)

/- THE SECOND FORM. 'bulk': how many values and letters a reading holds, each counted each time it is reached (what is shared counts as often as it is met; a slice's spare places count too). A statement '..UptoSaid' is the law's where the arguments, and the package variables that the reading takes, are together of bulk at most 1048576: NARROWER than '..Said'. Prove '..Said' where nothing that the law and all that it calls make is longer than what came in: it says more and counts as full. Else prove '..UptoSaid'. A law counts once. -/
mutual
def uptoBulk {H : Type} : DataW H → Nat
  | .lit (.string bytes) => bytes.length + 1
  | .lit _ => 1
  | .nil => 1
  | .ptr d => uptoBulk d + 1
  | .slice elems spare => uptoBulkAll elems + uptoBulkAll spare + 1
  | .agg parts => uptoBulkAll parts + 1
  | .iface _ d => uptoBulk d + 1
  | .map entries => uptoBulkEntries entries + 1
  | .held _ => 1
def uptoBulkAll {H : Type} : List (DataW H) → Nat
  | [] => 0
  | d :: r => uptoBulk d + uptoBulkAll r
def uptoBulkEntries {H : Type} : List (Lit × DataW H) → Nat
  | [] => 0
  | x :: r => uptoBulkEntry x + uptoBulkEntries r
def uptoBulkEntry {H : Type} : Lit × DataW H → Nat
  | (.string bytes, d) => bytes.length + uptoBulk d + 1
  | (_, d) => uptoBulk d + 1
 end
def uptoSmall : (H : Type) → List (DataW H) → Bool := fun _ ds => decide (uptoBulkAll ds ≤ 1048576)
def OpenSpec.upto (s : _root_.Go.ChangeSpec) : _root_.Go.OpenSpec := { _root_.Go.OpenSpec.ofChange s with cond := some uptoSmall }

/-- 'parterrelaw14.PlaneTold', WHERE WHAT IT READS IS OF BULK AT MOST 1048576: true; the input reads as it did. -/
def planeToldUptoRow : OpenClaim := { program := "ytbgngpdonpeboaagreatdoor", sum := "cde25b31b10e2189964dc88ca5f7d3d51aa094d5f6e39eb4c9432620309ece10", func := "parterre/parterrelaw14.PlaneTold", spec := "planeTold", unfollowed := true, recurses := true, named := ["math/bits.deBruijn64tab"], plainKeys := false, apart := false, laid := [("math/bits.deBruijn64tab", laid_math_bits_deBruijn64tab)], narrowed := true }
def PlaneToldUptoSaid : Prop := planeToldUptoRow.holds Tryz.pinned (OpenSpec.upto planeToldSpec)

/-- 'parterrelaw14.PlaneLess', WHERE WHAT IT READS IS OF BULK AT MOST 1048576: true; the input reads as it did. -/
def planeLessUptoRow : OpenClaim := { program := "ytbgngpdonpeboaagreatdoor", sum := "cde25b31b10e2189964dc88ca5f7d3d51aa094d5f6e39eb4c9432620309ece10", func := "parterre/parterrelaw14.PlaneLess", spec := "planeLess", unfollowed := true, recurses := true, named := ["math/bits.deBruijn64tab"], plainKeys := false, apart := false, laid := [("math/bits.deBruijn64tab", laid_math_bits_deBruijn64tab)], narrowed := true }
def PlaneLessUptoSaid : Prop := planeLessUptoRow.holds Tryz.pinned (OpenSpec.upto planeLessSpec)

/-- 'parterrelaw15.KuraLeast', WHERE WHAT IT READS IS OF BULK AT MOST 1048576: true; the input reads as it did. -/
def kuraLeastUptoRow : OpenClaim := { program := "ytbgngpdonpeboaagreatdoor", sum := "cde25b31b10e2189964dc88ca5f7d3d51aa094d5f6e39eb4c9432620309ece10", func := "parterre/parterrelaw15.KuraLeast", spec := "kuraLeast", unfollowed := true, recurses := true, named := ["math/bits.deBruijn64tab"], plainKeys := false, apart := false, laid := [("math/bits.deBruijn64tab", laid_math_bits_deBruijn64tab)], narrowed := true }
def KuraLeastUptoSaid : Prop := kuraLeastUptoRow.holds Tryz.pinned (OpenSpec.upto kuraLeastSpec)

/-- 'parterrelaw14.PlaneTries', WHERE WHAT IT READS IS OF BULK AT MOST 1048576: true; the input reads as it did. -/
def planeTriesUptoRow : OpenClaim := { program := "ytbgngpdonpeboaagreatdoor", sum := "cde25b31b10e2189964dc88ca5f7d3d51aa094d5f6e39eb4c9432620309ece10", func := "parterre/parterrelaw14.PlaneTries", spec := "planeTries", unfollowed := true, recurses := true, named := ["math/bits.deBruijn64tab"], plainKeys := false, apart := false, laid := [("math/bits.deBruijn64tab", laid_math_bits_deBruijn64tab)], narrowed := true }
def PlaneTriesUptoSaid : Prop := planeTriesUptoRow.holds Tryz.pinned (OpenSpec.upto planeTriesSpec)

/-- 'parterrelaw15.KuraFinds', WHERE WHAT IT READS IS OF BULK AT MOST 1048576: true; the input reads as it did. -/
def kuraFindsUptoRow : OpenClaim := { program := "ytbgngpdonpeboaagreatdoor", sum := "cde25b31b10e2189964dc88ca5f7d3d51aa094d5f6e39eb4c9432620309ece10", func := "parterre/parterrelaw15.KuraFinds", spec := "kuraFinds", unfollowed := true, recurses := true, named := ["math/bits.deBruijn64tab"], plainKeys := false, apart := false, laid := [("math/bits.deBruijn64tab", laid_math_bits_deBruijn64tab)], narrowed := true }
def KuraFindsUptoSaid : Prop := kuraFindsUptoRow.holds Tryz.pinned (OpenSpec.upto kuraFindsSpec)

/-- 'parterrelaw16.CertKura', WHERE WHAT IT READS IS OF BULK AT MOST 1048576: true; the input reads as it did. -/
def certKuraUptoRow : OpenClaim := { program := "ytbgngpdonpeboaagreatdoor", sum := "cde25b31b10e2189964dc88ca5f7d3d51aa094d5f6e39eb4c9432620309ece10", func := "parterre/parterrelaw16.CertKura", spec := "certKura", unfollowed := true, recurses := true, named := ["math/bits.deBruijn64tab"], plainKeys := false, apart := false, laid := [("math/bits.deBruijn64tab", laid_math_bits_deBruijn64tab)], narrowed := true }
def CertKuraUptoSaid : Prop := certKuraUptoRow.holds Tryz.pinned (OpenSpec.upto certKuraSpec)

end Rows
end Go.Proofs.YtbgngpdonpeboaaGreatDoor
