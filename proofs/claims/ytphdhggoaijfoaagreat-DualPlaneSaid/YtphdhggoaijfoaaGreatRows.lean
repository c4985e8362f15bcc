/-
  No cell of these rows narrows 'for every input' (looked for: loops, veiled, ifaces, maps, wideKeys, modest, calm, conditions, laid).
  DERIVED. THE GIVEN ROWS OF THIS SEAT. 5 by the template 'for every input the law returns true; each argument reads behind the call as it read before'; 0 by the template 'total and deterministic' (their statements: YtphdhggoaijfoaaGreatTotals.lean).
  GIVEN WITH THE SEED: the statements are not yours to turn. If you find one false, say at which input.
  Laid BY PROGRAM, IN A SANDBOX (cutbox-rows.mjs): the forced cells as the released guide's own fill.sh prints them over the translation 854b256bf94cc359… (all of the seat's roots in one cut). By AI agents, Wed Nov 11 2026. No macro, syntax, notation, axiom, sorry.
-/
import Derived.Test.YtphdhggoaijfoaaGreatChecked
import GoSem.Claim
import GoSem.ClaimJoined
import GoSem.ClaimMapViews
import Derived.JoinedTies
import Derived.KernelRfl
namespace Go.Proofs.YtphdhggoaijfoaaGreat
/- THE CELL 'sum', in the pinned program and in every row, IS THE sha256 OF THE DUMP (.gsa) THAT YtphdhggoaijfoaaGreatProg.lean LOADS. Nothing in Lean hashes anything: it is a label: what it is worth is what the hold of that sum in a sandbox is worth. -/
noncomputable def Tryz.pinned : Pinned := { name := "ytphdhggoaijfoaagreat", sum := "854b256bf94cc35966074e0081c590cbec300dce6b280a17216a2aa29204b9d3", checked := Tryz.checked }
namespace Rows
def none {H : Type} : Left H := { results := [], args := [] }

/-- 'parterrelaw10.RotFaces': WHATEVER THE INPUT: true; the input reads as it did. -/
def rotFacesSpec : ChangeSpec := { name := "rotFaces", fn := fun _ => fun
  | [d1, d2] => { results := [.lit (.bool true)], args := [d1, d2] }
  | _ => none }
def rotFacesRow : OpenClaim := { program := "ytphdhggoaijfoaagreat", sum := "854b256bf94cc35966074e0081c590cbec300dce6b280a17216a2aa29204b9d3", func := "parterre/parterrelaw10.RotFaces", spec := "rotFaces", unfollowed := true, recurses := true, apart := false }
def RotFacesSaid : Prop := rotFacesRow.holds Tryz.pinned (OpenSpec.ofChange rotFacesSpec)

/-- ITS FALSE NEIGHBOUR: 'it returns false'. Refute it at one input. -/
def rotFacesWrong : ChangeSpec := { name := "rotFaces", fn := fun _ => fun
  | [d1, d2] => { results := [.lit (.bool false)], args := [d1, d2] }
  | _ => none }
def RotFacesWrongFalsely : Prop := rotFacesRow.holds Tryz.pinned (OpenSpec.ofChange rotFacesWrong)

/-- 'parterrelaw32.DualMaps': WHATEVER THE INPUT: true; the input reads as it did. -/
def dualMapsSpec : ChangeSpec := { name := "dualMaps", fn := fun _ => fun
  | [d] => { results := [.lit (.bool true)], args := [d] }
  | _ => none }
def dualMapsRow : OpenClaim := { program := "ytphdhggoaijfoaagreat", sum := "854b256bf94cc35966074e0081c590cbec300dce6b280a17216a2aa29204b9d3", func := "parterre/parterrelaw32.DualMaps", spec := "dualMaps", unfollowed := true, recurses := true, apart := false }
def DualMapsSaid : Prop := dualMapsRow.holds Tryz.pinned (OpenSpec.ofChange dualMapsSpec)

/-- ITS FALSE NEIGHBOUR: 'it returns false'. Refute it at one input. -/
def dualMapsWrong : ChangeSpec := { name := "dualMaps", fn := fun _ => fun
  | [d] => { results := [.lit (.bool false)], args := [d] }
  | _ => none }
def DualMapsWrongFalsely : Prop := dualMapsRow.holds Tryz.pinned (OpenSpec.ofChange dualMapsWrong)

/-- 'parterrelaw32.DualPlane': WHATEVER THE INPUT: true; the input reads as it did. -/
def dualPlaneSpec : ChangeSpec := { name := "dualPlane", fn := fun _ => fun
  | [d] => { results := [.lit (.bool true)], args := [d] }
  | _ => none }
def dualPlaneRow : OpenClaim := { program := "ytphdhggoaijfoaagreat", sum := "854b256bf94cc35966074e0081c590cbec300dce6b280a17216a2aa29204b9d3", func := "parterre/parterrelaw32.DualPlane", spec := "dualPlane", unfollowed := true, recurses := true, apart := false }
def DualPlaneSaid : Prop := dualPlaneRow.holds Tryz.pinned (OpenSpec.ofChange dualPlaneSpec)

/-- ITS FALSE NEIGHBOUR: 'it returns false'. Refute it at one input. -/
def dualPlaneWrong : ChangeSpec := { name := "dualPlane", fn := fun _ => fun
  | [d] => { results := [.lit (.bool false)], args := [d] }
  | _ => none }
def DualPlaneWrongFalsely : Prop := dualPlaneRow.holds Tryz.pinned (OpenSpec.ofChange dualPlaneWrong)

/-- 'parterrelaw32.DualFaces': WHATEVER THE INPUT: true; the input reads as it did. -/
def dualFacesSpec : ChangeSpec := { name := "dualFaces", fn := fun _ => fun
  | [d1, d2, d3] => { results := [.lit (.bool true)], args := [d1, d2, d3] }
  | _ => none }
def dualFacesRow : OpenClaim := { program := "ytphdhggoaijfoaagreat", sum := "854b256bf94cc35966074e0081c590cbec300dce6b280a17216a2aa29204b9d3", func := "parterre/parterrelaw32.DualFaces", spec := "dualFaces", unfollowed := true, recurses := true, apart := false }
def DualFacesSaid : Prop := dualFacesRow.holds Tryz.pinned (OpenSpec.ofChange dualFacesSpec)

/-- ITS FALSE NEIGHBOUR: 'it returns false'. Refute it at one input. -/
def dualFacesWrong : ChangeSpec := { name := "dualFaces", fn := fun _ => fun
  | [d1, d2, d3] => { results := [.lit (.bool false)], args := [d1, d2, d3] }
  | _ => none }
def DualFacesWrongFalsely : Prop := dualFacesRow.holds Tryz.pinned (OpenSpec.ofChange dualFacesWrong)

/-- 'parterrelaw32.DualNil': WHATEVER THE INPUT: true; the input reads as it did. -/
def dualNilSpec : ChangeSpec := { name := "dualNil", fn := fun _ => fun
  | [] => { results := [.lit (.bool true)], args := [] }
  | _ => none }
def dualNilRow : OpenClaim := { program := "ytphdhggoaijfoaagreat", sum := "854b256bf94cc35966074e0081c590cbec300dce6b280a17216a2aa29204b9d3", func := "parterre/parterrelaw32.DualNil", spec := "dualNil", unfollowed := true, recurses := true, apart := false }
def DualNilSaid : Prop := dualNilRow.holds Tryz.pinned (OpenSpec.ofChange dualNilSpec)

/-- ITS FALSE NEIGHBOUR: 'it returns false'. Refute it at one input. -/
def dualNilWrong : ChangeSpec := { name := "dualNil", fn := fun _ => fun
  | [] => { results := [.lit (.bool false)], args := [] }
  | _ => none }
def DualNilWrongFalsely : Prop := dualNilRow.holds Tryz.pinned (OpenSpec.ofChange dualNilWrong)

/- THE SECOND FORM. 'bulk': how many values and letters a reading holds, each counted each time it is reached (what is shared counts as often as it is met; a slice's spare places count too). A statement '..UptoSaid' is the law's where the arguments, and the package variables that the reading takes, are together of bulk at most 1048576: NARROWER than '..Said'. Prove '..Said' where nothing that the law and all that it calls make is longer than what came in: it says more and counts as full. Else prove '..UptoSaid'. A law counts once. -/
mutual
def uptoBulk {H : Type} : DataW H → Nat
  | .lit (.string bytes) => bytes.length + 1
  | .lit _ => 1
  | .nil => 1
  | .ptr d => uptoBulk d + 1
  | .slice elems spare => uptoBulkAll elems + uptoBulkAll spare + 1
  | .agg parts => uptoBulkAll parts + 1
  | .iface _ d => uptoBulk d + 1
  | .map entries => uptoBulkEntries entries + 1
  | .held _ => 1
def uptoBulkAll {H : Type} : List (DataW H) → Nat
  | [] => 0
  | d :: r => uptoBulk d + uptoBulkAll r
def uptoBulkEntries {H : Type} : List (Lit × DataW H) → Nat
  | [] => 0
  | x :: r => uptoBulkEntry x + uptoBulkEntries r
def uptoBulkEntry {H : Type} : Lit × DataW H → Nat
  | (.string bytes, d) => bytes.length + uptoBulk d + 1
  | (_, d) => uptoBulk d + 1
 end
def uptoSmall : (H : Type) → List (DataW H) → Bool := fun _ ds => decide (uptoBulkAll ds ≤ 1048576)
def OpenSpec.upto (s : _root_.Go.ChangeSpec) : _root_.Go.OpenSpec := { _root_.Go.OpenSpec.ofChange s with cond := some uptoSmall }

/-- 'parterrelaw10.RotFaces', WHERE WHAT IT READS IS OF BULK AT MOST 1048576: true; the input reads as it did. -/
def rotFacesUptoRow : OpenClaim := { program := "ytphdhggoaijfoaagreat", sum := "854b256bf94cc35966074e0081c590cbec300dce6b280a17216a2aa29204b9d3", func := "parterre/parterrelaw10.RotFaces", spec := "rotFaces", unfollowed := true, recurses := true, apart := false, narrowed := true }
def RotFacesUptoSaid : Prop := rotFacesUptoRow.holds Tryz.pinned (OpenSpec.upto rotFacesSpec)

/-- 'parterrelaw32.DualMaps', WHERE WHAT IT READS IS OF BULK AT MOST 1048576: true; the input reads as it did. -/
def dualMapsUptoRow : OpenClaim := { program := "ytphdhggoaijfoaagreat", sum := "854b256bf94cc35966074e0081c590cbec300dce6b280a17216a2aa29204b9d3", func := "parterre/parterrelaw32.DualMaps", spec := "dualMaps", unfollowed := true, recurses := true, apart := false, narrowed := true }
def DualMapsUptoSaid : Prop := dualMapsUptoRow.holds Tryz.pinned (OpenSpec.upto dualMapsSpec)

/-- 'parterrelaw32.DualPlane', WHERE WHAT IT READS IS OF BULK AT MOST 1048576: true; the input reads as it did. -/
def dualPlaneUptoRow : OpenClaim := { program := "ytphdhggoaijfoaagreat", sum := "854b256bf94cc35966074e0081c590cbec300dce6b280a17216a2aa29204b9d3", func := "parterre/parterrelaw32.DualPlane", spec := "dualPlane", unfollowed := true, recurses := true, apart := false, narrowed := true }
def DualPlaneUptoSaid : Prop := dualPlaneUptoRow.holds Tryz.pinned (OpenSpec.upto dualPlaneSpec)

/-- 'parterrelaw32.DualFaces', WHERE WHAT IT READS IS OF BULK AT MOST 1048576: true; the input reads as it did. -/
def dualFacesUptoRow : OpenClaim := { program := "ytphdhggoaijfoaagreat", sum := "854b256bf94cc35966074e0081c590cbec300dce6b280a17216a2aa29204b9d3", func := "parterre/parterrelaw32.DualFaces", spec := "dualFaces", unfollowed := true, recurses := true, apart := false, narrowed := true }
def DualFacesUptoSaid : Prop := dualFacesUptoRow.holds Tryz.pinned (OpenSpec.upto dualFacesSpec)

/-- 'parterrelaw32.DualNil', WHERE WHAT IT READS IS OF BULK AT MOST 1048576: true; the input reads as it did. -/
def dualNilUptoRow : OpenClaim := { program := "ytphdhggoaijfoaagreat", sum := "854b256bf94cc35966074e0081c590cbec300dce6b280a17216a2aa29204b9d3", func := "parterre/parterrelaw32.DualNil", spec := "dualNil", unfollowed := true, recurses := true, apart := false, narrowed := true }
def DualNilUptoSaid : Prop := dualNilUptoRow.holds Tryz.pinned (OpenSpec.upto dualNilSpec)

end Rows
end Go.Proofs.YtphdhggoaijfoaaGreat
