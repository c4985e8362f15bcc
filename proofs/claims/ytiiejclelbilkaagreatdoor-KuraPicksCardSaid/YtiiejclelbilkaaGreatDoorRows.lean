/-
  NARROWER THAN 'FOR EVERY INPUT', by the rows' own cells (each row's printed sentence says how): PlaneAround: laid · KuraPicks: laid · CertMaps: laid · CertWays: laid · CertKinds: laid.
  DERIVED. THE GIVEN ROWS OF THIS SEAT. 5 by the template 'for every input the law returns true; each argument reads behind the call as it read before'; 0 by the template 'total and deterministic' (their statements: YtiiejclelbilkaaGreatDoorTotals.lean).
  GIVEN WITH THE SEED: the statements are not yours to turn. If you find one false, say at which input.
  Laid BY PROGRAM, IN A SANDBOX (cutbox-rows.mjs): the forced cells as the released guide's own fill.sh prints them over the translation 97f0415f2171fd4c… (all of the seat's roots in one cut). By AI agents, Wed Nov 11 2026. No macro, syntax, notation, axiom, sorry.
-/
import Derived.Test.YtiiejclelbilkaaGreatDoorChecked
import GoSem.Claim
import GoSem.ClaimJoined
import GoSem.ClaimMapViews
import Derived.JoinedTies
import Derived.KernelRfl
namespace Go.Proofs.YtiiejclelbilkaaGreatDoor
/- THE CELL 'sum', in the pinned program and in every row, IS THE sha256 OF THE DUMP (.gsa) THAT YtiiejclelbilkaaGreatDoorProg.lean LOADS. Nothing in Lean hashes anything: it is a label: what it is worth is what the hold of that sum in a sandbox is worth. -/
noncomputable def Tryz.pinned : Pinned := { name := "ytiiejclelbilkaagreatdoor", sum := "97f0415f2171fd4c44adf3de32e31f35e2b6c32750025b8ce39d96e076e1d196", checked := Tryz.checked }
namespace Rows
def none {H : Type} : Left H := { results := [], args := [] }

/- WHAT THE LISTED PACKAGE-LEVEL VARIABLES READ AS WHEN THE CALL BEGINS. Each datum BY PROGRAM (the guide's laid-datum.mjs) off the statement by which the dump's own 'gosem.cut.vars' lays the variable. In a bare row this is a premise. The card (YtiiejclelbilkaaGreatDoorCards.lean) ties it to the program's text. -/
def laid_math_bits_deBruijn64tab {H : Type} : DataW H := .agg [.lit (.int .u8 0), .lit (.int .u8 1), .lit (.int .u8 56), .lit (.int .u8 2), .lit (.int .u8 57), .lit (.int .u8 49), .lit (.int .u8 28), .lit (.int .u8 3), .lit (.int .u8 61), .lit (.int .u8 58), .lit (.int .u8 42), .lit (.int .u8 50), .lit (.int .u8 38), .lit (.int .u8 29), .lit (.int .u8 17), .lit (.int .u8 4), .lit (.int .u8 62), .lit (.int .u8 47), .lit (.int .u8 59), .lit (.int .u8 36), .lit (.int .u8 45), .lit (.int .u8 43), .lit (.int .u8 51), .lit (.int .u8 22), .lit (.int .u8 53), .lit (.int .u8 39), .lit (.int .u8 33), .lit (.int .u8 30), .lit (.int .u8 24), .lit (.int .u8 18), .lit (.int .u8 12), .lit (.int .u8 5), .lit (.int .u8 63), .lit (.int .u8 55), .lit (.int .u8 48), .lit (.int .u8 27), .lit (.int .u8 60), .lit (.int .u8 41), .lit (.int .u8 37), .lit (.int .u8 16), .lit (.int .u8 46), .lit (.int .u8 35), .lit (.int .u8 44), .lit (.int .u8 21), .lit (.int .u8 52), .lit (.int .u8 32), .lit (.int .u8 23), .lit (.int .u8 11), .lit (.int .u8 54), .lit (.int .u8 26), .lit (.int .u8 40), .lit (.int .u8 15), .lit (.int .u8 34), .lit (.int .u8 20), .lit (.int .u8 31), .lit (.int .u8 10), .lit (.int .u8 25), .lit (.int .u8 14), .lit (.int .u8 19), .lit (.int .u8 9), .lit (.int .u8 13), .lit (.int .u8 8), .lit (.int .u8 7), .lit (.int .u8 6)]

/-- 'parterrelaw14.PlaneAround': WHATEVER THE INPUT: true; the input reads as it did. -/
def planeAroundSpec : ChangeSpec := { name := "planeAround", fn := fun _ => fun
  | [d] => { results := [.lit (.bool true)], args := [d] }
  | _ => none }
def planeAroundRow : OpenClaim := { program := "ytiiejclelbilkaagreatdoor", sum := "97f0415f2171fd4c44adf3de32e31f35e2b6c32750025b8ce39d96e076e1d196", func := "parterre/parterrelaw14.PlaneAround", spec := "planeAround", unfollowed := true, recurses := true, named := ["math/bits.deBruijn64tab"], plainKeys := false, apart := false, laid := [("math/bits.deBruijn64tab", laid_math_bits_deBruijn64tab)] }
def PlaneAroundSaid : Prop := planeAroundRow.holds Tryz.pinned (OpenSpec.ofChange planeAroundSpec)

/-- ITS FALSE NEIGHBOUR: 'it returns false'. Refute it at one input. -/
def planeAroundWrong : ChangeSpec := { name := "planeAround", fn := fun _ => fun
  | [d] => { results := [.lit (.bool false)], args := [d] }
  | _ => none }
def PlaneAroundWrongFalsely : Prop := planeAroundRow.holds Tryz.pinned (OpenSpec.ofChange planeAroundWrong)

/-- 'parterrelaw15.KuraPicks': WHATEVER THE INPUT: true; the input reads as it did. -/
def kuraPicksSpec : ChangeSpec := { name := "kuraPicks", fn := fun _ => fun
  | [d1, d2, d3] => { results := [.lit (.bool true)], args := [d1, d2, d3] }
  | _ => none }
def kuraPicksRow : OpenClaim := { program := "ytiiejclelbilkaagreatdoor", sum := "97f0415f2171fd4c44adf3de32e31f35e2b6c32750025b8ce39d96e076e1d196", func := "parterre/parterrelaw15.KuraPicks", spec := "kuraPicks", unfollowed := true, recurses := true, named := ["math/bits.deBruijn64tab"], plainKeys := false, apart := false, laid := [("math/bits.deBruijn64tab", laid_math_bits_deBruijn64tab)] }
def KuraPicksSaid : Prop := kuraPicksRow.holds Tryz.pinned (OpenSpec.ofChange kuraPicksSpec)

/-- ITS FALSE NEIGHBOUR: 'it returns false'. Refute it at one input. -/
def kuraPicksWrong : ChangeSpec := { name := "kuraPicks", fn := fun _ => fun
  | [d1, d2, d3] => { results := [.lit (.bool false)], args := [d1, d2, d3] }
  | _ => none }
def KuraPicksWrongFalsely : Prop := kuraPicksRow.holds Tryz.pinned (OpenSpec.ofChange kuraPicksWrong)

/-- 'parterrelaw16.CertMaps': WHATEVER THE INPUT: true; the input reads as it did. -/
def certMapsSpec : ChangeSpec := { name := "certMaps", fn := fun _ => fun
  | [d1, d2] => { results := [.lit (.bool true)], args := [d1, d2] }
  | _ => none }
def certMapsRow : OpenClaim := { program := "ytiiejclelbilkaagreatdoor", sum := "97f0415f2171fd4c44adf3de32e31f35e2b6c32750025b8ce39d96e076e1d196", func := "parterre/parterrelaw16.CertMaps", spec := "certMaps", unfollowed := true, recurses := true, named := ["math/bits.deBruijn64tab"], plainKeys := false, apart := false, laid := [("math/bits.deBruijn64tab", laid_math_bits_deBruijn64tab)] }
def CertMapsSaid : Prop := certMapsRow.holds Tryz.pinned (OpenSpec.ofChange certMapsSpec)

/-- ITS FALSE NEIGHBOUR: 'it returns false'. Refute it at one input. -/
def certMapsWrong : ChangeSpec := { name := "certMaps", fn := fun _ => fun
  | [d1, d2] => { results := [.lit (.bool false)], args := [d1, d2] }
  | _ => none }
def CertMapsWrongFalsely : Prop := certMapsRow.holds Tryz.pinned (OpenSpec.ofChange certMapsWrong)

/-- 'parterrelaw16.CertWays': WHATEVER THE INPUT: true; the input reads as it did. -/
def certWaysSpec : ChangeSpec := { name := "certWays", fn := fun _ => fun
  | [d] => { results := [.lit (.bool true)], args := [d] }
  | _ => none }
def certWaysRow : OpenClaim := { program := "ytiiejclelbilkaagreatdoor", sum := "97f0415f2171fd4c44adf3de32e31f35e2b6c32750025b8ce39d96e076e1d196", func := "parterre/parterrelaw16.CertWays", spec := "certWays", unfollowed := true, recurses := true, named := ["math/bits.deBruijn64tab"], plainKeys := false, apart := false, laid := [("math/bits.deBruijn64tab", laid_math_bits_deBruijn64tab)] }
def CertWaysSaid : Prop := certWaysRow.holds Tryz.pinned (OpenSpec.ofChange certWaysSpec)

/-- ITS FALSE NEIGHBOUR: 'it returns false'. Refute it at one input. -/
def certWaysWrong : ChangeSpec := { name := "certWays", fn := fun _ => fun
  | [d] => { results := [.lit (.bool false)], args := [d] }
  | _ => none }
def CertWaysWrongFalsely : Prop := certWaysRow.holds Tryz.pinned (OpenSpec.ofChange certWaysWrong)

/-- 'parterrelaw16.CertKinds': WHATEVER THE INPUT: true; the input reads as it did. -/
def certKindsSpec : ChangeSpec := { name := "certKinds", fn := fun _ => fun
  | [d1, d2] => { results := [.lit (.bool true)], args := [d1, d2] }
  | _ => none }
def certKindsRow : OpenClaim := { program := "ytiiejclelbilkaagreatdoor", sum := "97f0415f2171fd4c44adf3de32e31f35e2b6c32750025b8ce39d96e076e1d196", func := "parterre/parterrelaw16.CertKinds", spec := "certKinds", unfollowed := true, recurses := true, named := ["math/bits.deBruijn64tab"], plainKeys := false, apart := false, laid := [("math/bits.deBruijn64tab", laid_math_bits_deBruijn64tab)] }
def CertKindsSaid : Prop := certKindsRow.holds Tryz.pinned (OpenSpec.ofChange certKindsSpec)

/-- ITS FALSE NEIGHBOUR: 'it returns false'. Refute it at one input. -/
def certKindsWrong : ChangeSpec := { name := "certKinds", fn := fun _ => fun
  | [d1, d2] => { results := [.lit (.bool false)], args := [d1, d2] }
  | _ => none }
def CertKindsWrongFalsely : Prop := certKindsRow.holds Tryz.pinned (OpenSpec.ofChange certKindsWrong)

/- THE SECOND FORM. 'bulk': how many values and letters a reading holds, each counted each time it is reached (what is shared counts as often as it is met; a slice's spare places count too). A statement '..UptoSaid' is the law's where the arguments, and the package variables that the reading takes, are together of bulk at most 1048576: NARROWER than '..Said'. Prove '..Said' where nothing that the law and all that it calls make is longer than what came in: it says more and counts as full. Else prove '..UptoSaid'. A law counts once. -/
mutual
def uptoBulk {H : Type} : DataW H → Nat
  | .lit (.string bytes) => bytes.length + 1
  | .lit _ => 1
  | .nil => 1
  | .ptr d => uptoBulk d + 1
  | .slice elems spare => uptoBulkAll elems + uptoBulkAll spare + 1
  | .agg parts => uptoBulkAll parts + 1
  | .iface _ d => uptoBulk d + 1
  | .map entries => uptoBulkEntries entries + 1
  | .held _ => 1
def uptoBulkAll {H : Type} : List (DataW H) → Nat
  | [] => 0
  | d :: r => uptoBulk d + uptoBulkAll r
def uptoBulkEntries {H : Type} : List (Lit × DataW H) → Nat
  | [] => 0
  | x :: r => uptoBulkEntry x + uptoBulkEntries r
def uptoBulkEntry {H : Type} : Lit × DataW H → Nat
  | (.string bytes, d) => bytes.length + uptoBulk d + 1
  | (_, d) => uptoBulk d + 1
 end
def uptoSmall : (H : Type) → List (DataW H) → Bool := fun _ ds => decide (uptoBulkAll ds ≤ 1048576)
def OpenSpec.upto (s : _root_.Go.ChangeSpec) : _root_.Go.OpenSpec := { _root_.Go.OpenSpec.ofChange s with cond := some uptoSmall }

/-- 'parterrelaw14.PlaneAround', WHERE WHAT IT READS IS OF BULK AT MOST 1048576: true; the input reads as it did. -/
def planeAroundUptoRow : OpenClaim := { program := "ytiiejclelbilkaagreatdoor", sum := "97f0415f2171fd4c44adf3de32e31f35e2b6c32750025b8ce39d96e076e1d196", func := "parterre/parterrelaw14.PlaneAround", spec := "planeAround", unfollowed := true, recurses := true, named := ["math/bits.deBruijn64tab"], plainKeys := false, apart := false, laid := [("math/bits.deBruijn64tab", laid_math_bits_deBruijn64tab)], narrowed := true }
def PlaneAroundUptoSaid : Prop := planeAroundUptoRow.holds Tryz.pinned (OpenSpec.upto planeAroundSpec)

/-- 'parterrelaw15.KuraPicks', WHERE WHAT IT READS IS OF BULK AT MOST 1048576: true; the input reads as it did. -/
def kuraPicksUptoRow : OpenClaim := { program := "ytiiejclelbilkaagreatdoor", sum := "97f0415f2171fd4c44adf3de32e31f35e2b6c32750025b8ce39d96e076e1d196", func := "parterre/parterrelaw15.KuraPicks", spec := "kuraPicks", unfollowed := true, recurses := true, named := ["math/bits.deBruijn64tab"], plainKeys := false, apart := false, laid := [("math/bits.deBruijn64tab", laid_math_bits_deBruijn64tab)], narrowed := true }
def KuraPicksUptoSaid : Prop := kuraPicksUptoRow.holds Tryz.pinned (OpenSpec.upto kuraPicksSpec)

/-- 'parterrelaw16.CertMaps', WHERE WHAT IT READS IS OF BULK AT MOST 1048576: true; the input reads as it did. -/
def certMapsUptoRow : OpenClaim := { program := "ytiiejclelbilkaagreatdoor", sum := "97f0415f2171fd4c44adf3de32e31f35e2b6c32750025b8ce39d96e076e1d196", func := "parterre/parterrelaw16.CertMaps", spec := "certMaps", unfollowed := true, recurses := true, named := ["math/bits.deBruijn64tab"], plainKeys := false, apart := false, laid := [("math/bits.deBruijn64tab", laid_math_bits_deBruijn64tab)], narrowed := true }
def CertMapsUptoSaid : Prop := certMapsUptoRow.holds Tryz.pinned (OpenSpec.upto certMapsSpec)

/-- 'parterrelaw16.CertWays', WHERE WHAT IT READS IS OF BULK AT MOST 1048576: true; the input reads as it did. -/
def certWaysUptoRow : OpenClaim := { program := "ytiiejclelbilkaagreatdoor", sum := "97f0415f2171fd4c44adf3de32e31f35e2b6c32750025b8ce39d96e076e1d196", func := "parterre/parterrelaw16.CertWays", spec := "certWays", unfollowed := true, recurses := true, named := ["math/bits.deBruijn64tab"], plainKeys := false, apart := false, laid := [("math/bits.deBruijn64tab", laid_math_bits_deBruijn64tab)], narrowed := true }
def CertWaysUptoSaid : Prop := certWaysUptoRow.holds Tryz.pinned (OpenSpec.upto certWaysSpec)

/-- 'parterrelaw16.CertKinds', WHERE WHAT IT READS IS OF BULK AT MOST 1048576: true; the input reads as it did. -/
def certKindsUptoRow : OpenClaim := { program := "ytiiejclelbilkaagreatdoor", sum := "97f0415f2171fd4c44adf3de32e31f35e2b6c32750025b8ce39d96e076e1d196", func := "parterre/parterrelaw16.CertKinds", spec := "certKinds", unfollowed := true, recurses := true, named := ["math/bits.deBruijn64tab"], plainKeys := false, apart := false, laid := [("math/bits.deBruijn64tab", laid_math_bits_deBruijn64tab)], narrowed := true }
def CertKindsUptoSaid : Prop := certKindsUptoRow.holds Tryz.pinned (OpenSpec.upto certKindsSpec)

end Rows
end Go.Proofs.YtiiejclelbilkaaGreatDoor
