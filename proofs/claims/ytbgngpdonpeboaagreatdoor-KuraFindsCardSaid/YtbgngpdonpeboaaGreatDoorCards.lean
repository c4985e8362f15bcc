/-
  DERIVED. GIVEN WITH THE SEED: THE CARDS: each row of YtbgngpdonpeboaaGreatDoorRows.lean that lists a variable, with what it lists TIED to the program's text (the seventh form; the later family's looks); each row that meets fmt, with fmt's text TOLD by the authors' own Lean function (tested against real Go, not proved from fmt's source: count such statements apart). THE CARD IS WHAT COUNTS. Prove the row's statement (the work); the ties are given (YtbgngpdonpeboaaGreatDoorTie.lean); close each card by the builder's one call (the guide's Derived/Test/ToyasCard.lean, 'card_holds'). Laid BY PROGRAM, IN A SANDBOX (cutbox-door.mjs). By AI agents, Wed Nov 11 2026. No macro, syntax, notation, axiom, sorry.
-/
import Derived.Test.YtbgngpdonpeboaaGreatDoorRows
import GoSem.ClaimSeven
namespace Go.Proofs.YtbgngpdonpeboaaGreatDoor
namespace Rows

/-- THE TIED CARD OF 'parterrelaw14.PlaneTold'. -/
def planeToldCard : Claim7 := { stood := { row := planeToldRow, standIns := [], harness := (true, "573a48e1d66203f46b8eb1484005eb1e1900b4a0e4131650c552652c0e42e9bc"), looks := false }, kinds := [], alts := [], laidByText := true, laidKinds := [.data], laidTests := true, laidLooks := .later }
def PlaneToldCardSaid : Prop := Claim7.holds Tryz.pinned (.plain (OpenSpec.ofChange planeToldSpec)) planeToldCard

/-- THE TIED CARD OF 'parterrelaw14.PlaneLess'. -/
def planeLessCard : Claim7 := { stood := { row := planeLessRow, standIns := [], harness := (true, "573a48e1d66203f46b8eb1484005eb1e1900b4a0e4131650c552652c0e42e9bc"), looks := false }, kinds := [], alts := [], laidByText := true, laidKinds := [.data], laidTests := true, laidLooks := .later }
def PlaneLessCardSaid : Prop := Claim7.holds Tryz.pinned (.plain (OpenSpec.ofChange planeLessSpec)) planeLessCard

/-- THE TIED CARD OF 'parterrelaw15.KuraLeast'. -/
def kuraLeastCard : Claim7 := { stood := { row := kuraLeastRow, standIns := [], harness := (true, "573a48e1d66203f46b8eb1484005eb1e1900b4a0e4131650c552652c0e42e9bc"), looks := false }, kinds := [], alts := [], laidByText := true, laidKinds := [.data], laidTests := true, laidLooks := .later }
def KuraLeastCardSaid : Prop := Claim7.holds Tryz.pinned (.plain (OpenSpec.ofChange kuraLeastSpec)) kuraLeastCard

/-- THE TIED CARD OF 'parterrelaw14.PlaneTries'. -/
def planeTriesCard : Claim7 := { stood := { row := planeTriesRow, standIns := [], harness := (true, "573a48e1d66203f46b8eb1484005eb1e1900b4a0e4131650c552652c0e42e9bc"), looks := false }, kinds := [], alts := [], laidByText := true, laidKinds := [.data], laidTests := true, laidLooks := .later }
def PlaneTriesCardSaid : Prop := Claim7.holds Tryz.pinned (.plain (OpenSpec.ofChange planeTriesSpec)) planeTriesCard

/-- THE TIED CARD OF 'parterrelaw15.KuraFinds'. -/
def kuraFindsCard : Claim7 := { stood := { row := kuraFindsRow, standIns := [], harness := (true, "573a48e1d66203f46b8eb1484005eb1e1900b4a0e4131650c552652c0e42e9bc"), looks := false }, kinds := [], alts := [], laidByText := true, laidKinds := [.data], laidTests := true, laidLooks := .later }
def KuraFindsCardSaid : Prop := Claim7.holds Tryz.pinned (.plain (OpenSpec.ofChange kuraFindsSpec)) kuraFindsCard

/-- THE TIED CARD OF 'parterrelaw16.CertKura'. -/
def certKuraCard : Claim7 := { stood := { row := certKuraRow, standIns := [], harness := (true, "573a48e1d66203f46b8eb1484005eb1e1900b4a0e4131650c552652c0e42e9bc"), looks := false }, kinds := [], alts := [], laidByText := true, laidKinds := [.data], laidTests := true, laidLooks := .later }
def CertKuraCardSaid : Prop := Claim7.holds Tryz.pinned (.plain (OpenSpec.ofChange certKuraSpec)) certKuraCard

/-- THE SECOND FORM's CARD OF 'parterrelaw14.PlaneTold'. -/
def planeToldUptoCard : Claim7 := { stood := { row := planeToldUptoRow, standIns := [], harness := (true, "573a48e1d66203f46b8eb1484005eb1e1900b4a0e4131650c552652c0e42e9bc"), looks := false }, kinds := [], alts := [], laidByText := true, laidKinds := [.data], laidTests := true, laidLooks := .later }
def PlaneToldUptoCardSaid : Prop := Claim7.holds Tryz.pinned (.plain (OpenSpec.upto planeToldSpec)) planeToldUptoCard

/-- THE SECOND FORM's CARD OF 'parterrelaw14.PlaneLess'. -/
def planeLessUptoCard : Claim7 := { stood := { row := planeLessUptoRow, standIns := [], harness := (true, "573a48e1d66203f46b8eb1484005eb1e1900b4a0e4131650c552652c0e42e9bc"), looks := false }, kinds := [], alts := [], laidByText := true, laidKinds := [.data], laidTests := true, laidLooks := .later }
def PlaneLessUptoCardSaid : Prop := Claim7.holds Tryz.pinned (.plain (OpenSpec.upto planeLessSpec)) planeLessUptoCard

/-- THE SECOND FORM's CARD OF 'parterrelaw15.KuraLeast'. -/
def kuraLeastUptoCard : Claim7 := { stood := { row := kuraLeastUptoRow, standIns := [], harness := (true, "573a48e1d66203f46b8eb1484005eb1e1900b4a0e4131650c552652c0e42e9bc"), looks := false }, kinds := [], alts := [], laidByText := true, laidKinds := [.data], laidTests := true, laidLooks := .later }
def KuraLeastUptoCardSaid : Prop := Claim7.holds Tryz.pinned (.plain (OpenSpec.upto kuraLeastSpec)) kuraLeastUptoCard

/-- THE SECOND FORM's CARD OF 'parterrelaw14.PlaneTries'. -/
def planeTriesUptoCard : Claim7 := { stood := { row := planeTriesUptoRow, standIns := [], harness := (true, "573a48e1d66203f46b8eb1484005eb1e1900b4a0e4131650c552652c0e42e9bc"), looks := false }, kinds := [], alts := [], laidByText := true, laidKinds := [.data], laidTests := true, laidLooks := .later }
def PlaneTriesUptoCardSaid : Prop := Claim7.holds Tryz.pinned (.plain (OpenSpec.upto planeTriesSpec)) planeTriesUptoCard

/-- THE SECOND FORM's CARD OF 'parterrelaw15.KuraFinds'. -/
def kuraFindsUptoCard : Claim7 := { stood := { row := kuraFindsUptoRow, standIns := [], harness := (true, "573a48e1d66203f46b8eb1484005eb1e1900b4a0e4131650c552652c0e42e9bc"), looks := false }, kinds := [], alts := [], laidByText := true, laidKinds := [.data], laidTests := true, laidLooks := .later }
def KuraFindsUptoCardSaid : Prop := Claim7.holds Tryz.pinned (.plain (OpenSpec.upto kuraFindsSpec)) kuraFindsUptoCard

/-- THE SECOND FORM's CARD OF 'parterrelaw16.CertKura'. -/
def certKuraUptoCard : Claim7 := { stood := { row := certKuraUptoRow, standIns := [], harness := (true, "573a48e1d66203f46b8eb1484005eb1e1900b4a0e4131650c552652c0e42e9bc"), looks := false }, kinds := [], alts := [], laidByText := true, laidKinds := [.data], laidTests := true, laidLooks := .later }
def CertKuraUptoCardSaid : Prop := Claim7.holds Tryz.pinned (.plain (OpenSpec.upto certKuraSpec)) certKuraUptoCard
end Rows
end Go.Proofs.YtbgngpdonpeboaaGreatDoor
