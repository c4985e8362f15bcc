/-
  DERIVED. GIVEN WITH THE SEED: THE CARDS: each row of YtempldclppogmaaGreatDoorRows.lean that lists a variable, with what it lists TIED to the program's text (the seventh form; the later family's looks); each row that meets fmt, with fmt's text TOLD by the authors' own Lean function (tested against real Go, not proved from fmt's source: count such statements apart). THE CARD IS WHAT COUNTS. Prove the row's statement (the work); the ties are given (YtempldclppogmaaGreatDoorTie.lean); close each card by the builder's one call (the guide's Derived/Test/ToyasCard.lean, 'card_holds'). Laid BY PROGRAM, IN A SANDBOX (cutbox-door.mjs). By AI agents, Wed Nov 11 2026. No macro, syntax, notation, axiom, sorry.
-/
import Derived.Test.YtempldclppogmaaGreatDoorRows
import GoSem.ClaimSeven
namespace Go.Proofs.YtempldclppogmaaGreatDoor
namespace Rows

/-- THE TIED CARD OF 'parterrelaw16.CertWays'. -/
def certWaysCard : Claim7 := { stood := { row := certWaysRow, standIns := [], harness := (true, "d51de4896cd2f91b737aa8fbe1187da50478240de5f5cba0fe55b73cd4181986"), looks := false }, kinds := [], alts := [], laidByText := true, laidKinds := [.data], laidTests := true, laidLooks := .later }
def CertWaysCardSaid : Prop := Claim7.holds Tryz.pinned (.plain (OpenSpec.ofChange certWaysSpec)) certWaysCard

/-- THE TIED CARD OF 'parterrelaw16.CertMaps'. -/
def certMapsCard : Claim7 := { stood := { row := certMapsRow, standIns := [], harness := (true, "d51de4896cd2f91b737aa8fbe1187da50478240de5f5cba0fe55b73cd4181986"), looks := false }, kinds := [], alts := [], laidByText := true, laidKinds := [.data], laidTests := true, laidLooks := .later }
def CertMapsCardSaid : Prop := Claim7.holds Tryz.pinned (.plain (OpenSpec.ofChange certMapsSpec)) certMapsCard

/-- THE TIED CARD OF 'parterrelaw14.PlaneEmbeds'. -/
def planeEmbedsCard : Claim7 := { stood := { row := planeEmbedsRow, standIns := [], harness := (true, "d51de4896cd2f91b737aa8fbe1187da50478240de5f5cba0fe55b73cd4181986"), looks := false }, kinds := [], alts := [], laidByText := true, laidKinds := [.data], laidTests := true, laidLooks := .later }
def PlaneEmbedsCardSaid : Prop := Claim7.holds Tryz.pinned (.plain (OpenSpec.ofChange planeEmbedsSpec)) planeEmbedsCard

/-- THE TIED CARD OF 'parterrelaw34.ColorSix'. -/
def colorSixCard : Claim7 := { stood := { row := colorSixRow, standIns := [], harness := (true, "d51de4896cd2f91b737aa8fbe1187da50478240de5f5cba0fe55b73cd4181986"), looks := false }, kinds := [], alts := [], laidByText := true, laidKinds := [.data], laidTests := true, laidLooks := .later }
def ColorSixCardSaid : Prop := Claim7.holds Tryz.pinned (.plain (OpenSpec.ofChange colorSixSpec)) colorSixCard

/-- THE SECOND FORM's CARD OF 'parterrelaw16.CertWays'. -/
def certWaysUptoCard : Claim7 := { stood := { row := certWaysUptoRow, standIns := [], harness := (true, "d51de4896cd2f91b737aa8fbe1187da50478240de5f5cba0fe55b73cd4181986"), looks := false }, kinds := [], alts := [], laidByText := true, laidKinds := [.data], laidTests := true, laidLooks := .later }
def CertWaysUptoCardSaid : Prop := Claim7.holds Tryz.pinned (.plain (OpenSpec.upto certWaysSpec)) certWaysUptoCard

/-- THE SECOND FORM's CARD OF 'parterrelaw16.CertMaps'. -/
def certMapsUptoCard : Claim7 := { stood := { row := certMapsUptoRow, standIns := [], harness := (true, "d51de4896cd2f91b737aa8fbe1187da50478240de5f5cba0fe55b73cd4181986"), looks := false }, kinds := [], alts := [], laidByText := true, laidKinds := [.data], laidTests := true, laidLooks := .later }
def CertMapsUptoCardSaid : Prop := Claim7.holds Tryz.pinned (.plain (OpenSpec.upto certMapsSpec)) certMapsUptoCard

/-- THE SECOND FORM's CARD OF 'parterrelaw14.PlaneEmbeds'. -/
def planeEmbedsUptoCard : Claim7 := { stood := { row := planeEmbedsUptoRow, standIns := [], harness := (true, "d51de4896cd2f91b737aa8fbe1187da50478240de5f5cba0fe55b73cd4181986"), looks := false }, kinds := [], alts := [], laidByText := true, laidKinds := [.data], laidTests := true, laidLooks := .later }
def PlaneEmbedsUptoCardSaid : Prop := Claim7.holds Tryz.pinned (.plain (OpenSpec.upto planeEmbedsSpec)) planeEmbedsUptoCard

/-- THE SECOND FORM's CARD OF 'parterrelaw34.ColorSix'. -/
def colorSixUptoCard : Claim7 := { stood := { row := colorSixUptoRow, standIns := [], harness := (true, "d51de4896cd2f91b737aa8fbe1187da50478240de5f5cba0fe55b73cd4181986"), looks := false }, kinds := [], alts := [], laidByText := true, laidKinds := [.data], laidTests := true, laidLooks := .later }
def ColorSixUptoCardSaid : Prop := Claim7.holds Tryz.pinned (.plain (OpenSpec.upto colorSixSpec)) colorSixUptoCard
end Rows
end Go.Proofs.YtempldclppogmaaGreatDoor
