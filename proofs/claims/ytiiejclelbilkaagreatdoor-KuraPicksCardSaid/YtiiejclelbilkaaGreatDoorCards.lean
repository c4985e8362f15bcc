/-
  DERIVED. GIVEN WITH THE SEED: THE CARDS: each row of YtiiejclelbilkaaGreatDoorRows.lean that lists a variable, with what it lists TIED to the program's text (the seventh form; the later family's looks); each row that meets fmt, with fmt's text TOLD by the authors' own Lean function (tested against real Go, not proved from fmt's source: count such statements apart). THE CARD IS WHAT COUNTS. Prove the row's statement (the work); the ties are given (YtiiejclelbilkaaGreatDoorTie.lean); close each card by the builder's one call (the guide's Derived/Test/ToyasCard.lean, 'card_holds'). Laid BY PROGRAM, IN A SANDBOX (cutbox-door.mjs). By AI agents, Wed Nov 11 2026. No macro, syntax, notation, axiom, sorry.
-/
import Derived.Test.YtiiejclelbilkaaGreatDoorRows
import GoSem.ClaimSeven
namespace Go.Proofs.YtiiejclelbilkaaGreatDoor
namespace Rows

/-- THE TIED CARD OF 'parterrelaw14.PlaneAround'. -/
def planeAroundCard : Claim7 := { stood := { row := planeAroundRow, standIns := [], harness := (true, "83b576721fffbc7c77259929f7c276413a03341f345aa392045be4ce9158fc8a"), looks := false }, kinds := [], alts := [], laidByText := true, laidKinds := [.data], laidTests := true, laidLooks := .later }
def PlaneAroundCardSaid : Prop := Claim7.holds Tryz.pinned (.plain (OpenSpec.ofChange planeAroundSpec)) planeAroundCard

/-- THE TIED CARD OF 'parterrelaw15.KuraPicks'. -/
def kuraPicksCard : Claim7 := { stood := { row := kuraPicksRow, standIns := [], harness := (true, "83b576721fffbc7c77259929f7c276413a03341f345aa392045be4ce9158fc8a"), looks := false }, kinds := [], alts := [], laidByText := true, laidKinds := [.data], laidTests := true, laidLooks := .later }
def KuraPicksCardSaid : Prop := Claim7.holds Tryz.pinned (.plain (OpenSpec.ofChange kuraPicksSpec)) kuraPicksCard

/-- THE TIED CARD OF 'parterrelaw16.CertMaps'. -/
def certMapsCard : Claim7 := { stood := { row := certMapsRow, standIns := [], harness := (true, "83b576721fffbc7c77259929f7c276413a03341f345aa392045be4ce9158fc8a"), looks := false }, kinds := [], alts := [], laidByText := true, laidKinds := [.data], laidTests := true, laidLooks := .later }
def CertMapsCardSaid : Prop := Claim7.holds Tryz.pinned (.plain (OpenSpec.ofChange certMapsSpec)) certMapsCard

/-- THE TIED CARD OF 'parterrelaw16.CertWays'. -/
def certWaysCard : Claim7 := { stood := { row := certWaysRow, standIns := [], harness := (true, "83b576721fffbc7c77259929f7c276413a03341f345aa392045be4ce9158fc8a"), looks := false }, kinds := [], alts := [], laidByText := true, laidKinds := [.data], laidTests := true, laidLooks := .later }
def CertWaysCardSaid : Prop := Claim7.holds Tryz.pinned (.plain (OpenSpec.ofChange certWaysSpec)) certWaysCard

/-- THE TIED CARD OF 'parterrelaw16.CertKinds'. -/
def certKindsCard : Claim7 := { stood := { row := certKindsRow, standIns := [], harness := (true, "83b576721fffbc7c77259929f7c276413a03341f345aa392045be4ce9158fc8a"), looks := false }, kinds := [], alts := [], laidByText := true, laidKinds := [.data], laidTests := true, laidLooks := .later }
def CertKindsCardSaid : Prop := Claim7.holds Tryz.pinned (.plain (OpenSpec.ofChange certKindsSpec)) certKindsCard

/-- THE SECOND FORM's CARD OF 'parterrelaw14.PlaneAround'. -/
def planeAroundUptoCard : Claim7 := { stood := { row := planeAroundUptoRow, standIns := [], harness := (true, "83b576721fffbc7c77259929f7c276413a03341f345aa392045be4ce9158fc8a"), looks := false }, kinds := [], alts := [], laidByText := true, laidKinds := [.data], laidTests := true, laidLooks := .later }
def PlaneAroundUptoCardSaid : Prop := Claim7.holds Tryz.pinned (.plain (OpenSpec.upto planeAroundSpec)) planeAroundUptoCard

/-- THE SECOND FORM's CARD OF 'parterrelaw15.KuraPicks'. -/
def kuraPicksUptoCard : Claim7 := { stood := { row := kuraPicksUptoRow, standIns := [], harness := (true, "83b576721fffbc7c77259929f7c276413a03341f345aa392045be4ce9158fc8a"), looks := false }, kinds := [], alts := [], laidByText := true, laidKinds := [.data], laidTests := true, laidLooks := .later }
def KuraPicksUptoCardSaid : Prop := Claim7.holds Tryz.pinned (.plain (OpenSpec.upto kuraPicksSpec)) kuraPicksUptoCard

/-- THE SECOND FORM's CARD OF 'parterrelaw16.CertMaps'. -/
def certMapsUptoCard : Claim7 := { stood := { row := certMapsUptoRow, standIns := [], harness := (true, "83b576721fffbc7c77259929f7c276413a03341f345aa392045be4ce9158fc8a"), looks := false }, kinds := [], alts := [], laidByText := true, laidKinds := [.data], laidTests := true, laidLooks := .later }
def CertMapsUptoCardSaid : Prop := Claim7.holds Tryz.pinned (.plain (OpenSpec.upto certMapsSpec)) certMapsUptoCard

/-- THE SECOND FORM's CARD OF 'parterrelaw16.CertWays'. -/
def certWaysUptoCard : Claim7 := { stood := { row := certWaysUptoRow, standIns := [], harness := (true, "83b576721fffbc7c77259929f7c276413a03341f345aa392045be4ce9158fc8a"), looks := false }, kinds := [], alts := [], laidByText := true, laidKinds := [.data], laidTests := true, laidLooks := .later }
def CertWaysUptoCardSaid : Prop := Claim7.holds Tryz.pinned (.plain (OpenSpec.upto certWaysSpec)) certWaysUptoCard

/-- THE SECOND FORM's CARD OF 'parterrelaw16.CertKinds'. -/
def certKindsUptoCard : Claim7 := { stood := { row := certKindsUptoRow, standIns := [], harness := (true, "83b576721fffbc7c77259929f7c276413a03341f345aa392045be4ce9158fc8a"), looks := false }, kinds := [], alts := [], laidByText := true, laidKinds := [.data], laidTests := true, laidLooks := .later }
def CertKindsUptoCardSaid : Prop := Claim7.holds Tryz.pinned (.plain (OpenSpec.upto certKindsSpec)) certKindsUptoCard
end Rows
end Go.Proofs.YtiiejclelbilkaaGreatDoor
