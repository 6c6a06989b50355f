/-
  DERIVED. GIVEN WITH THE SEED: THE CARDS: each row of YtnnfcdffnckoiaaDoorRows.lean that lists a variable, with what it lists TIED to the program's text (the seventh form; the later family's looks); each row that meets fmt, with fmt's text TOLD by the authors' own Lean function (tested against real Go, not proved from fmt's source: count such statements apart). THE CARD IS WHAT COUNTS. Prove the row's statement (the work); the ties are given (YtnnfcdffnckoiaaDoorTie.lean); close each card by the builder's one call (the guide's Derived/Test/ToyasCard.lean, 'card_holds'). Laid BY PROGRAM, IN A SANDBOX (cutbox-door.mjs). By AI agents, Wed Nov 11 2026. No macro, syntax, notation, axiom, sorry.
-/
import Derived.Test.YtnnfcdffnckoiaaDoorRows
import GoSem.ClaimSeven
namespace Go.Proofs.YtnnfcdffnckoiaaDoor
namespace Rows

/-- THE TIED CARD OF 'sakialaw31.SoloLedger'. -/
def soloLedgerCard : Claim7 := { stood := { row := soloLedgerRow, standIns := [], harness := (true, "983452fad4ebbe56804ccc06acde90c359e59f81927d829785010bb47821954f"), looks := false }, kinds := [], alts := [], laidByText := true, laidKinds := [.data], laidTests := true, laidLooks := .later }
def SoloLedgerCardSaid : Prop := Claim7.holds Tryd.pinned (.plain (OpenSpec.ofChange soloLedgerSpec)) soloLedgerCard

/-- THE TIED CARD OF 'sakialaw29.ModelHolds'. -/
def modelHoldsCard : Claim7 := { stood := { row := modelHoldsRow, standIns := [], harness := (true, "983452fad4ebbe56804ccc06acde90c359e59f81927d829785010bb47821954f"), looks := false }, kinds := [], alts := [], laidByText := true, laidKinds := [.data], laidTests := true, laidLooks := .later }
def ModelHoldsCardSaid : Prop := Claim7.holds Tryd.pinned (.plain (OpenSpec.ofChange modelHoldsSpec)) modelHoldsCard

/-- THE TIED CARD OF 'sakialaw29.ModelPlays'. -/
def modelPlaysCard : Claim7 := { stood := { row := modelPlaysRow, standIns := [], harness := (true, "983452fad4ebbe56804ccc06acde90c359e59f81927d829785010bb47821954f"), looks := false }, kinds := [], alts := [], laidByText := true, laidKinds := [.data], laidTests := true, laidLooks := .later }
def ModelPlaysCardSaid : Prop := Claim7.holds Tryd.pinned (.plain (OpenSpec.ofChange modelPlaysSpec)) modelPlaysCard

/-- THE TIED CARD OF 'sakialaw29.ModelStops'. -/
def modelStopsCard : Claim7 := { stood := { row := modelStopsRow, standIns := [], harness := (true, "983452fad4ebbe56804ccc06acde90c359e59f81927d829785010bb47821954f"), looks := false }, kinds := [], alts := [], laidByText := true, laidKinds := [.data], laidTests := true, laidLooks := .later }
def ModelStopsCardSaid : Prop := Claim7.holds Tryd.pinned (.plain (OpenSpec.ofChange modelStopsSpec)) modelStopsCard

/-- THE TIED CARD OF 'sakialaw29.ModelNone'. -/
def modelNoneCard : Claim7 := { stood := { row := modelNoneRow, standIns := [], harness := (true, "983452fad4ebbe56804ccc06acde90c359e59f81927d829785010bb47821954f"), looks := false }, kinds := [], alts := [], laidByText := true, laidKinds := [.data], laidTests := true, laidLooks := .later }
def ModelNoneCardSaid : Prop := Claim7.holds Tryd.pinned (.plain (OpenSpec.ofChange modelNoneSpec)) modelNoneCard

/-- THE SECOND FORM's CARD OF 'sakialaw31.SoloLedger'. -/
def soloLedgerUptoCard : Claim7 := { stood := { row := soloLedgerUptoRow, standIns := [], harness := (true, "983452fad4ebbe56804ccc06acde90c359e59f81927d829785010bb47821954f"), looks := false }, kinds := [], alts := [], laidByText := true, laidKinds := [.data], laidTests := true, laidLooks := .later }
def SoloLedgerUptoCardSaid : Prop := Claim7.holds Tryd.pinned (.plain (OpenSpec.upto soloLedgerSpec)) soloLedgerUptoCard

/-- THE SECOND FORM's CARD OF 'sakialaw29.ModelHolds'. -/
def modelHoldsUptoCard : Claim7 := { stood := { row := modelHoldsUptoRow, standIns := [], harness := (true, "983452fad4ebbe56804ccc06acde90c359e59f81927d829785010bb47821954f"), looks := false }, kinds := [], alts := [], laidByText := true, laidKinds := [.data], laidTests := true, laidLooks := .later }
def ModelHoldsUptoCardSaid : Prop := Claim7.holds Tryd.pinned (.plain (OpenSpec.upto modelHoldsSpec)) modelHoldsUptoCard

/-- THE SECOND FORM's CARD OF 'sakialaw29.ModelPlays'. -/
def modelPlaysUptoCard : Claim7 := { stood := { row := modelPlaysUptoRow, standIns := [], harness := (true, "983452fad4ebbe56804ccc06acde90c359e59f81927d829785010bb47821954f"), looks := false }, kinds := [], alts := [], laidByText := true, laidKinds := [.data], laidTests := true, laidLooks := .later }
def ModelPlaysUptoCardSaid : Prop := Claim7.holds Tryd.pinned (.plain (OpenSpec.upto modelPlaysSpec)) modelPlaysUptoCard

/-- THE SECOND FORM's CARD OF 'sakialaw29.ModelStops'. -/
def modelStopsUptoCard : Claim7 := { stood := { row := modelStopsUptoRow, standIns := [], harness := (true, "983452fad4ebbe56804ccc06acde90c359e59f81927d829785010bb47821954f"), looks := false }, kinds := [], alts := [], laidByText := true, laidKinds := [.data], laidTests := true, laidLooks := .later }
def ModelStopsUptoCardSaid : Prop := Claim7.holds Tryd.pinned (.plain (OpenSpec.upto modelStopsSpec)) modelStopsUptoCard

/-- THE SECOND FORM's CARD OF 'sakialaw29.ModelNone'. -/
def modelNoneUptoCard : Claim7 := { stood := { row := modelNoneUptoRow, standIns := [], harness := (true, "983452fad4ebbe56804ccc06acde90c359e59f81927d829785010bb47821954f"), looks := false }, kinds := [], alts := [], laidByText := true, laidKinds := [.data], laidTests := true, laidLooks := .later }
def ModelNoneUptoCardSaid : Prop := Claim7.holds Tryd.pinned (.plain (OpenSpec.upto modelNoneSpec)) modelNoneUptoCard
end Rows
end Go.Proofs.YtnnfcdffnckoiaaDoor
