/-
  DERIVED. GIVEN WITH THE SEED: THE CARDS: each row of YtgibmlbdkijflaaDoorRows.lean that lists a variable, with what it lists TIED to the program's text (the seventh form; the later family's looks); each row that meets fmt, with fmt's text TOLD by the authors' own Lean function (tested against real Go, not proved from fmt's source: count such statements apart). THE CARD IS WHAT COUNTS. Prove the row's statement (the work); the ties are given (YtgibmlbdkijflaaDoorTie.lean); close each card by the builder's one call (the guide's Derived/Test/ToyasCard.lean, 'card_holds'). Laid BY PROGRAM, IN A SANDBOX (cutbox-door.mjs). By AI agents, Wed Nov 11 2026. No macro, syntax, notation, axiom, sorry.
-/
import Derived.Test.YtgibmlbdkijflaaDoorRows
import GoSem.ClaimSeven
namespace Go.Proofs.YtgibmlbdkijflaaDoor
namespace Rows

/-- THE TIED CARD OF 'sakialaw31.SoloLedger'. -/
def soloLedgerCard : Claim7 := { stood := { row := soloLedgerRow, standIns := [], harness := (true, "24a306ebc8d58107a1efc0c1cd19603f082ab8220c458f9a098594e6f0268587"), looks := false }, kinds := [], alts := [], laidByText := true, laidKinds := [.data], laidTests := true, laidLooks := .later }
def SoloLedgerCardSaid : Prop := Claim7.holds Tryd.pinned (.plain (OpenSpec.ofChange soloLedgerSpec)) soloLedgerCard

/-- THE TIED CARD OF 'sakialaw30.CheckNone'. -/
def checkNoneCard : Claim7 := { stood := { row := checkNoneRow, standIns := [], harness := (true, "24a306ebc8d58107a1efc0c1cd19603f082ab8220c458f9a098594e6f0268587"), looks := false }, kinds := [], alts := [], laidByText := true, laidKinds := [.data], laidTests := true, laidLooks := .later }
def CheckNoneCardSaid : Prop := Claim7.holds Tryd.pinned (.plain (OpenSpec.ofChange checkNoneSpec)) checkNoneCard

/-- THE TIED CARD OF 'sakialaw31.SoloNone'. -/
def soloNoneCard : Claim7 := { stood := { row := soloNoneRow, standIns := [], harness := (true, "24a306ebc8d58107a1efc0c1cd19603f082ab8220c458f9a098594e6f0268587"), looks := false }, kinds := [], alts := [], laidByText := true, laidKinds := [.data], laidTests := true, laidLooks := .later }
def SoloNoneCardSaid : Prop := Claim7.holds Tryd.pinned (.plain (OpenSpec.ofChange soloNoneSpec)) soloNoneCard

/-- THE SECOND FORM's CARD OF 'sakialaw31.SoloLedger'. -/
def soloLedgerUptoCard : Claim7 := { stood := { row := soloLedgerUptoRow, standIns := [], harness := (true, "24a306ebc8d58107a1efc0c1cd19603f082ab8220c458f9a098594e6f0268587"), looks := false }, kinds := [], alts := [], laidByText := true, laidKinds := [.data], laidTests := true, laidLooks := .later }
def SoloLedgerUptoCardSaid : Prop := Claim7.holds Tryd.pinned (.plain (OpenSpec.upto soloLedgerSpec)) soloLedgerUptoCard

/-- THE SECOND FORM's CARD OF 'sakialaw30.CheckNone'. -/
def checkNoneUptoCard : Claim7 := { stood := { row := checkNoneUptoRow, standIns := [], harness := (true, "24a306ebc8d58107a1efc0c1cd19603f082ab8220c458f9a098594e6f0268587"), looks := false }, kinds := [], alts := [], laidByText := true, laidKinds := [.data], laidTests := true, laidLooks := .later }
def CheckNoneUptoCardSaid : Prop := Claim7.holds Tryd.pinned (.plain (OpenSpec.upto checkNoneSpec)) checkNoneUptoCard

/-- THE SECOND FORM's CARD OF 'sakialaw31.SoloNone'. -/
def soloNoneUptoCard : Claim7 := { stood := { row := soloNoneUptoRow, standIns := [], harness := (true, "24a306ebc8d58107a1efc0c1cd19603f082ab8220c458f9a098594e6f0268587"), looks := false }, kinds := [], alts := [], laidByText := true, laidKinds := [.data], laidTests := true, laidLooks := .later }
def SoloNoneUptoCardSaid : Prop := Claim7.holds Tryd.pinned (.plain (OpenSpec.upto soloNoneSpec)) soloNoneUptoCard
end Rows
end Go.Proofs.YtgibmlbdkijflaaDoor
