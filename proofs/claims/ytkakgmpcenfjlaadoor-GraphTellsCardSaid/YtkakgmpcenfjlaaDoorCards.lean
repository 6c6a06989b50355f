/-
  DERIVED. GIVEN WITH THE SEED: THE CARDS: each row of YtkakgmpcenfjlaaDoorRows.lean that lists a variable, with what it lists TIED to the program's text (the seventh form; the later family's looks); each row that meets fmt, with fmt's text TOLD by the authors' own Lean function (tested against real Go, not proved from fmt's source: count such statements apart). THE CARD IS WHAT COUNTS. Prove the row's statement (the work); the ties are given (YtkakgmpcenfjlaaDoorTie.lean); close each card by the builder's one call (the guide's Derived/Test/ToyasCard.lean, 'card_holds'). Laid BY PROGRAM, IN A SANDBOX (cutbox-door.mjs). By AI agents, Wed Nov 11 2026. No macro, syntax, notation, axiom, sorry.
-/
import Derived.Test.YtkakgmpcenfjlaaDoorRows
import GoSem.ClaimSeven
namespace Go.Proofs.YtkakgmpcenfjlaaDoor
namespace Rows

/-- THE TIED CARD OF 'sakialaw09.GraphClimbs'. -/
def graphClimbsCard : Claim7 := { stood := { row := graphClimbsRow, standIns := [], harness := (true, "6248c900ffa7589cfaffe74427d4d589473018e6f8368f41914069c3ea6d77a1"), looks := false }, kinds := [], alts := [], laidByText := true, laidKinds := [.data], laidTests := true, laidLooks := .later }
def GraphClimbsCardSaid : Prop := Claim7.holds Tryd.pinned (.plain (OpenSpec.ofChange graphClimbsSpec)) graphClimbsCard

/-- THE TIED CARD OF 'sakialaw09.GraphOrder'. -/
def graphOrderCard : Claim7 := { stood := { row := graphOrderRow, standIns := [], harness := (true, "6248c900ffa7589cfaffe74427d4d589473018e6f8368f41914069c3ea6d77a1"), looks := false }, kinds := [], alts := [], laidByText := true, laidKinds := [.data], laidTests := true, laidLooks := .later }
def GraphOrderCardSaid : Prop := Claim7.holds Tryd.pinned (.plain (OpenSpec.ofChange graphOrderSpec)) graphOrderCard

/-- THE TIED CARD OF 'sakialaw09.GraphTells'. -/
def graphTellsCard : Claim7 := { stood := { row := graphTellsRow, standIns := [], harness := (true, "6248c900ffa7589cfaffe74427d4d589473018e6f8368f41914069c3ea6d77a1"), looks := false }, kinds := [], alts := [], laidByText := true, laidKinds := [.data], laidTests := true, laidLooks := .later }
def GraphTellsCardSaid : Prop := Claim7.holds Tryd.pinned (.plain (OpenSpec.ofChange graphTellsSpec)) graphTellsCard

/-- THE TIED CARD OF 'sakialaw09.GraphChecks'. -/
def graphChecksCard : Claim7 := { stood := { row := graphChecksRow, standIns := [], harness := (true, "6248c900ffa7589cfaffe74427d4d589473018e6f8368f41914069c3ea6d77a1"), looks := false }, kinds := [], alts := [], laidByText := true, laidKinds := [.data], laidTests := true, laidLooks := .later }
def GraphChecksCardSaid : Prop := Claim7.holds Tryd.pinned (.plain (OpenSpec.ofChange graphChecksSpec)) graphChecksCard

/-- THE SECOND FORM's CARD OF 'sakialaw09.GraphClimbs'. -/
def graphClimbsUptoCard : Claim7 := { stood := { row := graphClimbsUptoRow, standIns := [], harness := (true, "6248c900ffa7589cfaffe74427d4d589473018e6f8368f41914069c3ea6d77a1"), looks := false }, kinds := [], alts := [], laidByText := true, laidKinds := [.data], laidTests := true, laidLooks := .later }
def GraphClimbsUptoCardSaid : Prop := Claim7.holds Tryd.pinned (.plain (OpenSpec.upto graphClimbsSpec)) graphClimbsUptoCard

/-- THE SECOND FORM's CARD OF 'sakialaw09.GraphOrder'. -/
def graphOrderUptoCard : Claim7 := { stood := { row := graphOrderUptoRow, standIns := [], harness := (true, "6248c900ffa7589cfaffe74427d4d589473018e6f8368f41914069c3ea6d77a1"), looks := false }, kinds := [], alts := [], laidByText := true, laidKinds := [.data], laidTests := true, laidLooks := .later }
def GraphOrderUptoCardSaid : Prop := Claim7.holds Tryd.pinned (.plain (OpenSpec.upto graphOrderSpec)) graphOrderUptoCard

/-- THE SECOND FORM's CARD OF 'sakialaw09.GraphTells'. -/
def graphTellsUptoCard : Claim7 := { stood := { row := graphTellsUptoRow, standIns := [], harness := (true, "6248c900ffa7589cfaffe74427d4d589473018e6f8368f41914069c3ea6d77a1"), looks := false }, kinds := [], alts := [], laidByText := true, laidKinds := [.data], laidTests := true, laidLooks := .later }
def GraphTellsUptoCardSaid : Prop := Claim7.holds Tryd.pinned (.plain (OpenSpec.upto graphTellsSpec)) graphTellsUptoCard

/-- THE SECOND FORM's CARD OF 'sakialaw09.GraphChecks'. -/
def graphChecksUptoCard : Claim7 := { stood := { row := graphChecksUptoRow, standIns := [], harness := (true, "6248c900ffa7589cfaffe74427d4d589473018e6f8368f41914069c3ea6d77a1"), looks := false }, kinds := [], alts := [], laidByText := true, laidKinds := [.data], laidTests := true, laidLooks := .later }
def GraphChecksUptoCardSaid : Prop := Claim7.holds Tryd.pinned (.plain (OpenSpec.upto graphChecksSpec)) graphChecksUptoCard
end Rows
end Go.Proofs.YtkakgmpcenfjlaaDoor
