/-
  DERIVED. GIVEN WITH THE SEED: THE CARDS: each row of YtgbicnkpnhifgaaGreatDoorRows.lean that lists a variable, with what it lists TIED to the program's text (the seventh form; the later family's looks); each row that meets fmt, with fmt's text TOLD by the authors' own Lean function (tested against real Go, not proved from fmt's source: count such statements apart). THE CARD IS WHAT COUNTS. Prove the row's statement (the work); the ties are given (YtgbicnkpnhifgaaGreatDoorTie.lean); close each card by the builder's one call (the guide's Derived/Test/ToyasCard.lean, 'card_holds'). Laid BY PROGRAM, IN A SANDBOX (cutbox-door.mjs). By AI agents, Wed Nov 11 2026. No macro, syntax, notation, axiom, sorry.
-/
import Derived.Test.YtgbicnkpnhifgaaGreatDoorRows
import GoSem.ClaimSeven
namespace Go.Proofs.YtgbicnkpnhifgaaGreatDoor
namespace Rows

/-- THE TIED CARD OF 'loftblocktop.TopFailure'. -/
def topFailureCard : Claim7 := { stood := { row := topFailureRow, standIns := [], harness := (true, "1c791ae537b465b0d2df479524af66b8c8425acd96b55dde08d3e22f5723eb84"), looks := true }, kinds := [], alts := [], laidByText := true, laidKinds := [.data, .data, .data], laidTests := true, laidLooks := .later }
def TopFailureCardSaid : Prop := Claim7.holds Tryz.pinned (.plain (OpenSpec.ofChange topFailureSpec)) topFailureCard

/-- THE TIED CARD OF 'loftblocktop.TopStored'. -/
def topStoredCard : Claim7 := { stood := { row := topStoredRow, standIns := [], harness := (true, "1c791ae537b465b0d2df479524af66b8c8425acd96b55dde08d3e22f5723eb84"), looks := true }, kinds := [], alts := [], laidByText := true, laidKinds := [.data, .data, .data], laidTests := true, laidLooks := .later }
def TopStoredCardSaid : Prop := Claim7.holds Tryz.pinned (.plain (OpenSpec.ofChange topStoredSpec)) topStoredCard

/-- THE TIED CARD OF 'loftblocktop.TopBricks'. -/
def topBricksCard : Claim7 := { stood := { row := topBricksRow, standIns := [], harness := (true, "1c791ae537b465b0d2df479524af66b8c8425acd96b55dde08d3e22f5723eb84"), looks := true }, kinds := [], alts := [], laidByText := true, laidKinds := [.data, .data, .data], laidTests := true, laidLooks := .later }
def TopBricksCardSaid : Prop := Claim7.holds Tryz.pinned (.plain (OpenSpec.ofChange topBricksSpec)) topBricksCard

/-- THE SECOND FORM's CARD OF 'loftblocktop.TopFailure'. -/
def topFailureUptoCard : Claim7 := { stood := { row := topFailureUptoRow, standIns := [], harness := (true, "1c791ae537b465b0d2df479524af66b8c8425acd96b55dde08d3e22f5723eb84"), looks := true }, kinds := [], alts := [], laidByText := true, laidKinds := [.data, .data, .data], laidTests := true, laidLooks := .later }
def TopFailureUptoCardSaid : Prop := Claim7.holds Tryz.pinned (.plain (OpenSpec.upto topFailureSpec)) topFailureUptoCard

/-- THE SECOND FORM's CARD OF 'loftblocktop.TopStored'. -/
def topStoredUptoCard : Claim7 := { stood := { row := topStoredUptoRow, standIns := [], harness := (true, "1c791ae537b465b0d2df479524af66b8c8425acd96b55dde08d3e22f5723eb84"), looks := true }, kinds := [], alts := [], laidByText := true, laidKinds := [.data, .data, .data], laidTests := true, laidLooks := .later }
def TopStoredUptoCardSaid : Prop := Claim7.holds Tryz.pinned (.plain (OpenSpec.upto topStoredSpec)) topStoredUptoCard

/-- THE SECOND FORM's CARD OF 'loftblocktop.TopBricks'. -/
def topBricksUptoCard : Claim7 := { stood := { row := topBricksUptoRow, standIns := [], harness := (true, "1c791ae537b465b0d2df479524af66b8c8425acd96b55dde08d3e22f5723eb84"), looks := true }, kinds := [], alts := [], laidByText := true, laidKinds := [.data, .data, .data], laidTests := true, laidLooks := .later }
def TopBricksUptoCardSaid : Prop := Claim7.holds Tryz.pinned (.plain (OpenSpec.upto topBricksSpec)) topBricksUptoCard
end Rows
end Go.Proofs.YtgbicnkpnhifgaaGreatDoor
