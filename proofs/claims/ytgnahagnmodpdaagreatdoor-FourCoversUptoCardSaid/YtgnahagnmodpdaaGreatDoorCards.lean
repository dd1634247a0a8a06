/-
  DERIVED. GIVEN WITH THE SEED: THE CARDS: each row of YtgnahagnmodpdaaGreatDoorRows.lean that lists a variable, with what it lists TIED to the program's text (the seventh form; the later family's looks); each row that meets fmt, with fmt's text TOLD by the authors' own Lean function (tested against real Go, not proved from fmt's source: count such statements apart). THE CARD IS WHAT COUNTS. Prove the row's statement (the work); the ties are given (YtgnahagnmodpdaaGreatDoorTie.lean); close each card by the builder's one call (the guide's Derived/Test/ToyasCard.lean, 'card_holds'). Laid BY PROGRAM, IN A SANDBOX (cutbox-door.mjs). By AI agents, Wed Nov 11 2026. No macro, syntax, notation, axiom, sorry.
-/
import Derived.Test.YtgnahagnmodpdaaGreatDoorRows
import GoSem.ClaimSeven
namespace Go.Proofs.YtgnahagnmodpdaaGreatDoor
namespace Rows

/-- THE TIED CARD OF 'posternlaw20.FourCovers'. -/
def fourCoversCard : Claim7 := { stood := { row := fourCoversRow, standIns := [], harness := (true, "19778304576c58da00639e065f108b77552d467aaac010aff61d11e6d90521e3"), looks := false }, kinds := [], alts := [], laidByText := true, laidKinds := [.data, .data, .data, .data, .pinned], laidTests := true, laidLooks := .later }
def FourCoversCardSaid : Prop := Claim7.holds Tryz.pinned (.plain (OpenSpec.ofChange fourCoversSpec)) fourCoversCard

/-- THE SECOND FORM's CARD OF 'posternlaw20.FourCovers'. -/
def fourCoversUptoCard : Claim7 := { stood := { row := fourCoversUptoRow, standIns := [], harness := (true, "19778304576c58da00639e065f108b77552d467aaac010aff61d11e6d90521e3"), looks := false }, kinds := [], alts := [], laidByText := true, laidKinds := [.data, .data, .data, .data, .pinned], laidTests := true, laidLooks := .later }
def FourCoversUptoCardSaid : Prop := Claim7.holds Tryz.pinned (.plain (OpenSpec.upto fourCoversSpec)) fourCoversUptoCard
end Rows
end Go.Proofs.YtgnahagnmodpdaaGreatDoor
