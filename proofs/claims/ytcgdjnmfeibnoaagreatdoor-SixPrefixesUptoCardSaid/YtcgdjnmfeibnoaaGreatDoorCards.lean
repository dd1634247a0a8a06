/-
  DERIVED. GIVEN WITH THE SEED: THE CARDS: each row of YtcgdjnmfeibnoaaGreatDoorRows.lean that lists a variable, with what it lists TIED to the program's text (the seventh form; the later family's looks); each row that meets fmt, with fmt's text TOLD by the authors' own Lean function (tested against real Go, not proved from fmt's source: count such statements apart). THE CARD IS WHAT COUNTS. Prove the row's statement (the work); the ties are given (YtcgdjnmfeibnoaaGreatDoorTie.lean); close each card by the builder's one call (the guide's Derived/Test/ToyasCard.lean, 'card_holds'). Laid BY PROGRAM, IN A SANDBOX (cutbox-door.mjs). By AI agents, Wed Nov 11 2026. No macro, syntax, notation, axiom, sorry.
-/
import Derived.Test.YtcgdjnmfeibnoaaGreatDoorRows
import GoSem.ClaimSeven
namespace Go.Proofs.YtcgdjnmfeibnoaaGreatDoor
namespace Rows

/-- THE TIED CARD OF 'posternlaw21.SixPrefixes'. -/
def sixPrefixesCard : Claim7 := { stood := { row := sixPrefixesRow, standIns := [], harness := (true, "f17eb52bebabf4203a782379e996f9c23855f51348789c129511ffef270fe023"), looks := true }, kinds := [], alts := [], laidByText := true, laidKinds := [.data, .data, .data, .data, .sentinel, .sentinel, .pinned], laidTests := true, laidLooks := .later }
def SixPrefixesCardSaid : Prop := Claim7.holds Tryz.pinned (.plain (OpenSpec.ofChange sixPrefixesSpec)) sixPrefixesCard

/-- THE SECOND FORM's CARD OF 'posternlaw21.SixPrefixes'. -/
def sixPrefixesUptoCard : Claim7 := { stood := { row := sixPrefixesUptoRow, standIns := [], harness := (true, "f17eb52bebabf4203a782379e996f9c23855f51348789c129511ffef270fe023"), looks := true }, kinds := [], alts := [], laidByText := true, laidKinds := [.data, .data, .data, .data, .sentinel, .sentinel, .pinned], laidTests := true, laidLooks := .later }
def SixPrefixesUptoCardSaid : Prop := Claim7.holds Tryz.pinned (.plain (OpenSpec.upto sixPrefixesSpec)) sixPrefixesUptoCard
end Rows
end Go.Proofs.YtcgdjnmfeibnoaaGreatDoor
