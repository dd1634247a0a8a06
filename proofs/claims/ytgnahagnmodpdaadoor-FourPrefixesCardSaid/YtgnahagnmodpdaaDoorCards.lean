/-
  DERIVED. GIVEN WITH THE SEED: THE CARDS: each row of YtgnahagnmodpdaaDoorRows.lean that lists a variable, with what it lists TIED to the program's text (the seventh form; the later family's looks); each row that meets fmt, with fmt's text TOLD by the authors' own Lean function (tested against real Go, not proved from fmt's source: count such statements apart). THE CARD IS WHAT COUNTS. Prove the row's statement (the work); the ties are given (YtgnahagnmodpdaaDoorTie.lean); close each card by the builder's one call (the guide's Derived/Test/ToyasCard.lean, 'card_holds'). Laid BY PROGRAM, IN A SANDBOX (cutbox-door.mjs). By AI agents, Wed Nov 11 2026. No macro, syntax, notation, axiom, sorry.
-/
import Derived.Test.YtgnahagnmodpdaaDoorRows
import GoSem.ClaimSeven
namespace Go.Proofs.YtgnahagnmodpdaaDoor
namespace Rows

/-- THE TIED CARD OF 'posternlaw20.FourWays'. -/
def fourWaysCard : Claim7 := { stood := { row := fourWaysRow, standIns := [], harness := (true, "459cde57c07d346d378bd0a7da59922894106640ee3a156152a665c5056f7e53"), looks := false }, kinds := [], alts := [], laidByText := true, laidKinds := [.data, .data, .data, .data, .pinned], laidTests := true, laidLooks := .later }
def FourWaysCardSaid : Prop := Claim7.holds Tryd.pinned (.plain (OpenSpec.ofChange fourWaysSpec)) fourWaysCard

/-- THE TIED CARD OF 'posternlaw20.FourNumbers'. -/
def fourNumbersCard : Claim7 := { stood := { row := fourNumbersRow, standIns := [], harness := (true, "459cde57c07d346d378bd0a7da59922894106640ee3a156152a665c5056f7e53"), looks := false }, kinds := [], alts := [], laidByText := true, laidKinds := [.data, .data, .data, .data, .pinned], laidTests := true, laidLooks := .later }
def FourNumbersCardSaid : Prop := Claim7.holds Tryd.pinned (.plain (OpenSpec.ofChange fourNumbersSpec)) fourNumbersCard

/-- THE TIED CARD OF 'posternlaw20.FourParses'. -/
def fourParsesCard : Claim7 := { stood := { row := fourParsesRow, standIns := [], harness := (true, "459cde57c07d346d378bd0a7da59922894106640ee3a156152a665c5056f7e53"), looks := false }, kinds := [], alts := [], laidByText := true, laidKinds := [.data, .data, .data, .data, .pinned], laidTests := true, laidLooks := .later }
def FourParsesCardSaid : Prop := Claim7.holds Tryd.pinned (.plain (OpenSpec.ofChange fourParsesSpec)) fourParsesCard

/-- THE TIED CARD OF 'posternlaw20.FourBack'. -/
def fourBackCard : Claim7 := { stood := { row := fourBackRow, standIns := [], harness := (true, "459cde57c07d346d378bd0a7da59922894106640ee3a156152a665c5056f7e53"), looks := false }, kinds := [], alts := [], laidByText := true, laidKinds := [.data, .data, .data, .data, .pinned], laidTests := true, laidLooks := .later }
def FourBackCardSaid : Prop := Claim7.holds Tryd.pinned (.plain (OpenSpec.ofChange fourBackSpec)) fourBackCard

/-- THE TIED CARD OF 'posternlaw20.FourEnds'. -/
def fourEndsCard : Claim7 := { stood := { row := fourEndsRow, standIns := [], harness := (true, "459cde57c07d346d378bd0a7da59922894106640ee3a156152a665c5056f7e53"), looks := false }, kinds := [], alts := [], laidByText := true, laidKinds := [.data, .data, .data, .data, .pinned], laidTests := true, laidLooks := .later }
def FourEndsCardSaid : Prop := Claim7.holds Tryd.pinned (.plain (OpenSpec.ofChange fourEndsSpec)) fourEndsCard

/-- THE TIED CARD OF 'posternlaw20.FourKinds'. -/
def fourKindsCard : Claim7 := { stood := { row := fourKindsRow, standIns := [], harness := (true, "459cde57c07d346d378bd0a7da59922894106640ee3a156152a665c5056f7e53"), looks := false }, kinds := [], alts := [], laidByText := true, laidKinds := [.data, .data, .data, .data, .pinned], laidTests := true, laidLooks := .later }
def FourKindsCardSaid : Prop := Claim7.holds Tryd.pinned (.plain (OpenSpec.ofChange fourKindsSpec)) fourKindsCard

/-- THE TIED CARD OF 'posternlaw20.FourPrefixes'. -/
def fourPrefixesCard : Claim7 := { stood := { row := fourPrefixesRow, standIns := [], harness := (true, "459cde57c07d346d378bd0a7da59922894106640ee3a156152a665c5056f7e53"), looks := false }, kinds := [], alts := [], laidByText := true, laidKinds := [.data, .data, .data, .data, .pinned], laidTests := true, laidLooks := .later }
def FourPrefixesCardSaid : Prop := Claim7.holds Tryd.pinned (.plain (OpenSpec.ofChange fourPrefixesSpec)) fourPrefixesCard

/-- THE TIED CARD OF 'posternlaw20.FourApart'. -/
def fourApartCard : Claim7 := { stood := { row := fourApartRow, standIns := [], harness := (true, "459cde57c07d346d378bd0a7da59922894106640ee3a156152a665c5056f7e53"), looks := false }, kinds := [], alts := [], laidByText := true, laidKinds := [.data, .data, .data, .data, .pinned], laidTests := true, laidLooks := .later }
def FourApartCardSaid : Prop := Claim7.holds Tryd.pinned (.plain (OpenSpec.ofChange fourApartSpec)) fourApartCard

/-- THE SECOND FORM's CARD OF 'posternlaw20.FourWays'. -/
def fourWaysUptoCard : Claim7 := { stood := { row := fourWaysUptoRow, standIns := [], harness := (true, "459cde57c07d346d378bd0a7da59922894106640ee3a156152a665c5056f7e53"), looks := false }, kinds := [], alts := [], laidByText := true, laidKinds := [.data, .data, .data, .data, .pinned], laidTests := true, laidLooks := .later }
def FourWaysUptoCardSaid : Prop := Claim7.holds Tryd.pinned (.plain (OpenSpec.upto fourWaysSpec)) fourWaysUptoCard

/-- THE SECOND FORM's CARD OF 'posternlaw20.FourNumbers'. -/
def fourNumbersUptoCard : Claim7 := { stood := { row := fourNumbersUptoRow, standIns := [], harness := (true, "459cde57c07d346d378bd0a7da59922894106640ee3a156152a665c5056f7e53"), looks := false }, kinds := [], alts := [], laidByText := true, laidKinds := [.data, .data, .data, .data, .pinned], laidTests := true, laidLooks := .later }
def FourNumbersUptoCardSaid : Prop := Claim7.holds Tryd.pinned (.plain (OpenSpec.upto fourNumbersSpec)) fourNumbersUptoCard

/-- THE SECOND FORM's CARD OF 'posternlaw20.FourParses'. -/
def fourParsesUptoCard : Claim7 := { stood := { row := fourParsesUptoRow, standIns := [], harness := (true, "459cde57c07d346d378bd0a7da59922894106640ee3a156152a665c5056f7e53"), looks := false }, kinds := [], alts := [], laidByText := true, laidKinds := [.data, .data, .data, .data, .pinned], laidTests := true, laidLooks := .later }
def FourParsesUptoCardSaid : Prop := Claim7.holds Tryd.pinned (.plain (OpenSpec.upto fourParsesSpec)) fourParsesUptoCard

/-- THE SECOND FORM's CARD OF 'posternlaw20.FourBack'. -/
def fourBackUptoCard : Claim7 := { stood := { row := fourBackUptoRow, standIns := [], harness := (true, "459cde57c07d346d378bd0a7da59922894106640ee3a156152a665c5056f7e53"), looks := false }, kinds := [], alts := [], laidByText := true, laidKinds := [.data, .data, .data, .data, .pinned], laidTests := true, laidLooks := .later }
def FourBackUptoCardSaid : Prop := Claim7.holds Tryd.pinned (.plain (OpenSpec.upto fourBackSpec)) fourBackUptoCard

/-- THE SECOND FORM's CARD OF 'posternlaw20.FourEnds'. -/
def fourEndsUptoCard : Claim7 := { stood := { row := fourEndsUptoRow, standIns := [], harness := (true, "459cde57c07d346d378bd0a7da59922894106640ee3a156152a665c5056f7e53"), looks := false }, kinds := [], alts := [], laidByText := true, laidKinds := [.data, .data, .data, .data, .pinned], laidTests := true, laidLooks := .later }
def FourEndsUptoCardSaid : Prop := Claim7.holds Tryd.pinned (.plain (OpenSpec.upto fourEndsSpec)) fourEndsUptoCard

/-- THE SECOND FORM's CARD OF 'posternlaw20.FourKinds'. -/
def fourKindsUptoCard : Claim7 := { stood := { row := fourKindsUptoRow, standIns := [], harness := (true, "459cde57c07d346d378bd0a7da59922894106640ee3a156152a665c5056f7e53"), looks := false }, kinds := [], alts := [], laidByText := true, laidKinds := [.data, .data, .data, .data, .pinned], laidTests := true, laidLooks := .later }
def FourKindsUptoCardSaid : Prop := Claim7.holds Tryd.pinned (.plain (OpenSpec.upto fourKindsSpec)) fourKindsUptoCard

/-- THE SECOND FORM's CARD OF 'posternlaw20.FourPrefixes'. -/
def fourPrefixesUptoCard : Claim7 := { stood := { row := fourPrefixesUptoRow, standIns := [], harness := (true, "459cde57c07d346d378bd0a7da59922894106640ee3a156152a665c5056f7e53"), looks := false }, kinds := [], alts := [], laidByText := true, laidKinds := [.data, .data, .data, .data, .pinned], laidTests := true, laidLooks := .later }
def FourPrefixesUptoCardSaid : Prop := Claim7.holds Tryd.pinned (.plain (OpenSpec.upto fourPrefixesSpec)) fourPrefixesUptoCard

/-- THE SECOND FORM's CARD OF 'posternlaw20.FourApart'. -/
def fourApartUptoCard : Claim7 := { stood := { row := fourApartUptoRow, standIns := [], harness := (true, "459cde57c07d346d378bd0a7da59922894106640ee3a156152a665c5056f7e53"), looks := false }, kinds := [], alts := [], laidByText := true, laidKinds := [.data, .data, .data, .data, .pinned], laidTests := true, laidLooks := .later }
def FourApartUptoCardSaid : Prop := Claim7.holds Tryd.pinned (.plain (OpenSpec.upto fourApartSpec)) fourApartUptoCard
end Rows
end Go.Proofs.YtgnahagnmodpdaaDoor
