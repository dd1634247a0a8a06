/-
  DERIVED. GIVEN WITH THE SEED: THE CARDS: each row of YtcgdjnmfeibnoaaDoorRows.lean that lists a variable, with what it lists TIED to the program's text (the seventh form; the later family's looks); each row that meets fmt, with fmt's text TOLD by the authors' own Lean function (tested against real Go, not proved from fmt's source: count such statements apart). THE CARD IS WHAT COUNTS. Prove the row's statement (the work); the ties are given (YtcgdjnmfeibnoaaDoorTie.lean); close each card by the builder's one call (the guide's Derived/Test/ToyasCard.lean, 'card_holds'). Laid BY PROGRAM, IN A SANDBOX (cutbox-door.mjs). By AI agents, Wed Nov 11 2026. No macro, syntax, notation, axiom, sorry.
-/
import Derived.Test.YtcgdjnmfeibnoaaDoorRows
import GoSem.ClaimSeven
namespace Go.Proofs.YtcgdjnmfeibnoaaDoor
namespace Rows

/-- THE TIED CARD OF 'posternlaw21.SixCovers'. -/
def sixCoversCard : Claim7 := { stood := { row := sixCoversRow, standIns := [], harness := (true, "303fa1302f4ef4aaa1dd121110f0a28618f0c8488a2f3ad905be3901c221a8cd"), looks := false }, kinds := [], alts := [], laidByText := true, laidKinds := [.data], laidTests := true, laidLooks := .later }
def SixCoversCardSaid : Prop := Claim7.holds Tryd.pinned (.plain (OpenSpec.ofChange sixCoversSpec)) sixCoversCard

/-- THE TIED CARD OF 'posternlaw21.SixParses'. -/
def sixParsesCard : Claim7 := { stood := { row := sixParsesRow, standIns := [], harness := (true, "303fa1302f4ef4aaa1dd121110f0a28618f0c8488a2f3ad905be3901c221a8cd"), looks := false }, kinds := [], alts := [], laidByText := true, laidKinds := [.data, .pinned], laidTests := true, laidLooks := .later }
def SixParsesCardSaid : Prop := Claim7.holds Tryd.pinned (.plain (OpenSpec.ofChange sixParsesSpec)) sixParsesCard

/-- THE TIED CARD OF 'posternlaw21.SixOne'. -/
def sixOneCard : Claim7 := { stood := { row := sixOneRow, standIns := [], harness := (true, "303fa1302f4ef4aaa1dd121110f0a28618f0c8488a2f3ad905be3901c221a8cd"), looks := false }, kinds := [], alts := [], laidByText := true, laidKinds := [.data, .pinned], laidTests := true, laidLooks := .later }
def SixOneCardSaid : Prop := Claim7.holds Tryd.pinned (.plain (OpenSpec.ofChange sixOneSpec)) sixOneCard

/-- THE TIED CARD OF 'posternlaw21.SixJoins'. -/
def sixJoinsCard : Claim7 := { stood := { row := sixJoinsRow, standIns := [], harness := (true, "303fa1302f4ef4aaa1dd121110f0a28618f0c8488a2f3ad905be3901c221a8cd"), looks := false }, kinds := [], alts := [], laidByText := true, laidKinds := [.data], laidTests := true, laidLooks := .later }
def SixJoinsCardSaid : Prop := Claim7.holds Tryd.pinned (.plain (OpenSpec.ofChange sixJoinsSpec)) sixJoinsCard

/-- THE TIED CARD OF 'posternlaw21.SixTiles'. -/
def sixTilesCard : Claim7 := { stood := { row := sixTilesRow, standIns := [], harness := (true, "303fa1302f4ef4aaa1dd121110f0a28618f0c8488a2f3ad905be3901c221a8cd"), looks := false }, kinds := [], alts := [], laidByText := true, laidKinds := [.data], laidTests := true, laidLooks := .later }
def SixTilesCardSaid : Prop := Claim7.holds Tryd.pinned (.plain (OpenSpec.ofChange sixTilesSpec)) sixTilesCard

/-- THE TIED CARD OF 'posternlaw21.SixPrints'. -/
def sixPrintsCard : Claim7 := { stood := { row := sixPrintsRow, standIns := [], harness := (true, "303fa1302f4ef4aaa1dd121110f0a28618f0c8488a2f3ad905be3901c221a8cd"), looks := false }, kinds := [], alts := [], laidByText := true, laidKinds := [.data, .data, .data, .data, .pinned], laidTests := true, laidLooks := .later }
def SixPrintsCardSaid : Prop := Claim7.holds Tryd.pinned (.plain (OpenSpec.ofChange sixPrintsSpec)) sixPrintsCard

/-- THE TIED CARD OF 'posternlaw21.SixBack'. -/
def sixBackCard : Claim7 := { stood := { row := sixBackRow, standIns := [], harness := (true, "303fa1302f4ef4aaa1dd121110f0a28618f0c8488a2f3ad905be3901c221a8cd"), looks := false }, kinds := [], alts := [], laidByText := true, laidKinds := [.data, .data, .data, .data, .pinned], laidTests := true, laidLooks := .later }
def SixBackCardSaid : Prop := Claim7.holds Tryd.pinned (.plain (OpenSpec.ofChange sixBackSpec)) sixBackCard

/-- THE SECOND FORM's CARD OF 'posternlaw21.SixCovers'. -/
def sixCoversUptoCard : Claim7 := { stood := { row := sixCoversUptoRow, standIns := [], harness := (true, "303fa1302f4ef4aaa1dd121110f0a28618f0c8488a2f3ad905be3901c221a8cd"), looks := false }, kinds := [], alts := [], laidByText := true, laidKinds := [.data], laidTests := true, laidLooks := .later }
def SixCoversUptoCardSaid : Prop := Claim7.holds Tryd.pinned (.plain (OpenSpec.upto sixCoversSpec)) sixCoversUptoCard

/-- THE SECOND FORM's CARD OF 'posternlaw21.SixParses'. -/
def sixParsesUptoCard : Claim7 := { stood := { row := sixParsesUptoRow, standIns := [], harness := (true, "303fa1302f4ef4aaa1dd121110f0a28618f0c8488a2f3ad905be3901c221a8cd"), looks := false }, kinds := [], alts := [], laidByText := true, laidKinds := [.data, .pinned], laidTests := true, laidLooks := .later }
def SixParsesUptoCardSaid : Prop := Claim7.holds Tryd.pinned (.plain (OpenSpec.upto sixParsesSpec)) sixParsesUptoCard

/-- THE SECOND FORM's CARD OF 'posternlaw21.SixOne'. -/
def sixOneUptoCard : Claim7 := { stood := { row := sixOneUptoRow, standIns := [], harness := (true, "303fa1302f4ef4aaa1dd121110f0a28618f0c8488a2f3ad905be3901c221a8cd"), looks := false }, kinds := [], alts := [], laidByText := true, laidKinds := [.data, .pinned], laidTests := true, laidLooks := .later }
def SixOneUptoCardSaid : Prop := Claim7.holds Tryd.pinned (.plain (OpenSpec.upto sixOneSpec)) sixOneUptoCard

/-- THE SECOND FORM's CARD OF 'posternlaw21.SixJoins'. -/
def sixJoinsUptoCard : Claim7 := { stood := { row := sixJoinsUptoRow, standIns := [], harness := (true, "303fa1302f4ef4aaa1dd121110f0a28618f0c8488a2f3ad905be3901c221a8cd"), looks := false }, kinds := [], alts := [], laidByText := true, laidKinds := [.data], laidTests := true, laidLooks := .later }
def SixJoinsUptoCardSaid : Prop := Claim7.holds Tryd.pinned (.plain (OpenSpec.upto sixJoinsSpec)) sixJoinsUptoCard

/-- THE SECOND FORM's CARD OF 'posternlaw21.SixTiles'. -/
def sixTilesUptoCard : Claim7 := { stood := { row := sixTilesUptoRow, standIns := [], harness := (true, "303fa1302f4ef4aaa1dd121110f0a28618f0c8488a2f3ad905be3901c221a8cd"), looks := false }, kinds := [], alts := [], laidByText := true, laidKinds := [.data], laidTests := true, laidLooks := .later }
def SixTilesUptoCardSaid : Prop := Claim7.holds Tryd.pinned (.plain (OpenSpec.upto sixTilesSpec)) sixTilesUptoCard

/-- THE SECOND FORM's CARD OF 'posternlaw21.SixPrints'. -/
def sixPrintsUptoCard : Claim7 := { stood := { row := sixPrintsUptoRow, standIns := [], harness := (true, "303fa1302f4ef4aaa1dd121110f0a28618f0c8488a2f3ad905be3901c221a8cd"), looks := false }, kinds := [], alts := [], laidByText := true, laidKinds := [.data, .data, .data, .data, .pinned], laidTests := true, laidLooks := .later }
def SixPrintsUptoCardSaid : Prop := Claim7.holds Tryd.pinned (.plain (OpenSpec.upto sixPrintsSpec)) sixPrintsUptoCard

/-- THE SECOND FORM's CARD OF 'posternlaw21.SixBack'. -/
def sixBackUptoCard : Claim7 := { stood := { row := sixBackUptoRow, standIns := [], harness := (true, "303fa1302f4ef4aaa1dd121110f0a28618f0c8488a2f3ad905be3901c221a8cd"), looks := false }, kinds := [], alts := [], laidByText := true, laidKinds := [.data, .data, .data, .data, .pinned], laidTests := true, laidLooks := .later }
def SixBackUptoCardSaid : Prop := Claim7.holds Tryd.pinned (.plain (OpenSpec.upto sixBackSpec)) sixBackUptoCard
end Rows
end Go.Proofs.YtcgdjnmfeibnoaaDoor
