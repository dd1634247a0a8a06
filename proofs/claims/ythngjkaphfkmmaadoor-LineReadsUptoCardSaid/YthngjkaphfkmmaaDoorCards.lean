/-
  DERIVED. GIVEN WITH THE SEED: THE CARDS: each row of YthngjkaphfkmmaaDoorRows.lean that lists a variable, with what it lists TIED to the program's text (the seventh form; the later family's looks); each row that meets fmt, with fmt's text TOLD by the authors' own Lean function (tested against real Go, not proved from fmt's source: count such statements apart). THE CARD IS WHAT COUNTS. Prove the row's statement (the work); the ties are given (YthngjkaphfkmmaaDoorTie.lean); close each card by the builder's one call (the guide's Derived/Test/ToyasCard.lean, 'card_holds'). Laid BY PROGRAM, IN A SANDBOX (cutbox-door.mjs). By AI agents, Wed Nov 11 2026. No macro, syntax, notation, axiom, sorry.
-/
import Derived.Test.YthngjkaphfkmmaaDoorRows
import GoSem.ClaimSeven
namespace Go.Proofs.YthngjkaphfkmmaaDoor
namespace Rows

/-- THE TIED CARD OF 'posternlaw09.LineFields'. -/
def lineFieldsCard : Claim7 := { stood := { row := lineFieldsRow, standIns := [], harness := (true, "253f6861a372a43c10bc5654a26c69ea401fecd7e9bf9566789f1cc719238d1e"), looks := false }, kinds := [], alts := [], laidByText := true, laidKinds := [.data, .pinned], laidTests := true, laidLooks := .later }
def LineFieldsCardSaid : Prop := Claim7.holds Tryd.pinned (.plain (OpenSpec.ofChange lineFieldsSpec)) lineFieldsCard

/-- THE TIED CARD OF 'posternlaw09.LineReads'. -/
def lineReadsCard : Claim7 := { stood := { row := lineReadsRow, standIns := [], harness := (true, "253f6861a372a43c10bc5654a26c69ea401fecd7e9bf9566789f1cc719238d1e"), looks := false }, kinds := [], alts := [], laidByText := true, laidKinds := [.data, .pinned], laidTests := true, laidLooks := .later }
def LineReadsCardSaid : Prop := Claim7.holds Tryd.pinned (.plain (OpenSpec.ofChange lineReadsSpec)) lineReadsCard

/-- THE TIED CARD OF 'posternlaw09.LineFeeds'. -/
def lineFeedsCard : Claim7 := { stood := { row := lineFeedsRow, standIns := [], harness := (true, "253f6861a372a43c10bc5654a26c69ea401fecd7e9bf9566789f1cc719238d1e"), looks := false }, kinds := [], alts := [], laidByText := true, laidKinds := [.data, .pinned], laidTests := true, laidLooks := .later }
def LineFeedsCardSaid : Prop := Claim7.holds Tryd.pinned (.plain (OpenSpec.ofChange lineFeedsSpec)) lineFeedsCard

/-- THE SECOND FORM's CARD OF 'posternlaw09.LineFields'. -/
def lineFieldsUptoCard : Claim7 := { stood := { row := lineFieldsUptoRow, standIns := [], harness := (true, "253f6861a372a43c10bc5654a26c69ea401fecd7e9bf9566789f1cc719238d1e"), looks := false }, kinds := [], alts := [], laidByText := true, laidKinds := [.data, .pinned], laidTests := true, laidLooks := .later }
def LineFieldsUptoCardSaid : Prop := Claim7.holds Tryd.pinned (.plain (OpenSpec.upto lineFieldsSpec)) lineFieldsUptoCard

/-- THE SECOND FORM's CARD OF 'posternlaw09.LineReads'. -/
def lineReadsUptoCard : Claim7 := { stood := { row := lineReadsUptoRow, standIns := [], harness := (true, "253f6861a372a43c10bc5654a26c69ea401fecd7e9bf9566789f1cc719238d1e"), looks := false }, kinds := [], alts := [], laidByText := true, laidKinds := [.data, .pinned], laidTests := true, laidLooks := .later }
def LineReadsUptoCardSaid : Prop := Claim7.holds Tryd.pinned (.plain (OpenSpec.upto lineReadsSpec)) lineReadsUptoCard

/-- THE SECOND FORM's CARD OF 'posternlaw09.LineFeeds'. -/
def lineFeedsUptoCard : Claim7 := { stood := { row := lineFeedsUptoRow, standIns := [], harness := (true, "253f6861a372a43c10bc5654a26c69ea401fecd7e9bf9566789f1cc719238d1e"), looks := false }, kinds := [], alts := [], laidByText := true, laidKinds := [.data, .pinned], laidTests := true, laidLooks := .later }
def LineFeedsUptoCardSaid : Prop := Claim7.holds Tryd.pinned (.plain (OpenSpec.upto lineFeedsSpec)) lineFeedsUptoCard
end Rows
end Go.Proofs.YthngjkaphfkmmaaDoor
