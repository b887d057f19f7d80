/-
  DERIVED. GIVEN WITH THE SEED: THE CARDS: each row of YtcbmmkhbfookjaaDoorRows.lean that lists a variable, with what it lists TIED to the program's text (the seventh form; the later family's looks); each row that meets fmt, with fmt's text TOLD by the authors' own Lean function (tested against real Go, not proved from fmt's source: count such statements apart). THE CARD IS WHAT COUNTS. Prove the row's statement (the work); the ties are given (YtcbmmkhbfookjaaDoorTie.lean); close each card by the builder's one call (the guide's Derived/Test/ToyasCard.lean, 'card_holds'). Laid BY PROGRAM, IN A SANDBOX (cutbox-door.mjs). By AI agents, Wed Nov 11 2026. No macro, syntax, notation, axiom, sorry.
-/
import Derived.Test.YtcbmmkhbfookjaaDoorRows
import GoSem.ClaimSeven
namespace Go.Proofs.YtcbmmkhbfookjaaDoor
namespace Rows

/-- THE TIED CARD OF 'conclavekeep.LinesBack'. -/
def linesBackCard : Claim7 := { stood := { row := linesBackRow, standIns := [], harness := (true, "8a5e5cfa5d5d2b2aa5f0ebeebc0891fde3738d9fe52c19bbaac98cea760887e5"), looks := true }, kinds := [], alts := [], laidByText := true, laidKinds := [.data, .data, .data, .data, .sentinel, .sentinel, .data, .pinned], laidTests := true, laidLooks := .later }
def LinesBackCardSaid : Prop := Claim7.holds Tryd.pinned (.plain (OpenSpec.ofChange linesBackSpec)) linesBackCard

/-- THE TIED CARD OF 'conclavekeep.LinesFixed'. -/
def linesFixedCard : Claim7 := { stood := { row := linesFixedRow, standIns := [], harness := (true, "8a5e5cfa5d5d2b2aa5f0ebeebc0891fde3738d9fe52c19bbaac98cea760887e5"), looks := true }, kinds := [], alts := [], laidByText := true, laidKinds := [.data, .data, .data, .data, .sentinel, .sentinel, .data, .pinned], laidTests := true, laidLooks := .later }
def LinesFixedCardSaid : Prop := Claim7.holds Tryd.pinned (.plain (OpenSpec.ofChange linesFixedSpec)) linesFixedCard

/-- THE TIED CARD OF 'conclavekeep.LinesBad'. -/
def linesBadCard : Claim7 := { stood := { row := linesBadRow, standIns := [], harness := (true, "8a5e5cfa5d5d2b2aa5f0ebeebc0891fde3738d9fe52c19bbaac98cea760887e5"), looks := true }, kinds := [], alts := [], laidByText := true, laidKinds := [.data, .data, .data, .data, .sentinel, .sentinel, .data, .pinned], laidTests := true, laidLooks := .later }
def LinesBadCardSaid : Prop := Claim7.holds Tryd.pinned (.plain (OpenSpec.ofChange linesBadSpec)) linesBadCard

/-- THE SECOND FORM's CARD OF 'conclavekeep.LinesBack'. -/
def linesBackUptoCard : Claim7 := { stood := { row := linesBackUptoRow, standIns := [], harness := (true, "8a5e5cfa5d5d2b2aa5f0ebeebc0891fde3738d9fe52c19bbaac98cea760887e5"), looks := true }, kinds := [], alts := [], laidByText := true, laidKinds := [.data, .data, .data, .data, .sentinel, .sentinel, .data, .pinned], laidTests := true, laidLooks := .later }
def LinesBackUptoCardSaid : Prop := Claim7.holds Tryd.pinned (.plain (OpenSpec.upto linesBackSpec)) linesBackUptoCard

/-- THE SECOND FORM's CARD OF 'conclavekeep.LinesFixed'. -/
def linesFixedUptoCard : Claim7 := { stood := { row := linesFixedUptoRow, standIns := [], harness := (true, "8a5e5cfa5d5d2b2aa5f0ebeebc0891fde3738d9fe52c19bbaac98cea760887e5"), looks := true }, kinds := [], alts := [], laidByText := true, laidKinds := [.data, .data, .data, .data, .sentinel, .sentinel, .data, .pinned], laidTests := true, laidLooks := .later }
def LinesFixedUptoCardSaid : Prop := Claim7.holds Tryd.pinned (.plain (OpenSpec.upto linesFixedSpec)) linesFixedUptoCard

/-- THE SECOND FORM's CARD OF 'conclavekeep.LinesBad'. -/
def linesBadUptoCard : Claim7 := { stood := { row := linesBadUptoRow, standIns := [], harness := (true, "8a5e5cfa5d5d2b2aa5f0ebeebc0891fde3738d9fe52c19bbaac98cea760887e5"), looks := true }, kinds := [], alts := [], laidByText := true, laidKinds := [.data, .data, .data, .data, .sentinel, .sentinel, .data, .pinned], laidTests := true, laidLooks := .later }
def LinesBadUptoCardSaid : Prop := Claim7.holds Tryd.pinned (.plain (OpenSpec.upto linesBadSpec)) linesBadUptoCard
end Rows
end Go.Proofs.YtcbmmkhbfookjaaDoor
