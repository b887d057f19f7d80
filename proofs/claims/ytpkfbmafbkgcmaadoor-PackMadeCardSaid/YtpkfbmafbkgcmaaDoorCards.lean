/-
  DERIVED. GIVEN WITH THE SEED: THE CARDS: each row of YtpkfbmafbkgcmaaDoorRows.lean that lists a variable, with what it lists TIED to the program's text (the seventh form; the later family's looks); each row that meets fmt, with fmt's text TOLD by the authors' own Lean function (tested against real Go, not proved from fmt's source: count such statements apart). THE CARD IS WHAT COUNTS. Prove the row's statement (the work); the ties are given (YtpkfbmafbkgcmaaDoorTie.lean); close each card by the builder's one call (the guide's Derived/Test/ToyasCard.lean, 'card_holds'). Laid BY PROGRAM, IN A SANDBOX (cutbox-door.mjs). By AI agents, Wed Nov 11 2026. No macro, syntax, notation, axiom, sorry.
-/
import Derived.Test.YtpkfbmafbkgcmaaDoorRows
import GoSem.ClaimSeven
namespace Go.Proofs.YtpkfbmafbkgcmaaDoor
namespace Rows

/-- THE TIED CARD OF 'conclavekeep.PackMade'. -/
def packMadeCard : Claim7 := { stood := { row := packMadeRow, standIns := [], harness := (true, "e0e770fc10b52bc4ee11a7ebdd329b69ecd8922d3071f8a9b6e2a15d325495b1"), looks := false }, kinds := [], alts := [], laidByText := true, laidKinds := [.data], laidTests := true, laidLooks := .later }
def PackMadeCardSaid : Prop := Claim7.holds Tryd.pinned (.plain (OpenSpec.ofChange packMadeSpec)) packMadeCard

/-- THE TIED CARD OF 'conclavekeep.PackBack'. -/
def packBackCard : Claim7 := { stood := { row := packBackRow, standIns := [], harness := (true, "e0e770fc10b52bc4ee11a7ebdd329b69ecd8922d3071f8a9b6e2a15d325495b1"), looks := false }, kinds := [], alts := [], laidByText := true, laidKinds := [.data, .data], laidTests := true, laidLooks := .later }
def PackBackCardSaid : Prop := Claim7.holds Tryd.pinned (.plain (OpenSpec.ofChange packBackSpec)) packBackCard

/-- THE TIED CARD OF 'conclavekeep.OpenTorn'. -/
def openTornCard : Claim7 := { stood := { row := openTornRow, standIns := [], harness := (true, "e0e770fc10b52bc4ee11a7ebdd329b69ecd8922d3071f8a9b6e2a15d325495b1"), looks := false }, kinds := [], alts := [], laidByText := true, laidKinds := [.data, .data], laidTests := true, laidLooks := .later }
def OpenTornCardSaid : Prop := Claim7.holds Tryd.pinned (.plain (OpenSpec.ofChange openTornSpec)) openTornCard

/-- THE SECOND FORM's CARD OF 'conclavekeep.PackMade'. -/
def packMadeUptoCard : Claim7 := { stood := { row := packMadeUptoRow, standIns := [], harness := (true, "e0e770fc10b52bc4ee11a7ebdd329b69ecd8922d3071f8a9b6e2a15d325495b1"), looks := false }, kinds := [], alts := [], laidByText := true, laidKinds := [.data], laidTests := true, laidLooks := .later }
def PackMadeUptoCardSaid : Prop := Claim7.holds Tryd.pinned (.plain (OpenSpec.upto packMadeSpec)) packMadeUptoCard

/-- THE SECOND FORM's CARD OF 'conclavekeep.PackBack'. -/
def packBackUptoCard : Claim7 := { stood := { row := packBackUptoRow, standIns := [], harness := (true, "e0e770fc10b52bc4ee11a7ebdd329b69ecd8922d3071f8a9b6e2a15d325495b1"), looks := false }, kinds := [], alts := [], laidByText := true, laidKinds := [.data, .data], laidTests := true, laidLooks := .later }
def PackBackUptoCardSaid : Prop := Claim7.holds Tryd.pinned (.plain (OpenSpec.upto packBackSpec)) packBackUptoCard

/-- THE SECOND FORM's CARD OF 'conclavekeep.OpenTorn'. -/
def openTornUptoCard : Claim7 := { stood := { row := openTornUptoRow, standIns := [], harness := (true, "e0e770fc10b52bc4ee11a7ebdd329b69ecd8922d3071f8a9b6e2a15d325495b1"), looks := false }, kinds := [], alts := [], laidByText := true, laidKinds := [.data, .data], laidTests := true, laidLooks := .later }
def OpenTornUptoCardSaid : Prop := Claim7.holds Tryd.pinned (.plain (OpenSpec.upto openTornSpec)) openTornUptoCard
end Rows
end Go.Proofs.YtpkfbmafbkgcmaaDoor
