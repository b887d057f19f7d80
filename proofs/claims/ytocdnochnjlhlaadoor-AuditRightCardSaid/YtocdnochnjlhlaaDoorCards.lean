/-
  DERIVED. GIVEN WITH THE SEED: THE CARDS: each row of YtocdnochnjlhlaaDoorRows.lean that lists a variable, with what it lists TIED to the program's text (the seventh form; the later family's looks); each row that meets fmt, with fmt's text TOLD by the authors' own Lean function (tested against real Go, not proved from fmt's source: count such statements apart). THE CARD IS WHAT COUNTS. Prove the row's statement (the work); the ties are given (YtocdnochnjlhlaaDoorTie.lean); close each card by the builder's one call (the guide's Derived/Test/ToyasCard.lean, 'card_holds'). Laid BY PROGRAM, IN A SANDBOX (cutbox-door.mjs). By AI agents, Wed Nov 11 2026. No macro, syntax, notation, axiom, sorry.
-/
import Derived.Test.YtocdnochnjlhlaaDoorRows
import GoSem.ClaimSeven
namespace Go.Proofs.YtocdnochnjlhlaaDoor
namespace Rows

/-- THE TIED CARD OF 'conclavekeep.AuditRight'. -/
def auditRightCard : Claim7 := { stood := { row := auditRightRow, standIns := [], harness := (true, "6162dfad27b1f9ef9fbd4a0560c76eda7adbce3b9302029ac899e2794056b3a2"), looks := false }, kinds := [], alts := [], laidByText := true, laidKinds := [.data], laidTests := true, laidLooks := .later }
def AuditRightCardSaid : Prop := Claim7.holds Tryd.pinned (.plain (OpenSpec.ofChange auditRightSpec)) auditRightCard

/-- THE TIED CARD OF 'conclavekeep.AuditCut'. -/
def auditCutCard : Claim7 := { stood := { row := auditCutRow, standIns := [], harness := (true, "6162dfad27b1f9ef9fbd4a0560c76eda7adbce3b9302029ac899e2794056b3a2"), looks := false }, kinds := [], alts := [], laidByText := true, laidKinds := [.data], laidTests := true, laidLooks := .later }
def AuditCutCardSaid : Prop := Claim7.holds Tryd.pinned (.plain (OpenSpec.ofChange auditCutSpec)) auditCutCard

/-- THE SECOND FORM's CARD OF 'conclavekeep.AuditRight'. -/
def auditRightUptoCard : Claim7 := { stood := { row := auditRightUptoRow, standIns := [], harness := (true, "6162dfad27b1f9ef9fbd4a0560c76eda7adbce3b9302029ac899e2794056b3a2"), looks := false }, kinds := [], alts := [], laidByText := true, laidKinds := [.data], laidTests := true, laidLooks := .later }
def AuditRightUptoCardSaid : Prop := Claim7.holds Tryd.pinned (.plain (OpenSpec.upto auditRightSpec)) auditRightUptoCard

/-- THE SECOND FORM's CARD OF 'conclavekeep.AuditCut'. -/
def auditCutUptoCard : Claim7 := { stood := { row := auditCutUptoRow, standIns := [], harness := (true, "6162dfad27b1f9ef9fbd4a0560c76eda7adbce3b9302029ac899e2794056b3a2"), looks := false }, kinds := [], alts := [], laidByText := true, laidKinds := [.data], laidTests := true, laidLooks := .later }
def AuditCutUptoCardSaid : Prop := Claim7.holds Tryd.pinned (.plain (OpenSpec.upto auditCutSpec)) auditCutUptoCard
end Rows
end Go.Proofs.YtocdnochnjlhlaaDoor
