/-
  DERIVED. GIVEN WITH THE SEED: THE CARDS: each row of YtdkbajdnckmckaaDoorRows.lean that lists a variable, with what it lists TIED to the program's text (the seventh form; the later family's looks); each row that meets fmt, with fmt's text TOLD by the authors' own Lean function (tested against real Go, not proved from fmt's source: count such statements apart). THE CARD IS WHAT COUNTS. Prove the row's statement (the work); the ties are given (YtdkbajdnckmckaaDoorTie.lean); close each card by the builder's one call (the guide's Derived/Test/ToyasCard.lean, 'card_holds'). Laid BY PROGRAM, IN A SANDBOX (cutbox-door.mjs). By AI agents, Wed Nov 11 2026. No macro, syntax, notation, axiom, sorry.
-/
import Derived.Test.YtdkbajdnckmckaaDoorRows
import GoSem.ClaimSeven
namespace Go.Proofs.YtdkbajdnckmckaaDoor
namespace Rows

/-- THE TIED CARD OF 'conclavekeep.StableSize'. -/
def stableSizeCard : Claim7 := { stood := { row := stableSizeRow, standIns := [], harness := (true, "8418c8b38e96eb6125fdefca97b93c3f5cc3b9765d0acc956b785ac94a50385f"), looks := false }, kinds := [], alts := [], laidByText := true, laidKinds := [.data], laidTests := true, laidLooks := .later }
def StableSizeCardSaid : Prop := Claim7.holds Tryd.pinned (.plain (OpenSpec.ofChange stableSizeSpec)) stableSizeCard

/-- THE TIED CARD OF 'conclavekeep.StableBack'. -/
def stableBackCard : Claim7 := { stood := { row := stableBackRow, standIns := [], harness := (true, "8418c8b38e96eb6125fdefca97b93c3f5cc3b9765d0acc956b785ac94a50385f"), looks := false }, kinds := [], alts := [], laidByText := true, laidKinds := [.data], laidTests := true, laidLooks := .later }
def StableBackCardSaid : Prop := Claim7.holds Tryd.pinned (.plain (OpenSpec.ofChange stableBackSpec)) stableBackCard

/-- THE TIED CARD OF 'conclavekeep.StableTorn'. -/
def stableTornCard : Claim7 := { stood := { row := stableTornRow, standIns := [], harness := (true, "8418c8b38e96eb6125fdefca97b93c3f5cc3b9765d0acc956b785ac94a50385f"), looks := false }, kinds := [], alts := [], laidByText := true, laidKinds := [.data], laidTests := true, laidLooks := .later }
def StableTornCardSaid : Prop := Claim7.holds Tryd.pinned (.plain (OpenSpec.ofChange stableTornSpec)) stableTornCard

/-- THE TIED CARD OF 'conclavekeep.StableKeeps'. -/
def stableKeepsCard : Claim7 := { stood := { row := stableKeepsRow, standIns := [], harness := (true, "8418c8b38e96eb6125fdefca97b93c3f5cc3b9765d0acc956b785ac94a50385f"), looks := false }, kinds := [], alts := [], laidByText := true, laidKinds := [.data], laidTests := true, laidLooks := .later }
def StableKeepsCardSaid : Prop := Claim7.holds Tryd.pinned (.plain (OpenSpec.ofChange stableKeepsSpec)) stableKeepsCard

/-- THE TIED CARD OF 'conclavekeep.StableAgain'. -/
def stableAgainCard : Claim7 := { stood := { row := stableAgainRow, standIns := [], harness := (true, "8418c8b38e96eb6125fdefca97b93c3f5cc3b9765d0acc956b785ac94a50385f"), looks := false }, kinds := [], alts := [], laidByText := true, laidKinds := [.data], laidTests := true, laidLooks := .later }
def StableAgainCardSaid : Prop := Claim7.holds Tryd.pinned (.plain (OpenSpec.ofChange stableAgainSpec)) stableAgainCard

/-- THE SECOND FORM's CARD OF 'conclavekeep.StableSize'. -/
def stableSizeUptoCard : Claim7 := { stood := { row := stableSizeUptoRow, standIns := [], harness := (true, "8418c8b38e96eb6125fdefca97b93c3f5cc3b9765d0acc956b785ac94a50385f"), looks := false }, kinds := [], alts := [], laidByText := true, laidKinds := [.data], laidTests := true, laidLooks := .later }
def StableSizeUptoCardSaid : Prop := Claim7.holds Tryd.pinned (.plain (OpenSpec.upto stableSizeSpec)) stableSizeUptoCard

/-- THE SECOND FORM's CARD OF 'conclavekeep.StableBack'. -/
def stableBackUptoCard : Claim7 := { stood := { row := stableBackUptoRow, standIns := [], harness := (true, "8418c8b38e96eb6125fdefca97b93c3f5cc3b9765d0acc956b785ac94a50385f"), looks := false }, kinds := [], alts := [], laidByText := true, laidKinds := [.data], laidTests := true, laidLooks := .later }
def StableBackUptoCardSaid : Prop := Claim7.holds Tryd.pinned (.plain (OpenSpec.upto stableBackSpec)) stableBackUptoCard

/-- THE SECOND FORM's CARD OF 'conclavekeep.StableTorn'. -/
def stableTornUptoCard : Claim7 := { stood := { row := stableTornUptoRow, standIns := [], harness := (true, "8418c8b38e96eb6125fdefca97b93c3f5cc3b9765d0acc956b785ac94a50385f"), looks := false }, kinds := [], alts := [], laidByText := true, laidKinds := [.data], laidTests := true, laidLooks := .later }
def StableTornUptoCardSaid : Prop := Claim7.holds Tryd.pinned (.plain (OpenSpec.upto stableTornSpec)) stableTornUptoCard

/-- THE SECOND FORM's CARD OF 'conclavekeep.StableKeeps'. -/
def stableKeepsUptoCard : Claim7 := { stood := { row := stableKeepsUptoRow, standIns := [], harness := (true, "8418c8b38e96eb6125fdefca97b93c3f5cc3b9765d0acc956b785ac94a50385f"), looks := false }, kinds := [], alts := [], laidByText := true, laidKinds := [.data], laidTests := true, laidLooks := .later }
def StableKeepsUptoCardSaid : Prop := Claim7.holds Tryd.pinned (.plain (OpenSpec.upto stableKeepsSpec)) stableKeepsUptoCard

/-- THE SECOND FORM's CARD OF 'conclavekeep.StableAgain'. -/
def stableAgainUptoCard : Claim7 := { stood := { row := stableAgainUptoRow, standIns := [], harness := (true, "8418c8b38e96eb6125fdefca97b93c3f5cc3b9765d0acc956b785ac94a50385f"), looks := false }, kinds := [], alts := [], laidByText := true, laidKinds := [.data], laidTests := true, laidLooks := .later }
def StableAgainUptoCardSaid : Prop := Claim7.holds Tryd.pinned (.plain (OpenSpec.upto stableAgainSpec)) stableAgainUptoCard
end Rows
end Go.Proofs.YtdkbajdnckmckaaDoor
