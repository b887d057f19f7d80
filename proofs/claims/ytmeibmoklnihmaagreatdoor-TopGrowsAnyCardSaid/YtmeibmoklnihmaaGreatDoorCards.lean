/-
  DERIVED. GIVEN WITH THE SEED: THE CARDS: each row of YtmeibmoklnihmaaGreatDoorRows.lean that lists a variable, with what it lists TIED to the program's text (the seventh form; the later family's looks); each row that meets fmt, with fmt's text TOLD by the authors' own Lean function (tested against real Go, not proved from fmt's source: count such statements apart). THE CARD IS WHAT COUNTS. Prove the row's statement (the work); the ties are given (YtmeibmoklnihmaaGreatDoorTie.lean); close each card by the builder's one call (the guide's Derived/Test/ToyasCard.lean, 'card_holds'). Laid BY PROGRAM, IN A SANDBOX (cutbox-door.mjs). By AI agents, Wed Nov 11 2026. No macro, syntax, notation, axiom, sorry.
-/
import Derived.Test.YtmeibmoklnihmaaGreatDoorRows
import GoSem.ClaimSeven
namespace Go.Proofs.YtmeibmoklnihmaaGreatDoor
namespace Rows

/-- THE TIED CARD OF 'conclavetop.TopAgreeAny'. -/
def topAgreeAnyCard : Claim7 := { stood := { row := topAgreeAnyRow, standIns := [], harness := (true, "879f9e65ba9f73914743d2e9734085730022cf3dae9bb3ae8e5159c87a96f88c"), looks := false }, kinds := [], alts := [], laidByText := true, laidKinds := [.data, .data], laidTests := true, laidLooks := .later }
def TopAgreeAnyCardSaid : Prop := Claim7.holds Tryz.pinned (.plain (OpenSpec.ofChange topAgreeAnySpec)) topAgreeAnyCard

/-- THE TIED CARD OF 'conclavetop.TopSubmittedAny'. -/
def topSubmittedAnyCard : Claim7 := { stood := { row := topSubmittedAnyRow, standIns := [], harness := (true, "879f9e65ba9f73914743d2e9734085730022cf3dae9bb3ae8e5159c87a96f88c"), looks := false }, kinds := [], alts := [], laidByText := true, laidKinds := [.data, .data], laidTests := true, laidLooks := .later }
def TopSubmittedAnyCardSaid : Prop := Claim7.holds Tryz.pinned (.plain (OpenSpec.ofChange topSubmittedAnySpec)) topSubmittedAnyCard

/-- THE TIED CARD OF 'conclavetop.TopGrowsAny'. -/
def topGrowsAnyCard : Claim7 := { stood := { row := topGrowsAnyRow, standIns := [], harness := (true, "879f9e65ba9f73914743d2e9734085730022cf3dae9bb3ae8e5159c87a96f88c"), looks := false }, kinds := [], alts := [], laidByText := true, laidKinds := [.data, .data], laidTests := true, laidLooks := .later }
def TopGrowsAnyCardSaid : Prop := Claim7.holds Tryz.pinned (.plain (OpenSpec.ofChange topGrowsAnySpec)) topGrowsAnyCard

/-- THE TIED CARD OF 'conclavetop.TopDown'. -/
def topDownCard : Claim7 := { stood := { row := topDownRow, standIns := [], harness := (true, "879f9e65ba9f73914743d2e9734085730022cf3dae9bb3ae8e5159c87a96f88c"), looks := false }, kinds := [], alts := [], laidByText := true, laidKinds := [.data, .data], laidTests := true, laidLooks := .later }
def TopDownCardSaid : Prop := Claim7.holds Tryz.pinned (.plain (OpenSpec.ofChange topDownSpec)) topDownCard

/-- THE TIED CARD OF 'conclavetop.TopFlying'. -/
def topFlyingCard : Claim7 := { stood := { row := topFlyingRow, standIns := [], harness := (true, "879f9e65ba9f73914743d2e9734085730022cf3dae9bb3ae8e5159c87a96f88c"), looks := false }, kinds := [], alts := [], laidByText := true, laidKinds := [.data, .data], laidTests := true, laidLooks := .later }
def TopFlyingCardSaid : Prop := Claim7.holds Tryz.pinned (.plain (OpenSpec.ofChange topFlyingSpec)) topFlyingCard

/-- THE TIED CARD OF 'conclavetop.TopTwo'. -/
def topTwoCard : Claim7 := { stood := { row := topTwoRow, standIns := [], harness := (true, "879f9e65ba9f73914743d2e9734085730022cf3dae9bb3ae8e5159c87a96f88c"), looks := false }, kinds := [], alts := [], laidByText := true, laidKinds := [.data, .data], laidTests := true, laidLooks := .later }
def TopTwoCardSaid : Prop := Claim7.holds Tryz.pinned (.plain (OpenSpec.ofChange topTwoSpec)) topTwoCard

/-- THE TIED CARD OF 'conclavetop.TopSteady'. -/
def topSteadyCard : Claim7 := { stood := { row := topSteadyRow, standIns := [], harness := (true, "879f9e65ba9f73914743d2e9734085730022cf3dae9bb3ae8e5159c87a96f88c"), looks := false }, kinds := [], alts := [], laidByText := true, laidKinds := [.data, .data], laidTests := true, laidLooks := .later }
def TopSteadyCardSaid : Prop := Claim7.holds Tryz.pinned (.plain (OpenSpec.ofChange topSteadySpec)) topSteadyCard

/-- THE TIED CARD OF 'conclavetop.TopLate'. -/
def topLateCard : Claim7 := { stood := { row := topLateRow, standIns := [], harness := (true, "879f9e65ba9f73914743d2e9734085730022cf3dae9bb3ae8e5159c87a96f88c"), looks := false }, kinds := [], alts := [], laidByText := true, laidKinds := [.data, .data], laidTests := true, laidLooks := .later }
def TopLateCardSaid : Prop := Claim7.holds Tryz.pinned (.plain (OpenSpec.ofChange topLateSpec)) topLateCard

/-- THE TIED CARD OF 'conclavetop.TopEmpty'. -/
def topEmptyCard : Claim7 := { stood := { row := topEmptyRow, standIns := [], harness := (true, "879f9e65ba9f73914743d2e9734085730022cf3dae9bb3ae8e5159c87a96f88c"), looks := false }, kinds := [], alts := [], laidByText := true, laidKinds := [.data, .data], laidTests := true, laidLooks := .later }
def TopEmptyCardSaid : Prop := Claim7.holds Tryz.pinned (.plain (OpenSpec.ofChange topEmptySpec)) topEmptyCard

/-- THE TIED CARD OF 'conclavetop.TopIdle'. -/
def topIdleCard : Claim7 := { stood := { row := topIdleRow, standIns := [], harness := (true, "879f9e65ba9f73914743d2e9734085730022cf3dae9bb3ae8e5159c87a96f88c"), looks := false }, kinds := [], alts := [], laidByText := true, laidKinds := [.data, .data], laidTests := true, laidLooks := .later }
def TopIdleCardSaid : Prop := Claim7.holds Tryz.pinned (.plain (OpenSpec.ofChange topIdleSpec)) topIdleCard

/-- THE TIED CARD OF 'conclavetop.TopLost'. -/
def topLostCard : Claim7 := { stood := { row := topLostRow, standIns := [], harness := (true, "879f9e65ba9f73914743d2e9734085730022cf3dae9bb3ae8e5159c87a96f88c"), looks := false }, kinds := [], alts := [], laidByText := true, laidKinds := [.data, .data], laidTests := true, laidLooks := .later }
def TopLostCardSaid : Prop := Claim7.holds Tryz.pinned (.plain (OpenSpec.ofChange topLostSpec)) topLostCard

/-- THE TIED CARD OF 'conclavetop.TopMajority'. -/
def topMajorityCard : Claim7 := { stood := { row := topMajorityRow, standIns := [], harness := (true, "879f9e65ba9f73914743d2e9734085730022cf3dae9bb3ae8e5159c87a96f88c"), looks := false }, kinds := [], alts := [], laidByText := true, laidKinds := [.data, .data], laidTests := true, laidLooks := .later }
def TopMajorityCardSaid : Prop := Claim7.holds Tryz.pinned (.plain (OpenSpec.ofChange topMajoritySpec)) topMajorityCard

/-- THE TIED CARD OF 'conclavetop.TopAgain'. -/
def topAgainCard : Claim7 := { stood := { row := topAgainRow, standIns := [], harness := (true, "879f9e65ba9f73914743d2e9734085730022cf3dae9bb3ae8e5159c87a96f88c"), looks := false }, kinds := [], alts := [], laidByText := true, laidKinds := [.data, .data], laidTests := true, laidLooks := .later }
def TopAgainCardSaid : Prop := Claim7.holds Tryz.pinned (.plain (OpenSpec.ofChange topAgainSpec)) topAgainCard

/-- THE TIED CARD OF 'conclavetop.TopExpired'. -/
def topExpiredCard : Claim7 := { stood := { row := topExpiredRow, standIns := [], harness := (true, "879f9e65ba9f73914743d2e9734085730022cf3dae9bb3ae8e5159c87a96f88c"), looks := false }, kinds := [], alts := [], laidByText := true, laidKinds := [.data, .data], laidTests := true, laidLooks := .later }
def TopExpiredCardSaid : Prop := Claim7.holds Tryz.pinned (.plain (OpenSpec.ofChange topExpiredSpec)) topExpiredCard

/-- THE TIED CARD OF 'conclavetop.TopCount'. -/
def topCountCard : Claim7 := { stood := { row := topCountRow, standIns := [], harness := (true, "879f9e65ba9f73914743d2e9734085730022cf3dae9bb3ae8e5159c87a96f88c"), looks := false }, kinds := [], alts := [], laidByText := true, laidKinds := [.data, .data], laidTests := true, laidLooks := .later }
def TopCountCardSaid : Prop := Claim7.holds Tryz.pinned (.plain (OpenSpec.ofChange topCountSpec)) topCountCard

/-- THE TIED CARD OF 'conclavetop.TopReign'. -/
def topReignCard : Claim7 := { stood := { row := topReignRow, standIns := [], harness := (true, "879f9e65ba9f73914743d2e9734085730022cf3dae9bb3ae8e5159c87a96f88c"), looks := false }, kinds := [], alts := [], laidByText := true, laidKinds := [.data, .data], laidTests := true, laidLooks := .later }
def TopReignCardSaid : Prop := Claim7.holds Tryz.pinned (.plain (OpenSpec.ofChange topReignSpec)) topReignCard

/-- THE SECOND FORM's CARD OF 'conclavetop.TopAgreeAny'. -/
def topAgreeAnyUptoCard : Claim7 := { stood := { row := topAgreeAnyUptoRow, standIns := [], harness := (true, "879f9e65ba9f73914743d2e9734085730022cf3dae9bb3ae8e5159c87a96f88c"), looks := false }, kinds := [], alts := [], laidByText := true, laidKinds := [.data, .data], laidTests := true, laidLooks := .later }
def TopAgreeAnyUptoCardSaid : Prop := Claim7.holds Tryz.pinned (.plain (OpenSpec.upto topAgreeAnySpec)) topAgreeAnyUptoCard

/-- THE SECOND FORM's CARD OF 'conclavetop.TopSubmittedAny'. -/
def topSubmittedAnyUptoCard : Claim7 := { stood := { row := topSubmittedAnyUptoRow, standIns := [], harness := (true, "879f9e65ba9f73914743d2e9734085730022cf3dae9bb3ae8e5159c87a96f88c"), looks := false }, kinds := [], alts := [], laidByText := true, laidKinds := [.data, .data], laidTests := true, laidLooks := .later }
def TopSubmittedAnyUptoCardSaid : Prop := Claim7.holds Tryz.pinned (.plain (OpenSpec.upto topSubmittedAnySpec)) topSubmittedAnyUptoCard

/-- THE SECOND FORM's CARD OF 'conclavetop.TopGrowsAny'. -/
def topGrowsAnyUptoCard : Claim7 := { stood := { row := topGrowsAnyUptoRow, standIns := [], harness := (true, "879f9e65ba9f73914743d2e9734085730022cf3dae9bb3ae8e5159c87a96f88c"), looks := false }, kinds := [], alts := [], laidByText := true, laidKinds := [.data, .data], laidTests := true, laidLooks := .later }
def TopGrowsAnyUptoCardSaid : Prop := Claim7.holds Tryz.pinned (.plain (OpenSpec.upto topGrowsAnySpec)) topGrowsAnyUptoCard

/-- THE SECOND FORM's CARD OF 'conclavetop.TopDown'. -/
def topDownUptoCard : Claim7 := { stood := { row := topDownUptoRow, standIns := [], harness := (true, "879f9e65ba9f73914743d2e9734085730022cf3dae9bb3ae8e5159c87a96f88c"), looks := false }, kinds := [], alts := [], laidByText := true, laidKinds := [.data, .data], laidTests := true, laidLooks := .later }
def TopDownUptoCardSaid : Prop := Claim7.holds Tryz.pinned (.plain (OpenSpec.upto topDownSpec)) topDownUptoCard

/-- THE SECOND FORM's CARD OF 'conclavetop.TopFlying'. -/
def topFlyingUptoCard : Claim7 := { stood := { row := topFlyingUptoRow, standIns := [], harness := (true, "879f9e65ba9f73914743d2e9734085730022cf3dae9bb3ae8e5159c87a96f88c"), looks := false }, kinds := [], alts := [], laidByText := true, laidKinds := [.data, .data], laidTests := true, laidLooks := .later }
def TopFlyingUptoCardSaid : Prop := Claim7.holds Tryz.pinned (.plain (OpenSpec.upto topFlyingSpec)) topFlyingUptoCard

/-- THE SECOND FORM's CARD OF 'conclavetop.TopTwo'. -/
def topTwoUptoCard : Claim7 := { stood := { row := topTwoUptoRow, standIns := [], harness := (true, "879f9e65ba9f73914743d2e9734085730022cf3dae9bb3ae8e5159c87a96f88c"), looks := false }, kinds := [], alts := [], laidByText := true, laidKinds := [.data, .data], laidTests := true, laidLooks := .later }
def TopTwoUptoCardSaid : Prop := Claim7.holds Tryz.pinned (.plain (OpenSpec.upto topTwoSpec)) topTwoUptoCard

/-- THE SECOND FORM's CARD OF 'conclavetop.TopSteady'. -/
def topSteadyUptoCard : Claim7 := { stood := { row := topSteadyUptoRow, standIns := [], harness := (true, "879f9e65ba9f73914743d2e9734085730022cf3dae9bb3ae8e5159c87a96f88c"), looks := false }, kinds := [], alts := [], laidByText := true, laidKinds := [.data, .data], laidTests := true, laidLooks := .later }
def TopSteadyUptoCardSaid : Prop := Claim7.holds Tryz.pinned (.plain (OpenSpec.upto topSteadySpec)) topSteadyUptoCard

/-- THE SECOND FORM's CARD OF 'conclavetop.TopLate'. -/
def topLateUptoCard : Claim7 := { stood := { row := topLateUptoRow, standIns := [], harness := (true, "879f9e65ba9f73914743d2e9734085730022cf3dae9bb3ae8e5159c87a96f88c"), looks := false }, kinds := [], alts := [], laidByText := true, laidKinds := [.data, .data], laidTests := true, laidLooks := .later }
def TopLateUptoCardSaid : Prop := Claim7.holds Tryz.pinned (.plain (OpenSpec.upto topLateSpec)) topLateUptoCard

/-- THE SECOND FORM's CARD OF 'conclavetop.TopEmpty'. -/
def topEmptyUptoCard : Claim7 := { stood := { row := topEmptyUptoRow, standIns := [], harness := (true, "879f9e65ba9f73914743d2e9734085730022cf3dae9bb3ae8e5159c87a96f88c"), looks := false }, kinds := [], alts := [], laidByText := true, laidKinds := [.data, .data], laidTests := true, laidLooks := .later }
def TopEmptyUptoCardSaid : Prop := Claim7.holds Tryz.pinned (.plain (OpenSpec.upto topEmptySpec)) topEmptyUptoCard

/-- THE SECOND FORM's CARD OF 'conclavetop.TopIdle'. -/
def topIdleUptoCard : Claim7 := { stood := { row := topIdleUptoRow, standIns := [], harness := (true, "879f9e65ba9f73914743d2e9734085730022cf3dae9bb3ae8e5159c87a96f88c"), looks := false }, kinds := [], alts := [], laidByText := true, laidKinds := [.data, .data], laidTests := true, laidLooks := .later }
def TopIdleUptoCardSaid : Prop := Claim7.holds Tryz.pinned (.plain (OpenSpec.upto topIdleSpec)) topIdleUptoCard

/-- THE SECOND FORM's CARD OF 'conclavetop.TopLost'. -/
def topLostUptoCard : Claim7 := { stood := { row := topLostUptoRow, standIns := [], harness := (true, "879f9e65ba9f73914743d2e9734085730022cf3dae9bb3ae8e5159c87a96f88c"), looks := false }, kinds := [], alts := [], laidByText := true, laidKinds := [.data, .data], laidTests := true, laidLooks := .later }
def TopLostUptoCardSaid : Prop := Claim7.holds Tryz.pinned (.plain (OpenSpec.upto topLostSpec)) topLostUptoCard

/-- THE SECOND FORM's CARD OF 'conclavetop.TopMajority'. -/
def topMajorityUptoCard : Claim7 := { stood := { row := topMajorityUptoRow, standIns := [], harness := (true, "879f9e65ba9f73914743d2e9734085730022cf3dae9bb3ae8e5159c87a96f88c"), looks := false }, kinds := [], alts := [], laidByText := true, laidKinds := [.data, .data], laidTests := true, laidLooks := .later }
def TopMajorityUptoCardSaid : Prop := Claim7.holds Tryz.pinned (.plain (OpenSpec.upto topMajoritySpec)) topMajorityUptoCard

/-- THE SECOND FORM's CARD OF 'conclavetop.TopAgain'. -/
def topAgainUptoCard : Claim7 := { stood := { row := topAgainUptoRow, standIns := [], harness := (true, "879f9e65ba9f73914743d2e9734085730022cf3dae9bb3ae8e5159c87a96f88c"), looks := false }, kinds := [], alts := [], laidByText := true, laidKinds := [.data, .data], laidTests := true, laidLooks := .later }
def TopAgainUptoCardSaid : Prop := Claim7.holds Tryz.pinned (.plain (OpenSpec.upto topAgainSpec)) topAgainUptoCard

/-- THE SECOND FORM's CARD OF 'conclavetop.TopExpired'. -/
def topExpiredUptoCard : Claim7 := { stood := { row := topExpiredUptoRow, standIns := [], harness := (true, "879f9e65ba9f73914743d2e9734085730022cf3dae9bb3ae8e5159c87a96f88c"), looks := false }, kinds := [], alts := [], laidByText := true, laidKinds := [.data, .data], laidTests := true, laidLooks := .later }
def TopExpiredUptoCardSaid : Prop := Claim7.holds Tryz.pinned (.plain (OpenSpec.upto topExpiredSpec)) topExpiredUptoCard

/-- THE SECOND FORM's CARD OF 'conclavetop.TopCount'. -/
def topCountUptoCard : Claim7 := { stood := { row := topCountUptoRow, standIns := [], harness := (true, "879f9e65ba9f73914743d2e9734085730022cf3dae9bb3ae8e5159c87a96f88c"), looks := false }, kinds := [], alts := [], laidByText := true, laidKinds := [.data, .data], laidTests := true, laidLooks := .later }
def TopCountUptoCardSaid : Prop := Claim7.holds Tryz.pinned (.plain (OpenSpec.upto topCountSpec)) topCountUptoCard

/-- THE SECOND FORM's CARD OF 'conclavetop.TopReign'. -/
def topReignUptoCard : Claim7 := { stood := { row := topReignUptoRow, standIns := [], harness := (true, "879f9e65ba9f73914743d2e9734085730022cf3dae9bb3ae8e5159c87a96f88c"), looks := false }, kinds := [], alts := [], laidByText := true, laidKinds := [.data, .data], laidTests := true, laidLooks := .later }
def TopReignUptoCardSaid : Prop := Claim7.holds Tryz.pinned (.plain (OpenSpec.upto topReignSpec)) topReignUptoCard
end Rows
end Go.Proofs.YtmeibmoklnihmaaGreatDoor
