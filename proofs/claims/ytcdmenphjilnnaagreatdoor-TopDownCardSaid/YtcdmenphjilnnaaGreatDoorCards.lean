/-
  DERIVED. GIVEN WITH THE SEED: THE CARDS: each row of YtcdmenphjilnnaaGreatDoorRows.lean that lists a variable, with what it lists TIED to the program's text (the seventh form; the later family's looks); each row that meets fmt, with fmt's text TOLD by the authors' own Lean function (tested against real Go, not proved from fmt's source: count such statements apart). THE CARD IS WHAT COUNTS. Prove the row's statement (the work); the ties are given (YtcdmenphjilnnaaGreatDoorTie.lean); close each card by the builder's one call (the guide's Derived/Test/ToyasCard.lean, 'card_holds'). Laid BY PROGRAM, IN A SANDBOX (cutbox-door.mjs). By AI agents, Wed Nov 11 2026. No macro, syntax, notation, axiom, sorry.
-/
import Derived.Test.YtcdmenphjilnnaaGreatDoorRows
import GoSem.ClaimSeven
namespace Go.Proofs.YtcdmenphjilnnaaGreatDoor
namespace Rows

/-- THE TIED CARD OF 'conclavetop.TopTwo'. -/
def topTwoCard : Claim7 := { stood := { row := topTwoRow, standIns := [], harness := (true, "d98782071f1f4ccd1d16e95ce1bd15694e5288a55de62f8a57cc3bbfd32c130a"), looks := false }, kinds := [], alts := [], laidByText := true, laidKinds := [.data, .data], laidTests := true, laidLooks := .later }
def TopTwoCardSaid : Prop := Claim7.holds Tryz.pinned (.plain (OpenSpec.ofChange topTwoSpec)) topTwoCard

/-- THE TIED CARD OF 'conclavetop.TopDown'. -/
def topDownCard : Claim7 := { stood := { row := topDownRow, standIns := [], harness := (true, "d98782071f1f4ccd1d16e95ce1bd15694e5288a55de62f8a57cc3bbfd32c130a"), looks := false }, kinds := [], alts := [], laidByText := true, laidKinds := [.data, .data], laidTests := true, laidLooks := .later }
def TopDownCardSaid : Prop := Claim7.holds Tryz.pinned (.plain (OpenSpec.ofChange topDownSpec)) topDownCard

/-- THE TIED CARD OF 'conclavetop.TopFlying'. -/
def topFlyingCard : Claim7 := { stood := { row := topFlyingRow, standIns := [], harness := (true, "d98782071f1f4ccd1d16e95ce1bd15694e5288a55de62f8a57cc3bbfd32c130a"), looks := false }, kinds := [], alts := [], laidByText := true, laidKinds := [.data, .data], laidTests := true, laidLooks := .later }
def TopFlyingCardSaid : Prop := Claim7.holds Tryz.pinned (.plain (OpenSpec.ofChange topFlyingSpec)) topFlyingCard

/-- THE TIED CARD OF 'conclavetop.TopIdle'. -/
def topIdleCard : Claim7 := { stood := { row := topIdleRow, standIns := [], harness := (true, "d98782071f1f4ccd1d16e95ce1bd15694e5288a55de62f8a57cc3bbfd32c130a"), looks := false }, kinds := [], alts := [], laidByText := true, laidKinds := [.data, .data], laidTests := true, laidLooks := .later }
def TopIdleCardSaid : Prop := Claim7.holds Tryz.pinned (.plain (OpenSpec.ofChange topIdleSpec)) topIdleCard

/-- THE SECOND FORM's CARD OF 'conclavetop.TopTwo'. -/
def topTwoUptoCard : Claim7 := { stood := { row := topTwoUptoRow, standIns := [], harness := (true, "d98782071f1f4ccd1d16e95ce1bd15694e5288a55de62f8a57cc3bbfd32c130a"), looks := false }, kinds := [], alts := [], laidByText := true, laidKinds := [.data, .data], laidTests := true, laidLooks := .later }
def TopTwoUptoCardSaid : Prop := Claim7.holds Tryz.pinned (.plain (OpenSpec.upto topTwoSpec)) topTwoUptoCard

/-- THE SECOND FORM's CARD OF 'conclavetop.TopDown'. -/
def topDownUptoCard : Claim7 := { stood := { row := topDownUptoRow, standIns := [], harness := (true, "d98782071f1f4ccd1d16e95ce1bd15694e5288a55de62f8a57cc3bbfd32c130a"), looks := false }, kinds := [], alts := [], laidByText := true, laidKinds := [.data, .data], laidTests := true, laidLooks := .later }
def TopDownUptoCardSaid : Prop := Claim7.holds Tryz.pinned (.plain (OpenSpec.upto topDownSpec)) topDownUptoCard

/-- THE SECOND FORM's CARD OF 'conclavetop.TopFlying'. -/
def topFlyingUptoCard : Claim7 := { stood := { row := topFlyingUptoRow, standIns := [], harness := (true, "d98782071f1f4ccd1d16e95ce1bd15694e5288a55de62f8a57cc3bbfd32c130a"), looks := false }, kinds := [], alts := [], laidByText := true, laidKinds := [.data, .data], laidTests := true, laidLooks := .later }
def TopFlyingUptoCardSaid : Prop := Claim7.holds Tryz.pinned (.plain (OpenSpec.upto topFlyingSpec)) topFlyingUptoCard

/-- THE SECOND FORM's CARD OF 'conclavetop.TopIdle'. -/
def topIdleUptoCard : Claim7 := { stood := { row := topIdleUptoRow, standIns := [], harness := (true, "d98782071f1f4ccd1d16e95ce1bd15694e5288a55de62f8a57cc3bbfd32c130a"), looks := false }, kinds := [], alts := [], laidByText := true, laidKinds := [.data, .data], laidTests := true, laidLooks := .later }
def TopIdleUptoCardSaid : Prop := Claim7.holds Tryz.pinned (.plain (OpenSpec.upto topIdleSpec)) topIdleUptoCard
end Rows
end Go.Proofs.YtcdmenphjilnnaaGreatDoor
