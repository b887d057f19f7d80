/-
  DERIVED. GIVEN WITH THE SEED: THE CARDS: each row of YtdjnbnbhpjiicaaDoorRows.lean that lists a variable, with what it lists TIED to the program's text (the seventh form; the later family's looks); each row that meets fmt, with fmt's text TOLD by the authors' own Lean function (tested against real Go, not proved from fmt's source: count such statements apart). THE CARD IS WHAT COUNTS. Prove the row's statement (the work); the ties are given (YtdjnbnbhpjiicaaDoorTie.lean); close each card by the builder's one call (the guide's Derived/Test/ToyasCard.lean, 'card_holds'). Laid BY PROGRAM, IN A SANDBOX (cutbox-door.mjs). By AI agents, Wed Nov 11 2026. No macro, syntax, notation, axiom, sorry.
-/
import Derived.Test.YtdjnbnbhpjiicaaDoorRows
import GoSem.ClaimSeven
namespace Go.Proofs.YtdjnbnbhpjiicaaDoor
namespace Rows

/-- THE TIED CARD OF 'conclavekeep.AllowRight'. -/
def allowRightCard : Claim7 := { stood := { row := allowRightRow, standIns := [], harness := (true, "97252cd0a14c4fd6ee9a3a7d06c3d35d23d7778a23750f69aa6728236cf7aff9"), looks := false }, kinds := [], alts := [], laidByText := true, laidKinds := [.data], laidTests := true, laidLooks := .later }
def AllowRightCardSaid : Prop := Claim7.holds Tryd.pinned (.plain (OpenSpec.ofChange allowRightSpec)) allowRightCard

/-- THE TIED CARD OF 'conclavekeep.AllowMore'. -/
def allowMoreCard : Claim7 := { stood := { row := allowMoreRow, standIns := [], harness := (true, "97252cd0a14c4fd6ee9a3a7d06c3d35d23d7778a23750f69aa6728236cf7aff9"), looks := false }, kinds := [], alts := [], laidByText := true, laidKinds := [.data], laidTests := true, laidLooks := .later }
def AllowMoreCardSaid : Prop := Claim7.holds Tryd.pinned (.plain (OpenSpec.ofChange allowMoreSpec)) allowMoreCard

/-- THE TIED CARD OF 'conclavekeep.KnownSums'. -/
def knownSumsCard : Claim7 := { stood := { row := knownSumsRow, standIns := [], harness := (true, "97252cd0a14c4fd6ee9a3a7d06c3d35d23d7778a23750f69aa6728236cf7aff9"), looks := false }, kinds := [], alts := [], laidByText := true, laidKinds := [.data], laidTests := true, laidLooks := .later }
def KnownSumsCardSaid : Prop := Claim7.holds Tryd.pinned (.plain (OpenSpec.ofChange knownSumsSpec)) knownSumsCard

/-- THE TIED CARD OF 'conclavekeep.SumLong'. -/
def sumLongCard : Claim7 := { stood := { row := sumLongRow, standIns := [], harness := (true, "97252cd0a14c4fd6ee9a3a7d06c3d35d23d7778a23750f69aa6728236cf7aff9"), looks := false }, kinds := [], alts := [], laidByText := true, laidKinds := [.data], laidTests := true, laidLooks := .later }
def SumLongCardSaid : Prop := Claim7.holds Tryd.pinned (.plain (OpenSpec.ofChange sumLongSpec)) sumLongCard

/-- THE TIED CARD OF 'conclavekeep.KnownMac'. -/
def knownMacCard : Claim7 := { stood := { row := knownMacRow, standIns := [], harness := (true, "97252cd0a14c4fd6ee9a3a7d06c3d35d23d7778a23750f69aa6728236cf7aff9"), looks := false }, kinds := [], alts := [], laidByText := true, laidKinds := [.data], laidTests := true, laidLooks := .later }
def KnownMacCardSaid : Prop := Claim7.holds Tryd.pinned (.plain (OpenSpec.ofChange knownMacSpec)) knownMacCard

/-- THE TIED CARD OF 'conclavekeep.MacKey'. -/
def macKeyCard : Claim7 := { stood := { row := macKeyRow, standIns := [], harness := (true, "97252cd0a14c4fd6ee9a3a7d06c3d35d23d7778a23750f69aa6728236cf7aff9"), looks := false }, kinds := [], alts := [], laidByText := true, laidKinds := [.data], laidTests := true, laidLooks := .later }
def MacKeyCardSaid : Prop := Claim7.holds Tryd.pinned (.plain (OpenSpec.ofChange macKeySpec)) macKeyCard

/-- THE TIED CARD OF 'conclavekeep.MacMade'. -/
def macMadeCard : Claim7 := { stood := { row := macMadeRow, standIns := [], harness := (true, "97252cd0a14c4fd6ee9a3a7d06c3d35d23d7778a23750f69aa6728236cf7aff9"), looks := false }, kinds := [], alts := [], laidByText := true, laidKinds := [.data], laidTests := true, laidLooks := .later }
def MacMadeCardSaid : Prop := Claim7.holds Tryd.pinned (.plain (OpenSpec.ofChange macMadeSpec)) macMadeCard

/-- THE TIED CARD OF 'conclavekeep.DrawMore'. -/
def drawMoreCard : Claim7 := { stood := { row := drawMoreRow, standIns := [], harness := (true, "97252cd0a14c4fd6ee9a3a7d06c3d35d23d7778a23750f69aa6728236cf7aff9"), looks := false }, kinds := [], alts := [], laidByText := true, laidKinds := [.data], laidTests := true, laidLooks := .later }
def DrawMoreCardSaid : Prop := Claim7.holds Tryd.pinned (.plain (OpenSpec.ofChange drawMoreSpec)) drawMoreCard

/-- THE TIED CARD OF 'conclavekeep.DrawMade'. -/
def drawMadeCard : Claim7 := { stood := { row := drawMadeRow, standIns := [], harness := (true, "97252cd0a14c4fd6ee9a3a7d06c3d35d23d7778a23750f69aa6728236cf7aff9"), looks := false }, kinds := [], alts := [], laidByText := true, laidKinds := [.data], laidTests := true, laidLooks := .later }
def DrawMadeCardSaid : Prop := Claim7.holds Tryd.pinned (.plain (OpenSpec.ofChange drawMadeSpec)) drawMadeCard

/-- THE TIED CARD OF 'conclavekeep.TokenBytes'. -/
def tokenBytesCard : Claim7 := { stood := { row := tokenBytesRow, standIns := [], harness := (true, "97252cd0a14c4fd6ee9a3a7d06c3d35d23d7778a23750f69aa6728236cf7aff9"), looks := false }, kinds := [], alts := [], laidByText := true, laidKinds := [.data], laidTests := true, laidLooks := .later }
def TokenBytesCardSaid : Prop := Claim7.holds Tryd.pinned (.plain (OpenSpec.ofChange tokenBytesSpec)) tokenBytesCard

/-- THE TIED CARD OF 'conclavekeep.TokenBack'. -/
def tokenBackCard : Claim7 := { stood := { row := tokenBackRow, standIns := [], harness := (true, "97252cd0a14c4fd6ee9a3a7d06c3d35d23d7778a23750f69aa6728236cf7aff9"), looks := false }, kinds := [], alts := [], laidByText := true, laidKinds := [.data], laidTests := true, laidLooks := .later }
def TokenBackCardSaid : Prop := Claim7.holds Tryd.pinned (.plain (OpenSpec.ofChange tokenBackSpec)) tokenBackCard

/-- THE TIED CARD OF 'conclavekeep.TokenFixed'. -/
def tokenFixedCard : Claim7 := { stood := { row := tokenFixedRow, standIns := [], harness := (true, "97252cd0a14c4fd6ee9a3a7d06c3d35d23d7778a23750f69aa6728236cf7aff9"), looks := false }, kinds := [], alts := [], laidByText := true, laidKinds := [.data], laidTests := true, laidLooks := .later }
def TokenFixedCardSaid : Prop := Claim7.holds Tryd.pinned (.plain (OpenSpec.ofChange tokenFixedSpec)) tokenFixedCard

/-- THE TIED CARD OF 'conclavekeep.ChainTells'. -/
def chainTellsCard : Claim7 := { stood := { row := chainTellsRow, standIns := [], harness := (true, "97252cd0a14c4fd6ee9a3a7d06c3d35d23d7778a23750f69aa6728236cf7aff9"), looks := false }, kinds := [], alts := [], laidByText := true, laidKinds := [.data], laidTests := true, laidLooks := .later }
def ChainTellsCardSaid : Prop := Claim7.holds Tryd.pinned (.plain (OpenSpec.ofChange chainTellsSpec)) chainTellsCard

/-- THE TIED CARD OF 'conclavekeep.ChainCut'. -/
def chainCutCard : Claim7 := { stood := { row := chainCutRow, standIns := [], harness := (true, "97252cd0a14c4fd6ee9a3a7d06c3d35d23d7778a23750f69aa6728236cf7aff9"), looks := false }, kinds := [], alts := [], laidByText := true, laidKinds := [.data], laidTests := true, laidLooks := .later }
def ChainCutCardSaid : Prop := Claim7.holds Tryd.pinned (.plain (OpenSpec.ofChange chainCutSpec)) chainCutCard

/-- THE TIED CARD OF 'conclavekeep.ChainLink'. -/
def chainLinkCard : Claim7 := { stood := { row := chainLinkRow, standIns := [], harness := (true, "97252cd0a14c4fd6ee9a3a7d06c3d35d23d7778a23750f69aa6728236cf7aff9"), looks := false }, kinds := [], alts := [], laidByText := true, laidKinds := [.data], laidTests := true, laidLooks := .later }
def ChainLinkCardSaid : Prop := Claim7.holds Tryd.pinned (.plain (OpenSpec.ofChange chainLinkSpec)) chainLinkCard

/-- THE TIED CARD OF 'conclavekeep.AuditRight'. -/
def auditRightCard : Claim7 := { stood := { row := auditRightRow, standIns := [], harness := (true, "97252cd0a14c4fd6ee9a3a7d06c3d35d23d7778a23750f69aa6728236cf7aff9"), looks := false }, kinds := [], alts := [], laidByText := true, laidKinds := [.data], laidTests := true, laidLooks := .later }
def AuditRightCardSaid : Prop := Claim7.holds Tryd.pinned (.plain (OpenSpec.ofChange auditRightSpec)) auditRightCard

/-- THE TIED CARD OF 'conclavekeep.AuditCut'. -/
def auditCutCard : Claim7 := { stood := { row := auditCutRow, standIns := [], harness := (true, "97252cd0a14c4fd6ee9a3a7d06c3d35d23d7778a23750f69aa6728236cf7aff9"), looks := false }, kinds := [], alts := [], laidByText := true, laidKinds := [.data], laidTests := true, laidLooks := .later }
def AuditCutCardSaid : Prop := Claim7.holds Tryd.pinned (.plain (OpenSpec.ofChange auditCutSpec)) auditCutCard

/-- THE TIED CARD OF 'conclavekeep.PackApart'. -/
def packApartCard : Claim7 := { stood := { row := packApartRow, standIns := [], harness := (true, "97252cd0a14c4fd6ee9a3a7d06c3d35d23d7778a23750f69aa6728236cf7aff9"), looks := false }, kinds := [], alts := [], laidByText := true, laidKinds := [.data], laidTests := true, laidLooks := .later }
def PackApartCardSaid : Prop := Claim7.holds Tryd.pinned (.plain (OpenSpec.ofChange packApartSpec)) packApartCard

/-- THE SECOND FORM's CARD OF 'conclavekeep.AllowRight'. -/
def allowRightUptoCard : Claim7 := { stood := { row := allowRightUptoRow, standIns := [], harness := (true, "97252cd0a14c4fd6ee9a3a7d06c3d35d23d7778a23750f69aa6728236cf7aff9"), looks := false }, kinds := [], alts := [], laidByText := true, laidKinds := [.data], laidTests := true, laidLooks := .later }
def AllowRightUptoCardSaid : Prop := Claim7.holds Tryd.pinned (.plain (OpenSpec.upto allowRightSpec)) allowRightUptoCard

/-- THE SECOND FORM's CARD OF 'conclavekeep.AllowMore'. -/
def allowMoreUptoCard : Claim7 := { stood := { row := allowMoreUptoRow, standIns := [], harness := (true, "97252cd0a14c4fd6ee9a3a7d06c3d35d23d7778a23750f69aa6728236cf7aff9"), looks := false }, kinds := [], alts := [], laidByText := true, laidKinds := [.data], laidTests := true, laidLooks := .later }
def AllowMoreUptoCardSaid : Prop := Claim7.holds Tryd.pinned (.plain (OpenSpec.upto allowMoreSpec)) allowMoreUptoCard

/-- THE SECOND FORM's CARD OF 'conclavekeep.KnownSums'. -/
def knownSumsUptoCard : Claim7 := { stood := { row := knownSumsUptoRow, standIns := [], harness := (true, "97252cd0a14c4fd6ee9a3a7d06c3d35d23d7778a23750f69aa6728236cf7aff9"), looks := false }, kinds := [], alts := [], laidByText := true, laidKinds := [.data], laidTests := true, laidLooks := .later }
def KnownSumsUptoCardSaid : Prop := Claim7.holds Tryd.pinned (.plain (OpenSpec.upto knownSumsSpec)) knownSumsUptoCard

/-- THE SECOND FORM's CARD OF 'conclavekeep.SumLong'. -/
def sumLongUptoCard : Claim7 := { stood := { row := sumLongUptoRow, standIns := [], harness := (true, "97252cd0a14c4fd6ee9a3a7d06c3d35d23d7778a23750f69aa6728236cf7aff9"), looks := false }, kinds := [], alts := [], laidByText := true, laidKinds := [.data], laidTests := true, laidLooks := .later }
def SumLongUptoCardSaid : Prop := Claim7.holds Tryd.pinned (.plain (OpenSpec.upto sumLongSpec)) sumLongUptoCard

/-- THE SECOND FORM's CARD OF 'conclavekeep.KnownMac'. -/
def knownMacUptoCard : Claim7 := { stood := { row := knownMacUptoRow, standIns := [], harness := (true, "97252cd0a14c4fd6ee9a3a7d06c3d35d23d7778a23750f69aa6728236cf7aff9"), looks := false }, kinds := [], alts := [], laidByText := true, laidKinds := [.data], laidTests := true, laidLooks := .later }
def KnownMacUptoCardSaid : Prop := Claim7.holds Tryd.pinned (.plain (OpenSpec.upto knownMacSpec)) knownMacUptoCard

/-- THE SECOND FORM's CARD OF 'conclavekeep.MacKey'. -/
def macKeyUptoCard : Claim7 := { stood := { row := macKeyUptoRow, standIns := [], harness := (true, "97252cd0a14c4fd6ee9a3a7d06c3d35d23d7778a23750f69aa6728236cf7aff9"), looks := false }, kinds := [], alts := [], laidByText := true, laidKinds := [.data], laidTests := true, laidLooks := .later }
def MacKeyUptoCardSaid : Prop := Claim7.holds Tryd.pinned (.plain (OpenSpec.upto macKeySpec)) macKeyUptoCard

/-- THE SECOND FORM's CARD OF 'conclavekeep.MacMade'. -/
def macMadeUptoCard : Claim7 := { stood := { row := macMadeUptoRow, standIns := [], harness := (true, "97252cd0a14c4fd6ee9a3a7d06c3d35d23d7778a23750f69aa6728236cf7aff9"), looks := false }, kinds := [], alts := [], laidByText := true, laidKinds := [.data], laidTests := true, laidLooks := .later }
def MacMadeUptoCardSaid : Prop := Claim7.holds Tryd.pinned (.plain (OpenSpec.upto macMadeSpec)) macMadeUptoCard

/-- THE SECOND FORM's CARD OF 'conclavekeep.DrawMore'. -/
def drawMoreUptoCard : Claim7 := { stood := { row := drawMoreUptoRow, standIns := [], harness := (true, "97252cd0a14c4fd6ee9a3a7d06c3d35d23d7778a23750f69aa6728236cf7aff9"), looks := false }, kinds := [], alts := [], laidByText := true, laidKinds := [.data], laidTests := true, laidLooks := .later }
def DrawMoreUptoCardSaid : Prop := Claim7.holds Tryd.pinned (.plain (OpenSpec.upto drawMoreSpec)) drawMoreUptoCard

/-- THE SECOND FORM's CARD OF 'conclavekeep.DrawMade'. -/
def drawMadeUptoCard : Claim7 := { stood := { row := drawMadeUptoRow, standIns := [], harness := (true, "97252cd0a14c4fd6ee9a3a7d06c3d35d23d7778a23750f69aa6728236cf7aff9"), looks := false }, kinds := [], alts := [], laidByText := true, laidKinds := [.data], laidTests := true, laidLooks := .later }
def DrawMadeUptoCardSaid : Prop := Claim7.holds Tryd.pinned (.plain (OpenSpec.upto drawMadeSpec)) drawMadeUptoCard

/-- THE SECOND FORM's CARD OF 'conclavekeep.TokenBytes'. -/
def tokenBytesUptoCard : Claim7 := { stood := { row := tokenBytesUptoRow, standIns := [], harness := (true, "97252cd0a14c4fd6ee9a3a7d06c3d35d23d7778a23750f69aa6728236cf7aff9"), looks := false }, kinds := [], alts := [], laidByText := true, laidKinds := [.data], laidTests := true, laidLooks := .later }
def TokenBytesUptoCardSaid : Prop := Claim7.holds Tryd.pinned (.plain (OpenSpec.upto tokenBytesSpec)) tokenBytesUptoCard

/-- THE SECOND FORM's CARD OF 'conclavekeep.TokenBack'. -/
def tokenBackUptoCard : Claim7 := { stood := { row := tokenBackUptoRow, standIns := [], harness := (true, "97252cd0a14c4fd6ee9a3a7d06c3d35d23d7778a23750f69aa6728236cf7aff9"), looks := false }, kinds := [], alts := [], laidByText := true, laidKinds := [.data], laidTests := true, laidLooks := .later }
def TokenBackUptoCardSaid : Prop := Claim7.holds Tryd.pinned (.plain (OpenSpec.upto tokenBackSpec)) tokenBackUptoCard

/-- THE SECOND FORM's CARD OF 'conclavekeep.TokenFixed'. -/
def tokenFixedUptoCard : Claim7 := { stood := { row := tokenFixedUptoRow, standIns := [], harness := (true, "97252cd0a14c4fd6ee9a3a7d06c3d35d23d7778a23750f69aa6728236cf7aff9"), looks := false }, kinds := [], alts := [], laidByText := true, laidKinds := [.data], laidTests := true, laidLooks := .later }
def TokenFixedUptoCardSaid : Prop := Claim7.holds Tryd.pinned (.plain (OpenSpec.upto tokenFixedSpec)) tokenFixedUptoCard

/-- THE SECOND FORM's CARD OF 'conclavekeep.ChainTells'. -/
def chainTellsUptoCard : Claim7 := { stood := { row := chainTellsUptoRow, standIns := [], harness := (true, "97252cd0a14c4fd6ee9a3a7d06c3d35d23d7778a23750f69aa6728236cf7aff9"), looks := false }, kinds := [], alts := [], laidByText := true, laidKinds := [.data], laidTests := true, laidLooks := .later }
def ChainTellsUptoCardSaid : Prop := Claim7.holds Tryd.pinned (.plain (OpenSpec.upto chainTellsSpec)) chainTellsUptoCard

/-- THE SECOND FORM's CARD OF 'conclavekeep.ChainCut'. -/
def chainCutUptoCard : Claim7 := { stood := { row := chainCutUptoRow, standIns := [], harness := (true, "97252cd0a14c4fd6ee9a3a7d06c3d35d23d7778a23750f69aa6728236cf7aff9"), looks := false }, kinds := [], alts := [], laidByText := true, laidKinds := [.data], laidTests := true, laidLooks := .later }
def ChainCutUptoCardSaid : Prop := Claim7.holds Tryd.pinned (.plain (OpenSpec.upto chainCutSpec)) chainCutUptoCard

/-- THE SECOND FORM's CARD OF 'conclavekeep.ChainLink'. -/
def chainLinkUptoCard : Claim7 := { stood := { row := chainLinkUptoRow, standIns := [], harness := (true, "97252cd0a14c4fd6ee9a3a7d06c3d35d23d7778a23750f69aa6728236cf7aff9"), looks := false }, kinds := [], alts := [], laidByText := true, laidKinds := [.data], laidTests := true, laidLooks := .later }
def ChainLinkUptoCardSaid : Prop := Claim7.holds Tryd.pinned (.plain (OpenSpec.upto chainLinkSpec)) chainLinkUptoCard

/-- THE SECOND FORM's CARD OF 'conclavekeep.AuditRight'. -/
def auditRightUptoCard : Claim7 := { stood := { row := auditRightUptoRow, standIns := [], harness := (true, "97252cd0a14c4fd6ee9a3a7d06c3d35d23d7778a23750f69aa6728236cf7aff9"), looks := false }, kinds := [], alts := [], laidByText := true, laidKinds := [.data], laidTests := true, laidLooks := .later }
def AuditRightUptoCardSaid : Prop := Claim7.holds Tryd.pinned (.plain (OpenSpec.upto auditRightSpec)) auditRightUptoCard

/-- THE SECOND FORM's CARD OF 'conclavekeep.AuditCut'. -/
def auditCutUptoCard : Claim7 := { stood := { row := auditCutUptoRow, standIns := [], harness := (true, "97252cd0a14c4fd6ee9a3a7d06c3d35d23d7778a23750f69aa6728236cf7aff9"), looks := false }, kinds := [], alts := [], laidByText := true, laidKinds := [.data], laidTests := true, laidLooks := .later }
def AuditCutUptoCardSaid : Prop := Claim7.holds Tryd.pinned (.plain (OpenSpec.upto auditCutSpec)) auditCutUptoCard

/-- THE SECOND FORM's CARD OF 'conclavekeep.PackApart'. -/
def packApartUptoCard : Claim7 := { stood := { row := packApartUptoRow, standIns := [], harness := (true, "97252cd0a14c4fd6ee9a3a7d06c3d35d23d7778a23750f69aa6728236cf7aff9"), looks := false }, kinds := [], alts := [], laidByText := true, laidKinds := [.data], laidTests := true, laidLooks := .later }
def PackApartUptoCardSaid : Prop := Claim7.holds Tryd.pinned (.plain (OpenSpec.upto packApartSpec)) packApartUptoCard
end Rows
end Go.Proofs.YtdjnbnbhpjiicaaDoor
