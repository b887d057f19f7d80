/-
  NARROWER THAN 'FOR EVERY INPUT', by the rows' own cells (each row's printed sentence says how): AllowRight: laid · AllowMore: laid · KnownSums: laid · SumLong: laid · KnownMac: laid · MacKey: laid · MacMade: laid · DrawMore: laid · DrawMade: laid · TokenBytes: laid · TokenBack: laid · TokenFixed: laid · ChainTells: laid · ChainCut: laid · ChainLink: laid · AuditRight: laid · AuditCut: laid · PackApart: laid.
  DERIVED. THE GIVEN ROWS OF THIS SEAT. 18 by the template 'for every input the law returns true; each argument reads behind the call as it read before'; 0 by the template 'total and deterministic' (their statements: YtdjnbnbhpjiicaaDoorTotals.lean).
  GIVEN WITH THE SEED: the statements are not yours to turn. If you find one false, say at which input.
  Laid BY PROGRAM, IN A SANDBOX (cutbox-rows.mjs): the forced cells as the released guide's own fill.sh prints them over the translation 8d5e56d3e88be2be… (all of the seat's roots in one cut). By AI agents, Wed Nov 11 2026. No macro, syntax, notation, axiom, sorry.
-/
import Derived.Test.YtdjnbnbhpjiicaaDoorChecked
import GoSem.Claim
import GoSem.ClaimJoined
import GoSem.ClaimMapViews
import Derived.JoinedTies
import Derived.KernelRfl
namespace Go.Proofs.YtdjnbnbhpjiicaaDoor
/- THE CELL 'sum', in the pinned program and in every row, IS THE sha256 OF THE DUMP (.gsa) THAT YtdjnbnbhpjiicaaDoorProg.lean LOADS. Nothing in Lean hashes anything: it is a label: what it is worth is what the hold of that sum in a sandbox is worth. -/
noncomputable def Tryd.pinned : Pinned := { name := "ytdjnbnbhpjiicaadoor", sum := "8d5e56d3e88be2be374a9066a6567b9f218550fd65dad41418daabc07d10f4f4", checked := Tryd.checked }
namespace Rows
def none {H : Type} : Left H := { results := [], args := [] }

/- WHAT THE LISTED PACKAGE-LEVEL VARIABLES READ AS WHEN THE CALL BEGINS. Each datum BY PROGRAM (the guide's laid-datum.mjs) off the statement by which the dump's own 'gosem.cut.vars' lays the variable. In a bare row this is a premise. The card (YtdjnbnbhpjiicaaDoorCards.lean) ties it to the program's text. -/
def laid_conclave_order_need {H : Type} : DataW H := .agg [.lit (.int .i64 0), .lit (.int .i64 2), .lit (.int .i64 1), .lit (.int .i64 4)]
def laid_conclave_sha_numbers {H : Type} : DataW H := .agg [.lit (.int .u32 1116352408), .lit (.int .u32 1899447441), .lit (.int .u32 3049323471), .lit (.int .u32 3921009573), .lit (.int .u32 961987163), .lit (.int .u32 1508970993), .lit (.int .u32 2453635748), .lit (.int .u32 2870763221), .lit (.int .u32 3624381080), .lit (.int .u32 310598401), .lit (.int .u32 607225278), .lit (.int .u32 1426881987), .lit (.int .u32 1925078388), .lit (.int .u32 2162078206), .lit (.int .u32 2614888103), .lit (.int .u32 3248222580), .lit (.int .u32 3835390401), .lit (.int .u32 4022224774), .lit (.int .u32 264347078), .lit (.int .u32 604807628), .lit (.int .u32 770255983), .lit (.int .u32 1249150122), .lit (.int .u32 1555081692), .lit (.int .u32 1996064986), .lit (.int .u32 2554220882), .lit (.int .u32 2821834349), .lit (.int .u32 2952996808), .lit (.int .u32 3210313671), .lit (.int .u32 3336571891), .lit (.int .u32 3584528711), .lit (.int .u32 113926993), .lit (.int .u32 338241895), .lit (.int .u32 666307205), .lit (.int .u32 773529912), .lit (.int .u32 1294757372), .lit (.int .u32 1396182291), .lit (.int .u32 1695183700), .lit (.int .u32 1986661051), .lit (.int .u32 2177026350), .lit (.int .u32 2456956037), .lit (.int .u32 2730485921), .lit (.int .u32 2820302411), .lit (.int .u32 3259730800), .lit (.int .u32 3345764771), .lit (.int .u32 3516065817), .lit (.int .u32 3600352804), .lit (.int .u32 4094571909), .lit (.int .u32 275423344), .lit (.int .u32 430227734), .lit (.int .u32 506948616), .lit (.int .u32 659060556), .lit (.int .u32 883997877), .lit (.int .u32 958139571), .lit (.int .u32 1322822218), .lit (.int .u32 1537002063), .lit (.int .u32 1747873779), .lit (.int .u32 1955562222), .lit (.int .u32 2024104815), .lit (.int .u32 2227730452), .lit (.int .u32 2361852424), .lit (.int .u32 2428436474), .lit (.int .u32 2756734187), .lit (.int .u32 3204031479), .lit (.int .u32 3329325298)]

/-- 'conclavekeep.AllowRight': WHATEVER THE INPUT: true; the input reads as it did. -/
def allowRightSpec : ChangeSpec := { name := "allowRight", fn := fun _ => fun
  | [d1, d2, d3] => { results := [.lit (.bool true)], args := [d1, d2, d3] }
  | _ => none }
def allowRightRow : OpenClaim := { program := "ytdjnbnbhpjiicaadoor", sum := "8d5e56d3e88be2be374a9066a6567b9f218550fd65dad41418daabc07d10f4f4", func := "conclave/conclavekeep.AllowRight", spec := "allowRight", named := ["conclave/order.need"], apart := false, laid := [("conclave/order.need", laid_conclave_order_need)] }
def AllowRightSaid : Prop := allowRightRow.holds Tryd.pinned (OpenSpec.ofChange allowRightSpec)

/-- ITS FALSE NEIGHBOUR: 'it returns false'. Refute it at one input. -/
def allowRightWrong : ChangeSpec := { name := "allowRight", fn := fun _ => fun
  | [d1, d2, d3] => { results := [.lit (.bool false)], args := [d1, d2, d3] }
  | _ => none }
def AllowRightWrongFalsely : Prop := allowRightRow.holds Tryd.pinned (OpenSpec.ofChange allowRightWrong)

/-- 'conclavekeep.AllowMore': WHATEVER THE INPUT: true; the input reads as it did. -/
def allowMoreSpec : ChangeSpec := { name := "allowMore", fn := fun _ => fun
  | [d1, d2, d3, d4, d5] => { results := [.lit (.bool true)], args := [d1, d2, d3, d4, d5] }
  | _ => none }
def allowMoreRow : OpenClaim := { program := "ytdjnbnbhpjiicaadoor", sum := "8d5e56d3e88be2be374a9066a6567b9f218550fd65dad41418daabc07d10f4f4", func := "conclave/conclavekeep.AllowMore", spec := "allowMore", named := ["conclave/order.need"], apart := false, laid := [("conclave/order.need", laid_conclave_order_need)] }
def AllowMoreSaid : Prop := allowMoreRow.holds Tryd.pinned (OpenSpec.ofChange allowMoreSpec)

/-- ITS FALSE NEIGHBOUR: 'it returns false'. Refute it at one input. -/
def allowMoreWrong : ChangeSpec := { name := "allowMore", fn := fun _ => fun
  | [d1, d2, d3, d4, d5] => { results := [.lit (.bool false)], args := [d1, d2, d3, d4, d5] }
  | _ => none }
def AllowMoreWrongFalsely : Prop := allowMoreRow.holds Tryd.pinned (OpenSpec.ofChange allowMoreWrong)

/-- 'conclavekeep.KnownSums': WHATEVER THE INPUT: true; the input reads as it did. -/
def knownSumsSpec : ChangeSpec := { name := "knownSums", fn := fun _ => fun
  | [] => { results := [.lit (.bool true)], args := [] }
  | _ => none }
def knownSumsRow : OpenClaim := { program := "ytdjnbnbhpjiicaadoor", sum := "8d5e56d3e88be2be374a9066a6567b9f218550fd65dad41418daabc07d10f4f4", func := "conclave/conclavekeep.KnownSums", spec := "knownSums", named := ["conclave/sha.numbers"], apart := false, laid := [("conclave/sha.numbers", laid_conclave_sha_numbers)] }
def KnownSumsSaid : Prop := knownSumsRow.holds Tryd.pinned (OpenSpec.ofChange knownSumsSpec)

/-- ITS FALSE NEIGHBOUR: 'it returns false'. Refute it at one input. -/
def knownSumsWrong : ChangeSpec := { name := "knownSums", fn := fun _ => fun
  | [] => { results := [.lit (.bool false)], args := [] }
  | _ => none }
def KnownSumsWrongFalsely : Prop := knownSumsRow.holds Tryd.pinned (OpenSpec.ofChange knownSumsWrong)

/-- 'conclavekeep.SumLong': WHATEVER THE INPUT: true; the input reads as it did. -/
def sumLongSpec : ChangeSpec := { name := "sumLong", fn := fun _ => fun
  | [d1, d2] => { results := [.lit (.bool true)], args := [d1, d2] }
  | _ => none }
def sumLongRow : OpenClaim := { program := "ytdjnbnbhpjiicaadoor", sum := "8d5e56d3e88be2be374a9066a6567b9f218550fd65dad41418daabc07d10f4f4", func := "conclave/conclavekeep.SumLong", spec := "sumLong", named := ["conclave/sha.numbers"], apart := false, laid := [("conclave/sha.numbers", laid_conclave_sha_numbers)] }
def SumLongSaid : Prop := sumLongRow.holds Tryd.pinned (OpenSpec.ofChange sumLongSpec)

/-- ITS FALSE NEIGHBOUR: 'it returns false'. Refute it at one input. -/
def sumLongWrong : ChangeSpec := { name := "sumLong", fn := fun _ => fun
  | [d1, d2] => { results := [.lit (.bool false)], args := [d1, d2] }
  | _ => none }
def SumLongWrongFalsely : Prop := sumLongRow.holds Tryd.pinned (OpenSpec.ofChange sumLongWrong)

/-- 'conclavekeep.KnownMac': WHATEVER THE INPUT: true; the input reads as it did. -/
def knownMacSpec : ChangeSpec := { name := "knownMac", fn := fun _ => fun
  | [] => { results := [.lit (.bool true)], args := [] }
  | _ => none }
def knownMacRow : OpenClaim := { program := "ytdjnbnbhpjiicaadoor", sum := "8d5e56d3e88be2be374a9066a6567b9f218550fd65dad41418daabc07d10f4f4", func := "conclave/conclavekeep.KnownMac", spec := "knownMac", named := ["conclave/sha.numbers"], apart := false, laid := [("conclave/sha.numbers", laid_conclave_sha_numbers)] }
def KnownMacSaid : Prop := knownMacRow.holds Tryd.pinned (OpenSpec.ofChange knownMacSpec)

/-- ITS FALSE NEIGHBOUR: 'it returns false'. Refute it at one input. -/
def knownMacWrong : ChangeSpec := { name := "knownMac", fn := fun _ => fun
  | [] => { results := [.lit (.bool false)], args := [] }
  | _ => none }
def KnownMacWrongFalsely : Prop := knownMacRow.holds Tryd.pinned (OpenSpec.ofChange knownMacWrong)

/-- 'conclavekeep.MacKey': WHATEVER THE INPUT: true; the input reads as it did. -/
def macKeySpec : ChangeSpec := { name := "macKey", fn := fun _ => fun
  | [d1, d2, d3] => { results := [.lit (.bool true)], args := [d1, d2, d3] }
  | _ => none }
def macKeyRow : OpenClaim := { program := "ytdjnbnbhpjiicaadoor", sum := "8d5e56d3e88be2be374a9066a6567b9f218550fd65dad41418daabc07d10f4f4", func := "conclave/conclavekeep.MacKey", spec := "macKey", named := ["conclave/sha.numbers"], apart := false, laid := [("conclave/sha.numbers", laid_conclave_sha_numbers)] }
def MacKeySaid : Prop := macKeyRow.holds Tryd.pinned (OpenSpec.ofChange macKeySpec)

/-- ITS FALSE NEIGHBOUR: 'it returns false'. Refute it at one input. -/
def macKeyWrong : ChangeSpec := { name := "macKey", fn := fun _ => fun
  | [d1, d2, d3] => { results := [.lit (.bool false)], args := [d1, d2, d3] }
  | _ => none }
def MacKeyWrongFalsely : Prop := macKeyRow.holds Tryd.pinned (OpenSpec.ofChange macKeyWrong)

/-- 'conclavekeep.MacMade': WHATEVER THE INPUT: true; the input reads as it did. -/
def macMadeSpec : ChangeSpec := { name := "macMade", fn := fun _ => fun
  | [d1, d2] => { results := [.lit (.bool true)], args := [d1, d2] }
  | _ => none }
def macMadeRow : OpenClaim := { program := "ytdjnbnbhpjiicaadoor", sum := "8d5e56d3e88be2be374a9066a6567b9f218550fd65dad41418daabc07d10f4f4", func := "conclave/conclavekeep.MacMade", spec := "macMade", named := ["conclave/sha.numbers"], apart := false, laid := [("conclave/sha.numbers", laid_conclave_sha_numbers)] }
def MacMadeSaid : Prop := macMadeRow.holds Tryd.pinned (OpenSpec.ofChange macMadeSpec)

/-- ITS FALSE NEIGHBOUR: 'it returns false'. Refute it at one input. -/
def macMadeWrong : ChangeSpec := { name := "macMade", fn := fun _ => fun
  | [d1, d2] => { results := [.lit (.bool false)], args := [d1, d2] }
  | _ => none }
def MacMadeWrongFalsely : Prop := macMadeRow.holds Tryd.pinned (OpenSpec.ofChange macMadeWrong)

/-- 'conclavekeep.DrawMore': WHATEVER THE INPUT: true; the input reads as it did. -/
def drawMoreSpec : ChangeSpec := { name := "drawMore", fn := fun _ => fun
  | [d1, d2, d3, d4, d5] => { results := [.lit (.bool true)], args := [d1, d2, d3, d4, d5] }
  | _ => none }
def drawMoreRow : OpenClaim := { program := "ytdjnbnbhpjiicaadoor", sum := "8d5e56d3e88be2be374a9066a6567b9f218550fd65dad41418daabc07d10f4f4", func := "conclave/conclavekeep.DrawMore", spec := "drawMore", named := ["conclave/sha.numbers"], apart := false, laid := [("conclave/sha.numbers", laid_conclave_sha_numbers)] }
def DrawMoreSaid : Prop := drawMoreRow.holds Tryd.pinned (OpenSpec.ofChange drawMoreSpec)

/-- ITS FALSE NEIGHBOUR: 'it returns false'. Refute it at one input. -/
def drawMoreWrong : ChangeSpec := { name := "drawMore", fn := fun _ => fun
  | [d1, d2, d3, d4, d5] => { results := [.lit (.bool false)], args := [d1, d2, d3, d4, d5] }
  | _ => none }
def DrawMoreWrongFalsely : Prop := drawMoreRow.holds Tryd.pinned (OpenSpec.ofChange drawMoreWrong)

/-- 'conclavekeep.DrawMade': WHATEVER THE INPUT: true; the input reads as it did. -/
def drawMadeSpec : ChangeSpec := { name := "drawMade", fn := fun _ => fun
  | [d1, d2, d3] => { results := [.lit (.bool true)], args := [d1, d2, d3] }
  | _ => none }
def drawMadeRow : OpenClaim := { program := "ytdjnbnbhpjiicaadoor", sum := "8d5e56d3e88be2be374a9066a6567b9f218550fd65dad41418daabc07d10f4f4", func := "conclave/conclavekeep.DrawMade", spec := "drawMade", named := ["conclave/sha.numbers"], apart := false, laid := [("conclave/sha.numbers", laid_conclave_sha_numbers)] }
def DrawMadeSaid : Prop := drawMadeRow.holds Tryd.pinned (OpenSpec.ofChange drawMadeSpec)

/-- ITS FALSE NEIGHBOUR: 'it returns false'. Refute it at one input. -/
def drawMadeWrong : ChangeSpec := { name := "drawMade", fn := fun _ => fun
  | [d1, d2, d3] => { results := [.lit (.bool false)], args := [d1, d2, d3] }
  | _ => none }
def DrawMadeWrongFalsely : Prop := drawMadeRow.holds Tryd.pinned (OpenSpec.ofChange drawMadeWrong)

/-- 'conclavekeep.TokenBytes': WHATEVER THE INPUT: true; the input reads as it did. -/
def tokenBytesSpec : ChangeSpec := { name := "tokenBytes", fn := fun _ => fun
  | [d1, d2] => { results := [.lit (.bool true)], args := [d1, d2] }
  | _ => none }
def tokenBytesRow : OpenClaim := { program := "ytdjnbnbhpjiicaadoor", sum := "8d5e56d3e88be2be374a9066a6567b9f218550fd65dad41418daabc07d10f4f4", func := "conclave/conclavekeep.TokenBytes", spec := "tokenBytes", named := ["conclave/sha.numbers"], apart := false, laid := [("conclave/sha.numbers", laid_conclave_sha_numbers)] }
def TokenBytesSaid : Prop := tokenBytesRow.holds Tryd.pinned (OpenSpec.ofChange tokenBytesSpec)

/-- ITS FALSE NEIGHBOUR: 'it returns false'. Refute it at one input. -/
def tokenBytesWrong : ChangeSpec := { name := "tokenBytes", fn := fun _ => fun
  | [d1, d2] => { results := [.lit (.bool false)], args := [d1, d2] }
  | _ => none }
def TokenBytesWrongFalsely : Prop := tokenBytesRow.holds Tryd.pinned (OpenSpec.ofChange tokenBytesWrong)

/-- 'conclavekeep.TokenBack': WHATEVER THE INPUT: true; the input reads as it did. -/
def tokenBackSpec : ChangeSpec := { name := "tokenBack", fn := fun _ => fun
  | [d1, d2] => { results := [.lit (.bool true)], args := [d1, d2] }
  | _ => none }
def tokenBackRow : OpenClaim := { program := "ytdjnbnbhpjiicaadoor", sum := "8d5e56d3e88be2be374a9066a6567b9f218550fd65dad41418daabc07d10f4f4", func := "conclave/conclavekeep.TokenBack", spec := "tokenBack", named := ["conclave/sha.numbers"], apart := false, laid := [("conclave/sha.numbers", laid_conclave_sha_numbers)] }
def TokenBackSaid : Prop := tokenBackRow.holds Tryd.pinned (OpenSpec.ofChange tokenBackSpec)

/-- ITS FALSE NEIGHBOUR: 'it returns false'. Refute it at one input. -/
def tokenBackWrong : ChangeSpec := { name := "tokenBack", fn := fun _ => fun
  | [d1, d2] => { results := [.lit (.bool false)], args := [d1, d2] }
  | _ => none }
def TokenBackWrongFalsely : Prop := tokenBackRow.holds Tryd.pinned (OpenSpec.ofChange tokenBackWrong)

/-- 'conclavekeep.TokenFixed': WHATEVER THE INPUT: true; the input reads as it did. -/
def tokenFixedSpec : ChangeSpec := { name := "tokenFixed", fn := fun _ => fun
  | [d1, d2] => { results := [.lit (.bool true)], args := [d1, d2] }
  | _ => none }
def tokenFixedRow : OpenClaim := { program := "ytdjnbnbhpjiicaadoor", sum := "8d5e56d3e88be2be374a9066a6567b9f218550fd65dad41418daabc07d10f4f4", func := "conclave/conclavekeep.TokenFixed", spec := "tokenFixed", named := ["conclave/sha.numbers"], apart := false, laid := [("conclave/sha.numbers", laid_conclave_sha_numbers)] }
def TokenFixedSaid : Prop := tokenFixedRow.holds Tryd.pinned (OpenSpec.ofChange tokenFixedSpec)

/-- ITS FALSE NEIGHBOUR: 'it returns false'. Refute it at one input. -/
def tokenFixedWrong : ChangeSpec := { name := "tokenFixed", fn := fun _ => fun
  | [d1, d2] => { results := [.lit (.bool false)], args := [d1, d2] }
  | _ => none }
def TokenFixedWrongFalsely : Prop := tokenFixedRow.holds Tryd.pinned (OpenSpec.ofChange tokenFixedWrong)

/-- 'conclavekeep.ChainTells': WHATEVER THE INPUT: true; the input reads as it did. -/
def chainTellsSpec : ChangeSpec := { name := "chainTells", fn := fun _ => fun
  | [d] => { results := [.lit (.bool true)], args := [d] }
  | _ => none }
def chainTellsRow : OpenClaim := { program := "ytdjnbnbhpjiicaadoor", sum := "8d5e56d3e88be2be374a9066a6567b9f218550fd65dad41418daabc07d10f4f4", func := "conclave/conclavekeep.ChainTells", spec := "chainTells", named := ["conclave/sha.numbers"], apart := false, laid := [("conclave/sha.numbers", laid_conclave_sha_numbers)] }
def ChainTellsSaid : Prop := chainTellsRow.holds Tryd.pinned (OpenSpec.ofChange chainTellsSpec)

/-- ITS FALSE NEIGHBOUR: 'it returns false'. Refute it at one input. -/
def chainTellsWrong : ChangeSpec := { name := "chainTells", fn := fun _ => fun
  | [d] => { results := [.lit (.bool false)], args := [d] }
  | _ => none }
def ChainTellsWrongFalsely : Prop := chainTellsRow.holds Tryd.pinned (OpenSpec.ofChange chainTellsWrong)

/-- 'conclavekeep.ChainCut': WHATEVER THE INPUT: true; the input reads as it did. -/
def chainCutSpec : ChangeSpec := { name := "chainCut", fn := fun _ => fun
  | [d1, d2] => { results := [.lit (.bool true)], args := [d1, d2] }
  | _ => none }
def chainCutRow : OpenClaim := { program := "ytdjnbnbhpjiicaadoor", sum := "8d5e56d3e88be2be374a9066a6567b9f218550fd65dad41418daabc07d10f4f4", func := "conclave/conclavekeep.ChainCut", spec := "chainCut", named := ["conclave/sha.numbers"], apart := false, laid := [("conclave/sha.numbers", laid_conclave_sha_numbers)] }
def ChainCutSaid : Prop := chainCutRow.holds Tryd.pinned (OpenSpec.ofChange chainCutSpec)

/-- ITS FALSE NEIGHBOUR: 'it returns false'. Refute it at one input. -/
def chainCutWrong : ChangeSpec := { name := "chainCut", fn := fun _ => fun
  | [d1, d2] => { results := [.lit (.bool false)], args := [d1, d2] }
  | _ => none }
def ChainCutWrongFalsely : Prop := chainCutRow.holds Tryd.pinned (OpenSpec.ofChange chainCutWrong)

/-- 'conclavekeep.ChainLink': WHATEVER THE INPUT: true; the input reads as it did. -/
def chainLinkSpec : ChangeSpec := { name := "chainLink", fn := fun _ => fun
  | [d] => { results := [.lit (.bool true)], args := [d] }
  | _ => none }
def chainLinkRow : OpenClaim := { program := "ytdjnbnbhpjiicaadoor", sum := "8d5e56d3e88be2be374a9066a6567b9f218550fd65dad41418daabc07d10f4f4", func := "conclave/conclavekeep.ChainLink", spec := "chainLink", named := ["conclave/sha.numbers"], apart := false, laid := [("conclave/sha.numbers", laid_conclave_sha_numbers)] }
def ChainLinkSaid : Prop := chainLinkRow.holds Tryd.pinned (OpenSpec.ofChange chainLinkSpec)

/-- ITS FALSE NEIGHBOUR: 'it returns false'. Refute it at one input. -/
def chainLinkWrong : ChangeSpec := { name := "chainLink", fn := fun _ => fun
  | [d] => { results := [.lit (.bool false)], args := [d] }
  | _ => none }
def ChainLinkWrongFalsely : Prop := chainLinkRow.holds Tryd.pinned (OpenSpec.ofChange chainLinkWrong)

/-- 'conclavekeep.AuditRight': WHATEVER THE INPUT: true; the input reads as it did. -/
def auditRightSpec : ChangeSpec := { name := "auditRight", fn := fun _ => fun
  | [d1, d2, d3, d4] => { results := [.lit (.bool true)], args := [d1, d2, d3, d4] }
  | _ => none }
def auditRightRow : OpenClaim := { program := "ytdjnbnbhpjiicaadoor", sum := "8d5e56d3e88be2be374a9066a6567b9f218550fd65dad41418daabc07d10f4f4", func := "conclave/conclavekeep.AuditRight", spec := "auditRight", named := ["conclave/sha.numbers"], apart := false, laid := [("conclave/sha.numbers", laid_conclave_sha_numbers)] }
def AuditRightSaid : Prop := auditRightRow.holds Tryd.pinned (OpenSpec.ofChange auditRightSpec)

/-- ITS FALSE NEIGHBOUR: 'it returns false'. Refute it at one input. -/
def auditRightWrong : ChangeSpec := { name := "auditRight", fn := fun _ => fun
  | [d1, d2, d3, d4] => { results := [.lit (.bool false)], args := [d1, d2, d3, d4] }
  | _ => none }
def AuditRightWrongFalsely : Prop := auditRightRow.holds Tryd.pinned (OpenSpec.ofChange auditRightWrong)

/-- 'conclavekeep.AuditCut': WHATEVER THE INPUT: true; the input reads as it did. -/
def auditCutSpec : ChangeSpec := { name := "auditCut", fn := fun _ => fun
  | [d1, d2] => { results := [.lit (.bool true)], args := [d1, d2] }
  | _ => none }
def auditCutRow : OpenClaim := { program := "ytdjnbnbhpjiicaadoor", sum := "8d5e56d3e88be2be374a9066a6567b9f218550fd65dad41418daabc07d10f4f4", func := "conclave/conclavekeep.AuditCut", spec := "auditCut", named := ["conclave/sha.numbers"], apart := false, laid := [("conclave/sha.numbers", laid_conclave_sha_numbers)] }
def AuditCutSaid : Prop := auditCutRow.holds Tryd.pinned (OpenSpec.ofChange auditCutSpec)

/-- ITS FALSE NEIGHBOUR: 'it returns false'. Refute it at one input. -/
def auditCutWrong : ChangeSpec := { name := "auditCut", fn := fun _ => fun
  | [d1, d2] => { results := [.lit (.bool false)], args := [d1, d2] }
  | _ => none }
def AuditCutWrongFalsely : Prop := auditCutRow.holds Tryd.pinned (OpenSpec.ofChange auditCutWrong)

/-- 'conclavekeep.PackApart': WHATEVER THE INPUT: true; the input reads as it did. -/
def packApartSpec : ChangeSpec := { name := "packApart", fn := fun _ => fun
  | [d1, d2] => { results := [.lit (.bool true)], args := [d1, d2] }
  | _ => none }
def packApartRow : OpenClaim := { program := "ytdjnbnbhpjiicaadoor", sum := "8d5e56d3e88be2be374a9066a6567b9f218550fd65dad41418daabc07d10f4f4", func := "conclave/conclavekeep.PackApart", spec := "packApart", named := ["conclave/sha.numbers"], apart := false, laid := [("conclave/sha.numbers", laid_conclave_sha_numbers)] }
def PackApartSaid : Prop := packApartRow.holds Tryd.pinned (OpenSpec.ofChange packApartSpec)

/-- ITS FALSE NEIGHBOUR: 'it returns false'. Refute it at one input. -/
def packApartWrong : ChangeSpec := { name := "packApart", fn := fun _ => fun
  | [d1, d2] => { results := [.lit (.bool false)], args := [d1, d2] }
  | _ => none }
def PackApartWrongFalsely : Prop := packApartRow.holds Tryd.pinned (OpenSpec.ofChange packApartWrong)

/- THE SECOND FORM. 'bulk': how many values and letters a reading holds, each counted each time it is reached (what is shared counts as often as it is met; a slice's spare places count too). A statement '..UptoSaid' is the law's where the arguments, and the package variables that the reading takes, are together of bulk at most 1048576: NARROWER than '..Said'. Prove '..Said' where nothing that the law and all that it calls make is longer than what came in: it says more and counts as full. Else prove '..UptoSaid'. A law counts once. -/
mutual
def uptoBulk {H : Type} : DataW H → Nat
  | .lit (.string bytes) => bytes.length + 1
  | .lit _ => 1
  | .nil => 1
  | .ptr d => uptoBulk d + 1
  | .slice elems spare => uptoBulkAll elems + uptoBulkAll spare + 1
  | .agg parts => uptoBulkAll parts + 1
  | .iface _ d => uptoBulk d + 1
  | .map entries => uptoBulkEntries entries + 1
  | .held _ => 1
def uptoBulkAll {H : Type} : List (DataW H) → Nat
  | [] => 0
  | d :: r => uptoBulk d + uptoBulkAll r
def uptoBulkEntries {H : Type} : List (Lit × DataW H) → Nat
  | [] => 0
  | x :: r => uptoBulkEntry x + uptoBulkEntries r
def uptoBulkEntry {H : Type} : Lit × DataW H → Nat
  | (.string bytes, d) => bytes.length + uptoBulk d + 1
  | (_, d) => uptoBulk d + 1
 end
def uptoSmall : (H : Type) → List (DataW H) → Bool := fun _ ds => decide (uptoBulkAll ds ≤ 1048576)
def OpenSpec.upto (s : _root_.Go.ChangeSpec) : _root_.Go.OpenSpec := { _root_.Go.OpenSpec.ofChange s with cond := some uptoSmall }

/-- 'conclavekeep.AllowRight', WHERE WHAT IT READS IS OF BULK AT MOST 1048576: true; the input reads as it did. -/
def allowRightUptoRow : OpenClaim := { program := "ytdjnbnbhpjiicaadoor", sum := "8d5e56d3e88be2be374a9066a6567b9f218550fd65dad41418daabc07d10f4f4", func := "conclave/conclavekeep.AllowRight", spec := "allowRight", named := ["conclave/order.need"], apart := false, laid := [("conclave/order.need", laid_conclave_order_need)], narrowed := true }
def AllowRightUptoSaid : Prop := allowRightUptoRow.holds Tryd.pinned (OpenSpec.upto allowRightSpec)

/-- 'conclavekeep.AllowMore', WHERE WHAT IT READS IS OF BULK AT MOST 1048576: true; the input reads as it did. -/
def allowMoreUptoRow : OpenClaim := { program := "ytdjnbnbhpjiicaadoor", sum := "8d5e56d3e88be2be374a9066a6567b9f218550fd65dad41418daabc07d10f4f4", func := "conclave/conclavekeep.AllowMore", spec := "allowMore", named := ["conclave/order.need"], apart := false, laid := [("conclave/order.need", laid_conclave_order_need)], narrowed := true }
def AllowMoreUptoSaid : Prop := allowMoreUptoRow.holds Tryd.pinned (OpenSpec.upto allowMoreSpec)

/-- 'conclavekeep.KnownSums', WHERE WHAT IT READS IS OF BULK AT MOST 1048576: true; the input reads as it did. -/
def knownSumsUptoRow : OpenClaim := { program := "ytdjnbnbhpjiicaadoor", sum := "8d5e56d3e88be2be374a9066a6567b9f218550fd65dad41418daabc07d10f4f4", func := "conclave/conclavekeep.KnownSums", spec := "knownSums", named := ["conclave/sha.numbers"], apart := false, laid := [("conclave/sha.numbers", laid_conclave_sha_numbers)], narrowed := true }
def KnownSumsUptoSaid : Prop := knownSumsUptoRow.holds Tryd.pinned (OpenSpec.upto knownSumsSpec)

/-- 'conclavekeep.SumLong', WHERE WHAT IT READS IS OF BULK AT MOST 1048576: true; the input reads as it did. -/
def sumLongUptoRow : OpenClaim := { program := "ytdjnbnbhpjiicaadoor", sum := "8d5e56d3e88be2be374a9066a6567b9f218550fd65dad41418daabc07d10f4f4", func := "conclave/conclavekeep.SumLong", spec := "sumLong", named := ["conclave/sha.numbers"], apart := false, laid := [("conclave/sha.numbers", laid_conclave_sha_numbers)], narrowed := true }
def SumLongUptoSaid : Prop := sumLongUptoRow.holds Tryd.pinned (OpenSpec.upto sumLongSpec)

/-- 'conclavekeep.KnownMac', WHERE WHAT IT READS IS OF BULK AT MOST 1048576: true; the input reads as it did. -/
def knownMacUptoRow : OpenClaim := { program := "ytdjnbnbhpjiicaadoor", sum := "8d5e56d3e88be2be374a9066a6567b9f218550fd65dad41418daabc07d10f4f4", func := "conclave/conclavekeep.KnownMac", spec := "knownMac", named := ["conclave/sha.numbers"], apart := false, laid := [("conclave/sha.numbers", laid_conclave_sha_numbers)], narrowed := true }
def KnownMacUptoSaid : Prop := knownMacUptoRow.holds Tryd.pinned (OpenSpec.upto knownMacSpec)

/-- 'conclavekeep.MacKey', WHERE WHAT IT READS IS OF BULK AT MOST 1048576: true; the input reads as it did. -/
def macKeyUptoRow : OpenClaim := { program := "ytdjnbnbhpjiicaadoor", sum := "8d5e56d3e88be2be374a9066a6567b9f218550fd65dad41418daabc07d10f4f4", func := "conclave/conclavekeep.MacKey", spec := "macKey", named := ["conclave/sha.numbers"], apart := false, laid := [("conclave/sha.numbers", laid_conclave_sha_numbers)], narrowed := true }
def MacKeyUptoSaid : Prop := macKeyUptoRow.holds Tryd.pinned (OpenSpec.upto macKeySpec)

/-- 'conclavekeep.MacMade', WHERE WHAT IT READS IS OF BULK AT MOST 1048576: true; the input reads as it did. -/
def macMadeUptoRow : OpenClaim := { program := "ytdjnbnbhpjiicaadoor", sum := "8d5e56d3e88be2be374a9066a6567b9f218550fd65dad41418daabc07d10f4f4", func := "conclave/conclavekeep.MacMade", spec := "macMade", named := ["conclave/sha.numbers"], apart := false, laid := [("conclave/sha.numbers", laid_conclave_sha_numbers)], narrowed := true }
def MacMadeUptoSaid : Prop := macMadeUptoRow.holds Tryd.pinned (OpenSpec.upto macMadeSpec)

/-- 'conclavekeep.DrawMore', WHERE WHAT IT READS IS OF BULK AT MOST 1048576: true; the input reads as it did. -/
def drawMoreUptoRow : OpenClaim := { program := "ytdjnbnbhpjiicaadoor", sum := "8d5e56d3e88be2be374a9066a6567b9f218550fd65dad41418daabc07d10f4f4", func := "conclave/conclavekeep.DrawMore", spec := "drawMore", named := ["conclave/sha.numbers"], apart := false, laid := [("conclave/sha.numbers", laid_conclave_sha_numbers)], narrowed := true }
def DrawMoreUptoSaid : Prop := drawMoreUptoRow.holds Tryd.pinned (OpenSpec.upto drawMoreSpec)

/-- 'conclavekeep.DrawMade', WHERE WHAT IT READS IS OF BULK AT MOST 1048576: true; the input reads as it did. -/
def drawMadeUptoRow : OpenClaim := { program := "ytdjnbnbhpjiicaadoor", sum := "8d5e56d3e88be2be374a9066a6567b9f218550fd65dad41418daabc07d10f4f4", func := "conclave/conclavekeep.DrawMade", spec := "drawMade", named := ["conclave/sha.numbers"], apart := false, laid := [("conclave/sha.numbers", laid_conclave_sha_numbers)], narrowed := true }
def DrawMadeUptoSaid : Prop := drawMadeUptoRow.holds Tryd.pinned (OpenSpec.upto drawMadeSpec)

/-- 'conclavekeep.TokenBytes', WHERE WHAT IT READS IS OF BULK AT MOST 1048576: true; the input reads as it did. -/
def tokenBytesUptoRow : OpenClaim := { program := "ytdjnbnbhpjiicaadoor", sum := "8d5e56d3e88be2be374a9066a6567b9f218550fd65dad41418daabc07d10f4f4", func := "conclave/conclavekeep.TokenBytes", spec := "tokenBytes", named := ["conclave/sha.numbers"], apart := false, laid := [("conclave/sha.numbers", laid_conclave_sha_numbers)], narrowed := true }
def TokenBytesUptoSaid : Prop := tokenBytesUptoRow.holds Tryd.pinned (OpenSpec.upto tokenBytesSpec)

/-- 'conclavekeep.TokenBack', WHERE WHAT IT READS IS OF BULK AT MOST 1048576: true; the input reads as it did. -/
def tokenBackUptoRow : OpenClaim := { program := "ytdjnbnbhpjiicaadoor", sum := "8d5e56d3e88be2be374a9066a6567b9f218550fd65dad41418daabc07d10f4f4", func := "conclave/conclavekeep.TokenBack", spec := "tokenBack", named := ["conclave/sha.numbers"], apart := false, laid := [("conclave/sha.numbers", laid_conclave_sha_numbers)], narrowed := true }
def TokenBackUptoSaid : Prop := tokenBackUptoRow.holds Tryd.pinned (OpenSpec.upto tokenBackSpec)

/-- 'conclavekeep.TokenFixed', WHERE WHAT IT READS IS OF BULK AT MOST 1048576: true; the input reads as it did. -/
def tokenFixedUptoRow : OpenClaim := { program := "ytdjnbnbhpjiicaadoor", sum := "8d5e56d3e88be2be374a9066a6567b9f218550fd65dad41418daabc07d10f4f4", func := "conclave/conclavekeep.TokenFixed", spec := "tokenFixed", named := ["conclave/sha.numbers"], apart := false, laid := [("conclave/sha.numbers", laid_conclave_sha_numbers)], narrowed := true }
def TokenFixedUptoSaid : Prop := tokenFixedUptoRow.holds Tryd.pinned (OpenSpec.upto tokenFixedSpec)

/-- 'conclavekeep.ChainTells', WHERE WHAT IT READS IS OF BULK AT MOST 1048576: true; the input reads as it did. -/
def chainTellsUptoRow : OpenClaim := { program := "ytdjnbnbhpjiicaadoor", sum := "8d5e56d3e88be2be374a9066a6567b9f218550fd65dad41418daabc07d10f4f4", func := "conclave/conclavekeep.ChainTells", spec := "chainTells", named := ["conclave/sha.numbers"], apart := false, laid := [("conclave/sha.numbers", laid_conclave_sha_numbers)], narrowed := true }
def ChainTellsUptoSaid : Prop := chainTellsUptoRow.holds Tryd.pinned (OpenSpec.upto chainTellsSpec)

/-- 'conclavekeep.ChainCut', WHERE WHAT IT READS IS OF BULK AT MOST 1048576: true; the input reads as it did. -/
def chainCutUptoRow : OpenClaim := { program := "ytdjnbnbhpjiicaadoor", sum := "8d5e56d3e88be2be374a9066a6567b9f218550fd65dad41418daabc07d10f4f4", func := "conclave/conclavekeep.ChainCut", spec := "chainCut", named := ["conclave/sha.numbers"], apart := false, laid := [("conclave/sha.numbers", laid_conclave_sha_numbers)], narrowed := true }
def ChainCutUptoSaid : Prop := chainCutUptoRow.holds Tryd.pinned (OpenSpec.upto chainCutSpec)

/-- 'conclavekeep.ChainLink', WHERE WHAT IT READS IS OF BULK AT MOST 1048576: true; the input reads as it did. -/
def chainLinkUptoRow : OpenClaim := { program := "ytdjnbnbhpjiicaadoor", sum := "8d5e56d3e88be2be374a9066a6567b9f218550fd65dad41418daabc07d10f4f4", func := "conclave/conclavekeep.ChainLink", spec := "chainLink", named := ["conclave/sha.numbers"], apart := false, laid := [("conclave/sha.numbers", laid_conclave_sha_numbers)], narrowed := true }
def ChainLinkUptoSaid : Prop := chainLinkUptoRow.holds Tryd.pinned (OpenSpec.upto chainLinkSpec)

/-- 'conclavekeep.AuditRight', WHERE WHAT IT READS IS OF BULK AT MOST 1048576: true; the input reads as it did. -/
def auditRightUptoRow : OpenClaim := { program := "ytdjnbnbhpjiicaadoor", sum := "8d5e56d3e88be2be374a9066a6567b9f218550fd65dad41418daabc07d10f4f4", func := "conclave/conclavekeep.AuditRight", spec := "auditRight", named := ["conclave/sha.numbers"], apart := false, laid := [("conclave/sha.numbers", laid_conclave_sha_numbers)], narrowed := true }
def AuditRightUptoSaid : Prop := auditRightUptoRow.holds Tryd.pinned (OpenSpec.upto auditRightSpec)

/-- 'conclavekeep.AuditCut', WHERE WHAT IT READS IS OF BULK AT MOST 1048576: true; the input reads as it did. -/
def auditCutUptoRow : OpenClaim := { program := "ytdjnbnbhpjiicaadoor", sum := "8d5e56d3e88be2be374a9066a6567b9f218550fd65dad41418daabc07d10f4f4", func := "conclave/conclavekeep.AuditCut", spec := "auditCut", named := ["conclave/sha.numbers"], apart := false, laid := [("conclave/sha.numbers", laid_conclave_sha_numbers)], narrowed := true }
def AuditCutUptoSaid : Prop := auditCutUptoRow.holds Tryd.pinned (OpenSpec.upto auditCutSpec)

/-- 'conclavekeep.PackApart', WHERE WHAT IT READS IS OF BULK AT MOST 1048576: true; the input reads as it did. -/
def packApartUptoRow : OpenClaim := { program := "ytdjnbnbhpjiicaadoor", sum := "8d5e56d3e88be2be374a9066a6567b9f218550fd65dad41418daabc07d10f4f4", func := "conclave/conclavekeep.PackApart", spec := "packApart", named := ["conclave/sha.numbers"], apart := false, laid := [("conclave/sha.numbers", laid_conclave_sha_numbers)], narrowed := true }
def PackApartUptoSaid : Prop := packApartUptoRow.holds Tryd.pinned (OpenSpec.upto packApartSpec)

end Rows
end Go.Proofs.YtdjnbnbhpjiicaaDoor
