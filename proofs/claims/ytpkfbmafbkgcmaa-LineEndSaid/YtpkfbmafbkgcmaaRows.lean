/-
  No cell of these rows narrows 'for every input' (looked for: loops, veiled, ifaces, maps, wideKeys, modest, calm, conditions, laid).
  DERIVED. THE GIVEN ROWS OF THIS SEAT. 23 by the template 'for every input the law returns true; each argument reads behind the call as it read before'; 0 by the template 'total and deterministic' (their statements: YtpkfbmafbkgcmaaTotals.lean).
  GIVEN WITH THE SEED: the statements are not yours to turn. If you find one false, say at which input.
  Laid BY PROGRAM, IN A SANDBOX (cutbox-rows.mjs): the forced cells as the released guide's own fill.sh prints them over the translation 130005f37d151559… (all of the seat's roots in one cut). By AI agents, Wed Nov 11 2026. No macro, syntax, notation, axiom, sorry.
-/
import Derived.Test.YtpkfbmafbkgcmaaChecked
import GoSem.Claim
import GoSem.ClaimJoined
import GoSem.ClaimMapViews
import Derived.JoinedTies
import Derived.KernelRfl
namespace Go.Proofs.Ytpkfbmafbkgcmaa
/- THE CELL 'sum', in the pinned program and in every row, IS THE sha256 OF THE DUMP (.gsa) THAT YtpkfbmafbkgcmaaProg.lean LOADS. Nothing in Lean hashes anything: it is a label: what it is worth is what the hold of that sum in a sandbox is worth. -/
noncomputable def Try.pinned : Pinned := { name := "ytpkfbmafbkgcmaa", sum := "130005f37d15155939a7dad1f86ad01c0af82af0bc04860a64e7cae29875039f", checked := Try.checked }
namespace Rows
def none {H : Type} : Left H := { results := [], args := [] }

/-- 'conclavekeep.KnownBlock': WHATEVER THE INPUT: true; the input reads as it did. -/
def knownBlockSpec : ChangeSpec := { name := "knownBlock", fn := fun _ => fun
  | [] => { results := [.lit (.bool true)], args := [] }
  | _ => none }
def knownBlockRow : OpenClaim := { program := "ytpkfbmafbkgcmaa", sum := "130005f37d15155939a7dad1f86ad01c0af82af0bc04860a64e7cae29875039f", func := "conclave/conclavekeep.KnownBlock", spec := "knownBlock", apart := false }
def KnownBlockSaid : Prop := knownBlockRow.holds Try.pinned (OpenSpec.ofChange knownBlockSpec)

/-- ITS FALSE NEIGHBOUR: 'it returns false'. Refute it at one input. -/
def knownBlockWrong : ChangeSpec := { name := "knownBlock", fn := fun _ => fun
  | [] => { results := [.lit (.bool false)], args := [] }
  | _ => none }
def KnownBlockWrongFalsely : Prop := knownBlockRow.holds Try.pinned (OpenSpec.ofChange knownBlockWrong)

/-- 'conclavekeep.MixTwice': WHATEVER THE INPUT: true; the input reads as it did. -/
def mixTwiceSpec : ChangeSpec := { name := "mixTwice", fn := fun _ => fun
  | [d1, d2, d3, d4] => { results := [.lit (.bool true)], args := [d1, d2, d3, d4] }
  | _ => none }
def mixTwiceRow : OpenClaim := { program := "ytpkfbmafbkgcmaa", sum := "130005f37d15155939a7dad1f86ad01c0af82af0bc04860a64e7cae29875039f", func := "conclave/conclavekeep.MixTwice", spec := "mixTwice", apart := false }
def MixTwiceSaid : Prop := mixTwiceRow.holds Try.pinned (OpenSpec.ofChange mixTwiceSpec)

/-- ITS FALSE NEIGHBOUR: 'it returns false'. Refute it at one input. -/
def mixTwiceWrong : ChangeSpec := { name := "mixTwice", fn := fun _ => fun
  | [d1, d2, d3, d4] => { results := [.lit (.bool false)], args := [d1, d2, d3, d4] }
  | _ => none }
def MixTwiceWrongFalsely : Prop := mixTwiceRow.holds Try.pinned (OpenSpec.ofChange mixTwiceWrong)

/-- 'conclavekeep.MixStep': WHATEVER THE INPUT: true; the input reads as it did. -/
def mixStepSpec : ChangeSpec := { name := "mixStep", fn := fun _ => fun
  | [d1, d2, d3, d4] => { results := [.lit (.bool true)], args := [d1, d2, d3, d4] }
  | _ => none }
def mixStepRow : OpenClaim := { program := "ytpkfbmafbkgcmaa", sum := "130005f37d15155939a7dad1f86ad01c0af82af0bc04860a64e7cae29875039f", func := "conclave/conclavekeep.MixStep", spec := "mixStep", apart := false }
def MixStepSaid : Prop := mixStepRow.holds Try.pinned (OpenSpec.ofChange mixStepSpec)

/-- ITS FALSE NEIGHBOUR: 'it returns false'. Refute it at one input. -/
def mixStepWrong : ChangeSpec := { name := "mixStep", fn := fun _ => fun
  | [d1, d2, d3, d4] => { results := [.lit (.bool false)], args := [d1, d2, d3, d4] }
  | _ => none }
def MixStepWrongFalsely : Prop := mixStepRow.holds Try.pinned (OpenSpec.ofChange mixStepWrong)

/-- 'conclavekeep.MixBlocks': WHATEVER THE INPUT: true; the input reads as it did. -/
def mixBlocksSpec : ChangeSpec := { name := "mixBlocks", fn := fun _ => fun
  | [d1, d2, d3, d4] => { results := [.lit (.bool true)], args := [d1, d2, d3, d4] }
  | _ => none }
def mixBlocksRow : OpenClaim := { program := "ytpkfbmafbkgcmaa", sum := "130005f37d15155939a7dad1f86ad01c0af82af0bc04860a64e7cae29875039f", func := "conclave/conclavekeep.MixBlocks", spec := "mixBlocks", apart := false }
def MixBlocksSaid : Prop := mixBlocksRow.holds Try.pinned (OpenSpec.ofChange mixBlocksSpec)

/-- ITS FALSE NEIGHBOUR: 'it returns false'. Refute it at one input. -/
def mixBlocksWrong : ChangeSpec := { name := "mixBlocks", fn := fun _ => fun
  | [d1, d2, d3, d4] => { results := [.lit (.bool false)], args := [d1, d2, d3, d4] }
  | _ => none }
def MixBlocksWrongFalsely : Prop := mixBlocksRow.holds Try.pinned (OpenSpec.ofChange mixBlocksWrong)

/-- 'conclavekeep.TagNought': WHATEVER THE INPUT: true; the input reads as it did. -/
def tagNoughtSpec : ChangeSpec := { name := "tagNought", fn := fun _ => fun
  | [d1, d2] => { results := [.lit (.bool true)], args := [d1, d2] }
  | _ => none }
def tagNoughtRow : OpenClaim := { program := "ytpkfbmafbkgcmaa", sum := "130005f37d15155939a7dad1f86ad01c0af82af0bc04860a64e7cae29875039f", func := "conclave/conclavekeep.TagNought", spec := "tagNought", apart := false }
def TagNoughtSaid : Prop := tagNoughtRow.holds Try.pinned (OpenSpec.ofChange tagNoughtSpec)

/-- ITS FALSE NEIGHBOUR: 'it returns false'. Refute it at one input. -/
def tagNoughtWrong : ChangeSpec := { name := "tagNought", fn := fun _ => fun
  | [d1, d2] => { results := [.lit (.bool false)], args := [d1, d2] }
  | _ => none }
def TagNoughtWrongFalsely : Prop := tagNoughtRow.holds Try.pinned (OpenSpec.ofChange tagNoughtWrong)

/-- 'conclavekeep.TagShift': WHATEVER THE INPUT: true; the input reads as it did. -/
def tagShiftSpec : ChangeSpec := { name := "tagShift", fn := fun _ => fun
  | [d1, d2] => { results := [.lit (.bool true)], args := [d1, d2] }
  | _ => none }
def tagShiftRow : OpenClaim := { program := "ytpkfbmafbkgcmaa", sum := "130005f37d15155939a7dad1f86ad01c0af82af0bc04860a64e7cae29875039f", func := "conclave/conclavekeep.TagShift", spec := "tagShift", apart := false }
def TagShiftSaid : Prop := tagShiftRow.holds Try.pinned (OpenSpec.ofChange tagShiftSpec)

/-- ITS FALSE NEIGHBOUR: 'it returns false'. Refute it at one input. -/
def tagShiftWrong : ChangeSpec := { name := "tagShift", fn := fun _ => fun
  | [d1, d2] => { results := [.lit (.bool false)], args := [d1, d2] }
  | _ => none }
def TagShiftWrongFalsely : Prop := tagShiftRow.holds Try.pinned (OpenSpec.ofChange tagShiftWrong)

/-- 'conclavekeep.TagBits': WHATEVER THE INPUT: true; the input reads as it did. -/
def tagBitsSpec : ChangeSpec := { name := "tagBits", fn := fun _ => fun
  | [d1, d2, d3] => { results := [.lit (.bool true)], args := [d1, d2, d3] }
  | _ => none }
def tagBitsRow : OpenClaim := { program := "ytpkfbmafbkgcmaa", sum := "130005f37d15155939a7dad1f86ad01c0af82af0bc04860a64e7cae29875039f", func := "conclave/conclavekeep.TagBits", spec := "tagBits", apart := false }
def TagBitsSaid : Prop := tagBitsRow.holds Try.pinned (OpenSpec.ofChange tagBitsSpec)

/-- ITS FALSE NEIGHBOUR: 'it returns false'. Refute it at one input. -/
def tagBitsWrong : ChangeSpec := { name := "tagBits", fn := fun _ => fun
  | [d1, d2, d3] => { results := [.lit (.bool false)], args := [d1, d2, d3] }
  | _ => none }
def TagBitsWrongFalsely : Prop := tagBitsRow.holds Try.pinned (OpenSpec.ofChange tagBitsWrong)

/-- 'conclavekeep.TagOne': WHATEVER THE INPUT: true; the input reads as it did. -/
def tagOneSpec : ChangeSpec := { name := "tagOne", fn := fun _ => fun
  | [d1, d2] => { results := [.lit (.bool true)], args := [d1, d2] }
  | _ => none }
def tagOneRow : OpenClaim := { program := "ytpkfbmafbkgcmaa", sum := "130005f37d15155939a7dad1f86ad01c0af82af0bc04860a64e7cae29875039f", func := "conclave/conclavekeep.TagOne", spec := "tagOne", apart := false }
def TagOneSaid : Prop := tagOneRow.holds Try.pinned (OpenSpec.ofChange tagOneSpec)

/-- ITS FALSE NEIGHBOUR: 'it returns false'. Refute it at one input. -/
def tagOneWrong : ChangeSpec := { name := "tagOne", fn := fun _ => fun
  | [d1, d2] => { results := [.lit (.bool false)], args := [d1, d2] }
  | _ => none }
def TagOneWrongFalsely : Prop := tagOneRow.holds Try.pinned (OpenSpec.ofChange tagOneWrong)

/-- 'conclavekeep.KnownTag': WHATEVER THE INPUT: true; the input reads as it did. -/
def knownTagSpec : ChangeSpec := { name := "knownTag", fn := fun _ => fun
  | [] => { results := [.lit (.bool true)], args := [] }
  | _ => none }
def knownTagRow : OpenClaim := { program := "ytpkfbmafbkgcmaa", sum := "130005f37d15155939a7dad1f86ad01c0af82af0bc04860a64e7cae29875039f", func := "conclave/conclavekeep.KnownTag", spec := "knownTag", apart := false }
def KnownTagSaid : Prop := knownTagRow.holds Try.pinned (OpenSpec.ofChange knownTagSpec)

/-- ITS FALSE NEIGHBOUR: 'it returns false'. Refute it at one input. -/
def knownTagWrong : ChangeSpec := { name := "knownTag", fn := fun _ => fun
  | [] => { results := [.lit (.bool false)], args := [] }
  | _ => none }
def KnownTagWrongFalsely : Prop := knownTagRow.holds Try.pinned (OpenSpec.ofChange knownTagWrong)

/-- 'conclavekeep.TagTwo': WHATEVER THE INPUT: true; the input reads as it did. -/
def tagTwoSpec : ChangeSpec := { name := "tagTwo", fn := fun _ => fun
  | [d1, d2, d3] => { results := [.lit (.bool true)], args := [d1, d2, d3] }
  | _ => none }
def tagTwoRow : OpenClaim := { program := "ytpkfbmafbkgcmaa", sum := "130005f37d15155939a7dad1f86ad01c0af82af0bc04860a64e7cae29875039f", func := "conclave/conclavekeep.TagTwo", spec := "tagTwo", apart := false }
def TagTwoSaid : Prop := tagTwoRow.holds Try.pinned (OpenSpec.ofChange tagTwoSpec)

/-- ITS FALSE NEIGHBOUR: 'it returns false'. Refute it at one input. -/
def tagTwoWrong : ChangeSpec := { name := "tagTwo", fn := fun _ => fun
  | [d1, d2, d3] => { results := [.lit (.bool false)], args := [d1, d2, d3] }
  | _ => none }
def TagTwoWrongFalsely : Prop := tagTwoRow.holds Try.pinned (OpenSpec.ofChange tagTwoWrong)

/-- 'conclavekeep.SealMixed': WHATEVER THE INPUT: true; the input reads as it did. -/
def sealMixedSpec : ChangeSpec := { name := "sealMixed", fn := fun _ => fun
  | [d1, d2, d3, d4] => { results := [.lit (.bool true)], args := [d1, d2, d3, d4] }
  | _ => none }
def sealMixedRow : OpenClaim := { program := "ytpkfbmafbkgcmaa", sum := "130005f37d15155939a7dad1f86ad01c0af82af0bc04860a64e7cae29875039f", func := "conclave/conclavekeep.SealMixed", spec := "sealMixed", apart := false }
def SealMixedSaid : Prop := sealMixedRow.holds Try.pinned (OpenSpec.ofChange sealMixedSpec)

/-- ITS FALSE NEIGHBOUR: 'it returns false'. Refute it at one input. -/
def sealMixedWrong : ChangeSpec := { name := "sealMixed", fn := fun _ => fun
  | [d1, d2, d3, d4] => { results := [.lit (.bool false)], args := [d1, d2, d3, d4] }
  | _ => none }
def SealMixedWrongFalsely : Prop := sealMixedRow.holds Try.pinned (OpenSpec.ofChange sealMixedWrong)

/-- 'conclavekeep.SealTag': WHATEVER THE INPUT: true; the input reads as it did. -/
def sealTagSpec : ChangeSpec := { name := "sealTag", fn := fun _ => fun
  | [d1, d2, d3, d4] => { results := [.lit (.bool true)], args := [d1, d2, d3, d4] }
  | _ => none }
def sealTagRow : OpenClaim := { program := "ytpkfbmafbkgcmaa", sum := "130005f37d15155939a7dad1f86ad01c0af82af0bc04860a64e7cae29875039f", func := "conclave/conclavekeep.SealTag", spec := "sealTag", apart := false }
def SealTagSaid : Prop := sealTagRow.holds Try.pinned (OpenSpec.ofChange sealTagSpec)

/-- ITS FALSE NEIGHBOUR: 'it returns false'. Refute it at one input. -/
def sealTagWrong : ChangeSpec := { name := "sealTag", fn := fun _ => fun
  | [d1, d2, d3, d4] => { results := [.lit (.bool false)], args := [d1, d2, d3, d4] }
  | _ => none }
def SealTagWrongFalsely : Prop := sealTagRow.holds Try.pinned (OpenSpec.ofChange sealTagWrong)

/-- 'conclavekeep.SealBack': WHATEVER THE INPUT: true; the input reads as it did. -/
def sealBackSpec : ChangeSpec := { name := "sealBack", fn := fun _ => fun
  | [d1, d2, d3, d4] => { results := [.lit (.bool true)], args := [d1, d2, d3, d4] }
  | _ => none }
def sealBackRow : OpenClaim := { program := "ytpkfbmafbkgcmaa", sum := "130005f37d15155939a7dad1f86ad01c0af82af0bc04860a64e7cae29875039f", func := "conclave/conclavekeep.SealBack", spec := "sealBack", apart := false }
def SealBackSaid : Prop := sealBackRow.holds Try.pinned (OpenSpec.ofChange sealBackSpec)

/-- ITS FALSE NEIGHBOUR: 'it returns false'. Refute it at one input. -/
def sealBackWrong : ChangeSpec := { name := "sealBack", fn := fun _ => fun
  | [d1, d2, d3, d4] => { results := [.lit (.bool false)], args := [d1, d2, d3, d4] }
  | _ => none }
def SealBackWrongFalsely : Prop := sealBackRow.holds Try.pinned (OpenSpec.ofChange sealBackWrong)

/-- 'conclavekeep.OpenFixed': WHATEVER THE INPUT: true; the input reads as it did. -/
def openFixedSpec : ChangeSpec := { name := "openFixed", fn := fun _ => fun
  | [d1, d2, d3, d4] => { results := [.lit (.bool true)], args := [d1, d2, d3, d4] }
  | _ => none }
def openFixedRow : OpenClaim := { program := "ytpkfbmafbkgcmaa", sum := "130005f37d15155939a7dad1f86ad01c0af82af0bc04860a64e7cae29875039f", func := "conclave/conclavekeep.OpenFixed", spec := "openFixed", apart := false }
def OpenFixedSaid : Prop := openFixedRow.holds Try.pinned (OpenSpec.ofChange openFixedSpec)

/-- ITS FALSE NEIGHBOUR: 'it returns false'. Refute it at one input. -/
def openFixedWrong : ChangeSpec := { name := "openFixed", fn := fun _ => fun
  | [d1, d2, d3, d4] => { results := [.lit (.bool false)], args := [d1, d2, d3, d4] }
  | _ => none }
def OpenFixedWrongFalsely : Prop := openFixedRow.holds Try.pinned (OpenSpec.ofChange openFixedWrong)

/-- 'conclavekeep.SealSize': WHATEVER THE INPUT: true; the input reads as it did. -/
def sealSizeSpec : ChangeSpec := { name := "sealSize", fn := fun _ => fun
  | [d1, d2, d3] => { results := [.lit (.bool true)], args := [d1, d2, d3] }
  | _ => none }
def sealSizeRow : OpenClaim := { program := "ytpkfbmafbkgcmaa", sum := "130005f37d15155939a7dad1f86ad01c0af82af0bc04860a64e7cae29875039f", func := "conclave/conclavekeep.SealSize", spec := "sealSize", apart := false }
def SealSizeSaid : Prop := sealSizeRow.holds Try.pinned (OpenSpec.ofChange sealSizeSpec)

/-- ITS FALSE NEIGHBOUR: 'it returns false'. Refute it at one input. -/
def sealSizeWrong : ChangeSpec := { name := "sealSize", fn := fun _ => fun
  | [d1, d2, d3] => { results := [.lit (.bool false)], args := [d1, d2, d3] }
  | _ => none }
def SealSizeWrongFalsely : Prop := sealSizeRow.holds Try.pinned (OpenSpec.ofChange sealSizeWrong)

/-- 'conclavekeep.SealEmpty': WHATEVER THE INPUT: true; the input reads as it did. -/
def sealEmptySpec : ChangeSpec := { name := "sealEmpty", fn := fun _ => fun
  | [d1, d2, d3] => { results := [.lit (.bool true)], args := [d1, d2, d3] }
  | _ => none }
def sealEmptyRow : OpenClaim := { program := "ytpkfbmafbkgcmaa", sum := "130005f37d15155939a7dad1f86ad01c0af82af0bc04860a64e7cae29875039f", func := "conclave/conclavekeep.SealEmpty", spec := "sealEmpty", apart := false }
def SealEmptySaid : Prop := sealEmptyRow.holds Try.pinned (OpenSpec.ofChange sealEmptySpec)

/-- ITS FALSE NEIGHBOUR: 'it returns false'. Refute it at one input. -/
def sealEmptyWrong : ChangeSpec := { name := "sealEmpty", fn := fun _ => fun
  | [d1, d2, d3] => { results := [.lit (.bool false)], args := [d1, d2, d3] }
  | _ => none }
def SealEmptyWrongFalsely : Prop := sealEmptyRow.holds Try.pinned (OpenSpec.ofChange sealEmptyWrong)

/-- 'conclavekeep.LineEnd': WHATEVER THE INPUT: true; the input reads as it did. -/
def lineEndSpec : ChangeSpec := { name := "lineEnd", fn := fun _ => fun
  | [d1, d2, d3] => { results := [.lit (.bool true)], args := [d1, d2, d3] }
  | _ => none }
def lineEndRow : OpenClaim := { program := "ytpkfbmafbkgcmaa", sum := "130005f37d15155939a7dad1f86ad01c0af82af0bc04860a64e7cae29875039f", func := "conclave/conclavekeep.LineEnd", spec := "lineEnd", apart := false }
def LineEndSaid : Prop := lineEndRow.holds Try.pinned (OpenSpec.ofChange lineEndSpec)

/-- ITS FALSE NEIGHBOUR: 'it returns false'. Refute it at one input. -/
def lineEndWrong : ChangeSpec := { name := "lineEnd", fn := fun _ => fun
  | [d1, d2, d3] => { results := [.lit (.bool false)], args := [d1, d2, d3] }
  | _ => none }
def LineEndWrongFalsely : Prop := lineEndRow.holds Try.pinned (OpenSpec.ofChange lineEndWrong)

/-- 'conclavekeep.LineGap': WHATEVER THE INPUT: true; the input reads as it did. -/
def lineGapSpec : ChangeSpec := { name := "lineGap", fn := fun _ => fun
  | [d1, d2, d3] => { results := [.lit (.bool true)], args := [d1, d2, d3] }
  | _ => none }
def lineGapRow : OpenClaim := { program := "ytpkfbmafbkgcmaa", sum := "130005f37d15155939a7dad1f86ad01c0af82af0bc04860a64e7cae29875039f", func := "conclave/conclavekeep.LineGap", spec := "lineGap", apart := false }
def LineGapSaid : Prop := lineGapRow.holds Try.pinned (OpenSpec.ofChange lineGapSpec)

/-- ITS FALSE NEIGHBOUR: 'it returns false'. Refute it at one input. -/
def lineGapWrong : ChangeSpec := { name := "lineGap", fn := fun _ => fun
  | [d1, d2, d3] => { results := [.lit (.bool false)], args := [d1, d2, d3] }
  | _ => none }
def LineGapWrongFalsely : Prop := lineGapRow.holds Try.pinned (OpenSpec.ofChange lineGapWrong)

/-- 'conclavekeep.LineBack': WHATEVER THE INPUT: true; the input reads as it did. -/
def lineBackSpec : ChangeSpec := { name := "lineBack", fn := fun _ => fun
  | [d1, d2] => { results := [.lit (.bool true)], args := [d1, d2] }
  | _ => none }
def lineBackRow : OpenClaim := { program := "ytpkfbmafbkgcmaa", sum := "130005f37d15155939a7dad1f86ad01c0af82af0bc04860a64e7cae29875039f", func := "conclave/conclavekeep.LineBack", spec := "lineBack", apart := false }
def LineBackSaid : Prop := lineBackRow.holds Try.pinned (OpenSpec.ofChange lineBackSpec)

/-- ITS FALSE NEIGHBOUR: 'it returns false'. Refute it at one input. -/
def lineBackWrong : ChangeSpec := { name := "lineBack", fn := fun _ => fun
  | [d1, d2] => { results := [.lit (.bool false)], args := [d1, d2] }
  | _ => none }
def LineBackWrongFalsely : Prop := lineBackRow.holds Try.pinned (OpenSpec.ofChange lineBackWrong)

/-- 'conclavekeep.LineOnce': WHATEVER THE INPUT: true; the input reads as it did. -/
def lineOnceSpec : ChangeSpec := { name := "lineOnce", fn := fun _ => fun
  | [d1, d2, d3] => { results := [.lit (.bool true)], args := [d1, d2, d3] }
  | _ => none }
def lineOnceRow : OpenClaim := { program := "ytpkfbmafbkgcmaa", sum := "130005f37d15155939a7dad1f86ad01c0af82af0bc04860a64e7cae29875039f", func := "conclave/conclavekeep.LineOnce", spec := "lineOnce", apart := false }
def LineOnceSaid : Prop := lineOnceRow.holds Try.pinned (OpenSpec.ofChange lineOnceSpec)

/-- ITS FALSE NEIGHBOUR: 'it returns false'. Refute it at one input. -/
def lineOnceWrong : ChangeSpec := { name := "lineOnce", fn := fun _ => fun
  | [d1, d2, d3] => { results := [.lit (.bool false)], args := [d1, d2, d3] }
  | _ => none }
def LineOnceWrongFalsely : Prop := lineOnceRow.holds Try.pinned (OpenSpec.ofChange lineOnceWrong)

/-- 'conclavekeep.LineTurns': WHATEVER THE INPUT: true; the input reads as it did. -/
def lineTurnsSpec : ChangeSpec := { name := "lineTurns", fn := fun _ => fun
  | [d1, d2, d3] => { results := [.lit (.bool true)], args := [d1, d2, d3] }
  | _ => none }
def lineTurnsRow : OpenClaim := { program := "ytpkfbmafbkgcmaa", sum := "130005f37d15155939a7dad1f86ad01c0af82af0bc04860a64e7cae29875039f", func := "conclave/conclavekeep.LineTurns", spec := "lineTurns", apart := false }
def LineTurnsSaid : Prop := lineTurnsRow.holds Try.pinned (OpenSpec.ofChange lineTurnsSpec)

/-- ITS FALSE NEIGHBOUR: 'it returns false'. Refute it at one input. -/
def lineTurnsWrong : ChangeSpec := { name := "lineTurns", fn := fun _ => fun
  | [d1, d2, d3] => { results := [.lit (.bool false)], args := [d1, d2, d3] }
  | _ => none }
def LineTurnsWrongFalsely : Prop := lineTurnsRow.holds Try.pinned (OpenSpec.ofChange lineTurnsWrong)

/-- 'conclavekeep.LineFixed': WHATEVER THE INPUT: true; the input reads as it did. -/
def lineFixedSpec : ChangeSpec := { name := "lineFixed", fn := fun _ => fun
  | [d1, d2] => { results := [.lit (.bool true)], args := [d1, d2] }
  | _ => none }
def lineFixedRow : OpenClaim := { program := "ytpkfbmafbkgcmaa", sum := "130005f37d15155939a7dad1f86ad01c0af82af0bc04860a64e7cae29875039f", func := "conclave/conclavekeep.LineFixed", spec := "lineFixed", apart := false }
def LineFixedSaid : Prop := lineFixedRow.holds Try.pinned (OpenSpec.ofChange lineFixedSpec)

/-- ITS FALSE NEIGHBOUR: 'it returns false'. Refute it at one input. -/
def lineFixedWrong : ChangeSpec := { name := "lineFixed", fn := fun _ => fun
  | [d1, d2] => { results := [.lit (.bool false)], args := [d1, d2] }
  | _ => none }
def LineFixedWrongFalsely : Prop := lineFixedRow.holds Try.pinned (OpenSpec.ofChange lineFixedWrong)

/-- 'conclavekeep.LineWays': WHATEVER THE INPUT: true; the input reads as it did. -/
def lineWaysSpec : ChangeSpec := { name := "lineWays", fn := fun _ => fun
  | [d1, d2] => { results := [.lit (.bool true)], args := [d1, d2] }
  | _ => none }
def lineWaysRow : OpenClaim := { program := "ytpkfbmafbkgcmaa", sum := "130005f37d15155939a7dad1f86ad01c0af82af0bc04860a64e7cae29875039f", func := "conclave/conclavekeep.LineWays", spec := "lineWays", apart := false }
def LineWaysSaid : Prop := lineWaysRow.holds Try.pinned (OpenSpec.ofChange lineWaysSpec)

/-- ITS FALSE NEIGHBOUR: 'it returns false'. Refute it at one input. -/
def lineWaysWrong : ChangeSpec := { name := "lineWays", fn := fun _ => fun
  | [d1, d2] => { results := [.lit (.bool false)], args := [d1, d2] }
  | _ => none }
def LineWaysWrongFalsely : Prop := lineWaysRow.holds Try.pinned (OpenSpec.ofChange lineWaysWrong)

/- THE SECOND FORM. 'bulk': how many values and letters a reading holds, each counted each time it is reached (what is shared counts as often as it is met; a slice's spare places count too). A statement '..UptoSaid' is the law's where the arguments, and the package variables that the reading takes, are together of bulk at most 1048576: NARROWER than '..Said'. Prove '..Said' where nothing that the law and all that it calls make is longer than what came in: it says more and counts as full. Else prove '..UptoSaid'. A law counts once. -/
mutual
def uptoBulk {H : Type} : DataW H → Nat
  | .lit (.string bytes) => bytes.length + 1
  | .lit _ => 1
  | .nil => 1
  | .ptr d => uptoBulk d + 1
  | .slice elems spare => uptoBulkAll elems + uptoBulkAll spare + 1
  | .agg parts => uptoBulkAll parts + 1
  | .iface _ d => uptoBulk d + 1
  | .map entries => uptoBulkEntries entries + 1
  | .held _ => 1
def uptoBulkAll {H : Type} : List (DataW H) → Nat
  | [] => 0
  | d :: r => uptoBulk d + uptoBulkAll r
def uptoBulkEntries {H : Type} : List (Lit × DataW H) → Nat
  | [] => 0
  | x :: r => uptoBulkEntry x + uptoBulkEntries r
def uptoBulkEntry {H : Type} : Lit × DataW H → Nat
  | (.string bytes, d) => bytes.length + uptoBulk d + 1
  | (_, d) => uptoBulk d + 1
 end
def uptoSmall : (H : Type) → List (DataW H) → Bool := fun _ ds => decide (uptoBulkAll ds ≤ 1048576)
def OpenSpec.upto (s : _root_.Go.ChangeSpec) : _root_.Go.OpenSpec := { _root_.Go.OpenSpec.ofChange s with cond := some uptoSmall }

/-- 'conclavekeep.KnownBlock', WHERE WHAT IT READS IS OF BULK AT MOST 1048576: true; the input reads as it did. -/
def knownBlockUptoRow : OpenClaim := { program := "ytpkfbmafbkgcmaa", sum := "130005f37d15155939a7dad1f86ad01c0af82af0bc04860a64e7cae29875039f", func := "conclave/conclavekeep.KnownBlock", spec := "knownBlock", apart := false, narrowed := true }
def KnownBlockUptoSaid : Prop := knownBlockUptoRow.holds Try.pinned (OpenSpec.upto knownBlockSpec)

/-- 'conclavekeep.MixTwice', WHERE WHAT IT READS IS OF BULK AT MOST 1048576: true; the input reads as it did. -/
def mixTwiceUptoRow : OpenClaim := { program := "ytpkfbmafbkgcmaa", sum := "130005f37d15155939a7dad1f86ad01c0af82af0bc04860a64e7cae29875039f", func := "conclave/conclavekeep.MixTwice", spec := "mixTwice", apart := false, narrowed := true }
def MixTwiceUptoSaid : Prop := mixTwiceUptoRow.holds Try.pinned (OpenSpec.upto mixTwiceSpec)

/-- 'conclavekeep.MixStep', WHERE WHAT IT READS IS OF BULK AT MOST 1048576: true; the input reads as it did. -/
def mixStepUptoRow : OpenClaim := { program := "ytpkfbmafbkgcmaa", sum := "130005f37d15155939a7dad1f86ad01c0af82af0bc04860a64e7cae29875039f", func := "conclave/conclavekeep.MixStep", spec := "mixStep", apart := false, narrowed := true }
def MixStepUptoSaid : Prop := mixStepUptoRow.holds Try.pinned (OpenSpec.upto mixStepSpec)

/-- 'conclavekeep.MixBlocks', WHERE WHAT IT READS IS OF BULK AT MOST 1048576: true; the input reads as it did. -/
def mixBlocksUptoRow : OpenClaim := { program := "ytpkfbmafbkgcmaa", sum := "130005f37d15155939a7dad1f86ad01c0af82af0bc04860a64e7cae29875039f", func := "conclave/conclavekeep.MixBlocks", spec := "mixBlocks", apart := false, narrowed := true }
def MixBlocksUptoSaid : Prop := mixBlocksUptoRow.holds Try.pinned (OpenSpec.upto mixBlocksSpec)

/-- 'conclavekeep.TagNought', WHERE WHAT IT READS IS OF BULK AT MOST 1048576: true; the input reads as it did. -/
def tagNoughtUptoRow : OpenClaim := { program := "ytpkfbmafbkgcmaa", sum := "130005f37d15155939a7dad1f86ad01c0af82af0bc04860a64e7cae29875039f", func := "conclave/conclavekeep.TagNought", spec := "tagNought", apart := false, narrowed := true }
def TagNoughtUptoSaid : Prop := tagNoughtUptoRow.holds Try.pinned (OpenSpec.upto tagNoughtSpec)

/-- 'conclavekeep.TagShift', WHERE WHAT IT READS IS OF BULK AT MOST 1048576: true; the input reads as it did. -/
def tagShiftUptoRow : OpenClaim := { program := "ytpkfbmafbkgcmaa", sum := "130005f37d15155939a7dad1f86ad01c0af82af0bc04860a64e7cae29875039f", func := "conclave/conclavekeep.TagShift", spec := "tagShift", apart := false, narrowed := true }
def TagShiftUptoSaid : Prop := tagShiftUptoRow.holds Try.pinned (OpenSpec.upto tagShiftSpec)

/-- 'conclavekeep.TagBits', WHERE WHAT IT READS IS OF BULK AT MOST 1048576: true; the input reads as it did. -/
def tagBitsUptoRow : OpenClaim := { program := "ytpkfbmafbkgcmaa", sum := "130005f37d15155939a7dad1f86ad01c0af82af0bc04860a64e7cae29875039f", func := "conclave/conclavekeep.TagBits", spec := "tagBits", apart := false, narrowed := true }
def TagBitsUptoSaid : Prop := tagBitsUptoRow.holds Try.pinned (OpenSpec.upto tagBitsSpec)

/-- 'conclavekeep.TagOne', WHERE WHAT IT READS IS OF BULK AT MOST 1048576: true; the input reads as it did. -/
def tagOneUptoRow : OpenClaim := { program := "ytpkfbmafbkgcmaa", sum := "130005f37d15155939a7dad1f86ad01c0af82af0bc04860a64e7cae29875039f", func := "conclave/conclavekeep.TagOne", spec := "tagOne", apart := false, narrowed := true }
def TagOneUptoSaid : Prop := tagOneUptoRow.holds Try.pinned (OpenSpec.upto tagOneSpec)

/-- 'conclavekeep.KnownTag', WHERE WHAT IT READS IS OF BULK AT MOST 1048576: true; the input reads as it did. -/
def knownTagUptoRow : OpenClaim := { program := "ytpkfbmafbkgcmaa", sum := "130005f37d15155939a7dad1f86ad01c0af82af0bc04860a64e7cae29875039f", func := "conclave/conclavekeep.KnownTag", spec := "knownTag", apart := false, narrowed := true }
def KnownTagUptoSaid : Prop := knownTagUptoRow.holds Try.pinned (OpenSpec.upto knownTagSpec)

/-- 'conclavekeep.TagTwo', WHERE WHAT IT READS IS OF BULK AT MOST 1048576: true; the input reads as it did. -/
def tagTwoUptoRow : OpenClaim := { program := "ytpkfbmafbkgcmaa", sum := "130005f37d15155939a7dad1f86ad01c0af82af0bc04860a64e7cae29875039f", func := "conclave/conclavekeep.TagTwo", spec := "tagTwo", apart := false, narrowed := true }
def TagTwoUptoSaid : Prop := tagTwoUptoRow.holds Try.pinned (OpenSpec.upto tagTwoSpec)

/-- 'conclavekeep.SealMixed', WHERE WHAT IT READS IS OF BULK AT MOST 1048576: true; the input reads as it did. -/
def sealMixedUptoRow : OpenClaim := { program := "ytpkfbmafbkgcmaa", sum := "130005f37d15155939a7dad1f86ad01c0af82af0bc04860a64e7cae29875039f", func := "conclave/conclavekeep.SealMixed", spec := "sealMixed", apart := false, narrowed := true }
def SealMixedUptoSaid : Prop := sealMixedUptoRow.holds Try.pinned (OpenSpec.upto sealMixedSpec)

/-- 'conclavekeep.SealTag', WHERE WHAT IT READS IS OF BULK AT MOST 1048576: true; the input reads as it did. -/
def sealTagUptoRow : OpenClaim := { program := "ytpkfbmafbkgcmaa", sum := "130005f37d15155939a7dad1f86ad01c0af82af0bc04860a64e7cae29875039f", func := "conclave/conclavekeep.SealTag", spec := "sealTag", apart := false, narrowed := true }
def SealTagUptoSaid : Prop := sealTagUptoRow.holds Try.pinned (OpenSpec.upto sealTagSpec)

/-- 'conclavekeep.SealBack', WHERE WHAT IT READS IS OF BULK AT MOST 1048576: true; the input reads as it did. -/
def sealBackUptoRow : OpenClaim := { program := "ytpkfbmafbkgcmaa", sum := "130005f37d15155939a7dad1f86ad01c0af82af0bc04860a64e7cae29875039f", func := "conclave/conclavekeep.SealBack", spec := "sealBack", apart := false, narrowed := true }
def SealBackUptoSaid : Prop := sealBackUptoRow.holds Try.pinned (OpenSpec.upto sealBackSpec)

/-- 'conclavekeep.OpenFixed', WHERE WHAT IT READS IS OF BULK AT MOST 1048576: true; the input reads as it did. -/
def openFixedUptoRow : OpenClaim := { program := "ytpkfbmafbkgcmaa", sum := "130005f37d15155939a7dad1f86ad01c0af82af0bc04860a64e7cae29875039f", func := "conclave/conclavekeep.OpenFixed", spec := "openFixed", apart := false, narrowed := true }
def OpenFixedUptoSaid : Prop := openFixedUptoRow.holds Try.pinned (OpenSpec.upto openFixedSpec)

/-- 'conclavekeep.SealSize', WHERE WHAT IT READS IS OF BULK AT MOST 1048576: true; the input reads as it did. -/
def sealSizeUptoRow : OpenClaim := { program := "ytpkfbmafbkgcmaa", sum := "130005f37d15155939a7dad1f86ad01c0af82af0bc04860a64e7cae29875039f", func := "conclave/conclavekeep.SealSize", spec := "sealSize", apart := false, narrowed := true }
def SealSizeUptoSaid : Prop := sealSizeUptoRow.holds Try.pinned (OpenSpec.upto sealSizeSpec)

/-- 'conclavekeep.SealEmpty', WHERE WHAT IT READS IS OF BULK AT MOST 1048576: true; the input reads as it did. -/
def sealEmptyUptoRow : OpenClaim := { program := "ytpkfbmafbkgcmaa", sum := "130005f37d15155939a7dad1f86ad01c0af82af0bc04860a64e7cae29875039f", func := "conclave/conclavekeep.SealEmpty", spec := "sealEmpty", apart := false, narrowed := true }
def SealEmptyUptoSaid : Prop := sealEmptyUptoRow.holds Try.pinned (OpenSpec.upto sealEmptySpec)

/-- 'conclavekeep.LineEnd', WHERE WHAT IT READS IS OF BULK AT MOST 1048576: true; the input reads as it did. -/
def lineEndUptoRow : OpenClaim := { program := "ytpkfbmafbkgcmaa", sum := "130005f37d15155939a7dad1f86ad01c0af82af0bc04860a64e7cae29875039f", func := "conclave/conclavekeep.LineEnd", spec := "lineEnd", apart := false, narrowed := true }
def LineEndUptoSaid : Prop := lineEndUptoRow.holds Try.pinned (OpenSpec.upto lineEndSpec)

/-- 'conclavekeep.LineGap', WHERE WHAT IT READS IS OF BULK AT MOST 1048576: true; the input reads as it did. -/
def lineGapUptoRow : OpenClaim := { program := "ytpkfbmafbkgcmaa", sum := "130005f37d15155939a7dad1f86ad01c0af82af0bc04860a64e7cae29875039f", func := "conclave/conclavekeep.LineGap", spec := "lineGap", apart := false, narrowed := true }
def LineGapUptoSaid : Prop := lineGapUptoRow.holds Try.pinned (OpenSpec.upto lineGapSpec)

/-- 'conclavekeep.LineBack', WHERE WHAT IT READS IS OF BULK AT MOST 1048576: true; the input reads as it did. -/
def lineBackUptoRow : OpenClaim := { program := "ytpkfbmafbkgcmaa", sum := "130005f37d15155939a7dad1f86ad01c0af82af0bc04860a64e7cae29875039f", func := "conclave/conclavekeep.LineBack", spec := "lineBack", apart := false, narrowed := true }
def LineBackUptoSaid : Prop := lineBackUptoRow.holds Try.pinned (OpenSpec.upto lineBackSpec)

/-- 'conclavekeep.LineOnce', WHERE WHAT IT READS IS OF BULK AT MOST 1048576: true; the input reads as it did. -/
def lineOnceUptoRow : OpenClaim := { program := "ytpkfbmafbkgcmaa", sum := "130005f37d15155939a7dad1f86ad01c0af82af0bc04860a64e7cae29875039f", func := "conclave/conclavekeep.LineOnce", spec := "lineOnce", apart := false, narrowed := true }
def LineOnceUptoSaid : Prop := lineOnceUptoRow.holds Try.pinned (OpenSpec.upto lineOnceSpec)

/-- 'conclavekeep.LineTurns', WHERE WHAT IT READS IS OF BULK AT MOST 1048576: true; the input reads as it did. -/
def lineTurnsUptoRow : OpenClaim := { program := "ytpkfbmafbkgcmaa", sum := "130005f37d15155939a7dad1f86ad01c0af82af0bc04860a64e7cae29875039f", func := "conclave/conclavekeep.LineTurns", spec := "lineTurns", apart := false, narrowed := true }
def LineTurnsUptoSaid : Prop := lineTurnsUptoRow.holds Try.pinned (OpenSpec.upto lineTurnsSpec)

/-- 'conclavekeep.LineFixed', WHERE WHAT IT READS IS OF BULK AT MOST 1048576: true; the input reads as it did. -/
def lineFixedUptoRow : OpenClaim := { program := "ytpkfbmafbkgcmaa", sum := "130005f37d15155939a7dad1f86ad01c0af82af0bc04860a64e7cae29875039f", func := "conclave/conclavekeep.LineFixed", spec := "lineFixed", apart := false, narrowed := true }
def LineFixedUptoSaid : Prop := lineFixedUptoRow.holds Try.pinned (OpenSpec.upto lineFixedSpec)

/-- 'conclavekeep.LineWays', WHERE WHAT IT READS IS OF BULK AT MOST 1048576: true; the input reads as it did. -/
def lineWaysUptoRow : OpenClaim := { program := "ytpkfbmafbkgcmaa", sum := "130005f37d15155939a7dad1f86ad01c0af82af0bc04860a64e7cae29875039f", func := "conclave/conclavekeep.LineWays", spec := "lineWays", apart := false, narrowed := true }
def LineWaysUptoSaid : Prop := lineWaysUptoRow.holds Try.pinned (OpenSpec.upto lineWaysSpec)

end Rows
end Go.Proofs.Ytpkfbmafbkgcmaa
