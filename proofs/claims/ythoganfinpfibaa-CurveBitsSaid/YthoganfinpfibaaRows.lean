/-
  No cell of these rows narrows 'for every input' (looked for: loops, veiled, ifaces, maps, wideKeys, modest, calm, conditions, laid).
  DERIVED. THE GIVEN ROWS OF THIS SEAT. 7 by the template 'for every input the law returns true; each argument reads behind the call as it read before'; 0 by the template 'total and deterministic' (their statements: YthoganfinpfibaaTotals.lean).
  GIVEN WITH THE SEED: the statements are not yours to turn. If you find one false, say at which input.
  Laid BY PROGRAM, IN A SANDBOX (cutbox-rows.mjs): the forced cells as the released guide's own fill.sh prints them over the translation 11f53b53f50047c5… (all of the seat's roots in one cut). By AI agents, Wed Nov 11 2026. No macro, syntax, notation, axiom, sorry.
-/
import Derived.Test.YthoganfinpfibaaChecked
import GoSem.Claim
import GoSem.ClaimJoined
import GoSem.ClaimMapViews
import Derived.JoinedTies
import Derived.KernelRfl
namespace Go.Proofs.Ythoganfinpfibaa
/- THE CELL 'sum', in the pinned program and in every row, IS THE sha256 OF THE DUMP (.gsa) THAT YthoganfinpfibaaProg.lean LOADS. Nothing in Lean hashes anything: it is a label: what it is worth is what the hold of that sum in a sandbox is worth. -/
noncomputable def Try.pinned : Pinned := { name := "ythoganfinpfibaa", sum := "11f53b53f50047c56ded32ba5419658236cd462d70d5b705bb1ff25f7999877d", checked := Try.checked }
namespace Rows
def none {H : Type} : Left H := { results := [], args := [] }

/-- 'conclavekeep.CurveBits': WHATEVER THE INPUT: true; the input reads as it did. -/
def curveBitsSpec : ChangeSpec := { name := "curveBits", fn := fun _ => fun
  | [d1, d2, d3] => { results := [.lit (.bool true)], args := [d1, d2, d3] }
  | _ => none }
def curveBitsRow : OpenClaim := { program := "ythoganfinpfibaa", sum := "11f53b53f50047c56ded32ba5419658236cd462d70d5b705bb1ff25f7999877d", func := "conclave/conclavekeep.CurveBits", spec := "curveBits", apart := false }
def CurveBitsSaid : Prop := curveBitsRow.holds Try.pinned (OpenSpec.ofChange curveBitsSpec)

/-- ITS FALSE NEIGHBOUR: 'it returns false'. Refute it at one input. -/
def curveBitsWrong : ChangeSpec := { name := "curveBits", fn := fun _ => fun
  | [d1, d2, d3] => { results := [.lit (.bool false)], args := [d1, d2, d3] }
  | _ => none }
def CurveBitsWrongFalsely : Prop := curveBitsRow.holds Try.pinned (OpenSpec.ofChange curveBitsWrong)

/-- 'conclavekeep.KnownCurve': WHATEVER THE INPUT: true; the input reads as it did. -/
def knownCurveSpec : ChangeSpec := { name := "knownCurve", fn := fun _ => fun
  | [] => { results := [.lit (.bool true)], args := [] }
  | _ => none }
def knownCurveRow : OpenClaim := { program := "ythoganfinpfibaa", sum := "11f53b53f50047c56ded32ba5419658236cd462d70d5b705bb1ff25f7999877d", func := "conclave/conclavekeep.KnownCurve", spec := "knownCurve", apart := false }
def KnownCurveSaid : Prop := knownCurveRow.holds Try.pinned (OpenSpec.ofChange knownCurveSpec)

/-- ITS FALSE NEIGHBOUR: 'it returns false'. Refute it at one input. -/
def knownCurveWrong : ChangeSpec := { name := "knownCurve", fn := fun _ => fun
  | [] => { results := [.lit (.bool false)], args := [] }
  | _ => none }
def KnownCurveWrongFalsely : Prop := knownCurveRow.holds Try.pinned (OpenSpec.ofChange knownCurveWrong)

/-- 'conclavekeep.CurveShare': WHATEVER THE INPUT: true; the input reads as it did. -/
def curveShareSpec : ChangeSpec := { name := "curveShare", fn := fun _ => fun
  | [d1, d2] => { results := [.lit (.bool true)], args := [d1, d2] }
  | _ => none }
def curveShareRow : OpenClaim := { program := "ythoganfinpfibaa", sum := "11f53b53f50047c56ded32ba5419658236cd462d70d5b705bb1ff25f7999877d", func := "conclave/conclavekeep.CurveShare", spec := "curveShare", apart := false }
def CurveShareSaid : Prop := curveShareRow.holds Try.pinned (OpenSpec.ofChange curveShareSpec)

/-- ITS FALSE NEIGHBOUR: 'it returns false'. Refute it at one input. -/
def curveShareWrong : ChangeSpec := { name := "curveShare", fn := fun _ => fun
  | [d1, d2] => { results := [.lit (.bool false)], args := [d1, d2] }
  | _ => none }
def CurveShareWrongFalsely : Prop := curveShareRow.holds Try.pinned (OpenSpec.ofChange curveShareWrong)

/-- 'conclavekeep.CurveSmall': WHATEVER THE INPUT: true; the input reads as it did. -/
def curveSmallSpec : ChangeSpec := { name := "curveSmall", fn := fun _ => fun
  | [d] => { results := [.lit (.bool true)], args := [d] }
  | _ => none }
def curveSmallRow : OpenClaim := { program := "ythoganfinpfibaa", sum := "11f53b53f50047c56ded32ba5419658236cd462d70d5b705bb1ff25f7999877d", func := "conclave/conclavekeep.CurveSmall", spec := "curveSmall", apart := false }
def CurveSmallSaid : Prop := curveSmallRow.holds Try.pinned (OpenSpec.ofChange curveSmallSpec)

/-- ITS FALSE NEIGHBOUR: 'it returns false'. Refute it at one input. -/
def curveSmallWrong : ChangeSpec := { name := "curveSmall", fn := fun _ => fun
  | [d] => { results := [.lit (.bool false)], args := [d] }
  | _ => none }
def CurveSmallWrongFalsely : Prop := curveSmallRow.holds Try.pinned (OpenSpec.ofChange curveSmallWrong)

/-- 'conclavekeep.CurveOver': WHATEVER THE INPUT: true; the input reads as it did. -/
def curveOverSpec : ChangeSpec := { name := "curveOver", fn := fun _ => fun
  | [d1, d2] => { results := [.lit (.bool true)], args := [d1, d2] }
  | _ => none }
def curveOverRow : OpenClaim := { program := "ythoganfinpfibaa", sum := "11f53b53f50047c56ded32ba5419658236cd462d70d5b705bb1ff25f7999877d", func := "conclave/conclavekeep.CurveOver", spec := "curveOver", apart := false }
def CurveOverSaid : Prop := curveOverRow.holds Try.pinned (OpenSpec.ofChange curveOverSpec)

/-- ITS FALSE NEIGHBOUR: 'it returns false'. Refute it at one input. -/
def curveOverWrong : ChangeSpec := { name := "curveOver", fn := fun _ => fun
  | [d1, d2] => { results := [.lit (.bool false)], args := [d1, d2] }
  | _ => none }
def CurveOverWrongFalsely : Prop := curveOverRow.holds Try.pinned (OpenSpec.ofChange curveOverWrong)

/-- 'conclavekeep.CurveThree': WHATEVER THE INPUT: true; the input reads as it did. -/
def curveThreeSpec : ChangeSpec := { name := "curveThree", fn := fun _ => fun
  | [d1, d2, d3] => { results := [.lit (.bool true)], args := [d1, d2, d3] }
  | _ => none }
def curveThreeRow : OpenClaim := { program := "ythoganfinpfibaa", sum := "11f53b53f50047c56ded32ba5419658236cd462d70d5b705bb1ff25f7999877d", func := "conclave/conclavekeep.CurveThree", spec := "curveThree", apart := false }
def CurveThreeSaid : Prop := curveThreeRow.holds Try.pinned (OpenSpec.ofChange curveThreeSpec)

/-- ITS FALSE NEIGHBOUR: 'it returns false'. Refute it at one input. -/
def curveThreeWrong : ChangeSpec := { name := "curveThree", fn := fun _ => fun
  | [d1, d2, d3] => { results := [.lit (.bool false)], args := [d1, d2, d3] }
  | _ => none }
def CurveThreeWrongFalsely : Prop := curveThreeRow.holds Try.pinned (OpenSpec.ofChange curveThreeWrong)

/-- 'conclavekeep.PointNine': WHATEVER THE INPUT: true; the input reads as it did. -/
def pointNineSpec : ChangeSpec := { name := "pointNine", fn := fun _ => fun
  | [d] => { results := [.lit (.bool true)], args := [d] }
  | _ => none }
def pointNineRow : OpenClaim := { program := "ythoganfinpfibaa", sum := "11f53b53f50047c56ded32ba5419658236cd462d70d5b705bb1ff25f7999877d", func := "conclave/conclavekeep.PointNine", spec := "pointNine", apart := false }
def PointNineSaid : Prop := pointNineRow.holds Try.pinned (OpenSpec.ofChange pointNineSpec)

/-- ITS FALSE NEIGHBOUR: 'it returns false'. Refute it at one input. -/
def pointNineWrong : ChangeSpec := { name := "pointNine", fn := fun _ => fun
  | [d] => { results := [.lit (.bool false)], args := [d] }
  | _ => none }
def PointNineWrongFalsely : Prop := pointNineRow.holds Try.pinned (OpenSpec.ofChange pointNineWrong)

/- THE SECOND FORM. 'bulk': how many values and letters a reading holds, each counted each time it is reached (what is shared counts as often as it is met; a slice's spare places count too). A statement '..UptoSaid' is the law's where the arguments, and the package variables that the reading takes, are together of bulk at most 1048576: NARROWER than '..Said'. Prove '..Said' where nothing that the law and all that it calls make is longer than what came in: it says more and counts as full. Else prove '..UptoSaid'. A law counts once. -/
mutual
def uptoBulk {H : Type} : DataW H → Nat
  | .lit (.string bytes) => bytes.length + 1
  | .lit _ => 1
  | .nil => 1
  | .ptr d => uptoBulk d + 1
  | .slice elems spare => uptoBulkAll elems + uptoBulkAll spare + 1
  | .agg parts => uptoBulkAll parts + 1
  | .iface _ d => uptoBulk d + 1
  | .map entries => uptoBulkEntries entries + 1
  | .held _ => 1
def uptoBulkAll {H : Type} : List (DataW H) → Nat
  | [] => 0
  | d :: r => uptoBulk d + uptoBulkAll r
def uptoBulkEntries {H : Type} : List (Lit × DataW H) → Nat
  | [] => 0
  | x :: r => uptoBulkEntry x + uptoBulkEntries r
def uptoBulkEntry {H : Type} : Lit × DataW H → Nat
  | (.string bytes, d) => bytes.length + uptoBulk d + 1
  | (_, d) => uptoBulk d + 1
 end
def uptoSmall : (H : Type) → List (DataW H) → Bool := fun _ ds => decide (uptoBulkAll ds ≤ 1048576)
def OpenSpec.upto (s : _root_.Go.ChangeSpec) : _root_.Go.OpenSpec := { _root_.Go.OpenSpec.ofChange s with cond := some uptoSmall }

/-- 'conclavekeep.CurveBits', WHERE WHAT IT READS IS OF BULK AT MOST 1048576: true; the input reads as it did. -/
def curveBitsUptoRow : OpenClaim := { program := "ythoganfinpfibaa", sum := "11f53b53f50047c56ded32ba5419658236cd462d70d5b705bb1ff25f7999877d", func := "conclave/conclavekeep.CurveBits", spec := "curveBits", apart := false, narrowed := true }
def CurveBitsUptoSaid : Prop := curveBitsUptoRow.holds Try.pinned (OpenSpec.upto curveBitsSpec)

/-- 'conclavekeep.KnownCurve', WHERE WHAT IT READS IS OF BULK AT MOST 1048576: true; the input reads as it did. -/
def knownCurveUptoRow : OpenClaim := { program := "ythoganfinpfibaa", sum := "11f53b53f50047c56ded32ba5419658236cd462d70d5b705bb1ff25f7999877d", func := "conclave/conclavekeep.KnownCurve", spec := "knownCurve", apart := false, narrowed := true }
def KnownCurveUptoSaid : Prop := knownCurveUptoRow.holds Try.pinned (OpenSpec.upto knownCurveSpec)

/-- 'conclavekeep.CurveShare', WHERE WHAT IT READS IS OF BULK AT MOST 1048576: true; the input reads as it did. -/
def curveShareUptoRow : OpenClaim := { program := "ythoganfinpfibaa", sum := "11f53b53f50047c56ded32ba5419658236cd462d70d5b705bb1ff25f7999877d", func := "conclave/conclavekeep.CurveShare", spec := "curveShare", apart := false, narrowed := true }
def CurveShareUptoSaid : Prop := curveShareUptoRow.holds Try.pinned (OpenSpec.upto curveShareSpec)

/-- 'conclavekeep.CurveSmall', WHERE WHAT IT READS IS OF BULK AT MOST 1048576: true; the input reads as it did. -/
def curveSmallUptoRow : OpenClaim := { program := "ythoganfinpfibaa", sum := "11f53b53f50047c56ded32ba5419658236cd462d70d5b705bb1ff25f7999877d", func := "conclave/conclavekeep.CurveSmall", spec := "curveSmall", apart := false, narrowed := true }
def CurveSmallUptoSaid : Prop := curveSmallUptoRow.holds Try.pinned (OpenSpec.upto curveSmallSpec)

/-- 'conclavekeep.CurveOver', WHERE WHAT IT READS IS OF BULK AT MOST 1048576: true; the input reads as it did. -/
def curveOverUptoRow : OpenClaim := { program := "ythoganfinpfibaa", sum := "11f53b53f50047c56ded32ba5419658236cd462d70d5b705bb1ff25f7999877d", func := "conclave/conclavekeep.CurveOver", spec := "curveOver", apart := false, narrowed := true }
def CurveOverUptoSaid : Prop := curveOverUptoRow.holds Try.pinned (OpenSpec.upto curveOverSpec)

/-- 'conclavekeep.CurveThree', WHERE WHAT IT READS IS OF BULK AT MOST 1048576: true; the input reads as it did. -/
def curveThreeUptoRow : OpenClaim := { program := "ythoganfinpfibaa", sum := "11f53b53f50047c56ded32ba5419658236cd462d70d5b705bb1ff25f7999877d", func := "conclave/conclavekeep.CurveThree", spec := "curveThree", apart := false, narrowed := true }
def CurveThreeUptoSaid : Prop := curveThreeUptoRow.holds Try.pinned (OpenSpec.upto curveThreeSpec)

/-- 'conclavekeep.PointNine', WHERE WHAT IT READS IS OF BULK AT MOST 1048576: true; the input reads as it did. -/
def pointNineUptoRow : OpenClaim := { program := "ythoganfinpfibaa", sum := "11f53b53f50047c56ded32ba5419658236cd462d70d5b705bb1ff25f7999877d", func := "conclave/conclavekeep.PointNine", spec := "pointNine", apart := false, narrowed := true }
def PointNineUptoSaid : Prop := pointNineUptoRow.holds Try.pinned (OpenSpec.upto pointNineSpec)

end Rows
end Go.Proofs.Ythoganfinpfibaa
