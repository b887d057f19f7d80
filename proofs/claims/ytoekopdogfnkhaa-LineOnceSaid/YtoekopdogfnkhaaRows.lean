/-
  No cell of these rows narrows 'for every input' (looked for: loops, veiled, ifaces, maps, wideKeys, modest, calm, conditions, laid).
  DERIVED. THE GIVEN ROWS OF THIS SEAT. 4 by the template 'for every input the law returns true; each argument reads behind the call as it read before'; 0 by the template 'total and deterministic' (their statements: YtoekopdogfnkhaaTotals.lean).
  GIVEN WITH THE SEED: the statements are not yours to turn. If you find one false, say at which input.
  Laid BY PROGRAM, IN A SANDBOX (cutbox-rows.mjs): the forced cells as the released guide's own fill.sh prints them over the translation a9955d809a5d18fe… (all of the seat's roots in one cut). By AI agents, Wed Nov 11 2026. No macro, syntax, notation, axiom, sorry.
-/
import Derived.Test.YtoekopdogfnkhaaChecked
import GoSem.Claim
import GoSem.ClaimJoined
import GoSem.ClaimMapViews
import Derived.JoinedTies
import Derived.KernelRfl
namespace Go.Proofs.Ytoekopdogfnkhaa
/- THE CELL 'sum', in the pinned program and in every row, IS THE sha256 OF THE DUMP (.gsa) THAT YtoekopdogfnkhaaProg.lean LOADS. Nothing in Lean hashes anything: it is a label: what it is worth is what the hold of that sum in a sandbox is worth. -/
noncomputable def Try.pinned : Pinned := { name := "ytoekopdogfnkhaa", sum := "a9955d809a5d18fed8d1d9386e1084350ea3bf27cd2e7dc59c62986b81fff428", checked := Try.checked }
namespace Rows
def none {H : Type} : Left H := { results := [], args := [] }

/-- 'conclavekeep.LineBack': WHATEVER THE INPUT: true; the input reads as it did. -/
def lineBackSpec : ChangeSpec := { name := "lineBack", fn := fun _ => fun
  | [d1, d2] => { results := [.lit (.bool true)], args := [d1, d2] }
  | _ => none }
def lineBackRow : OpenClaim := { program := "ytoekopdogfnkhaa", sum := "a9955d809a5d18fed8d1d9386e1084350ea3bf27cd2e7dc59c62986b81fff428", func := "conclave/conclavekeep.LineBack", spec := "lineBack", apart := false }
def LineBackSaid : Prop := lineBackRow.holds Try.pinned (OpenSpec.ofChange lineBackSpec)

/-- ITS FALSE NEIGHBOUR: 'it returns false'. Refute it at one input. -/
def lineBackWrong : ChangeSpec := { name := "lineBack", fn := fun _ => fun
  | [d1, d2] => { results := [.lit (.bool false)], args := [d1, d2] }
  | _ => none }
def LineBackWrongFalsely : Prop := lineBackRow.holds Try.pinned (OpenSpec.ofChange lineBackWrong)

/-- 'conclavekeep.LineOnce': WHATEVER THE INPUT: true; the input reads as it did. -/
def lineOnceSpec : ChangeSpec := { name := "lineOnce", fn := fun _ => fun
  | [d1, d2, d3] => { results := [.lit (.bool true)], args := [d1, d2, d3] }
  | _ => none }
def lineOnceRow : OpenClaim := { program := "ytoekopdogfnkhaa", sum := "a9955d809a5d18fed8d1d9386e1084350ea3bf27cd2e7dc59c62986b81fff428", func := "conclave/conclavekeep.LineOnce", spec := "lineOnce", apart := false }
def LineOnceSaid : Prop := lineOnceRow.holds Try.pinned (OpenSpec.ofChange lineOnceSpec)

/-- ITS FALSE NEIGHBOUR: 'it returns false'. Refute it at one input. -/
def lineOnceWrong : ChangeSpec := { name := "lineOnce", fn := fun _ => fun
  | [d1, d2, d3] => { results := [.lit (.bool false)], args := [d1, d2, d3] }
  | _ => none }
def LineOnceWrongFalsely : Prop := lineOnceRow.holds Try.pinned (OpenSpec.ofChange lineOnceWrong)

/-- 'conclavekeep.LineTurns': WHATEVER THE INPUT: true; the input reads as it did. -/
def lineTurnsSpec : ChangeSpec := { name := "lineTurns", fn := fun _ => fun
  | [d1, d2, d3] => { results := [.lit (.bool true)], args := [d1, d2, d3] }
  | _ => none }
def lineTurnsRow : OpenClaim := { program := "ytoekopdogfnkhaa", sum := "a9955d809a5d18fed8d1d9386e1084350ea3bf27cd2e7dc59c62986b81fff428", func := "conclave/conclavekeep.LineTurns", spec := "lineTurns", apart := false }
def LineTurnsSaid : Prop := lineTurnsRow.holds Try.pinned (OpenSpec.ofChange lineTurnsSpec)

/-- ITS FALSE NEIGHBOUR: 'it returns false'. Refute it at one input. -/
def lineTurnsWrong : ChangeSpec := { name := "lineTurns", fn := fun _ => fun
  | [d1, d2, d3] => { results := [.lit (.bool false)], args := [d1, d2, d3] }
  | _ => none }
def LineTurnsWrongFalsely : Prop := lineTurnsRow.holds Try.pinned (OpenSpec.ofChange lineTurnsWrong)

/-- 'conclavekeep.LineWays': WHATEVER THE INPUT: true; the input reads as it did. -/
def lineWaysSpec : ChangeSpec := { name := "lineWays", fn := fun _ => fun
  | [d1, d2] => { results := [.lit (.bool true)], args := [d1, d2] }
  | _ => none }
def lineWaysRow : OpenClaim := { program := "ytoekopdogfnkhaa", sum := "a9955d809a5d18fed8d1d9386e1084350ea3bf27cd2e7dc59c62986b81fff428", func := "conclave/conclavekeep.LineWays", spec := "lineWays", apart := false }
def LineWaysSaid : Prop := lineWaysRow.holds Try.pinned (OpenSpec.ofChange lineWaysSpec)

/-- ITS FALSE NEIGHBOUR: 'it returns false'. Refute it at one input. -/
def lineWaysWrong : ChangeSpec := { name := "lineWays", fn := fun _ => fun
  | [d1, d2] => { results := [.lit (.bool false)], args := [d1, d2] }
  | _ => none }
def LineWaysWrongFalsely : Prop := lineWaysRow.holds Try.pinned (OpenSpec.ofChange lineWaysWrong)

/- THE SECOND FORM. 'bulk': how many values and letters a reading holds, each counted each time it is reached (what is shared counts as often as it is met; a slice's spare places count too). A statement '..UptoSaid' is the law's where the arguments, and the package variables that the reading takes, are together of bulk at most 1048576: NARROWER than '..Said'. Prove '..Said' where nothing that the law and all that it calls make is longer than what came in: it says more and counts as full. Else prove '..UptoSaid'. A law counts once. -/
mutual
def uptoBulk {H : Type} : DataW H → Nat
  | .lit (.string bytes) => bytes.length + 1
  | .lit _ => 1
  | .nil => 1
  | .ptr d => uptoBulk d + 1
  | .slice elems spare => uptoBulkAll elems + uptoBulkAll spare + 1
  | .agg parts => uptoBulkAll parts + 1
  | .iface _ d => uptoBulk d + 1
  | .map entries => uptoBulkEntries entries + 1
  | .held _ => 1
def uptoBulkAll {H : Type} : List (DataW H) → Nat
  | [] => 0
  | d :: r => uptoBulk d + uptoBulkAll r
def uptoBulkEntries {H : Type} : List (Lit × DataW H) → Nat
  | [] => 0
  | x :: r => uptoBulkEntry x + uptoBulkEntries r
def uptoBulkEntry {H : Type} : Lit × DataW H → Nat
  | (.string bytes, d) => bytes.length + uptoBulk d + 1
  | (_, d) => uptoBulk d + 1
 end
def uptoSmall : (H : Type) → List (DataW H) → Bool := fun _ ds => decide (uptoBulkAll ds ≤ 1048576)
def OpenSpec.upto (s : _root_.Go.ChangeSpec) : _root_.Go.OpenSpec := { _root_.Go.OpenSpec.ofChange s with cond := some uptoSmall }

/-- 'conclavekeep.LineBack', WHERE WHAT IT READS IS OF BULK AT MOST 1048576: true; the input reads as it did. -/
def lineBackUptoRow : OpenClaim := { program := "ytoekopdogfnkhaa", sum := "a9955d809a5d18fed8d1d9386e1084350ea3bf27cd2e7dc59c62986b81fff428", func := "conclave/conclavekeep.LineBack", spec := "lineBack", apart := false, narrowed := true }
def LineBackUptoSaid : Prop := lineBackUptoRow.holds Try.pinned (OpenSpec.upto lineBackSpec)

/-- 'conclavekeep.LineOnce', WHERE WHAT IT READS IS OF BULK AT MOST 1048576: true; the input reads as it did. -/
def lineOnceUptoRow : OpenClaim := { program := "ytoekopdogfnkhaa", sum := "a9955d809a5d18fed8d1d9386e1084350ea3bf27cd2e7dc59c62986b81fff428", func := "conclave/conclavekeep.LineOnce", spec := "lineOnce", apart := false, narrowed := true }
def LineOnceUptoSaid : Prop := lineOnceUptoRow.holds Try.pinned (OpenSpec.upto lineOnceSpec)

/-- 'conclavekeep.LineTurns', WHERE WHAT IT READS IS OF BULK AT MOST 1048576: true; the input reads as it did. -/
def lineTurnsUptoRow : OpenClaim := { program := "ytoekopdogfnkhaa", sum := "a9955d809a5d18fed8d1d9386e1084350ea3bf27cd2e7dc59c62986b81fff428", func := "conclave/conclavekeep.LineTurns", spec := "lineTurns", apart := false, narrowed := true }
def LineTurnsUptoSaid : Prop := lineTurnsUptoRow.holds Try.pinned (OpenSpec.upto lineTurnsSpec)

/-- 'conclavekeep.LineWays', WHERE WHAT IT READS IS OF BULK AT MOST 1048576: true; the input reads as it did. -/
def lineWaysUptoRow : OpenClaim := { program := "ytoekopdogfnkhaa", sum := "a9955d809a5d18fed8d1d9386e1084350ea3bf27cd2e7dc59c62986b81fff428", func := "conclave/conclavekeep.LineWays", spec := "lineWays", apart := false, narrowed := true }
def LineWaysUptoSaid : Prop := lineWaysUptoRow.holds Try.pinned (OpenSpec.upto lineWaysSpec)

end Rows
end Go.Proofs.Ytoekopdogfnkhaa
