/-
  No cell of these rows narrows 'for every input' (looked for: loops, veiled, ifaces, maps, wideKeys, modest, calm, conditions, laid).
  DERIVED. THE GIVEN ROWS OF THIS SEAT. 10 by the template 'for every input the law returns true; each argument reads behind the call as it read before'; 0 by the template 'total and deterministic' (their statements: YtdjnbnbhpjiicaaTotals.lean).
  GIVEN WITH THE SEED: the statements are not yours to turn. If you find one false, say at which input.
  Laid BY PROGRAM, IN A SANDBOX (cutbox-rows.mjs): the forced cells as the released guide's own fill.sh prints them over the translation 66d387bd70074eec… (all of the seat's roots in one cut). By AI agents, Wed Nov 11 2026. No macro, syntax, notation, axiom, sorry.
-/
import Derived.Test.YtdjnbnbhpjiicaaChecked
import GoSem.Claim
import GoSem.ClaimJoined
import GoSem.ClaimMapViews
import Derived.JoinedTies
import Derived.KernelRfl
namespace Go.Proofs.Ytdjnbnbhpjiicaa
/- THE CELL 'sum', in the pinned program and in every row, IS THE sha256 OF THE DUMP (.gsa) THAT YtdjnbnbhpjiicaaProg.lean LOADS. Nothing in Lean hashes anything: it is a label: what it is worth is what the hold of that sum in a sandbox is worth. -/
noncomputable def Try.pinned : Pinned := { name := "ytdjnbnbhpjiicaa", sum := "66d387bd70074eec9414978e0142644bdb0547387898fd9bd894a533272d8bc1", checked := Try.checked }
namespace Rows
def none {H : Type} : Left H := { results := [], args := [] }

/-- 'conclavekeep.SameOnly': WHATEVER THE INPUT: true; the input reads as it did. -/
def sameOnlySpec : ChangeSpec := { name := "sameOnly", fn := fun _ => fun
  | [d1, d2, d3] => { results := [.lit (.bool true)], args := [d1, d2, d3] }
  | _ => none }
def sameOnlyRow : OpenClaim := { program := "ytdjnbnbhpjiicaa", sum := "66d387bd70074eec9414978e0142644bdb0547387898fd9bd894a533272d8bc1", func := "conclave/conclavekeep.SameOnly", spec := "sameOnly", apart := false }
def SameOnlySaid : Prop := sameOnlyRow.holds Try.pinned (OpenSpec.ofChange sameOnlySpec)

/-- ITS FALSE NEIGHBOUR: 'it returns false'. Refute it at one input. -/
def sameOnlyWrong : ChangeSpec := { name := "sameOnly", fn := fun _ => fun
  | [d1, d2, d3] => { results := [.lit (.bool false)], args := [d1, d2, d3] }
  | _ => none }
def SameOnlyWrongFalsely : Prop := sameOnlyRow.holds Try.pinned (OpenSpec.ofChange sameOnlyWrong)

/-- 'conclavekeep.CommandBytes': WHATEVER THE INPUT: true; the input reads as it did. -/
def commandBytesSpec : ChangeSpec := { name := "commandBytes", fn := fun _ => fun
  | [d] => { results := [.lit (.bool true)], args := [d] }
  | _ => none }
def commandBytesRow : OpenClaim := { program := "ytdjnbnbhpjiicaa", sum := "66d387bd70074eec9414978e0142644bdb0547387898fd9bd894a533272d8bc1", func := "conclave/conclavekeep.CommandBytes", spec := "commandBytes", apart := false }
def CommandBytesSaid : Prop := commandBytesRow.holds Try.pinned (OpenSpec.ofChange commandBytesSpec)

/-- ITS FALSE NEIGHBOUR: 'it returns false'. Refute it at one input. -/
def commandBytesWrong : ChangeSpec := { name := "commandBytes", fn := fun _ => fun
  | [d] => { results := [.lit (.bool false)], args := [d] }
  | _ => none }
def CommandBytesWrongFalsely : Prop := commandBytesRow.holds Try.pinned (OpenSpec.ofChange commandBytesWrong)

/-- 'conclavekeep.CommandBack': WHATEVER THE INPUT: true; the input reads as it did. -/
def commandBackSpec : ChangeSpec := { name := "commandBack", fn := fun _ => fun
  | [d1, d2] => { results := [.lit (.bool true)], args := [d1, d2] }
  | _ => none }
def commandBackRow : OpenClaim := { program := "ytdjnbnbhpjiicaa", sum := "66d387bd70074eec9414978e0142644bdb0547387898fd9bd894a533272d8bc1", func := "conclave/conclavekeep.CommandBack", spec := "commandBack", apart := false }
def CommandBackSaid : Prop := commandBackRow.holds Try.pinned (OpenSpec.ofChange commandBackSpec)

/-- ITS FALSE NEIGHBOUR: 'it returns false'. Refute it at one input. -/
def commandBackWrong : ChangeSpec := { name := "commandBack", fn := fun _ => fun
  | [d1, d2] => { results := [.lit (.bool false)], args := [d1, d2] }
  | _ => none }
def CommandBackWrongFalsely : Prop := commandBackRow.holds Try.pinned (OpenSpec.ofChange commandBackWrong)

/-- 'conclavekeep.CommandFixed': WHATEVER THE INPUT: true; the input reads as it did. -/
def commandFixedSpec : ChangeSpec := { name := "commandFixed", fn := fun _ => fun
  | [d] => { results := [.lit (.bool true)], args := [d] }
  | _ => none }
def commandFixedRow : OpenClaim := { program := "ytdjnbnbhpjiicaa", sum := "66d387bd70074eec9414978e0142644bdb0547387898fd9bd894a533272d8bc1", func := "conclave/conclavekeep.CommandFixed", spec := "commandFixed", apart := false }
def CommandFixedSaid : Prop := commandFixedRow.holds Try.pinned (OpenSpec.ofChange commandFixedSpec)

/-- ITS FALSE NEIGHBOUR: 'it returns false'. Refute it at one input. -/
def commandFixedWrong : ChangeSpec := { name := "commandFixed", fn := fun _ => fun
  | [d] => { results := [.lit (.bool false)], args := [d] }
  | _ => none }
def CommandFixedWrongFalsely : Prop := commandFixedRow.holds Try.pinned (OpenSpec.ofChange commandFixedWrong)

/-- 'conclavekeep.DoOnce': WHATEVER THE INPUT: true; the input reads as it did. -/
def doOnceSpec : ChangeSpec := { name := "doOnce", fn := fun _ => fun
  | [d1, d2, d3] => { results := [.lit (.bool true)], args := [d1, d2, d3] }
  | _ => none }
def doOnceRow : OpenClaim := { program := "ytdjnbnbhpjiicaa", sum := "66d387bd70074eec9414978e0142644bdb0547387898fd9bd894a533272d8bc1", func := "conclave/conclavekeep.DoOnce", spec := "doOnce", apart := false }
def DoOnceSaid : Prop := doOnceRow.holds Try.pinned (OpenSpec.ofChange doOnceSpec)

/-- ITS FALSE NEIGHBOUR: 'it returns false'. Refute it at one input. -/
def doOnceWrong : ChangeSpec := { name := "doOnce", fn := fun _ => fun
  | [d1, d2, d3] => { results := [.lit (.bool false)], args := [d1, d2, d3] }
  | _ => none }
def DoOnceWrongFalsely : Prop := doOnceRow.holds Try.pinned (OpenSpec.ofChange doOnceWrong)

/-- 'conclavekeep.DoValues': WHATEVER THE INPUT: true; the input reads as it did. -/
def doValuesSpec : ChangeSpec := { name := "doValues", fn := fun _ => fun
  | [d1, d2, d3] => { results := [.lit (.bool true)], args := [d1, d2, d3] }
  | _ => none }
def doValuesRow : OpenClaim := { program := "ytdjnbnbhpjiicaa", sum := "66d387bd70074eec9414978e0142644bdb0547387898fd9bd894a533272d8bc1", func := "conclave/conclavekeep.DoValues", spec := "doValues", apart := false }
def DoValuesSaid : Prop := doValuesRow.holds Try.pinned (OpenSpec.ofChange doValuesSpec)

/-- ITS FALSE NEIGHBOUR: 'it returns false'. Refute it at one input. -/
def doValuesWrong : ChangeSpec := { name := "doValues", fn := fun _ => fun
  | [d1, d2, d3] => { results := [.lit (.bool false)], args := [d1, d2, d3] }
  | _ => none }
def DoValuesWrongFalsely : Prop := doValuesRow.holds Try.pinned (OpenSpec.ofChange doValuesWrong)

/-- 'conclavekeep.DoRevoked': WHATEVER THE INPUT: true; the input reads as it did. -/
def doRevokedSpec : ChangeSpec := { name := "doRevoked", fn := fun _ => fun
  | [d1, d2, d3] => { results := [.lit (.bool true)], args := [d1, d2, d3] }
  | _ => none }
def doRevokedRow : OpenClaim := { program := "ytdjnbnbhpjiicaa", sum := "66d387bd70074eec9414978e0142644bdb0547387898fd9bd894a533272d8bc1", func := "conclave/conclavekeep.DoRevoked", spec := "doRevoked", apart := false }
def DoRevokedSaid : Prop := doRevokedRow.holds Try.pinned (OpenSpec.ofChange doRevokedSpec)

/-- ITS FALSE NEIGHBOUR: 'it returns false'. Refute it at one input. -/
def doRevokedWrong : ChangeSpec := { name := "doRevoked", fn := fun _ => fun
  | [d1, d2, d3] => { results := [.lit (.bool false)], args := [d1, d2, d3] }
  | _ => none }
def DoRevokedWrongFalsely : Prop := doRevokedRow.holds Try.pinned (OpenSpec.ofChange doRevokedWrong)

/-- 'conclavekeep.DoNoop': WHATEVER THE INPUT: true; the input reads as it did. -/
def doNoopSpec : ChangeSpec := { name := "doNoop", fn := fun _ => fun
  | [d1, d2] => { results := [.lit (.bool true)], args := [d1, d2] }
  | _ => none }
def doNoopRow : OpenClaim := { program := "ytdjnbnbhpjiicaa", sum := "66d387bd70074eec9414978e0142644bdb0547387898fd9bd894a533272d8bc1", func := "conclave/conclavekeep.DoNoop", spec := "doNoop", apart := false }
def DoNoopSaid : Prop := doNoopRow.holds Try.pinned (OpenSpec.ofChange doNoopSpec)

/-- ITS FALSE NEIGHBOUR: 'it returns false'. Refute it at one input. -/
def doNoopWrong : ChangeSpec := { name := "doNoop", fn := fun _ => fun
  | [d1, d2] => { results := [.lit (.bool false)], args := [d1, d2] }
  | _ => none }
def DoNoopWrongFalsely : Prop := doNoopRow.holds Try.pinned (OpenSpec.ofChange doNoopWrong)

/-- 'conclavekeep.DoTurns': WHATEVER THE INPUT: true; the input reads as it did. -/
def doTurnsSpec : ChangeSpec := { name := "doTurns", fn := fun _ => fun
  | [d1, d2, d3] => { results := [.lit (.bool true)], args := [d1, d2, d3] }
  | _ => none }
def doTurnsRow : OpenClaim := { program := "ytdjnbnbhpjiicaa", sum := "66d387bd70074eec9414978e0142644bdb0547387898fd9bd894a533272d8bc1", func := "conclave/conclavekeep.DoTurns", spec := "doTurns", apart := false }
def DoTurnsSaid : Prop := doTurnsRow.holds Try.pinned (OpenSpec.ofChange doTurnsSpec)

/-- ITS FALSE NEIGHBOUR: 'it returns false'. Refute it at one input. -/
def doTurnsWrong : ChangeSpec := { name := "doTurns", fn := fun _ => fun
  | [d1, d2, d3] => { results := [.lit (.bool false)], args := [d1, d2, d3] }
  | _ => none }
def DoTurnsWrongFalsely : Prop := doTurnsRow.holds Try.pinned (OpenSpec.ofChange doTurnsWrong)

/-- 'conclavekeep.DoRises': WHATEVER THE INPUT: true; the input reads as it did. -/
def doRisesSpec : ChangeSpec := { name := "doRises", fn := fun _ => fun
  | [d1, d2] => { results := [.lit (.bool true)], args := [d1, d2] }
  | _ => none }
def doRisesRow : OpenClaim := { program := "ytdjnbnbhpjiicaa", sum := "66d387bd70074eec9414978e0142644bdb0547387898fd9bd894a533272d8bc1", func := "conclave/conclavekeep.DoRises", spec := "doRises", apart := false }
def DoRisesSaid : Prop := doRisesRow.holds Try.pinned (OpenSpec.ofChange doRisesSpec)

/-- ITS FALSE NEIGHBOUR: 'it returns false'. Refute it at one input. -/
def doRisesWrong : ChangeSpec := { name := "doRises", fn := fun _ => fun
  | [d1, d2] => { results := [.lit (.bool false)], args := [d1, d2] }
  | _ => none }
def DoRisesWrongFalsely : Prop := doRisesRow.holds Try.pinned (OpenSpec.ofChange doRisesWrong)

/- THE SECOND FORM. 'bulk': how many values and letters a reading holds, each counted each time it is reached (what is shared counts as often as it is met; a slice's spare places count too). A statement '..UptoSaid' is the law's where the arguments, and the package variables that the reading takes, are together of bulk at most 1048576: NARROWER than '..Said'. Prove '..Said' where nothing that the law and all that it calls make is longer than what came in: it says more and counts as full. Else prove '..UptoSaid'. A law counts once. -/
mutual
def uptoBulk {H : Type} : DataW H → Nat
  | .lit (.string bytes) => bytes.length + 1
  | .lit _ => 1
  | .nil => 1
  | .ptr d => uptoBulk d + 1
  | .slice elems spare => uptoBulkAll elems + uptoBulkAll spare + 1
  | .agg parts => uptoBulkAll parts + 1
  | .iface _ d => uptoBulk d + 1
  | .map entries => uptoBulkEntries entries + 1
  | .held _ => 1
def uptoBulkAll {H : Type} : List (DataW H) → Nat
  | [] => 0
  | d :: r => uptoBulk d + uptoBulkAll r
def uptoBulkEntries {H : Type} : List (Lit × DataW H) → Nat
  | [] => 0
  | x :: r => uptoBulkEntry x + uptoBulkEntries r
def uptoBulkEntry {H : Type} : Lit × DataW H → Nat
  | (.string bytes, d) => bytes.length + uptoBulk d + 1
  | (_, d) => uptoBulk d + 1
 end
def uptoSmall : (H : Type) → List (DataW H) → Bool := fun _ ds => decide (uptoBulkAll ds ≤ 1048576)
def OpenSpec.upto (s : _root_.Go.ChangeSpec) : _root_.Go.OpenSpec := { _root_.Go.OpenSpec.ofChange s with cond := some uptoSmall }

/-- 'conclavekeep.SameOnly', WHERE WHAT IT READS IS OF BULK AT MOST 1048576: true; the input reads as it did. -/
def sameOnlyUptoRow : OpenClaim := { program := "ytdjnbnbhpjiicaa", sum := "66d387bd70074eec9414978e0142644bdb0547387898fd9bd894a533272d8bc1", func := "conclave/conclavekeep.SameOnly", spec := "sameOnly", apart := false, narrowed := true }
def SameOnlyUptoSaid : Prop := sameOnlyUptoRow.holds Try.pinned (OpenSpec.upto sameOnlySpec)

/-- 'conclavekeep.CommandBytes', WHERE WHAT IT READS IS OF BULK AT MOST 1048576: true; the input reads as it did. -/
def commandBytesUptoRow : OpenClaim := { program := "ytdjnbnbhpjiicaa", sum := "66d387bd70074eec9414978e0142644bdb0547387898fd9bd894a533272d8bc1", func := "conclave/conclavekeep.CommandBytes", spec := "commandBytes", apart := false, narrowed := true }
def CommandBytesUptoSaid : Prop := commandBytesUptoRow.holds Try.pinned (OpenSpec.upto commandBytesSpec)

/-- 'conclavekeep.CommandBack', WHERE WHAT IT READS IS OF BULK AT MOST 1048576: true; the input reads as it did. -/
def commandBackUptoRow : OpenClaim := { program := "ytdjnbnbhpjiicaa", sum := "66d387bd70074eec9414978e0142644bdb0547387898fd9bd894a533272d8bc1", func := "conclave/conclavekeep.CommandBack", spec := "commandBack", apart := false, narrowed := true }
def CommandBackUptoSaid : Prop := commandBackUptoRow.holds Try.pinned (OpenSpec.upto commandBackSpec)

/-- 'conclavekeep.CommandFixed', WHERE WHAT IT READS IS OF BULK AT MOST 1048576: true; the input reads as it did. -/
def commandFixedUptoRow : OpenClaim := { program := "ytdjnbnbhpjiicaa", sum := "66d387bd70074eec9414978e0142644bdb0547387898fd9bd894a533272d8bc1", func := "conclave/conclavekeep.CommandFixed", spec := "commandFixed", apart := false, narrowed := true }
def CommandFixedUptoSaid : Prop := commandFixedUptoRow.holds Try.pinned (OpenSpec.upto commandFixedSpec)

/-- 'conclavekeep.DoOnce', WHERE WHAT IT READS IS OF BULK AT MOST 1048576: true; the input reads as it did. -/
def doOnceUptoRow : OpenClaim := { program := "ytdjnbnbhpjiicaa", sum := "66d387bd70074eec9414978e0142644bdb0547387898fd9bd894a533272d8bc1", func := "conclave/conclavekeep.DoOnce", spec := "doOnce", apart := false, narrowed := true }
def DoOnceUptoSaid : Prop := doOnceUptoRow.holds Try.pinned (OpenSpec.upto doOnceSpec)

/-- 'conclavekeep.DoValues', WHERE WHAT IT READS IS OF BULK AT MOST 1048576: true; the input reads as it did. -/
def doValuesUptoRow : OpenClaim := { program := "ytdjnbnbhpjiicaa", sum := "66d387bd70074eec9414978e0142644bdb0547387898fd9bd894a533272d8bc1", func := "conclave/conclavekeep.DoValues", spec := "doValues", apart := false, narrowed := true }
def DoValuesUptoSaid : Prop := doValuesUptoRow.holds Try.pinned (OpenSpec.upto doValuesSpec)

/-- 'conclavekeep.DoRevoked', WHERE WHAT IT READS IS OF BULK AT MOST 1048576: true; the input reads as it did. -/
def doRevokedUptoRow : OpenClaim := { program := "ytdjnbnbhpjiicaa", sum := "66d387bd70074eec9414978e0142644bdb0547387898fd9bd894a533272d8bc1", func := "conclave/conclavekeep.DoRevoked", spec := "doRevoked", apart := false, narrowed := true }
def DoRevokedUptoSaid : Prop := doRevokedUptoRow.holds Try.pinned (OpenSpec.upto doRevokedSpec)

/-- 'conclavekeep.DoNoop', WHERE WHAT IT READS IS OF BULK AT MOST 1048576: true; the input reads as it did. -/
def doNoopUptoRow : OpenClaim := { program := "ytdjnbnbhpjiicaa", sum := "66d387bd70074eec9414978e0142644bdb0547387898fd9bd894a533272d8bc1", func := "conclave/conclavekeep.DoNoop", spec := "doNoop", apart := false, narrowed := true }
def DoNoopUptoSaid : Prop := doNoopUptoRow.holds Try.pinned (OpenSpec.upto doNoopSpec)

/-- 'conclavekeep.DoTurns', WHERE WHAT IT READS IS OF BULK AT MOST 1048576: true; the input reads as it did. -/
def doTurnsUptoRow : OpenClaim := { program := "ytdjnbnbhpjiicaa", sum := "66d387bd70074eec9414978e0142644bdb0547387898fd9bd894a533272d8bc1", func := "conclave/conclavekeep.DoTurns", spec := "doTurns", apart := false, narrowed := true }
def DoTurnsUptoSaid : Prop := doTurnsUptoRow.holds Try.pinned (OpenSpec.upto doTurnsSpec)

/-- 'conclavekeep.DoRises', WHERE WHAT IT READS IS OF BULK AT MOST 1048576: true; the input reads as it did. -/
def doRisesUptoRow : OpenClaim := { program := "ytdjnbnbhpjiicaa", sum := "66d387bd70074eec9414978e0142644bdb0547387898fd9bd894a533272d8bc1", func := "conclave/conclavekeep.DoRises", spec := "doRises", apart := false, narrowed := true }
def DoRisesUptoSaid : Prop := doRisesUptoRow.holds Try.pinned (OpenSpec.upto doRisesSpec)

end Rows
end Go.Proofs.Ytdjnbnbhpjiicaa
