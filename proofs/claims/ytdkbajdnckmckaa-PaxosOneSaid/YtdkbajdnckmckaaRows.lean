/-
  No cell of these rows narrows 'for every input' (looked for: loops, veiled, ifaces, maps, wideKeys, modest, calm, conditions, laid).
  DERIVED. THE GIVEN ROWS OF THIS SEAT. 7 by the template 'for every input the law returns true; each argument reads behind the call as it read before'; 0 by the template 'total and deterministic' (their statements: YtdkbajdnckmckaaTotals.lean).
  GIVEN WITH THE SEED: the statements are not yours to turn. If you find one false, say at which input.
  Laid BY PROGRAM, IN A SANDBOX (cutbox-rows.mjs): the forced cells as the released guide's own fill.sh prints them over the translation 011b8299ebc3508a… (all of the seat's roots in one cut). By AI agents, Wed Nov 11 2026. No macro, syntax, notation, axiom, sorry.
-/
import Derived.Test.YtdkbajdnckmckaaChecked
import GoSem.Claim
import GoSem.ClaimJoined
import GoSem.ClaimMapViews
import Derived.JoinedTies
import Derived.KernelRfl
namespace Go.Proofs.Ytdkbajdnckmckaa
/- THE CELL 'sum', in the pinned program and in every row, IS THE sha256 OF THE DUMP (.gsa) THAT YtdkbajdnckmckaaProg.lean LOADS. Nothing in Lean hashes anything: it is a label: what it is worth is what the hold of that sum in a sandbox is worth. -/
noncomputable def Try.pinned : Pinned := { name := "ytdkbajdnckmckaa", sum := "011b8299ebc3508affa092e387267d9046708c17a7ad95d58d2f9370eb8c6915", checked := Try.checked }
namespace Rows
def none {H : Type} : Left H := { results := [], args := [] }

/-- 'conclavekeep.PickTurns': WHATEVER THE INPUT: true; the input reads as it did. -/
def pickTurnsSpec : ChangeSpec := { name := "pickTurns", fn := fun _ => fun
  | [d1, d2] => { results := [.lit (.bool true)], args := [d1, d2] }
  | _ => none }
def pickTurnsRow : OpenClaim := { program := "ytdkbajdnckmckaa", sum := "011b8299ebc3508affa092e387267d9046708c17a7ad95d58d2f9370eb8c6915", func := "conclave/conclavekeep.PickTurns", spec := "pickTurns", plainKeys := false, apart := false }
def PickTurnsSaid : Prop := pickTurnsRow.holds Try.pinned (OpenSpec.ofChange pickTurnsSpec)

/-- ITS FALSE NEIGHBOUR: 'it returns false'. Refute it at one input. -/
def pickTurnsWrong : ChangeSpec := { name := "pickTurns", fn := fun _ => fun
  | [d1, d2] => { results := [.lit (.bool false)], args := [d1, d2] }
  | _ => none }
def PickTurnsWrongFalsely : Prop := pickTurnsRow.holds Try.pinned (OpenSpec.ofChange pickTurnsWrong)

/-- 'conclavekeep.PromiseHolds': WHATEVER THE INPUT: true; the input reads as it did. -/
def promiseHoldsSpec : ChangeSpec := { name := "promiseHolds", fn := fun _ => fun
  | [d1, d2, d3] => { results := [.lit (.bool true)], args := [d1, d2, d3] }
  | _ => none }
def promiseHoldsRow : OpenClaim := { program := "ytdkbajdnckmckaa", sum := "011b8299ebc3508affa092e387267d9046708c17a7ad95d58d2f9370eb8c6915", func := "conclave/conclavekeep.PromiseHolds", spec := "promiseHolds", inPlace := ["slices.overlaps[conclave/api.Vote]"], unfollowed := true, recurses := true, plainKeys := false, apart := false }
def PromiseHoldsSaid : Prop := promiseHoldsRow.holds Try.pinned (OpenSpec.ofChange promiseHoldsSpec)

/-- ITS FALSE NEIGHBOUR: 'it returns false'. Refute it at one input. -/
def promiseHoldsWrong : ChangeSpec := { name := "promiseHolds", fn := fun _ => fun
  | [d1, d2, d3] => { results := [.lit (.bool false)], args := [d1, d2, d3] }
  | _ => none }
def PromiseHoldsWrongFalsely : Prop := promiseHoldsRow.holds Try.pinned (OpenSpec.ofChange promiseHoldsWrong)

/-- 'conclavekeep.AcceptOne': WHATEVER THE INPUT: true; the input reads as it did. -/
def acceptOneSpec : ChangeSpec := { name := "acceptOne", fn := fun _ => fun
  | [d1, d2, d3] => { results := [.lit (.bool true)], args := [d1, d2, d3] }
  | _ => none }
def acceptOneRow : OpenClaim := { program := "ytdkbajdnckmckaa", sum := "011b8299ebc3508affa092e387267d9046708c17a7ad95d58d2f9370eb8c6915", func := "conclave/conclavekeep.AcceptOne", spec := "acceptOne", inPlace := ["slices.overlaps[conclave/api.Vote]"], unfollowed := true, recurses := true, plainKeys := false, apart := false }
def AcceptOneSaid : Prop := acceptOneRow.holds Try.pinned (OpenSpec.ofChange acceptOneSpec)

/-- ITS FALSE NEIGHBOUR: 'it returns false'. Refute it at one input. -/
def acceptOneWrong : ChangeSpec := { name := "acceptOne", fn := fun _ => fun
  | [d1, d2, d3] => { results := [.lit (.bool false)], args := [d1, d2, d3] }
  | _ => none }
def AcceptOneWrongFalsely : Prop := acceptOneRow.holds Try.pinned (OpenSpec.ofChange acceptOneWrong)

/-- 'conclavekeep.VoteAgain': WHATEVER THE INPUT: true; the input reads as it did. -/
def voteAgainSpec : ChangeSpec := { name := "voteAgain", fn := fun _ => fun
  | [d1, d2] => { results := [.lit (.bool true)], args := [d1, d2] }
  | _ => none }
def voteAgainRow : OpenClaim := { program := "ytdkbajdnckmckaa", sum := "011b8299ebc3508affa092e387267d9046708c17a7ad95d58d2f9370eb8c6915", func := "conclave/conclavekeep.VoteAgain", spec := "voteAgain", inPlace := ["slices.overlaps[conclave/api.Vote]"], unfollowed := true, recurses := true, plainKeys := false, apart := false }
def VoteAgainSaid : Prop := voteAgainRow.holds Try.pinned (OpenSpec.ofChange voteAgainSpec)

/-- ITS FALSE NEIGHBOUR: 'it returns false'. Refute it at one input. -/
def voteAgainWrong : ChangeSpec := { name := "voteAgain", fn := fun _ => fun
  | [d1, d2] => { results := [.lit (.bool false)], args := [d1, d2] }
  | _ => none }
def VoteAgainWrongFalsely : Prop := voteAgainRow.holds Try.pinned (OpenSpec.ofChange voteAgainWrong)

/-- 'conclavekeep.ChosenMost': WHATEVER THE INPUT: true; the input reads as it did. -/
def chosenMostSpec : ChangeSpec := { name := "chosenMost", fn := fun _ => fun
  | [d1, d2, d3] => { results := [.lit (.bool true)], args := [d1, d2, d3] }
  | _ => none }
def chosenMostRow : OpenClaim := { program := "ytdkbajdnckmckaa", sum := "011b8299ebc3508affa092e387267d9046708c17a7ad95d58d2f9370eb8c6915", func := "conclave/conclavekeep.ChosenMost", spec := "chosenMost", inPlace := ["slices.overlaps[conclave/api.Vote]"], unfollowed := true, recurses := true, plainKeys := false, apart := false }
def ChosenMostSaid : Prop := chosenMostRow.holds Try.pinned (OpenSpec.ofChange chosenMostSpec)

/-- ITS FALSE NEIGHBOUR: 'it returns false'. Refute it at one input. -/
def chosenMostWrong : ChangeSpec := { name := "chosenMost", fn := fun _ => fun
  | [d1, d2, d3] => { results := [.lit (.bool false)], args := [d1, d2, d3] }
  | _ => none }
def ChosenMostWrongFalsely : Prop := chosenMostRow.holds Try.pinned (OpenSpec.ofChange chosenMostWrong)

/-- 'conclavekeep.PickGreatest': WHATEVER THE INPUT: true; the input reads as it did. -/
def pickGreatestSpec : ChangeSpec := { name := "pickGreatest", fn := fun _ => fun
  | [d1, d2, d3] => { results := [.lit (.bool true)], args := [d1, d2, d3] }
  | _ => none }
def pickGreatestRow : OpenClaim := { program := "ytdkbajdnckmckaa", sum := "011b8299ebc3508affa092e387267d9046708c17a7ad95d58d2f9370eb8c6915", func := "conclave/conclavekeep.PickGreatest", spec := "pickGreatest", inPlace := ["slices.overlaps[conclave/api.Vote]"], unfollowed := true, recurses := true, plainKeys := false, apart := false }
def PickGreatestSaid : Prop := pickGreatestRow.holds Try.pinned (OpenSpec.ofChange pickGreatestSpec)

/-- ITS FALSE NEIGHBOUR: 'it returns false'. Refute it at one input. -/
def pickGreatestWrong : ChangeSpec := { name := "pickGreatest", fn := fun _ => fun
  | [d1, d2, d3] => { results := [.lit (.bool false)], args := [d1, d2, d3] }
  | _ => none }
def PickGreatestWrongFalsely : Prop := pickGreatestRow.holds Try.pinned (OpenSpec.ofChange pickGreatestWrong)

/-- 'conclavekeep.PaxosOne': WHATEVER THE INPUT: true; the input reads as it did. -/
def paxosOneSpec : ChangeSpec := { name := "paxosOne", fn := fun _ => fun
  | [d] => { results := [.lit (.bool true)], args := [d] }
  | _ => none }
def paxosOneRow : OpenClaim := { program := "ytdkbajdnckmckaa", sum := "011b8299ebc3508affa092e387267d9046708c17a7ad95d58d2f9370eb8c6915", func := "conclave/conclavekeep.PaxosOne", spec := "paxosOne", inPlace := ["slices.overlaps[conclave/api.Vote]"], unfollowed := true, recurses := true, plainKeys := false, apart := false }
def PaxosOneSaid : Prop := paxosOneRow.holds Try.pinned (OpenSpec.ofChange paxosOneSpec)

/-- ITS FALSE NEIGHBOUR: 'it returns false'. Refute it at one input. -/
def paxosOneWrong : ChangeSpec := { name := "paxosOne", fn := fun _ => fun
  | [d] => { results := [.lit (.bool false)], args := [d] }
  | _ => none }
def PaxosOneWrongFalsely : Prop := paxosOneRow.holds Try.pinned (OpenSpec.ofChange paxosOneWrong)

/- THE SECOND FORM. 'bulk': how many values and letters a reading holds, each counted each time it is reached (what is shared counts as often as it is met; a slice's spare places count too). A statement '..UptoSaid' is the law's where the arguments, and the package variables that the reading takes, are together of bulk at most 1048576: NARROWER than '..Said'. Prove '..Said' where nothing that the law and all that it calls make is longer than what came in: it says more and counts as full. Else prove '..UptoSaid'. A law counts once. -/
mutual
def uptoBulk {H : Type} : DataW H → Nat
  | .lit (.string bytes) => bytes.length + 1
  | .lit _ => 1
  | .nil => 1
  | .ptr d => uptoBulk d + 1
  | .slice elems spare => uptoBulkAll elems + uptoBulkAll spare + 1
  | .agg parts => uptoBulkAll parts + 1
  | .iface _ d => uptoBulk d + 1
  | .map entries => uptoBulkEntries entries + 1
  | .held _ => 1
def uptoBulkAll {H : Type} : List (DataW H) → Nat
  | [] => 0
  | d :: r => uptoBulk d + uptoBulkAll r
def uptoBulkEntries {H : Type} : List (Lit × DataW H) → Nat
  | [] => 0
  | x :: r => uptoBulkEntry x + uptoBulkEntries r
def uptoBulkEntry {H : Type} : Lit × DataW H → Nat
  | (.string bytes, d) => bytes.length + uptoBulk d + 1
  | (_, d) => uptoBulk d + 1
 end
def uptoSmall : (H : Type) → List (DataW H) → Bool := fun _ ds => decide (uptoBulkAll ds ≤ 1048576)
def OpenSpec.upto (s : _root_.Go.ChangeSpec) : _root_.Go.OpenSpec := { _root_.Go.OpenSpec.ofChange s with cond := some uptoSmall }

/-- 'conclavekeep.PickTurns', WHERE WHAT IT READS IS OF BULK AT MOST 1048576: true; the input reads as it did. -/
def pickTurnsUptoRow : OpenClaim := { program := "ytdkbajdnckmckaa", sum := "011b8299ebc3508affa092e387267d9046708c17a7ad95d58d2f9370eb8c6915", func := "conclave/conclavekeep.PickTurns", spec := "pickTurns", plainKeys := false, apart := false, narrowed := true }
def PickTurnsUptoSaid : Prop := pickTurnsUptoRow.holds Try.pinned (OpenSpec.upto pickTurnsSpec)

/-- 'conclavekeep.PromiseHolds', WHERE WHAT IT READS IS OF BULK AT MOST 1048576: true; the input reads as it did. -/
def promiseHoldsUptoRow : OpenClaim := { program := "ytdkbajdnckmckaa", sum := "011b8299ebc3508affa092e387267d9046708c17a7ad95d58d2f9370eb8c6915", func := "conclave/conclavekeep.PromiseHolds", spec := "promiseHolds", inPlace := ["slices.overlaps[conclave/api.Vote]"], unfollowed := true, recurses := true, plainKeys := false, apart := false, narrowed := true }
def PromiseHoldsUptoSaid : Prop := promiseHoldsUptoRow.holds Try.pinned (OpenSpec.upto promiseHoldsSpec)

/-- 'conclavekeep.AcceptOne', WHERE WHAT IT READS IS OF BULK AT MOST 1048576: true; the input reads as it did. -/
def acceptOneUptoRow : OpenClaim := { program := "ytdkbajdnckmckaa", sum := "011b8299ebc3508affa092e387267d9046708c17a7ad95d58d2f9370eb8c6915", func := "conclave/conclavekeep.AcceptOne", spec := "acceptOne", inPlace := ["slices.overlaps[conclave/api.Vote]"], unfollowed := true, recurses := true, plainKeys := false, apart := false, narrowed := true }
def AcceptOneUptoSaid : Prop := acceptOneUptoRow.holds Try.pinned (OpenSpec.upto acceptOneSpec)

/-- 'conclavekeep.VoteAgain', WHERE WHAT IT READS IS OF BULK AT MOST 1048576: true; the input reads as it did. -/
def voteAgainUptoRow : OpenClaim := { program := "ytdkbajdnckmckaa", sum := "011b8299ebc3508affa092e387267d9046708c17a7ad95d58d2f9370eb8c6915", func := "conclave/conclavekeep.VoteAgain", spec := "voteAgain", inPlace := ["slices.overlaps[conclave/api.Vote]"], unfollowed := true, recurses := true, plainKeys := false, apart := false, narrowed := true }
def VoteAgainUptoSaid : Prop := voteAgainUptoRow.holds Try.pinned (OpenSpec.upto voteAgainSpec)

/-- 'conclavekeep.ChosenMost', WHERE WHAT IT READS IS OF BULK AT MOST 1048576: true; the input reads as it did. -/
def chosenMostUptoRow : OpenClaim := { program := "ytdkbajdnckmckaa", sum := "011b8299ebc3508affa092e387267d9046708c17a7ad95d58d2f9370eb8c6915", func := "conclave/conclavekeep.ChosenMost", spec := "chosenMost", inPlace := ["slices.overlaps[conclave/api.Vote]"], unfollowed := true, recurses := true, plainKeys := false, apart := false, narrowed := true }
def ChosenMostUptoSaid : Prop := chosenMostUptoRow.holds Try.pinned (OpenSpec.upto chosenMostSpec)

/-- 'conclavekeep.PickGreatest', WHERE WHAT IT READS IS OF BULK AT MOST 1048576: true; the input reads as it did. -/
def pickGreatestUptoRow : OpenClaim := { program := "ytdkbajdnckmckaa", sum := "011b8299ebc3508affa092e387267d9046708c17a7ad95d58d2f9370eb8c6915", func := "conclave/conclavekeep.PickGreatest", spec := "pickGreatest", inPlace := ["slices.overlaps[conclave/api.Vote]"], unfollowed := true, recurses := true, plainKeys := false, apart := false, narrowed := true }
def PickGreatestUptoSaid : Prop := pickGreatestUptoRow.holds Try.pinned (OpenSpec.upto pickGreatestSpec)

/-- 'conclavekeep.PaxosOne', WHERE WHAT IT READS IS OF BULK AT MOST 1048576: true; the input reads as it did. -/
def paxosOneUptoRow : OpenClaim := { program := "ytdkbajdnckmckaa", sum := "011b8299ebc3508affa092e387267d9046708c17a7ad95d58d2f9370eb8c6915", func := "conclave/conclavekeep.PaxosOne", spec := "paxosOne", inPlace := ["slices.overlaps[conclave/api.Vote]"], unfollowed := true, recurses := true, plainKeys := false, apart := false, narrowed := true }
def PaxosOneUptoSaid : Prop := paxosOneUptoRow.holds Try.pinned (OpenSpec.upto paxosOneSpec)

end Rows
end Go.Proofs.Ytdkbajdnckmckaa
