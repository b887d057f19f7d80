/-
  The frame of every law's row: the closed facts on the program, and each kind of argument opened.
-/
import Derived.Test.YtdkbajdnckmckaaBy2
import Derived.ProofKit
import Derived.OpenShut
import Derived.ShutString
import Derived.ChangeOld
import Derived.Below
import Derived.Lib.SmallJoins
import Derived.LaidLaws
import Derived.LaidMore
import Derived.LaidHandle
import Derived.Stop.Joined
import Derived.SevenTiedAt
set_option linter.unusedVariables false
set_option linter.unusedSimpArgs false
namespace Go.Proofs.Ytdkbajdnckmckaa
open Go.ChangeShapes Go.WideShapes Go.ChangeAt Go.RowKit Go.Con

theorem own : ownKnob Try.prog.godebug = none := by kernel_rfl
theorem laidOut : laidOutB Try.prog = true := by kernel_rfl

section
variable {H : Type} {enc : TypeId × Value → H} {W : World} {base b0 : Nat}

/-- An int that came in. -/
def IsInt (v : Value) (n : Int) : Prop := v = .int .i64 n ∧ -9223372036854775808 ≤ n ∧ n ≤ 9223372036854775807
set_option maxRecDepth 100000 in
theorem open_int {v : Value} {d : DataW H} {p : List MemPlace} (hv : Value.okWide Try.prog W .any b0 3 v) (h : DataW.Trod enc Try.prog W base (fun _ => true) true 3 v d p) : ∃ n, IsInt v n := by
  obtain ⟨n, rfl, _, _, wn⟩ := ChangeShapes.open_int Try.underlying3 hv h
  exact ⟨n, rfl, (bounds_i64 wn).1, (bounds_i64 wn).2⟩
def IsBool (v : Value) (b : Bool) : Prop := v = .bool b
set_option maxRecDepth 100000 in
theorem open_bool {v : Value} {d : DataW H} {p : List MemPlace} (hv : Value.okWide Try.prog W .any b0 4 v) (h : DataW.Trod enc Try.prog W base (fun _ => true) true 4 v d p) : ∃ b, IsBool v b := by
  obtain ⟨b, rfl, _, _⟩ := RowKit.open_bool Try.underlying4 hv h
  exact ⟨b, rfl⟩
end
end Go.Proofs.Ytdkbajdnckmckaa
