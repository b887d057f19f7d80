/-
  'append(own, make([]byte, m)...)': the translation hands the builtin the number m in the place of a slice.
-/
import Derived.Test.YtdkbajdnckmckaaBy2
import Derived.Lib.AppendZerosOnto
set_option linter.unusedVariables false
set_option linter.unusedSimpArgs false
namespace Go.Proofs.Ytdkbajdnckmckaa
open Go.RowKit Go.Con
theorem zeroCells8 (n : Nat) : Builtin.zeroCells (Value.int .u8 0).cells n = ((List.replicate n (0 : UInt8)).map u8v).toArray := by
  apply Array.ext (by simp [Builtin.zeroCells, Value.cells])
  intro j h1 h2
  simp [Builtin.zeroCells, Value.cells, u8v, Nat.mod_one]
section
variable {ops : Array Oper} {rest : List Oper} {o : Oper} {a : Act} {Q : Exit → Act → World → Prop} {w : World}
end
end Go.Proofs.Ytdkbajdnckmckaa
