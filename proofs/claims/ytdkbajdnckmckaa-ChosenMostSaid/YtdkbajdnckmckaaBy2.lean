/-
  More on slices of bytes: strings made of them; what a call that gives fresh bytes leaves.
-/
import Derived.Test.YtdkbajdnckmckaaRows
import Derived.Test.YtdkbajdnckmckaaBit
import Derived.Test.YtdkbajdnckmckaaQt
import Derived.Test.YtdkbajdnckmckaaByt
import Derived.WalkKit
import Derived.WalkSpells
import Derived.WalkLawsBesides
import Derived.BigQuiet
import Derived.Deep.QuietTactic
import Derived.LoopTactic
import Derived.Lib.Hide
import Derived.Lib.BufferRead
set_option linter.unusedVariables false
set_option linter.unusedSimpArgs false
namespace Go.Con
/-- a number from 0 to many - 1 -/
def pick (n m : Int) : Int := (if n < 0 then -(n + 1) else n) % m
theorem pick_nonneg (n m : Int) (h : 0 < m) : 0 ≤ pick n m := Int.emod_nonneg _ (by omega)
theorem pick_lt (n m : Int) (h : 0 < m) : pick n m < m := Int.emod_lt_of_pos _ h
/-- just so many bytes -/
def fill (l : List UInt8) (n : Nat) : List UInt8 := l.take n ++ List.replicate (n - l.length) 0
theorem fill_length (l : List UInt8) (n : Nat) : (fill l n).length = n := by simp [fill]; omega
end Go.Con
namespace Go.Proofs.Ytdkbajdnckmckaa
open Go.RowKit Go.Con

theorem ret_int {k : IntKind} {a b : Int} (h : a = b) : Ending.returned (.int k a) = .returned (.int k b) := by rw [h]

/-- A call that gives a row of its own with these bytes, and turns nothing that was there. -/
def FreshB (w : World) (R : List UInt8) (e : Ending) (w' : World) : Prop := ∃ v', e = .returned v' ∧ Own w' w.heap.size v' R ∧ Below w.heap.size w w'

/-- A call that gives a row of its own with these bytes and a number, and turns nothing that was there. -/
def FreshBE (w : World) (R : List UInt8) (c : Int) (e : Ending) (w' : World) : Prop := ∃ v', e = .returned (.tuple #[v', .int .i64 c]) ∧ Own w' w.heap.size v' R ∧ Below w.heap.size w w'
/-- Its shape, the length named. -/
theorem Rd.sliceN {w : World} {v : Value} {l : List UInt8} (h : Rd w v l) (n : Nat) (hn : l.length = n) : ∃ a c, v = .slice a n c ∧ n ≤ c ∧ c ≤ maxLen := by
  subst hn; exact h.slice
section
variable {ops : Array Oper} {rest : List Oper} {o : Oper} {a : Act} {Q : Exit → Act → World → Prop}
end
end Go.Proofs.Ytdkbajdnckmckaa
