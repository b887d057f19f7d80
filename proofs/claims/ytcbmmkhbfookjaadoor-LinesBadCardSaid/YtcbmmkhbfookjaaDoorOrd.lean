/-
  Commands as plain data; the walks of order.within and order.Check.
-/
import Derived.Test.YtcbmmkhbfookjaaDoorBy2
set_option linter.unusedVariables false
set_option linter.unusedSimpArgs false
namespace Go.Con
/-- five numbers: a command; and what a wish is made of -/
structure Cmd where
  kind : Int
  client : Int
  seq : Int
  name : Int
  value : Int
  deriving DecidableEq
def Cmd.zero : Cmd := ⟨0, 0, 0, 0, 0⟩
def cmdV (c : Cmd) : Value := .agg #[.int .i64 c.kind, .int .i64 c.client, .int .i64 c.seq, .int .i64 c.name, .int .i64 c.value]
def inRange (c : Cmd) : Bool := decide (0 ≤ c.client ∧ c.client ≤ 7 ∧ 0 ≤ c.seq ∧ c.seq ≤ 1048576 ∧ 0 ≤ c.name ∧ c.name ≤ 7 ∧ 0 ≤ c.value ∧ c.value ≤ 1073741824)
/-- what is wrong with a command; 0: nothing -/
def checkC (c : Cmd) : Int :=
  if c.kind = 0 then (if c = Cmd.zero then 0 else 3)
  else if 1 ≤ c.kind ∧ c.kind ≤ 3 then (if inRange c = false then 2 else if c.kind ≠ 1 ∧ c.value ≠ 0 then 3 else 0)
  else 4
end Go.Con
namespace Go.Proofs.YtcbmmkhbfookjaaDoor
open Go.RowKit Go.Con

def withinB (n lo hi : Int) : Bool := decide (lo ≤ n ∧ n ≤ hi)
end Go.Proofs.YtcbmmkhbfookjaaDoor
