/-
  The walk of conclavekeep.Command: a wish as a command that may be.
-/
import Derived.Test.YtcbmmkhbfookjaaDoorOrdE
import Derived.Test.YtcbmmkhbfookjaaDoorPick
import Derived.Deep.RegionHeld3
set_option linter.unusedVariables false
set_option linter.unusedSimpArgs false
namespace Go.Con
def Int64 (n : Int) : Prop := -9223372036854775808 ≤ n ∧ n ≤ 9223372036854775807
/-- every number of a wish is an int -/
def WishOk (x : Cmd) : Prop := Int64 x.kind ∧ Int64 x.client ∧ Int64 x.seq ∧ Int64 x.name ∧ Int64 x.value
/-- a wish as a command -/
def cmdOf (x : Cmd) : Cmd :=
  let k := 1 + pick x.kind 5 / 2
  ⟨k, pick x.client 4, pick x.seq 6, pick x.name 4, if k = 1 then pick x.value 1000 else 0⟩
theorem cmdOf_check (x : Cmd) : checkC (cmdOf x) = 0 := by
  have h1 := pick_nonneg x.kind 5 (by omega)
  have h2 := pick_lt x.kind 5 (by omega)
  have h3 := pick_nonneg x.client 4 (by omega)
  have h4 := pick_lt x.client 4 (by omega)
  have h5 := pick_nonneg x.seq 6 (by omega)
  have h6 := pick_lt x.seq 6 (by omega)
  have h7 := pick_nonneg x.name 4 (by omega)
  have h8 := pick_lt x.name 4 (by omega)
  have h9 := pick_nonneg x.value 1000 (by omega)
  have h10 := pick_lt x.value 1000 (by omega)
  unfold checkC
  have hk : 1 ≤ (cmdOf x).kind ∧ (cmdOf x).kind ≤ 3 := by simp only [cmdOf]; omega
  rw [if_neg (by omega), if_pos hk]
  have hr : inRange (cmdOf x) = true := by
    unfold inRange
    rw [decide_eq_true_eq]
    simp only [cmdOf]
    refine ⟨h3, by omega, h5, by omega, h7, by omega, ?_⟩
    split <;> omega
  rw [if_neg (by rw [hr]; decide), if_neg]
  intro ⟨ha, hb⟩
  apply hb
  simp only [cmdOf] at ha ⊢
  rw [if_neg ha]
end Go.Con
namespace Go.Proofs.YtcbmmkhbfookjaaDoor
open Go.RowKit Go.Con

end Go.Proofs.YtcbmmkhbfookjaaDoor
