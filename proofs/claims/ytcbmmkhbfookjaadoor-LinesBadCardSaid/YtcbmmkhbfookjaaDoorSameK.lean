/-
  The walk of conclavekeep.same.
-/
import Derived.Test.YtcbmmkhbfookjaaDoorBy2
set_option linter.unusedVariables false
set_option linter.unusedSimpArgs false
namespace Go.Proofs.YtcbmmkhbfookjaaDoor
open Go.RowKit Go.Con

set_option maxHeartbeats 400000 in
theorem same_any (a b : Value) (x y : List UInt8) (w : World) (ha : Rd w a x) (hb : Rd w b y) :
    Calls Tryd.prog 9 #[a, b] w fun e w' => e = .returned (.bool (x == y)) ∧ w = w' := by
  have h1 := run_str w a x ha
  have h2 := run_str w b y hb
  clear ha hb
  go_enter Tryd.func9, Tryd.ntmps9
  go_wp2
  go_ret
  exact ⟨rfl, rfl⟩

theorem same_true (a b : Value) (x y : List UInt8) (w : World) (ha : Rd w a x) (hb : Rd w b y) (h : x = y) :
    Calls Tryd.prog 9 #[a, b] w fun e w' => e = .returned (.bool true) ∧ w = w' :=
  (same_any a b x y w ha hb).mono fun e w' ⟨he, hw⟩ => ⟨by rw [he, h]; simp, hw⟩

end Go.Proofs.YtcbmmkhbfookjaaDoor
