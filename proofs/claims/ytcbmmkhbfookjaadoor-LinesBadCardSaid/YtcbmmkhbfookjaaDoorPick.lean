/-
  The walk of conclavekeep.picked.
-/
import Derived.Test.YtcbmmkhbfookjaaDoorBy2
set_option linter.unusedVariables false
set_option linter.unusedSimpArgs false
namespace Go.Proofs.YtcbmmkhbfookjaaDoor
open Go.RowKit Go.Con

set_option maxHeartbeats 400000 in
theorem picked_any (n m : Int) (w : World) (h1 : -9223372036854775808 ≤ n) (h2 : n ≤ 9223372036854775807) (h3 : 0 < m) :
    Calls Tryd.prog 10 #[.int .i64 n, .int .i64 m] w fun e w' => e = .returned (.int .i64 (pick n m)) ∧ w = w' := by
  by_cases hn : n < 0
  · go_enter Tryd.func10, Tryd.ntmps10
    go_wp2
    go_ret
    exact ⟨ret_int (by rw [pick, if_pos hn, ← Int.neg_tmod, Int.tmod_eq_emod_of_nonneg (by omega)]), rfl⟩
  · go_enter Tryd.func10, Tryd.ntmps10
    go_wp2
    go_ret
    exact ⟨ret_int (by rw [pick, if_neg (by omega)]), rfl⟩

end Go.Proofs.YtcbmmkhbfookjaaDoor
