/-
  What the listed table of rights gives a walk.
-/
import Derived.Test.YtdjnbnbhpjiicaaDoorFrm
import Derived.Test.YtdjnbnbhpjiicaaDoorAlw
import Derived.Lib.LaidTab
set_option linter.unusedVariables false
set_option linter.unusedSimpArgs false
namespace Go.Proofs.YtdjnbnbhpjiicaaDoor
open Go.RowKit Go.Con
theorem need_tab : (Rows.laid_conclave_order_need : DataW Unit) = Lib.tabData .i64 [0, 2, 1, 4] := by kernel_rfl
theorem need_of_laid {W : World} {rest : List (String × DataW Unit)} (hp : laidMet Tryd.prog (("conclave/order.need", Rows.laid_conclave_order_need) :: rest) W) : Nd W := by
  rw [need_tab] at hp
  have hg : Tryd.prog.globalNamed "conclave/order.need" = some 0 := by kernel_rfl
  have ht := Lib.tabIs_of_head (t := 82) (e := 3) (n := 4) hg (by kernel_rfl) Tryd.underlying82 Tryd.underlying3 (by kernel_rfl) (by kernel_rfl) hp
  intro i hi
  have := ht.cell hg i (by simpa using hi)
  rw [this]
  have h4 : i = 0 ∨ i = 1 ∨ i = 2 ∨ i = 3 := by omega
  rcases h4 with rfl | rfl | rfl | rfl <;> rfl
end Go.Proofs.YtdjnbnbhpjiicaaDoor
