/-
  What the listed variables give a walk.
-/
import Derived.Test.YtdjnbnbhpjiicaaDoorFrm
import Derived.Test.YtdjnbnbhpjiicaaDoorShaT
import Derived.Lib.LaidTab
set_option linter.unusedVariables false
set_option linter.unusedSimpArgs false
namespace Go.Proofs.YtdjnbnbhpjiicaaDoor
open Go.RowKit Go.Con

theorem numbers_tab : (Rows.laid_conclave_sha_numbers : DataW Unit) = Lib.tabData .u32 (Sha.kn.map fun x => (x.toNat : Int)) := by kernel_rfl

theorem kn_of_laid {W : World} {rest : List (String × DataW Unit)} (hp : laidMet Tryd.prog (("conclave/sha.numbers", Rows.laid_conclave_sha_numbers) :: rest) W) : Kn W := by
  rw [numbers_tab] at hp
  have hg : Tryd.prog.globalNamed "conclave/sha.numbers" = some 1 := by kernel_rfl
  have ht := Lib.tabIs_of_head (t := 103) (e := 94) (n := 64) hg (by kernel_rfl) Tryd.underlying103 Tryd.underlying94 (by kernel_rfl) (by kernel_rfl) hp
  intro i hi
  have := ht.cell hg i (by rw [List.length_map]; exact hi)
  rw [this]
  congr 2
  have hl : i < Sha.kn.length := hi
  simp [hl]
end Go.Proofs.YtdjnbnbhpjiicaaDoor
