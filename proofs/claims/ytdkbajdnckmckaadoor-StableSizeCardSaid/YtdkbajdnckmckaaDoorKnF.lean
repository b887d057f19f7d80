/-
  What the listed variables give a walk.
-/
import Derived.Test.YtdkbajdnckmckaaDoorFrm
import Derived.Test.YtdkbajdnckmckaaDoorShaT
import Derived.Lib.LaidTab
set_option linter.unusedVariables false
set_option linter.unusedSimpArgs false
namespace Go.Proofs.YtdkbajdnckmckaaDoor
open Go.RowKit Go.Con

theorem numbers_tab : (Rows.laid_conclave_sha_numbers : DataW Unit) = Lib.tabData .u32 (Sha.kn.map fun x => (x.toNat : Int)) := by kernel_rfl

theorem kn_of_laid {W : World} {rest : List (String × DataW Unit)} (hp : laidMet Tryd.prog (("conclave/sha.numbers", Rows.laid_conclave_sha_numbers) :: rest) W) : Kn W := by
  rw [numbers_tab] at hp
  have hg : Tryd.prog.globalNamed "conclave/sha.numbers" = some 0 := by kernel_rfl
  have ht := Lib.tabIs_of_head (t := 100) (e := 95) (n := 64) hg (by kernel_rfl) Tryd.underlying100 Tryd.underlying95 (by kernel_rfl) (by kernel_rfl) hp
  intro i hi
  have := ht.cell hg i (by rw [List.length_map]; exact hi)
  rw [this]
  congr 2
  have hl : i < Sha.kn.length := hi
  simp [hl]
end Go.Proofs.YtdkbajdnckmckaaDoor
