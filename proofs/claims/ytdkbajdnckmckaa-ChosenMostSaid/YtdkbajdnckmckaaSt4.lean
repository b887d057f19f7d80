/-
  The walks of stable.four and get.
-/
import Derived.Test.YtdkbajdnckmckaaStb
import Derived.Test.YtdkbajdnckmckaaOrdE
import Derived.Test.YtdkbajdnckmckaaB64
import Derived.Test.YtdkbajdnckmckaaFrI
set_option linter.unusedVariables false
set_option linter.unusedSimpArgs false
namespace Go.Proofs.Ytdkbajdnckmckaa
open Go.RowKit Go.Con
/-- numbers, four bytes each -/
def flatB (zs : List Int) : List UInt8 := zs.flatMap fun z => fourB z.toNat
theorem flatB_len (zs : List Int) : (flatB zs).length = 4 * zs.length := by
  induction zs with
  | nil => rfl
  | cons z r ih => rw [flatB, List.flatMap_cons, List.length_append, List.length_cons]; rw [flatB] at ih; rw [ih]; simp [fourB]; omega
theorem flatB_take (zs : List Int) (k : Nat) (hk : k < zs.length) : flatB (zs.take (k + 1)) = flatB (zs.take k) ++ fourB (zs.getD k 0).toNat := by
  have e : zs.take (k + 1) = zs.take k ++ [zs.getD k 0] := by
    rw [List.take_succ_eq_append_getElem hk]; simp [hk]
  rw [e, flatB, List.flatMap_append]; simp [flatB]
/-- a number of four bytes -/
def getN (l : List UInt8) : Nat := (l.getD 0 0).toNat * 16777216 + (l.getD 1 0).toNat * 65536 + (l.getD 2 0).toNat * 256 + (l.getD 3 0).toNat
end Go.Proofs.Ytdkbajdnckmckaa
