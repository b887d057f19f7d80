/-
  Rows of eight bools that are the same are equal.
-/
import Derived.Test.YtoekopdogfnkhaaMid
import Derived.Test.YtoekopdogfnkhaaRes
import Derived.ChangeKeysEq
import Derived.Test.YtoekopdogfnkhaaRows
set_option linter.unusedVariables false
set_option linter.unusedSimpArgs false
namespace Go.Con
open Go
theorem items_boolC {P : Program} (w : World) {e : TypeId} (he : P.underlying e = some .bool) (d : Nat) (xs ys : List Bool) : ∀ (is : List Nat), (∀ i ∈ is, i < xs.length ∧ i < ys.length) →
    (Op.eqItems (d + 1) e 1 (xs.map Value.bool).toArray (ys.map Value.bool).toArray is).run P w = .ok (is.all fun i => xs.getD i false == ys.getD i false) w
  | [], _ => by simp [Op.eqItems]
  | i :: is, h => by
    have hp : P.plainKey e = true := by simp [Program.plainKey, he]
    obtain ⟨h1, h2⟩ := h i (by simp)
    have p1 := run_part_plain (P := P) w hp (xs := (xs.map Value.bool).toArray) (off := i * 1) (v := .bool (xs.getD i false)) (by simp [h1])
    have p2 := run_part_plain (P := P) w hp (xs := (ys.map Value.bool).toArray) (off := i * 1) (v := .bool (ys.getD i false)) (by simp [h2])
    simp only [Op.eqItems, Sem.run_bind, p1, p2, Result.andThen_ok, run_equalIn_bool' w d e _ _ he, List.all_cons]
    cases hh : (xs.getD i false == ys.getD i false)
    · simp
    · simpa using items_boolC w he d xs ys is (fun j hj => h j (by simp [hj]))
end Go.Con
namespace Go.Proofs.Ytoekopdogfnkhaa
open Go.RowKit Go.Con
theorem eqIn_8 (xs : List Bool) (hx : xs.length = 8) (W : World) : (Op.equalIn 10000 26 (.agg (xs.map Value.bool).toArray) (.agg (xs.map Value.bool).toArray)).run Try.prog W = .ok true W := by
  obtain ⟨i, hi⟩ : ∃ i, Try.prog.info? 4 = some i := ⟨_, rfl⟩
  rw [show 10000 = (9998 + 1) + 1 from rfl, run_equalIn_array W (9998 + 1) _ _ Try.underlying26 hi, show Try.prog.cellsOf 4 = 1 by kernel_rfl, items_boolC W (by kernel_rfl) 9998 xs xs _ (fun j hj => by rw [List.mem_range] at hj; omega)]
  simp
theorem eq_seen (f : Nat → Bool) (W : World) : (Op.equalIn 10000 26 (.agg #[.bool (f 0), .bool (f 1), .bool (f 2), .bool (f 3), .bool (f 4), .bool (f 5), .bool (f 6), .bool (f 7)]) (.agg #[.bool (f 0), .bool (f 1), .bool (f 2), .bool (f 3), .bool (f 4), .bool (f 5), .bool (f 6), .bool (f 7)])).run Try.prog W = .ok true W :=
  eqIn_8 [f 0, f 1, f 2, f 3, f 4, f 5, f 6, f 7] rfl W
end Go.Proofs.Ytoekopdogfnkhaa
