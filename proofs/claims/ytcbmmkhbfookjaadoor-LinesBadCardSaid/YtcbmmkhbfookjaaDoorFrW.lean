/-
  Arguments of numbers: a struct of ints by value, and slices of such, opened.
-/
import Derived.Test.YtcbmmkhbfookjaaDoorFrm
import Derived.Test.YtcbmmkhbfookjaaDoorCmd
import Derived.Deep.Slices
import Derived.Deep.Fields
set_option linter.unusedVariables false
set_option linter.unusedSimpArgs false
namespace Go.Proofs.YtcbmmkhbfookjaaDoor
open Go.ChangeShapes Go.WideShapes Go.ChangeAt Go.RowKit Go.Con Go.Deep

/-- each field is one int, one behind the other -/
def intFields (fs : Array Field) : Bool := (List.range fs.size).all fun i => match fs[i]? with | some f => f.offset == i && f.type == 3 | none => false
section
variable {H : Type} {enc : TypeId × Value → H} {W : World} {base b0 : Nat} {sp : Nat → Bool}

theorem trod_ints {t : TypeId} {fs : Array Field} {fuel : Nat} {cs : List Value} {x : DataW H × List MemPlace} (hs : Tryd.prog.underlying t = some (.struct fs)) (hall : intFields fs = true)
    (h : DataW.trod enc Tryd.prog W base sp true fuel t cs = some x) : cs.length = Tryd.prog.cellsOf t ∧ ∀ i, i < fs.size → ∃ n, cs[i]? = some (.int .i64 n) ∧ Int64 n := by
  obtain ⟨xs, n, _, _, hl, hlen, hf⟩ := DataW.trod_struct hs h
  refine ⟨hl, fun i hi => ?_⟩
  have ha := List.all_eq_true.1 hall i (List.mem_range.2 hi)
  have hfi : fs[i]? = some fs[i] := Array.getElem?_eq_getElem hi
  simp only [hfi, Bool.and_eq_true, beq_iff_eq] at ha
  have h1 := hf i _ hfi
  have hc1 : Tryd.prog.cellsOf 3 = 1 := by kernel_rfl
  rw [ha.1, ha.2, hc1, List.getElem?_eq_getElem (by omega)] at h1
  obtain ⟨z, hz, _, hw⟩ := DataW.trod_int Tryd.underlying3 h1
  refine ⟨z, ?_, bounds_i64 hw⟩
  have h2 := congrArg (fun l : List Value => l[0]?) hz
  simpa [List.getElem?_take, List.getElem?_drop] using h2

def IsWish (v : Value) (x : Cmd) : Prop := v = cmdV x ∧ WishOk x
/-- the cells of a wish -/
def wishCells (x : Cmd) : List Value := [.int .i64 x.kind, .int .i64 x.client, .int .i64 x.seq, .int .i64 x.name, .int .i64 x.value]
/-- A slice of wishes that came in. -/
def RdWishes (w : World) (v : Value) (l : List Cmd) : Prop :=
  ∃ a c, v = .slice a l.length c ∧ l.length ≤ c ∧ c ≤ maxLen ∧ (∀ x ∈ l, WishOk x) ∧ (l ≠ [] → ∃ b off, a = some ⟨b, off, none⟩ ∧ ∀ i, i < l.length → ∀ j, j < 5 → w.cell? ⟨b, off + (5 * i + j), none⟩ = (wishCells (l.getD i Cmd.zero))[j]?)
end
end Go.Proofs.YtcbmmkhbfookjaaDoor
