/-
  A pass that came in: a struct of three ints by value.
-/
import Derived.Test.YtdjnbnbhpjiicaaDoorFrW
import Derived.Test.YtdjnbnbhpjiicaaDoorAlw
set_option linter.unusedVariables false
set_option linter.unusedSimpArgs false
namespace Go.Proofs.YtdjnbnbhpjiicaaDoor
open Go.ChangeShapes Go.WideShapes Go.ChangeAt Go.RowKit Go.Con Go.Deep
section
variable {H : Type} {enc : TypeId × Value → H} {W : World} {base b0 : Nat} {sp : Nat → Bool}
/-- every number of a pass is an int -/
def PassOk (x : Con.Tok) : Prop := Con.Int64 x.client ∧ Con.Int64 x.rights ∧ Con.Int64 x.til
def IsPass (v : Value) (x : Con.Tok) : Prop := v = tokV x ∧ PassOk x
set_option maxRecDepth 100000 in
theorem open_pass {v : Value} {d : DataW H} {p : List MemPlace} (hv : Value.okWide Tryd.prog W .any b0 25 v) (h : DataW.Trod enc Tryd.prog W base (fun _ => true) true 25 v d p) : ∃ x, IsPass v x := by
  obtain ⟨⟨cs⟩, rfl, hsz⟩ := okWide_struct Tryd.underlying25 hv
  obtain ⟨fuel, hf⟩ := h
  obtain ⟨hl, hi⟩ := trod_ints Tryd.underlying25 (by kernel_rfl) hf
  have h3 : cs.length = 3 := by
    have e : Tryd.prog.cellsOf 25 = 3 := by kernel_rfl
    simpa [e] using hsz
  match cs, h3 with
  | [c0, c1, c2], _ =>
    have e : ∀ i, i < 3 → ∃ n, ([c0, c1, c2] : List Value)[i]? = some (.int .i64 n) ∧ Int64 n := fun i h => by simpa [Value.cells] using hi i h
    obtain ⟨n0, e0, b0⟩ := e 0 (by omega)
    obtain ⟨n1, e1, b1⟩ := e 1 (by omega)
    obtain ⟨n2, e2, b2⟩ := e 2 (by omega)
    simp at e0 e1 e2
    subst e0 e1 e2
    exact ⟨⟨n0, n1, n2⟩, rfl, b0, b1, b2⟩
end
end Go.Proofs.YtdjnbnbhpjiicaaDoor
