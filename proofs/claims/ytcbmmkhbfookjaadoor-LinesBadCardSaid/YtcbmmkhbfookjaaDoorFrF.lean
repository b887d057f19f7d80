/-
  A feat that came in: a struct of three ints and bytes, by value.
-/
import Derived.Test.YtcbmmkhbfookjaaDoorFrW
import Derived.Test.YtcbmmkhbfookjaaDoorFrB
set_option linter.unusedVariables false
set_option linter.unusedSimpArgs false
namespace Go.Con
open Go
structure FeatX where
  kind : Int
  a : Int
  b : Int
  data : List UInt8
end Go.Con
namespace Go.Proofs.YtcbmmkhbfookjaaDoor
open Go.ChangeShapes Go.WideShapes Go.ChangeAt Go.RowKit Go.Con Go.Deep
section
variable {H : Type} {enc : TypeId × Value → H} {W : World} {base b0 : Nat}
def IsFeat (w : World) (v : Value) (x : FeatX) : Prop :=
  ∃ dv, v = .agg #[.int .i64 x.kind, .int .i64 x.a, .int .i64 x.b, dv] ∧ Con.Int64 x.kind ∧ Con.Int64 x.a ∧ Con.Int64 x.b ∧ Rd w dv x.data
set_option maxRecDepth 100000 in
theorem open_feat {v : Value} {d : DataW H} {p : List MemPlace} (hv : Value.okWide Tryd.prog W .any b0 41 v) (h : DataW.Trod enc Tryd.prog W base (fun _ => true) true 41 v d p) : ∃ x, IsFeat W v x := by
  obtain ⟨⟨cs⟩, rfl, hsz⟩ := okWide_struct Tryd.underlying41 hv
  obtain ⟨fuel, hf⟩ := h
  obtain ⟨xs, n, _, _, hl, hlen, hfl⟩ := DataW.trod_struct Tryd.underlying41 hf
  have h4 : cs.length = 4 := by
    have e : Tryd.prog.cellsOf 41 = 4 := by kernel_rfl
    simpa [e] using hsz
  match cs, h4 with
  | [c0, c1, c2, c3], _ =>
    have hc1 : Tryd.prog.cellsOf 3 = 1 := by kernel_rfl
    have hc2 : Tryd.prog.cellsOf 30 = 1 := by kernel_rfl
    have g0 := hfl 0 _ rfl
    have g1 := hfl 1 _ rfl
    have g2 := hfl 2 _ rfl
    have g3 := hfl 3 _ rfl
    rw [List.getElem?_eq_getElem (by have := hlen; simp at this; omega)] at g0 g1 g2 g3
    simp [Value.cells, hc1, hc2] at g0 g1 g2 g3
    obtain ⟨n0, e0, _, b0⟩ := DataW.trod_int Tryd.underlying3 g0
    obtain ⟨n1, e1, _, b1⟩ := DataW.trod_int Tryd.underlying3 g1
    obtain ⟨n2, e2, _, b2⟩ := DataW.trod_int Tryd.underlying3 g2
    obtain ⟨dv, l, e3, hr⟩ := open_row g3
    simp at e0 e1 e2 e3
    subst e0 e1 e2 e3
    exact ⟨⟨n0, n1, n2, l⟩, _, rfl, bounds_i64 b0, bounds_i64 b1, bounds_i64 b2, hr⟩
end
end Go.Proofs.YtcbmmkhbfookjaaDoor
