/-
  Results that lie in memory: read by one fact on the whole variable.
-/
import Derived.WalkKit
set_option linter.unusedVariables false
set_option linter.unusedSimpArgs false
namespace Go.Con
open Go Go.RowKit
theorem results_c {P : Program} {fn : Func} {tmps : Array Value} {w : World} {a : Nat} {t : TypeId} {ad : Addr} {v : Value} (hr : fn.results = #[.cell a t]) (ht : tmps.getD a undef = .pointer (some ad))
    (hl : (loadVar t ad).run P w = .ok v w) : (results fn tmps).run P w = .ok v w := by
  unfold results
  rw [hr]
  simp only [Array.getD_eq_getD_getElem?] at ht
  generalize loadVar = L at hl ⊢
  simp [ht, hl, go_sem]
theorem results_ct {P : Program} {fn : Func} {tmps : Array Value} {w : World} {a b : Nat} {t : TypeId} {ad : Addr} {v : Value} (hr : fn.results = #[.cell a t, .tmp b]) (ht : tmps.getD a undef = .pointer (some ad))
    (hl : (loadVar t ad).run P w = .ok v w) : (results fn tmps).run P w = .ok (.tuple #[v, tmps.getD b undef]) w := by
  unfold results
  rw [hr]
  simp only [Array.getD_eq_getD_getElem?] at ht
  generalize loadVar = L at hl ⊢
  simp [ht, hl, go_sem]
theorem results_cct {P : Program} {fn : Func} {tmps : Array Value} {w : World} {a b c : Nat} {t u : TypeId} {ad bd : Addr} {v x : Value} (hr : fn.results = #[.cell a t, .cell b u, .tmp c]) (ht : tmps.getD a undef = .pointer (some ad)) (hu : tmps.getD b undef = .pointer (some bd))
    (hl : (loadVar t ad).run P w = .ok v w) (hx : (loadVar u bd).run P w = .ok x w) : (results fn tmps).run P w = .ok (.tuple #[v, x, tmps.getD c undef]) w := by
  unfold results
  rw [hr]
  simp only [Array.getD_eq_getD_getElem?] at ht hu
  generalize loadVar = L at hl hx ⊢
  simp [ht, hu, hl, hx, go_sem]
end Go.Con
