/-
  The frame of laws whose walk uses the form's own reach: each slice that comes in has at most 2^47 - 4096 bytes.
-/
import Derived.Test.YtdjnbnbhpjiicaaFrm
import Derived.Handed
namespace Go.Proofs.Ytdjnbnbhpjiicaa
open Go.ChangeShapes Go.WideShapes Go.ChangeAt Go.RowKit Go.Con

theorem change_sized {H : Type} {enc : TypeId × Value → H} {a : Assume} {C : Checked} {os : Os} {f : FuncId} {fn : Func} {s : ChangeSpec} {conds : List PathCond} {apart fresh handsOn again : Bool}
    (own : ownKnob C.prog.godebug = none) (started : os.Started) (noInit : C.prog.inits.idxOf? f = none) (hfn : C.prog.funcs[f]? = some fn)
    (witness : ∃ (w : World) (tape : Tape) (i : Input), w.os = os ∧ (w.forCall tape i).Shaped C.prog ∧ i.vars = [] ∧ Input.okWide C.prog (w.forCall tape i) .any w.heap.size f i ∧
      s.pre6 enc C.prog fn conds apart (w.forCall tape i).memory i.args ∧ a.holds C.prog (lone (Frame.enter C.prog f i.args .normal) [] (w.forCall tape i)))
    (contract : ∀ (W : World) (base : Nat) (args : Array Value) (ds gs : List (DataW H)) (before : List MemPlace),
      (∀ (j : Nat) t v, fn.params[j]? = some t → args[j]? = some v → Value.okWide C.prog W .any base t v) →
      DataW.Whole enc C.prog fn.params.toList s.vars apart W args.toList ds gs before →
      conds.all (PathCond.test C.prog ⟨fn.params.toList, ds, s.plain.varTypes C.prog, gs⟩) = true →
      (DataW.weightsEach C.prog (fn.params.toList ++ s.plain.varTypes C.prog) (ds ++ gs)).all (· ≤ reachBytes) = true →
      Calls C.prog f args W fun e W' => ∃ v, e = .returned v ∧ s.post enc C.prog fn apart fresh handsOn again W args v W') :
    ReturnsInHanded a C os f .any (s.pre6 enc C.prog fn conds apart) (s.post enc C.prog fn apart fresh handsOn again) := by
  have h := returnsInHanded_of_change_and (X := fun _ _ => True) (fun _ _ _ _ h => h) own started noInit hfn
    (let ⟨w, t, i, h1, h2, h3, h4, h5, h6⟩ := witness; ⟨w, t, i, h1, h2, h3, h4, ⟨⟨h5.1, trivial⟩, h5.2⟩, h6⟩)
    (fun W base args ds gs before k1 k2 k3 k4 _ _ => contract W base args ds gs before k1 k2 k3 k4)
  have e : (fun w args => (s.pre enc C.prog fn conds apart w args ∧ True) ∧ sizedMet enc C.prog fn (OpenSpec.ofChange s) apart w args) = s.pre6 enc C.prog fn conds apart := by
    funext w args
    simp [ChangeSpec.pre6]
  rw [e] at h
  exact h

theorem weights_at {H : Type} {P : Program} : ∀ (ts : List TypeId) (ds : List (DataW H)), (DataW.weightsEach P ts ds).all (· ≤ reachBytes) = true → ∀ (i : Nat) (t : TypeId) (d : DataW H), ts[i]? = some t → ds[i]? = some d → (d.weights P t).all (· ≤ reachBytes) = true
  | [], _, _, i, _, _, h, _ => by simp at h
  | _ :: _, [], _, i, _, _, _, h => by simp at h
  | t0 :: ts, d0 :: ds, h, i, t, d, h1, h2 => by
    simp only [DataW.weightsEach, List.all_append, Bool.and_eq_true] at h
    cases i with
    | zero =>
      simp only [List.getElem?_cons_zero, Option.some.injEq] at h1 h2
      subst h1 h2
      exact h.1
    | succ i => exact weights_at ts ds h.2 i t d (by simpa using h1) (by simpa using h2)

section
variable {H : Type} {enc : TypeId × Value → H} {W : World} {base b0 : Nat}
/-- the length of bytes that came in -/
def Small (l : List UInt8) : Prop := l.length ≤ 140737488351232
set_option maxRecDepth 100000 in
theorem small_bytes {v : Value} {d : DataW H} {p : List MemPlace} {l : List UInt8} (hR : Rd W v l) (h : DataW.Trod enc Try.prog W base (fun _ => true) true 22 v d p) (hw : (d.weights Try.prog 22).all (· ≤ reachBytes) = true) : Small l := by
  obtain ⟨a, c, rfl, hlc, hcm⟩ := hR.slice
  obtain ⟨fuel, hf⟩ := h
  rcases open_ints Try.underlying22 Try.underlying5 (by kernel_rfl) hf with ⟨hcs, _⟩ | ⟨x, n, cap, zs, hcs, _, hl, hm, hz, hx, hcell, hwz⟩
  · simp [Value.cells] at hcs
    unfold Small
    rw [hcs.2.1]
    decide
  · simp [Value.cells] at hcs
    obtain ⟨rfl, rfl, rfl⟩ := hcs
    have hz' : zs.length = c := by simpa using hz
    simp only [Prod.mk.injEq] at hx
    rw [hx.1] at hw
    have hb1 : Try.prog.bytesOf 5 = 1 := by kernel_rfl
    simp only [DataW.weights, Try.underlying22, List.all_cons, Bool.and_eq_true, decide_eq_true_eq, hb1] at hw
    have h1 := hw.1
    simp only [lits, List.length_map, List.length_take, List.length_drop, reachBytes] at h1
    unfold Small
    omega
end
end Go.Proofs.Ytdjnbnbhpjiicaa
