/-
  Reading texts of whatever length; the acts of the lines of acts.
-/
import Derived.Test.YtcbmmkhbfookjaaDoorRea
import Derived.Test.YtcbmmkhbfookjaaDoorLnS
import Derived.Test.YtcbmmkhbfookjaaDoorFrm
set_option linter.unusedVariables false
set_option linter.unusedSimpArgs false
namespace Go.Con
open Go
theorem linesX_cons (x : Acx) (l : List Acx) : linesX (x :: l) = x.line ++ linesX l := by simp [linesX]
theorem linesX_flatten (l : List Acx) : linesX l = (l.map Acx.line).flatten := by
  induction l with
  | nil => rfl
  | cons x l ih => rw [linesX_cons, ih]; simp
/-- the acts of a text's lines have its text -/
theorem Acts.text {ps : List (List UInt8)} {L : List Acx} (h : Acts ps L) : L.map Acx.line = ps := by
  obtain ⟨h1, h2⟩ := h
  apply List.ext_getElem
  · simp [h1]
  · intro j h3 h4
    have h5 := (h2 j h4).line
    rw [List.getD_eq_getElem?_getD, List.getD_eq_getElem?_getD, List.getElem?_eq_getElem h4, List.getElem?_eq_getElem (by rw [h1]; exact h4)] at h5
    simpa using h5
theorem Acx.Ok.toFit {x : Acx} (h : x.Ok) : Fit x.k x.n x.a x.p x.d := ⟨h.k1, h.k9, h.code⟩
theorem lines_whole {xs : List Acx} (h : ∀ x ∈ xs, x.Ok) : ∀ q ∈ xs.map Acx.line, Whole q := by
  intro q hq
  obtain ⟨x, hx, rfl⟩ := List.mem_map.1 hq
  exact (h x hx).toFit.whole
theorem lines_good {xs : List Acx} (h : ∀ x ∈ xs, x.Ok) : ∀ q ∈ xs.map Acx.line, GoodL q := by
  intro q hq
  obtain ⟨x, hx, rfl⟩ := List.mem_map.1 hq
  exact (h x hx).toFit.good
theorem linesOf_acts {xs : List Acx} (h : ∀ x ∈ xs, x.Ok) : linesOf (linesX xs) = xs.map Acx.line := by
  have h1 := linesOf_app (xs.map Acx.line) [] (lines_whole h)
  rw [List.append_nil, ← linesX_flatten] at h1
  rw [h1]
  show _ ++ [] = _
  rw [List.append_nil]
/-- the act that is read of an act's line is the act -/
theorem isOf_same {x y : Acx} (h : x.isOf y.line) (hy : y.Ok) : x.k = y.k ∧ x.n = y.n ∧ x.a = y.a ∧ x.p = y.p ∧ x.d = y.d := by
  obtain ⟨h1, h2, h3, h4⟩ := h
  obtain ⟨b1, b2, b3⟩ := hy.toFit.back
  have e : actC y.line = [y.k, y.n, y.a, y.p] := b2
  rw [e] at h2
  injection h2 with e1 h2
  injection h2 with e2 h2
  injection h2 with e3 h2
  injection h2 with e4 h2
  exact ⟨e1.symm, e2.symm, e3.symm, e4.symm, h3.trans b3⟩
theorem acts_same {xs L : List Acx} (h : ∀ x ∈ xs, x.Ok) (hL : Acts (xs.map Acx.line) L) : L.length = xs.length ∧ ∀ j, j < xs.length → (L.getD j Acx.zero).k = (xs.getD j Acx.zero).k ∧ (L.getD j Acx.zero).n = (xs.getD j Acx.zero).n ∧ (L.getD j Acx.zero).a = (xs.getD j Acx.zero).a ∧ (L.getD j Acx.zero).p = (xs.getD j Acx.zero).p ∧ (L.getD j Acx.zero).d = (xs.getD j Acx.zero).d := by
  obtain ⟨h1, h2⟩ := hL
  refine ⟨by simpa using h1, fun j hj => ?_⟩
  have h3 := h2 j (by simpa using hj)
  have hx : xs.getD j Acx.zero ∈ xs := by rw [List.getD_eq_getElem?_getD, List.getElem?_eq_getElem hj]; exact List.getElem_mem _
  have e : (xs.map Acx.line).getD j [] = (xs.getD j Acx.zero).line := by
    simp only [List.getD_eq_getElem?_getD]
    rw [List.getElem?_map, List.getElem?_eq_getElem hj]; rfl
  rw [e] at h3
  exact isOf_same h3 (h _ hx)
end Go.Con
namespace Go.Proofs.YtcbmmkhbfookjaaDoor
open Go.RowKit Go.Con Go.Shelf
attribute [local go_sem] Oper.semAt_some
def IsStr (v : Value) (s : List UInt8) : Prop := v = .string ⟨s.toArray⟩
section
variable {H : Type} {enc : TypeId × Value → H} {W : World} {base b0 : Nat}
set_option maxRecDepth 100000 in
theorem open_string {v : Value} {d : DataW H} {p : List MemPlace} (hv : Value.okWide Tryd.prog W .any b0 9 v) (h : DataW.Trod enc Tryd.prog W base (fun _ => true) true 9 v d p) : ∃ s, IsStr v s := by
  obtain ⟨s, rfl⟩ := WideShapes.okWide_string Tryd.underlying9 hv
  exact ⟨s.data.toList, rfl⟩
end
set_option maxRecDepth 100000 in
set_option maxHeartbeats 1000000 in
theorem Read_long (s : List UInt8) (w : World) (hs : 4000000 < s.length) :
    Calls Tryd.prog 8 #[.string ⟨s.toArray⟩] w (ReadPost w s) := by
  have hd0 : decide ((4000000 : Int) < s.length) = true := by rw [decide_eq_true_eq]; omega
  have HS := Lib.hid hs
  clear hs
  refine (callsIn_wide (n := 6)).1 ?_
  refine callsIn_of_wp_marks Tryd.func8 rfl trivial ?_ rfl
  simp only [Tryd.ntmps8, List.size_toArray, List.length_cons, List.length_nil, Nat.reduceAdd, Nat.reduceSub, Array.replicate_succ, Array.replicate_zero, List.push_toArray, List.append_toArray, List.nil_append, List.cons_append]
  gi_wp2
  have hb : Below w.heap.size w (((w.alloc (.cells #[.slice none 0 0] 23)).alloc (.cells #[.int .i64 0] 3)).alloc (.cells #[.int .i64 1] 25)) :=
    (((Below.refl _ _).alloc (Nat.le_refl _) _).alloc (by simp) _).alloc (by simp; omega) _
  refine ⟨.tuple #[.slice none 0 0, .int .i64 0, .int .i64 1], ?_, ⟨_, _, _, rfl, hb, .inl ⟨HS.out, rfl, rfl, rfl⟩⟩⟩
  simp [results, Tryd.results8, go_sem]
theorem Read_all (s : List UInt8) (w : World) (hw : LnV w) (hr : LnR w) :
    Calls Tryd.prog 8 #[.string ⟨s.toArray⟩] w (ReadPost w s) := by
  rcases Nat.lt_or_ge 4000000 s.length with h | h
  · exact Read_long s w h
  · exact Read_any s w h hw hr
end Go.Proofs.YtcbmmkhbfookjaaDoor
