/-
  What applying a body makes; contracts of paxos.Promise and paxos.Accept for any ballot and any vote.
-/
import Derived.Test.YtdkbajdnckmckaaStX
import Derived.Test.YtdkbajdnckmckaaOrdD
set_option linter.unusedVariables false
set_option linter.unusedSimpArgs false
namespace Go.Con
open Go
theorem okVs_len {p : Int × Int} : ∀ {l : List Vot} {last : Int}, last ≤ 39 → okVs p last l = true → (l.length : Int) ≤ 39 - last
  | [], last, h, _ => by simp; omega
  | v :: l, last, h, hl => by
    have hl' : (okV v && decide (last < v.slot) && decide (cmpB v.bal p ≤ 0) && okVs p v.slot l) = true := hl
    simp only [Bool.and_eq_true, decide_eq_true_eq] at hl'
    obtain ⟨⟨⟨h1, h2⟩, _⟩, h3⟩ := hl'
    have h4 := okV_parts h1
    have h5 := okVs_len (by omega) h3
    simp only [List.length_cons]
    omega
theorem okA_len {p : Int × Int} {l : List Vot} (h : okA p l = true) : l.length ≤ 1000 := by
  unfold okA at h
  simp only [Bool.and_eq_true] at h
  have := okVs_len (by omega) h.2
  omega
/-- an acceptor -/
structure Apr where
  p : Int × Int
  l : List Vot
  deriving DecidableEq
def Apr.ok (a : Apr) : Bool := okA a.p a.l
def Apr.zero : Apr := ⟨(0, 0), []⟩
/-- a promise -/
def proA (a : Apr) (b : Int × Int) : Option Apr := if okB b = true ∧ ¬ cmpB b a.p < 0 then some ⟨b, a.l⟩ else none
/-- a vote -/
def votA (a : Apr) (y : Vot) : Option Apr := if okV y = true ∧ ¬ cmpB y.bal a.p < 0 then some ⟨y.bal, putV y a.l⟩ else none
theorem proA_ok {a c : Apr} {b : Int × Int} (h : a.ok = true) (hc : proA a b = some c) : c.ok = true := by
  unfold proA at hc
  split at hc
  · rename_i h1
    injection hc with hc
    subst hc
    exact okA_higher h h1.1 h1.2
  · cases hc
theorem votA_ok {a c : Apr} {y : Vot} (h : a.ok = true) (hc : votA a y = some c) : c.ok = true := by
  unfold votA at hc
  split at hc
  · rename_i h1
    injection hc with hc
    subst hc
    exact okA_put h h1.1 h1.2
  · cases hc
end Go.Con
namespace Go.Proofs.Ytdkbajdnckmckaa
open Go.RowKit Go.Con
def bodPro (l : List UInt8) : Int × Int := (getN (l.drop 1), getN (l.drop 5))
def bodVot (l : List UInt8) : Vot := ⟨getN (l.drop 1), (getN (l.drop 5), getN (l.drop 9)), (decC (l.drop 13)).1⟩
/-- what a body makes of an acceptor -/
def applyB (a : Apr) (l : List UInt8) : Option Apr :=
  if l.length = 9 ∧ l.getD 0 0 = 1 then proA a (bodPro l)
  else if l.length = 33 ∧ l.getD 0 0 = 2 then (if (decC (l.drop 13)).2 = 0 then votA a (bodVot l) else none)
  else none
theorem applyB_ok {a c : Apr} {l : List UInt8} (h : a.ok = true) (hc : applyB a l = some c) : c.ok = true := by
  unfold applyB at hc
  split at hc
  · exact proA_ok h hc
  · split at hc
    · split at hc
      · exact votA_ok h hc
      · cases hc
    · cases hc
/-- promised or not -/
theorem Promise_all (a : Apr) (br bn : Int) (v : Value) (w : World) (hv : Votes w v a.l) (hok : a.ok = true) :
    Calls Try.prog 14 #[.agg #[.int .i64 a.p.1, .int .i64 a.p.2, v], .agg #[.int .i64 br, .int .i64 bn]] w fun e w' =>
      Below w.heap.size w w' ∧ ∃ x y a1 n1 c1 v2 c, e = .returned (.tuple #[.agg #[.int .i64 x, .int .i64 y, .slice a1 n1 c1], v2, .int .i64 c]) ∧ ((proA a (br, bn) = none ∧ c ≠ 0) ∨ (proA a (br, bn) = some ⟨(x, y), a.l⟩ ∧ c = 0 ∧ OwnV w' w.heap.size (.slice a1 n1 c1) a.l)) := by
  obtain ⟨⟨pr, pn⟩, l⟩ := a
  have hl : l.length ≤ 1000 := okA_len hok
  cases hb : okB (br, bn) with
  | false =>
    refine (Promise_bad pr pn br bn v l w hv hok hb hl).mono ?_
    rintro e w' ⟨rfl, h⟩
    exact ⟨h, _, _, _, _, _, _, _, rfl, .inl ⟨by simp [proA, hb], by decide⟩⟩
  | true =>
    refine (Promise_to pr pn br bn v l w hv hok hb hl).mono ?_
    rintro e w' ⟨h, h2 | h2⟩
    · obtain ⟨h2, rfl⟩ := h2
      exact ⟨h, _, _, _, _, _, _, _, rfl, .inl ⟨by simp [proA, h2], by decide⟩⟩
    · obtain ⟨h2, v1, v2, rfl, o1, _⟩ := h2
      obtain ⟨a1, c1, rfl, -⟩ := id o1.row
      exact ⟨h, _, _, _, _, _, _, _, rfl, .inr ⟨by rw [proA, if_pos ⟨hb, h2⟩], rfl, o1⟩⟩
/-- voted or not -/
theorem Accept_all (a : Apr) (y0 y1 y2 y3 y4 y5 y6 y7 : Int) (v : Value) (w : World) (hv : Votes w v a.l) (hok : a.ok = true) :
    Calls Try.prog 15 #[.agg #[.int .i64 a.p.1, .int .i64 a.p.2, v], .agg #[.int .i64 y0, .int .i64 y1, .int .i64 y2, .int .i64 y3, .int .i64 y4, .int .i64 y5, .int .i64 y6, .int .i64 y7]] w fun e w' =>
      Below w.heap.size w w' ∧ ∃ x y a1 n1 c1 c, e = .returned (.tuple #[.agg #[.int .i64 x, .int .i64 y, .slice a1 n1 c1], .int .i64 c]) ∧ ((votA a ⟨y0, (y1, y2), ⟨y3, y4, y5, y6, y7⟩⟩ = none ∧ c ≠ 0) ∨ (∃ m, votA a ⟨y0, (y1, y2), ⟨y3, y4, y5, y6, y7⟩⟩ = some ⟨(x, y), m⟩ ∧ c = 0 ∧ OwnV w' w.heap.size (.slice a1 n1 c1) m)) := by
  obtain ⟨⟨pr, pn⟩, l⟩ := a
  have hl : l.length ≤ 1000 := okA_len hok
  cases hb : okV ⟨y0, (y1, y2), ⟨y3, y4, y5, y6, y7⟩⟩ with
  | false =>
    refine (Accept_bad pr pn y0 y1 y2 y3 y4 y5 y6 y7 v l w hv hok hb hl).mono ?_
    rintro e w' ⟨rfl, h⟩
    exact ⟨h, _, _, _, _, _, _, rfl, .inl ⟨by simp [votA, hb], by decide⟩⟩
  | true =>
    refine (Accept_to pr pn y0 y1 y2 y3 y4 y5 y6 y7 v l w hv hok hb hl).mono ?_
    rintro e w' ⟨h, h2 | h2⟩
    · obtain ⟨h2, rfl⟩ := h2
      exact ⟨h, _, _, _, _, _, _, rfl, .inl ⟨by simp [votA, h2], by decide⟩⟩
    · obtain ⟨h2, v1, rfl, o1⟩ := h2
      obtain ⟨a1, c1, rfl, -⟩ := id o1.row
      exact ⟨h, _, _, _, _, _, _, rfl, .inr ⟨_, by rw [votA, if_pos ⟨hb, h2⟩], rfl, o1⟩⟩
end Go.Proofs.Ytdkbajdnckmckaa
