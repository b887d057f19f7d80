/-
  Texts put together: BdP, StS, StX, OrdD, ApP.
-/
import Derived.Test.YtdkbajdnckmckaaMg8
import Derived.Deep.CutRange
import Derived.Test.YtdkbajdnckmckaaMg4
set_option linter.unusedVariables false
set_option linter.unusedSimpArgs false
namespace Go.Proofs.Ytdkbajdnckmckaa
open Go.RowKit Go.Con
set_option maxRecDepth 100000 in
set_option maxHeartbeats 2000000 in
theorem Promise_bad (pr pn br bn : Int) (v : Value) (l : List Vot) (w : World) (hv : Votes w v l) (hok : okA (pr, pn) l = true) (hb : okB (br, bn) = false) (hl : l.length ≤ 1000) :
    Calls Try.prog 14 #[.agg #[.int .i64 pr, .int .i64 pn, v], .agg #[.int .i64 br, .int .i64 bn]] w fun e w' => e = .returned (.tuple #[.agg #[.int .i64 0, .int .i64 0, .slice none 0 0], .slice none 0 0, .int .i64 2]) ∧ Below w.heap.size w w' := by
  obtain ⟨ea, ec, rfl, hle, hcm, -⟩ := id hv.1
  obtain ⟨n, hn⟩ : ∃ n, n = l.length := ⟨_, rfl⟩
  rw [← hn] at hv hle hl ⊢
  have HV := Lib.hid hv
  have HOK := Lib.hid (show (if okA (pr, pn) l then (0 : Int) else 5) = 0 by rw [hok]; rfl)
  have HB := Lib.hid hb
  clear hv hn hok hb
  go_enter Try.func14, Try.ntmps14
  go_upto_region 1 with fail
  generalize hW : World.alloc _ _ = w0
  have G := Lib.hid (alloc3Q hW)
  have a0 := cellAt G.out.1 0 rfl
  have a1 := cellAt G.out.1 1 rfl
  have a2 := cellAt G.out.1 2 rfl
  clear hW
  go_upto_region 4 with (go_at_call 12; refine (accCheck_to _ _ _ _ l _ ((HV.out.stay G.out.2.2.2.1).1) HOK).mono ?_; rintro e w1 ⟨rfl, hb1⟩; have B1 := Lib.hid hb1; clear hb1)
  clear a0 a1 a2
  have g3 := (B1.out.block _ (lt_of_heap G.out.2.1)).trans G.out.2.1
  have b0 := cellAt g3 0 rfl
  have b1 := cellAt g3 1 rfl
  clear g3
  go_wp2_with (go_at_call 22; refine (ballot_to _ _ _ _ HB).mono ?_; rintro e w3 ⟨rfl, hb2⟩; have B3 := Lib.hid (G.out.2.2.2.1.trans ((B1.out.trans (hb2.mono B1.out.size)).mono G.out.2.2.2.1.size)); have g4 := ((B1.out.trans (hb2.mono B1.out.size)).block _ (lt_of_heap G.out.2.2.1)).trans G.out.2.2.1; have Z4 := Lib.hid g4; have z0 := cellAt g4 0 rfl; have z1 := cellAt g4 1 rfl; have z2 := cellAt g4 2 rfl; have zf := freeAt g4; clear hb2 g4)
  generalize hW : World.setCell _ _ _ = w5
  have z5 : w5.heap[w.heap.size + 1 + 1]? = some (.cells #[.int .i64 0, .int .i64 0, .slice none 0 0] 39 (0, 0)) := by
    rw [← hW]; exact heapSet (heapSet (heapSet Z4.out _) _) _
  have hle2 : w.heap.size ≤ w.heap.size + 1 + 1 := by omega
  have b5 : Below w.heap.size w w5 := by rw [← hW]; exact ((B3.out.setCell hle2 _).setCell hle2 _).setCell hle2 _
  clear hW z0 z1 z2 zf
  have e0 : w5.cell? ⟨w.heap.size + 1 + 1, 0, none⟩ = some (.int .i64 0) := cellAt z5 0 rfl
  have e1 : w5.cell? ⟨w.heap.size + 1 + 1, 1, none⟩ = some (.int .i64 0) := cellAt z5 1 rfl
  have e2 : w5.cell? ⟨w.heap.size + 1 + 1, 2, none⟩ = some (.slice none 0 0) := cellAt z5 2 rfl
  refine bodyPost_ret (v := .tuple #[.agg #[.int .i64 0, .int .i64 0, .slice none 0 0], .slice none 0 0, .int .i64 2]) ?_ rfl ⟨rfl, b5⟩
  simp [results, Try.results14, go_sem, e0, e1, e2]
set_option maxRecDepth 100000 in
set_option maxHeartbeats 2000000 in
theorem Accept_bad (pr pn y0 y1 y2 y3 y4 y5 y6 y7 : Int) (v : Value) (l : List Vot) (w : World) (hv : Votes w v l) (hok : okA (pr, pn) l = true) (hb : okV ⟨y0, (y1, y2), ⟨y3, y4, y5, y6, y7⟩⟩ = false) (hl : l.length ≤ 1000) :
    Calls Try.prog 15 #[.agg #[.int .i64 pr, .int .i64 pn, v], .agg #[.int .i64 y0, .int .i64 y1, .int .i64 y2, .int .i64 y3, .int .i64 y4, .int .i64 y5, .int .i64 y6, .int .i64 y7]] w fun e w' => e = .returned (.tuple #[.agg #[.int .i64 0, .int .i64 0, .slice none 0 0], .int .i64 2]) ∧ Below w.heap.size w w' := by
  obtain ⟨ea, ec, rfl, hle, hcm, -⟩ := id hv.1
  obtain ⟨n, hn⟩ : ∃ n, n = l.length := ⟨_, rfl⟩
  rw [← hn] at hv hle hl ⊢
  have HV := Lib.hid hv
  have HOK := Lib.hid (show (if okA (pr, pn) l then (0 : Int) else 5) = 0 by rw [hok]; rfl)
  have HB := Lib.hid hb
  clear hv hn hok hb
  go_enter Try.func15, Try.ntmps15
  go_upto_region 1 with fail
  generalize hW : World.alloc _ _ = w0
  have G := Lib.hid (alloc3Q hW)
  have a0 := cellAt G.out.1 0 rfl
  have a1 := cellAt G.out.1 1 rfl
  have a2 := cellAt G.out.1 2 rfl
  clear hW
  go_upto_region 4 with (go_at_call 12; refine (accCheck_to _ _ _ _ l _ ((HV.out.stay G.out.2.2.2.1).1) HOK).mono ?_; rintro e w1 ⟨rfl, hb1⟩; have B1 := Lib.hid hb1; clear hb1)
  clear a0 a1 a2
  have g3 := (B1.out.block _ (lt_of_heap G.out.2.1)).trans G.out.2.1
  have b0 := cellAt g3 0 rfl
  have b1 := cellAt g3 1 rfl
  have b2 := cellAt g3 2 rfl
  have b3 := cellAt g3 3 rfl
  have b4 := cellAt g3 4 rfl
  have b5 := cellAt g3 5 rfl
  have b6 := cellAt g3 6 rfl
  have b7 := cellAt g3 7 rfl
  clear g3
  go_wp2_with (go_at_call 20; refine (vote_to _ _ _ _ _ _ _ _ _ _ HB).mono ?_; rintro e w3 ⟨rfl, hb2⟩; have B3 := Lib.hid (G.out.2.2.2.1.trans ((B1.out.trans (hb2.mono B1.out.size)).mono G.out.2.2.2.1.size)); have g4 := ((B1.out.trans (hb2.mono B1.out.size)).block _ (lt_of_heap G.out.2.2.1)).trans G.out.2.2.1; have Z4 := Lib.hid g4; have z0 := cellAt g4 0 rfl; have z1 := cellAt g4 1 rfl; have z2 := cellAt g4 2 rfl; have zf := freeAt g4; clear hb2 g4)
  generalize hW : World.setCell _ _ _ = w5
  have z5 : w5.heap[w.heap.size + 1 + 1]? = some (.cells #[.int .i64 0, .int .i64 0, .slice none 0 0] 39 (0, 0)) := by
    rw [← hW]; exact heapSet (heapSet (heapSet Z4.out _) _) _
  have hle2 : w.heap.size ≤ w.heap.size + 1 + 1 := by omega
  have b5 : Below w.heap.size w w5 := by rw [← hW]; exact ((B3.out.setCell hle2 _).setCell hle2 _).setCell hle2 _
  clear hW z0 z1 z2 zf
  have e0 : w5.cell? ⟨w.heap.size + 1 + 1, 0, none⟩ = some (.int .i64 0) := cellAt z5 0 rfl
  have e1 : w5.cell? ⟨w.heap.size + 1 + 1, 1, none⟩ = some (.int .i64 0) := cellAt z5 1 rfl
  have e2 : w5.cell? ⟨w.heap.size + 1 + 1, 2, none⟩ = some (.slice none 0 0) := cellAt z5 2 rfl
  refine bodyPost_ret (v := .tuple #[.agg #[.int .i64 0, .int .i64 0, .slice none 0 0], .int .i64 2]) ?_ rfl ⟨rfl, b5⟩
  simp [results, Try.results15, go_sem, e0, e1, e2]
end Go.Proofs.Ytdkbajdnckmckaa

set_option linter.unusedVariables false
set_option linter.unusedSimpArgs false
namespace Go.Proofs.Ytdkbajdnckmckaa
open Go.RowKit Go.Con
theorem alloc2T {w w0 : World} {A B : Obj} (h : (w.alloc A).alloc B = w0) : w0.heap[w.heap.size]? = some A ∧ w0.heap[w.heap.size + 1]? = some B ∧ Below w.heap.size w w0 ∧ w0.heap.size = w.heap.size + 1 + 1 := by
  subst h
  exact ⟨heapNew0 w A B, heapNew1 w A B, ((Below.refl _ _).alloc (Nat.le_refl _) _).alloc (by simp) _, by simp⟩
/-- a tape that is shown -/
def TapeR (w : World) (l : List UInt8) (s c : Int) (e : Ending) (w' : World) : Prop :=
  ∃ v', e = .returned (.tuple #[.agg #[v', .int .i64 s], .int .i64 c]) ∧ Rd w' v' l ∧ Below w.heap.size w w'
theorem TapePost.rd {w : World} {l : List UInt8} {s c : Int} {e : Ending} {w' : World} (h : TapePost w l s c e w') : TapeR w l s c e w' := by
  obtain ⟨v, h1, h2, h3⟩ := h; exact ⟨v, h1, h2.rd, h3⟩
theorem Rd.ofHeapS {w w' : World} {v : Value} {l : List UInt8} (h : Rd w v l) (hh : ∀ k, v.ownBlock = some k → l ≠ [] → w'.heap[k]? = w.heap[k]?) : Rd w' v l := by
  obtain ⟨a, c, rfl, h1, h2, h3, h4⟩ := h
  refine ⟨a, c, rfl, h1, h2, h3, fun hne => ?_⟩
  obtain ⟨b, off, rfl, h5⟩ := h4 hne
  exact ⟨b, off, rfl, fun i hi => (World.cell?_of_block (w := w) (hh b rfl hne)).trans (h5 i hi)⟩
theorem Rd.capN {w : World} {a : Option Addr} {k c : Nat} {l : List UInt8} (h : Rd w (.slice a k c) l) (n : Nat) (hn : l.length = n) : n ≤ c ∧ c ≤ maxLen := by
  subst hn
  obtain ⟨_, _, e, h1, h2, _⟩ := h
  injection e with e1 e2 e3
  subst e3
  exact ⟨h1, h2⟩
theorem Rd.pre3 {w : World} {a : Option Addr} {n c : Nat} {l : List UInt8} (h : Rd w (.slice a n c) l) (m : Nat) (hm : m ≤ l.length) : Rd w (.slice a m m) (l.take m) := by
  have h2 := h.pre m hm
  have hl : (l.take m).length = m := by simp; omega
  obtain ⟨a', c', e, h3, h4, h5, h6⟩ := h2
  rw [hl] at e h3
  injection e with e1 e2 e3
  subst e1 e3
  exact ⟨_, _, by rw [hl], Nat.le_of_eq hl, by omega, fun h => by have := h5 h; omega, h6⟩
end Go.Proofs.Ytdkbajdnckmckaa

set_option linter.unusedVariables false
set_option linter.unusedSimpArgs false
namespace Go.Proofs.Ytdkbajdnckmckaa
open Go.RowKit Go.Con
end Go.Proofs.Ytdkbajdnckmckaa

set_option linter.unusedVariables false
set_option linter.unusedSimpArgs false
namespace Go.Con
/-- the number that begins at a place of a list, four bytes of it -/
def decAt (l : List UInt8) (k : Nat) : Int := ((((l.getD (4 * k) 0).toNat * 16777216 + (l.getD (4 * k + 1) 0).toNat * 65536 + (l.getD (4 * k + 2) 0).toNat * 256 + (l.getD (4 * k + 3) 0).toNat : Nat)) : Int)
def decRaw (l : List UInt8) : Cmd := ⟨decAt l 0, decAt l 1, decAt l 2, decAt l 3, decAt l 4⟩
def decC (l : List UInt8) : Cmd × Int := if l.length ≠ 20 then (Cmd.zero, 1) else if checkC (decRaw l) ≠ 0 then (Cmd.zero, checkC (decRaw l)) else (decRaw l, 0)
end Go.Con
namespace Go.Proofs.Ytdkbajdnckmckaa
open Go.RowKit Go.Con

theorem set5 {w : World} {b : Nat} {e : TypeId} {c : Cmd} {v0 v1 v2 v3 v4 : Value} (h : w.heap[b]? = some (.cells (cmdA c) e (0, 0))) :
    (((((w.setCell ⟨b, 0, none⟩ v0).setCell ⟨b, 1, none⟩ v1).setCell ⟨b, 2, none⟩ v2).setCell ⟨b, 3, none⟩ v3).setCell ⟨b, 4, none⟩ v4).heap[b]? = some (.cells #[v0, v1, v2, v3, v4] e (0, 0)) :=
  heapSet (o := 4) (heapSet (o := 3) (heapSet (o := 2) (heapSet (o := 1) (heapSet (o := 0) h v0) v1) v2) v3) v4
theorem set5_below {a w : World} {b B : Nat} {v0 v1 v2 v3 v4 : Value} (h : Below B a w) (hb : B ≤ b) :
    Below B a (((((w.setCell ⟨b, 0, none⟩ v0).setCell ⟨b, 1, none⟩ v1).setCell ⟨b, 2, none⟩ v2).setCell ⟨b, 3, none⟩ v3).setCell ⟨b, 4, none⟩ v4) :=
  ((((h.setCell hb _).setCell hb _).setCell hb _).setCell hb _).setCell hb _
def decCells (l : List UInt8) (k : Nat) : Nat → Value := fun j => .int .i64 (if j < k then decAt l j else 0)
end Go.Proofs.Ytdkbajdnckmckaa

set_option linter.unusedVariables false
set_option linter.unusedSimpArgs false
namespace Go.Con
open Go
theorem okVs_len {p : Int × Int} : ∀ {l : List Vot} {last : Int}, last ≤ 39 → okVs p last l = true → (l.length : Int) ≤ 39 - last
  | [], last, h, _ => by simp; omega
  | v :: l, last, h, hl => by
    have hl' : (okV v && decide (last < v.slot) && decide (cmpB v.bal p ≤ 0) && okVs p v.slot l) = true := hl
    simp only [Bool.and_eq_true, decide_eq_true_eq] at hl'
    obtain ⟨⟨⟨h1, h2⟩, _⟩, h3⟩ := hl'
    have h4 := okV_parts h1
    have h5 := okVs_len (by omega) h3
    simp only [List.length_cons]
    omega
theorem okA_len {p : Int × Int} {l : List Vot} (h : okA p l = true) : l.length ≤ 1000 := by
  unfold okA at h
  simp only [Bool.and_eq_true] at h
  have := okVs_len (by omega) h.2
  omega
/-- an acceptor -/
structure Apr where
  p : Int × Int
  l : List Vot
  deriving DecidableEq
def Apr.ok (a : Apr) : Bool := okA a.p a.l
def Apr.zero : Apr := ⟨(0, 0), []⟩
/-- a promise -/
def proA (a : Apr) (b : Int × Int) : Option Apr := if okB b = true ∧ ¬ cmpB b a.p < 0 then some ⟨b, a.l⟩ else none
/-- a vote -/
def votA (a : Apr) (y : Vot) : Option Apr := if okV y = true ∧ ¬ cmpB y.bal a.p < 0 then some ⟨y.bal, putV y a.l⟩ else none
theorem proA_ok {a c : Apr} {b : Int × Int} (h : a.ok = true) (hc : proA a b = some c) : c.ok = true := by
  unfold proA at hc
  split at hc
  · rename_i h1
    injection hc with hc
    subst hc
    exact okA_higher h h1.1 h1.2
  · cases hc
theorem votA_ok {a c : Apr} {y : Vot} (h : a.ok = true) (hc : votA a y = some c) : c.ok = true := by
  unfold votA at hc
  split at hc
  · rename_i h1
    injection hc with hc
    subst hc
    exact okA_put h h1.1 h1.2
  · cases hc
end Go.Con
namespace Go.Proofs.Ytdkbajdnckmckaa
open Go.RowKit Go.Con
def bodPro (l : List UInt8) : Int × Int := (getN (l.drop 1), getN (l.drop 5))
def bodVot (l : List UInt8) : Vot := ⟨getN (l.drop 1), (getN (l.drop 5), getN (l.drop 9)), (decC (l.drop 13)).1⟩
/-- what a body makes of an acceptor -/
def applyB (a : Apr) (l : List UInt8) : Option Apr :=
  if l.length = 9 ∧ l.getD 0 0 = 1 then proA a (bodPro l)
  else if l.length = 33 ∧ l.getD 0 0 = 2 then (if (decC (l.drop 13)).2 = 0 then votA a (bodVot l) else none)
  else none
theorem applyB_ok {a c : Apr} {l : List UInt8} (h : a.ok = true) (hc : applyB a l = some c) : c.ok = true := by
  unfold applyB at hc
  split at hc
  · exact proA_ok h hc
  · split at hc
    · split at hc
      · exact votA_ok h hc
      · cases hc
    · cases hc
/-- promised or not -/
theorem Promise_all (a : Apr) (br bn : Int) (v : Value) (w : World) (hv : Votes w v a.l) (hok : a.ok = true) :
    Calls Try.prog 14 #[.agg #[.int .i64 a.p.1, .int .i64 a.p.2, v], .agg #[.int .i64 br, .int .i64 bn]] w fun e w' =>
      Below w.heap.size w w' ∧ ∃ x y a1 n1 c1 v2 c, e = .returned (.tuple #[.agg #[.int .i64 x, .int .i64 y, .slice a1 n1 c1], v2, .int .i64 c]) ∧ ((proA a (br, bn) = none ∧ c ≠ 0) ∨ (proA a (br, bn) = some ⟨(x, y), a.l⟩ ∧ c = 0 ∧ OwnV w' w.heap.size (.slice a1 n1 c1) a.l)) := by
  obtain ⟨⟨pr, pn⟩, l⟩ := a
  have hl : l.length ≤ 1000 := okA_len hok
  cases hb : okB (br, bn) with
  | false =>
    refine (Promise_bad pr pn br bn v l w hv hok hb hl).mono ?_
    rintro e w' ⟨rfl, h⟩
    exact ⟨h, _, _, _, _, _, _, _, rfl, .inl ⟨by simp [proA, hb], by decide⟩⟩
  | true =>
    refine (Promise_to pr pn br bn v l w hv hok hb hl).mono ?_
    rintro e w' ⟨h, h2 | h2⟩
    · obtain ⟨h2, rfl⟩ := h2
      exact ⟨h, _, _, _, _, _, _, _, rfl, .inl ⟨by simp [proA, h2], by decide⟩⟩
    · obtain ⟨h2, v1, v2, rfl, o1, _⟩ := h2
      obtain ⟨a1, c1, rfl, -⟩ := id o1.row
      exact ⟨h, _, _, _, _, _, _, _, rfl, .inr ⟨by rw [proA, if_pos ⟨hb, h2⟩], rfl, o1⟩⟩
/-- voted or not -/
theorem Accept_all (a : Apr) (y0 y1 y2 y3 y4 y5 y6 y7 : Int) (v : Value) (w : World) (hv : Votes w v a.l) (hok : a.ok = true) :
    Calls Try.prog 15 #[.agg #[.int .i64 a.p.1, .int .i64 a.p.2, v], .agg #[.int .i64 y0, .int .i64 y1, .int .i64 y2, .int .i64 y3, .int .i64 y4, .int .i64 y5, .int .i64 y6, .int .i64 y7]] w fun e w' =>
      Below w.heap.size w w' ∧ ∃ x y a1 n1 c1 c, e = .returned (.tuple #[.agg #[.int .i64 x, .int .i64 y, .slice a1 n1 c1], .int .i64 c]) ∧ ((votA a ⟨y0, (y1, y2), ⟨y3, y4, y5, y6, y7⟩⟩ = none ∧ c ≠ 0) ∨ (∃ m, votA a ⟨y0, (y1, y2), ⟨y3, y4, y5, y6, y7⟩⟩ = some ⟨(x, y), m⟩ ∧ c = 0 ∧ OwnV w' w.heap.size (.slice a1 n1 c1) m)) := by
  obtain ⟨⟨pr, pn⟩, l⟩ := a
  have hl : l.length ≤ 1000 := okA_len hok
  cases hb : okV ⟨y0, (y1, y2), ⟨y3, y4, y5, y6, y7⟩⟩ with
  | false =>
    refine (Accept_bad pr pn y0 y1 y2 y3 y4 y5 y6 y7 v l w hv hok hb hl).mono ?_
    rintro e w' ⟨rfl, h⟩
    exact ⟨h, _, _, _, _, _, _, rfl, .inl ⟨by simp [votA, hb], by decide⟩⟩
  | true =>
    refine (Accept_to pr pn y0 y1 y2 y3 y4 y5 y6 y7 v l w hv hok hb hl).mono ?_
    rintro e w' ⟨h, h2 | h2⟩
    · obtain ⟨h2, rfl⟩ := h2
      exact ⟨h, _, _, _, _, _, _, rfl, .inl ⟨by simp [votA, h2], by decide⟩⟩
    · obtain ⟨h2, v1, rfl, o1⟩ := h2
      obtain ⟨a1, c1, rfl, -⟩ := id o1.row
      exact ⟨h, _, _, _, _, _, _, rfl, .inr ⟨_, by rw [votA, if_pos ⟨hb, h2⟩], rfl, o1⟩⟩
end Go.Proofs.Ytdkbajdnckmckaa
