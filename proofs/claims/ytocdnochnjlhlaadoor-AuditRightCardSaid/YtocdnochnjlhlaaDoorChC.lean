/-
  What the walks of the chains' laws share.
-/
import Derived.Test.YtocdnochnjlhlaaDoorDoF
import Derived.Test.YtocdnochnjlhlaaDoorRow
import Derived.Test.YtocdnochnjlhlaaDoorTail
import Derived.Test.YtocdnochnjlhlaaDoorPick
set_option linter.unusedVariables false
set_option linter.unusedSimpArgs false
namespace Go.Proofs.YtocdnochnjlhlaaDoor
open Go.RowKit Go.Con
theorem cellsA {w : World} {b off i : Nat} {x : Int × Int} (h : ∀ j, j < 2 → w.cell? ⟨b, off + (2 * i + j), none⟩ = (ansCells x)[j]?) :
    w.cell? ⟨b, off + i * 2, none⟩ = some (.int .i64 x.1) ∧ w.cell? ⟨b, off + i * 2 + 1, none⟩ = some (.int .i64 x.2) := by
  refine ⟨?_, ?_⟩
  · rw [show off + i * 2 = off + (2 * i + 0) by omega]; exact h 0 (by decide)
  · rw [show off + i * 2 + 1 = off + (2 * i + 1) by omega]; exact h 1 (by decide)
theorem cellsE {w : World} {b off i : Nat} {x : Ent} (h : ∀ j, j < 8 → w.cell? ⟨b, off + (8 * i + j), none⟩ = (entCells x)[j]?) :
    w.cell? ⟨b, off + i * 8, none⟩ = some (.int .i64 x.what.kind) ∧ w.cell? ⟨b, off + i * 8 + 1, none⟩ = some (.int .i64 x.what.client) ∧ w.cell? ⟨b, off + i * 8 + 2, none⟩ = some (.int .i64 x.what.seq) ∧ w.cell? ⟨b, off + i * 8 + 3, none⟩ = some (.int .i64 x.what.name) ∧ w.cell? ⟨b, off + i * 8 + 4, none⟩ = some (.int .i64 x.what.value) ∧
    w.cell? ⟨b, off + i * 8 + 5, none⟩ = some (.int .i64 x.ans.1) ∧ w.cell? ⟨b, off + i * 8 + 5 + 1, none⟩ = some (.int .i64 x.ans.2) ∧ w.cell? ⟨b, off + i * 8 + 7, none⟩ = some x.sum := by
  have e : ∀ j, off + i * 8 + j = off + (8 * i + j) := fun j => by omega
  refine ⟨?_, ?_, ?_, ?_, ?_, ?_, ?_, ?_⟩
  · rw [show off + i * 8 = off + (8 * i + 0) by omega]; exact h 0 (by decide)
  · rw [e]; exact h 1 (by decide)
  · rw [e]; exact h 2 (by decide)
  · rw [e]; exact h 3 (by decide)
  · rw [e]; exact h 4 (by decide)
  · rw [e]; exact h 5 (by decide)
  · rw [show off + i * 8 + 5 + 1 = off + (8 * i + 6) by omega]; exact h 6 (by decide)
  · rw [e]; exact h 7 (by decide)
theorem sums_lenC (s : Sto) (h : List UInt8) (hh : h.length = 32) (l : List Cmd) (k : Nat) (hk : k < l.length) : ((s.sums h l).getD k []).length = 32 := by
  induction l generalizing s h k with
  | nil => cases hk
  | cons c l ih =>
    cases k with
    | zero => exact linkB_length _ _ _
    | succ k => exact ih (s.next c) _ (linkB_length _ _ _) k (by simpa using hk)
theorem quiet_sameC {f : FuncId} {args : Array Value} {w W : World} {v : Value} (h : Calls Tryd.prog f args W fun e w' => e = .returned v ∧ w' = W) (hW : ∃ n, W = w.drewN n) :
    Calls Tryd.prog f args W fun e w'' => e = .returned v ∧ ∃ n, w'' = w.drewN n :=
  h.mono fun _ _ ⟨he, hm⟩ => ⟨he, by rw [hm]; exact hW⟩
theorem picked_toC (n m q : Int) (w : World) (h1 : -9223372036854775808 ≤ n) (h2 : n ≤ 9223372036854775807) (h3 : 0 < m) (hq : Hid (pick n m = q)) :
    Calls Tryd.prog 8 #[.int .i64 n, .int .i64 m] w fun e w' => e = .returned (.int .i64 q) ∧ w = w' :=
  (picked_any n m w h1 h2 h3).mono fun e w' ⟨he, hw⟩ => ⟨by rw [he, hq.out], hw⟩
theorem getD_take {α : Type} (l : List α) (i k : Nat) (d : α) (h : i < k) : (l.take k).getD i d = l.getD i d := by
  rw [List.getD_eq_getElem?_getD, List.getD_eq_getElem?_getD, List.getElem?_take, if_pos h]
theorem answers_take (s : Sto) (l : List Cmd) (k : Nat) : s.answers (l.take k) = (s.answers l).take k := by
  induction l generalizing s k with
  | nil => simp [Sto.answers]
  | cons c l ih => cases k with
    | zero => rfl
    | succ k => exact congrArg (s.answer c :: ·) (ih (s.next c) k)
theorem sums_take (s : Sto) (h : List UInt8) (l : List Cmd) (k : Nat) : s.sums h (l.take k) = (s.sums h l).take k := by
  induction l generalizing s h k with
  | nil => simp [Sto.sums]
  | cons c l ih => cases k with
    | zero => rfl
    | succ k => exact congrArg (linkB h c (s.answer c) :: ·) (ih (s.next c) _ k)
theorem answers_at (s : Sto) (l : List Cmd) (i : Nat) (h : i < l.length) : (s.answers l).getD i (0, 0) = (s.all (l.take i)).answer (l.getD i Cmd.zero) := by
  induction l generalizing s i with
  | nil => cases h
  | cons c l ih => cases i with
    | zero => rfl
    | succ i => exact ih (s.next c) i (by simpa using h)
theorem sums_at (s : Sto) (h0 : List UInt8) (l : List Cmd) (i : Nat) (h : i < l.length) : (s.sums h0 l).getD i [] = linkB (s.tip h0 (l.take i)) (l.getD i Cmd.zero) ((s.answers l).getD i (0, 0)) := by
  induction l generalizing s h0 i with
  | nil => cases h
  | cons c l ih => cases i with
    | zero => rfl
    | succ i => exact ih (s.next c) _ i (by simpa using h)
theorem tip_at (s : Sto) (h0 : List UInt8) (l : List Cmd) (i : Nat) (h : i < l.length) : s.tip h0 (l.take (i + 1)) = (s.sums h0 l).getD i [] := by
  induction l generalizing s h0 i with
  | nil => cases h
  | cons c l ih => cases i with
    | zero => rfl
    | succ i => exact ih (s.next c) _ i (by simpa using h)
/-- an answer's code is small -/
theorem _root_.Go.Con.Sto.answer_code (s : Sto) (h : s.Ok) (c : Cmd) (hc : checkC c = 0) : (s.answer c).1 < 256 := by
  rcases checkC_real hc with rfl | hr
  · rw [(Sto.next_noop s).2]; decide
  · have c0 := hr.c0
    have c7 := hr.c7
    unfold Sto.answer
    split
    · decide
    split
    · dsimp only; rw [h.code0 _ (by omega)]; decide
    split
    · decide
    split
    · decide
    · dsimp only; decide
/-- a row is none or lies at a block's head -/
theorem ownsRow_shape {w : World} {base : Nat} {t : TypeId} {k n : Nat} {v : Value} {xs : List Value} (h : w.ownsRow base t k v n xs) : (v = .slice none 0 0 ∧ n = 0) ∨ ∃ g c, v = .slice (some ⟨g, 0, none⟩) n c ∧ n ≤ c := by
  obtain ⟨-, h2⟩ := h
  rcases h2 with ⟨h3, hn⟩ | ⟨g', cap, cur, h3, hb, hg, hc, r⟩
  · exact .inl ⟨h3, hn⟩
  · exact .inr ⟨_, _, h3, hc⟩
/-- the first of a row -/
theorem _root_.Go.Con.RdRow.first {α : Type} {k : Nat} {f : α → List Value} {d : α} {w : World} {a : Option Addr} {n c : Nat} {l : List α} (h : RdRow k f d w (.slice a n c) l) (m : Nat) (hm : m ≤ n) : RdRow k f d w (.slice a m m) (l.take m) := by
  obtain ⟨a', c', h0, h1, h2, h3⟩ := h
  injection h0 with e1 e2 e3
  subst e1 e3
  have hlen : (l.take m).length = m := by simp; omega
  refine ⟨a, m, by rw [hlen], by omega, by omega, fun hne => ?_⟩
  obtain ⟨b, off, rfl, hb, hc⟩ := h3 (fun e => hne (by rw [e]; simp))
  refine ⟨b, off, rfl, hb, fun i hi j hj => ?_⟩
  rw [hlen] at hi
  rw [hc i (by omega) j hj, List.getD_eq_getElem?_getD, List.getD_eq_getElem?_getD, List.getElem?_take, if_pos (by omega)]
end Go.Proofs.YtocdnochnjlhlaaDoor
