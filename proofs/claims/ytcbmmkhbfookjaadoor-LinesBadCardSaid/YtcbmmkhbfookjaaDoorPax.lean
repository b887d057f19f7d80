/-
  Ballots and votes: compare, ballot, vote.
-/
import Derived.Test.YtcbmmkhbfookjaaDoorOrd
import Derived.Test.YtcbmmkhbfookjaaDoorRes
import Derived.Test.YtcbmmkhbfookjaaDoorQt
import Derived.Deep.RegionHeld3
import Derived.Deep.Cut
set_option linter.unusedVariables false
set_option linter.unusedSimpArgs false
namespace Go.Con
open Go
/-- which of two numbers is greater -/
def cmpI (a b : Int) : Int := if a < b then -1 else if b < a then 1 else 0
/-- which of two ballots is greater: a round, then a node -/
def cmpB (a b : Int × Int) : Int := if cmpI a.1 b.1 ≠ 0 then cmpI a.1 b.1 else cmpI a.2 b.2
/-- may it be a proposer's? -/
def okB (b : Int × Int) : Bool := decide (1 ≤ b.1) && (decide (b.1 ≤ 65536) && (decide (0 ≤ b.2) && decide (b.2 < 5)))
structure Vot where
  slot : Int
  bal : Int × Int
  what : Cmd
  deriving DecidableEq
def Vot.zero : Vot := ⟨0, (0, 0), Cmd.zero⟩
def votCells (v : Vot) : List Value := [.int .i64 v.slot, .int .i64 v.bal.1, .int .i64 v.bal.2, .int .i64 v.what.kind, .int .i64 v.what.client, .int .i64 v.what.seq, .int .i64 v.what.name, .int .i64 v.what.value]
def votV (v : Vot) : Value := .agg (votCells v).toArray
/-- may a vote be? -/
def okV (v : Vot) : Bool := decide (0 ≤ v.slot) && (decide (v.slot < 40) && (okB v.bal && decide (checkC v.what = 0)))
theorem cmpI_cases (a b : Int) : (a < b ∧ cmpI a b = -1) ∨ (a = b ∧ cmpI a b = 0) ∨ (b < a ∧ cmpI a b = 1) := by
  unfold cmpI
  split
  · exact .inl ⟨by assumption, rfl⟩
  · split
    · exact .inr (.inr ⟨by assumption, rfl⟩)
    · exact .inr (.inl ⟨by omega, rfl⟩)
end Go.Con
namespace Go.Proofs.YtcbmmkhbfookjaaDoor
open Go.RowKit Go.Con
theorem alloc3P {w w0 : World} {A B C : Obj} (h : ((w.alloc A).alloc B).alloc C = w0) : w0.heap[w.heap.size]? = some A ∧ w0.heap[w.heap.size + 1]? = some B ∧ w0.heap[w.heap.size + 1 + 1]? = some C ∧ Below w.heap.size w w0 ∧ w0.heap.size = w.heap.size + 3 := by
  subst h
  have e : ((w.alloc A).alloc B).heap.size = w.heap.size + 1 + 1 := by simp
  have e1 : (w.alloc A).heap.size = w.heap.size + 1 := by simp
  refine ⟨?_, ?_, ?_, (((Below.refl w.heap.size w).alloc (Nat.le_refl _) _).alloc (by simp) _).alloc (by simp; omega) _, by simp⟩
  · rw [heapOld _ _ _ (by omega), heapOld _ _ _ (by omega)]; exact heapNew _ _
  · rw [heapOld _ _ _ (by omega)]
    have := heapNew (w.alloc A) B
    rwa [e1] at this
  · have := heapNew ((w.alloc A).alloc B) C
    rwa [e] at this
theorem new3c {w : World} {A B : Obj} {x y : Value} {t : TypeId} : (((w.alloc A).alloc B).alloc (.cells #[x, y] t)).drew.cell? ⟨w.heap.size + 1 + 1, 0, none⟩ = some x ∧ (((w.alloc A).alloc B).alloc (.cells #[x, y] t)).drew.cell? ⟨w.heap.size + 1 + 1, 1, none⟩ = some y := by
  have h := (alloc3P (w := w) (A := A) (B := B) (C := .cells #[x, y] t) rfl).2.2.1
  exact ⟨cellAt h 0 rfl, cellAt h 1 rfl⟩
end Go.Proofs.YtcbmmkhbfookjaaDoor
