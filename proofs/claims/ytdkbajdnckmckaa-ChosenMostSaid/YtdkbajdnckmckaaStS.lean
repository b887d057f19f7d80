/-
  The walks of stable.Sync and stable.Crash; what may not be.
-/
import Derived.Test.YtdkbajdnckmckaaStV
import Derived.Test.YtdkbajdnckmckaaBdP
set_option linter.unusedVariables false
set_option linter.unusedSimpArgs false
namespace Go.Proofs.Ytdkbajdnckmckaa
open Go.RowKit Go.Con
theorem alloc2T {w w0 : World} {A B : Obj} (h : (w.alloc A).alloc B = w0) : w0.heap[w.heap.size]? = some A ∧ w0.heap[w.heap.size + 1]? = some B ∧ Below w.heap.size w w0 ∧ w0.heap.size = w.heap.size + 1 + 1 := by
  subst h
  exact ⟨heapNew0 w A B, heapNew1 w A B, ((Below.refl _ _).alloc (Nat.le_refl _) _).alloc (by simp) _, by simp⟩
/-- a tape that is shown -/
def TapeR (w : World) (l : List UInt8) (s c : Int) (e : Ending) (w' : World) : Prop :=
  ∃ v', e = .returned (.tuple #[.agg #[v', .int .i64 s], .int .i64 c]) ∧ Rd w' v' l ∧ Below w.heap.size w w'
theorem TapePost.rd {w : World} {l : List UInt8} {s c : Int} {e : Ending} {w' : World} (h : TapePost w l s c e w') : TapeR w l s c e w' := by
  obtain ⟨v, h1, h2, h3⟩ := h; exact ⟨v, h1, h2.rd, h3⟩
theorem Rd.ofHeapS {w w' : World} {v : Value} {l : List UInt8} (h : Rd w v l) (hh : ∀ k, v.ownBlock = some k → l ≠ [] → w'.heap[k]? = w.heap[k]?) : Rd w' v l := by
  obtain ⟨a, c, rfl, h1, h2, h3, h4⟩ := h
  refine ⟨a, c, rfl, h1, h2, h3, fun hne => ?_⟩
  obtain ⟨b, off, rfl, h5⟩ := h4 hne
  exact ⟨b, off, rfl, fun i hi => (World.cell?_of_block (w := w) (hh b rfl hne)).trans (h5 i hi)⟩
theorem Rd.capN {w : World} {a : Option Addr} {k c : Nat} {l : List UInt8} (h : Rd w (.slice a k c) l) (n : Nat) (hn : l.length = n) : n ≤ c ∧ c ≤ maxLen := by
  subst hn
  obtain ⟨_, _, e, h1, h2, _⟩ := h
  injection e with e1 e2 e3
  subst e3
  exact ⟨h1, h2⟩
theorem Rd.pre3 {w : World} {a : Option Addr} {n c : Nat} {l : List UInt8} (h : Rd w (.slice a n c) l) (m : Nat) (hm : m ≤ l.length) : Rd w (.slice a m m) (l.take m) := by
  have h2 := h.pre m hm
  have hl : (l.take m).length = m := by simp; omega
  obtain ⟨a', c', e, h3, h4, h5, h6⟩ := h2
  rw [hl] at e h3
  injection e with e1 e2 e3
  subst e1 e3
  exact ⟨_, _, by rw [hl], Nat.le_of_eq hl, by omega, fun h => by have := h5 h; omega, h6⟩
end Go.Proofs.Ytdkbajdnckmckaa
