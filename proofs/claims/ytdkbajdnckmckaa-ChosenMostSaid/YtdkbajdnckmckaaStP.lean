/-
  The walk of stable.Promise.
-/
import Derived.Test.YtdkbajdnckmckaaStw
import Derived.Test.YtdkbajdnckmckaaVod
set_option linter.unusedVariables false
set_option linter.unusedSimpArgs false
namespace Go.Proofs.Ytdkbajdnckmckaa
open Go.RowKit Go.Con
theorem alloc3T {w w0 : World} {A B C : Obj} (h : ((w.alloc A).alloc B).alloc C = w0) : w0.heap[w.heap.size]? = some A ∧ w0.heap[w.heap.size + 1]? = some B ∧ w0.heap[w.heap.size + 1 + 1]? = some C ∧ Below w.heap.size w w0 := by
  subst h
  have e : ((w.alloc A).alloc B).heap.size = w.heap.size + 1 + 1 := by simp
  refine ⟨(heapOld _ _ _ (by simp; omega)).trans (heapNew0 w A B), (heapOld _ _ _ (by simp)).trans (heapNew1 w A B), ?_, (((Below.refl _ _).alloc (Nat.le_refl _) _).alloc (by simp) _).alloc (by simp; omega) _⟩
  rw [← e]; exact heapNew _ _
/-- new integers -/
theorem newInts (W : World) (zs : List Int) (n : Nat) (hn : n = zs.length) (hm : n ≤ maxLen) (hb : ∀ i, i < zs.length → -9223372036854775808 ≤ zs.getD i 0 ∧ zs.getD i 0 ≤ 9223372036854775807) :
    RdInts (W.alloc (.cells (zs.map (Value.int .i64)).toArray 3)) (.slice (some ⟨W.heap.size, 0, none⟩) n n) zs := by
  subst hn
  refine ⟨_, _, rfl, Nat.le_refl _, hm, hb, fun _ => ⟨_, _, rfl, fun i hi => ?_⟩⟩
  rw [Nat.zero_add]
  refine cellAt (heapNew W _) i ?_
  simp [hi]
theorem two_ge (r q : Int) (hr : 0 ≤ r) (hq : 0 ≤ q) : ∀ i, i < [r, q].length → 0 ≤ [r, q].getD i 0 := by
  intro i hi
  have hc : i = 0 ∨ i = 1 := by simp at hi; omega
  rcases hc with rfl | rfl <;> simp <;> omega
theorem two_bd (r q : Int) (hr : 0 ≤ r ∧ r ≤ 65536) (hq : 0 ≤ q ∧ q ≤ 65536) : ∀ i, i < [r, q].length → -9223372036854775808 ≤ [r, q].getD i 0 ∧ [r, q].getD i 0 ≤ 9223372036854775807 := by
  intro i hi
  have hc : i = 0 ∨ i = 1 := by simp at hi; omega
  rcases hc with rfl | rfl <;> simp <;> omega
theorem lt_alloc {w : World} {o : Obj} {k : Nat} (h : k < w.heap.size) : k < (w.alloc o).heap.size := by simp; omega
/-- the cells that a promise reads -/
abbrev SP (w : World) (tb bb : Nat) (v : Value) (s r q : Int) : Prop := w.cell? ⟨tb, 0, none⟩ = some v ∧ w.cell? ⟨tb, 1, none⟩ = some (.int .i64 s) ∧ w.cell? ⟨bb, 0, none⟩ = some (.int .i64 r) ∧ w.cell? ⟨bb, 1, none⟩ = some (.int .i64 q)
theorem SP.stay {w w' : World} {tb bb : Nat} {v : Value} {s r q : Int} (h : SP w tb bb v s r q) (h1 : tb < w.heap.size) (h2 : bb < w.heap.size) (hb : Below w.heap.size w w') : SP w' tb bb v s r q :=
  ⟨(hb.cell (p := ⟨tb, 0, none⟩) h1).trans h.1, (hb.cell (p := ⟨tb, 1, none⟩) h1).trans h.2.1, (hb.cell (p := ⟨bb, 0, none⟩) h2).trans h.2.2.1, (hb.cell (p := ⟨bb, 1, none⟩) h2).trans h.2.2.2⟩
theorem SP.set {w : World} {tb bb rb : Nat} {v v0 v1 : Value} {s r q : Int} (h1 : tb ≠ rb) (h2 : bb ≠ rb) (h : SP w tb bb v s r q) : SP ((w.setCell ⟨rb, 0, none⟩ v0).setCell ⟨rb, 1, none⟩ v1) tb bb v s r q := by
  have e : ∀ b, b ≠ rb → ((w.setCell ⟨rb, 0, none⟩ v0).setCell ⟨rb, 1, none⟩ v1).heap[b]? = w.heap[b]? := fun b hne => (heapSet_ne 1 v1 hne).trans (heapSet_ne 0 v0 hne)
  exact ⟨(World.cell?_of_block (w := w) (e tb h1)).trans h.1, (World.cell?_of_block (w := w) (e tb h1)).trans h.2.1, (World.cell?_of_block (w := w) (e bb h2)).trans h.2.2.1, (World.cell?_of_block (w := w) (e bb h2)).trans h.2.2.2⟩
theorem SP.alloc {w : World} {tb bb : Nat} {v : Value} {s r q : Int} (h : SP w tb bb v s r q) (h1 : tb < w.heap.size) (h2 : bb < w.heap.size) (o : Obj) : SP (w.alloc o) tb bb v s r q := h.stay h1 h2 ((Below.refl _ _).alloc (Nat.le_refl _) o)
theorem SP.drew {w : World} {tb bb : Nat} {v : Value} {s r q : Int} (h : SP w tb bb v s r q) : SP w.drew tb bb v s r q := h
/-- a promise's body -/
def Tp.proB (r n : Int) : List UInt8 := 1 :: flatB [r, n]
theorem proB_len (r n : Int) : (Tp.proB r n).length = 9 := by rw [Tp.proB, List.length_cons, flatB_len]; rfl
theorem votes_nil (w : World) : Votes w (.slice none 0 0) [] := ⟨⟨none, 0, rfl, Nat.le_refl _, Nat.zero_le _, fun h => absurd rfl h⟩, .inl rfl⟩
theorem cmpB_zero {r n : Int} (h : okB (r, n) = true) : 0 ≤ cmpB (r, n) (0, 0) := by
  have : 1 ≤ r := by simp [okB] at h; omega
  have e : cmpI r 0 = 1 := by unfold cmpI; split <;> (try split) <;> omega
  unfold cmpB
  simp only [e]
  simp
end Go.Proofs.Ytdkbajdnckmckaa
