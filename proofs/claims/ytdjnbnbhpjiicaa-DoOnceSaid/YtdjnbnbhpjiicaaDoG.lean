/-
  A statement 'x, a, e = Do(..)' that lays its store into an older block.
-/
import Derived.Test.YtdjnbnbhpjiicaaDoF
set_option linter.unusedVariables false
set_option linter.unusedSimpArgs false
namespace Go.Proofs.Ytdjnbnbhpjiicaa
open Go.RowKit Go.Con
theorem vals_eq {s t : Sto} (hs : s.Ok) (ht : t.Ok) (h : ∀ i, i < 8 → s.val i = t.val i) : s.vals = t.vals := by
  have a1 := hs.ln
  have a2 := ht.ln
  unfold Sto.vals
  apply List.ext_getElem (by simp [a1, a2])
  intro i h1 h2
  have h8 : i < 8 := by simp [a1] at h1; omega
  have h3 := h i h8
  unfold Sto.val at h3
  rw [getD_lt _ _ _ (by omega), getD_lt _ _ _ (by omega)] at h3
  rw [List.getElem_take, List.getElem_take]
  exact h3
theorem there_old {W v : World} {A : Obj} {b m : Nat} {t : TypeId} {cur : Array Value} (hb : Below W.heap.size W v) (hx : W.heap[b]? = some (.cells cur t (0, 0))) (hm : cur.size = m) : (v.alloc A).there b 0 m :=
  there_of ((heapOld _ _ _ (Nat.lt_of_lt_of_le (lt_of_heap hx) hb.size)).trans ((hb.block b (lt_of_heap hx)).trans hx)) hm
theorem stageG {W v wy : World} {A : Obj} {b : Nat} {t : TypeId} {cur : Array Value} {cs : List Value} (hb : Below W.heap.size W v) (hW : (v.alloc A).setCells b 0 cs = wy) (hx : W.heap[b]? = some (.cells cur t (0, 0))) (hz : cur.size = cs.length) :
    (∀ k, k < W.heap.size → k ≠ b → wy.heap[k]? = W.heap[k]?) ∧ wy.heap[b]? = some (.cells cs.toArray t (0, 0)) ∧ wy.heap[v.heap.size]? = some A ∧ Below b W wy ∧ W.heap.size ≤ v.heap.size := by
  have h := hb.size
  have hl := lt_of_heap hx
  subst hW
  refine ⟨fun k hk hne => ?_, ?_, ?_, ?_, h⟩
  · rw [heap_setCells_ne hne, heapOld _ _ _ (by omega)]; exact hb.block k hk
  · exact storedRow ((heapOld _ _ _ (by omega)).trans ((hb.block b hl).trans hx)) hz
  · rw [heap_setCells_ne (by omega)]; exact heapNew _ _
  · exact below_setCells (Nat.le_refl _) _ _ _ ((hb.alloc h _).mono (by omega))
theorem stageH {W wy wz : World} {b n : Nat} {t ta : TypeId} {cs : Array Value} {a c u v : Value} (G : (∀ k, k < W.heap.size → k ≠ b → wy.heap[k]? = W.heap[k]?) ∧ wy.heap[b]? = some (.cells cs t (0, 0)) ∧ wy.heap[n]? = some (.cells #[a, c] ta (0, 0)) ∧ Below b W wy ∧ W.heap.size ≤ n) (hl : b < W.heap.size)
    (hW : (wy.setCell ⟨n, 0, none⟩ u).setCell ⟨n, 1, none⟩ v = wz) :
    (∀ k, k < W.heap.size → k ≠ b → wz.heap[k]? = W.heap[k]?) ∧ wz.heap[b]? = some (.cells cs t (0, 0)) ∧ wz.heap[n]? = some (.cells #[u, v] ta (0, 0)) ∧ Below b W wz ∧ W.heap.size ≤ n := by
  obtain ⟨h1, h2, h3, h4, h5⟩ := G
  subst hW
  refine ⟨fun k hk hne => ?_, ?_, heapSet (heapSet h3 _) _, (h4.setCell (by show b ≤ n; omega) _).setCell (by show b ≤ n; omega) _, h5⟩
  · rw [heapSet_ne _ _ (by omega), heapSet_ne _ _ (by omega)]; exact h1 k hk hne
  · rw [heapSet_ne _ _ (by omega), heapSet_ne _ _ (by omega)]; exact h2
end Go.Proofs.Ytdjnbnbhpjiicaa
