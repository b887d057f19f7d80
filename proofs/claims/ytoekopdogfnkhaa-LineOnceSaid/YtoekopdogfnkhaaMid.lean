/-
  What a store of a whole row leaves of the world.
-/
import Derived.Test.YtoekopdogfnkhaaWld
import Derived.Deep.MidRow
set_option linter.unusedVariables false
set_option linter.unusedSimpArgs false
namespace Go.Con
open Go Go.RowKit
theorem Kept.setCells {B : Nat} {S : Nat → Prop} {a : World} {b : Nat} (hb : B ≤ b ∨ S b) : ∀ (vs : List Value) (o : Nat) (w : World), Kept B S a w → Kept B S a (w.setCells b o vs)
  | [], _, _, h => h
  | v :: r, o, w, h => Kept.setCells hb r (o + 1) _ (h.setCell (p := ⟨b, o, none⟩) hb v)
theorem below_setCells {B : Nat} {a : World} {b : Nat} (hb : B ≤ b) : ∀ (vs : List Value) (o : Nat) (w : World), Below B a w → Below B a (w.setCells b o vs)
  | [], _, _, h => h
  | v :: r, o, w, h => below_setCells hb r (o + 1) _ (h.setCell (p := ⟨b, o, none⟩) hb v)
theorem heap_setCells {b : Nat} {e : TypeId} {f : Nat × Nat} : ∀ (vs : List Value) (o : Nat) (w : World) (cur : Array Value), w.heap[b]? = some (.cells cur e f) → ∃ cur', (w.setCells b o vs).heap[b]? = some (.cells cur' e f) ∧ cur'.size = cur.size
  | [], _, _, cur, h => ⟨cur, h, rfl⟩
  | v :: r, o, w, cur, h => by
    obtain ⟨c, h1, h2⟩ := heap_setCells r (o + 1) (w.setCell ⟨b, o, none⟩ v) _ (heapSet h v)
    exact ⟨c, h1, by rw [h2]; simp⟩
theorem heap_setCells_ne {b k : Nat} (hk : k ≠ b) : ∀ (vs : List Value) (o : Nat) (w : World), (w.setCells b o vs).heap[k]? = w.heap[k]?
  | [], _, _ => rfl
  | v :: r, o, w => (heap_setCells_ne hk r (o + 1) _).trans (heapSet_ne o v hk)
theorem size_setCells {b : Nat} : ∀ (vs : List Value) (o : Nat) (w : World), (w.setCells b o vs).heap.size = w.heap.size
  | [], _, _ => rfl
  | v :: r, o, w => (size_setCells r (o + 1) _).trans (by simp [World.setCell])
theorem there_of {w : World} {b n : Nat} {t : TypeId} {cur : Array Value} (h : w.heap[b]? = some (.cells cur t (0, 0))) (hn : cur.size = n) : w.there b 0 n := fun j hj => by
  rw [Nat.zero_add]
  refine ⟨?_, freeAt h j⟩
  rw [cellD h j (by omega)]
  rfl
/-- A row that was stored whole. -/
theorem storedRow {w : World} {b : Nat} {t : TypeId} {cur : Array Value} {vs : List Value} (h : w.heap[b]? = some (.cells cur t (0, 0))) (hn : cur.size = vs.length) : (w.setCells b 0 vs).heap[b]? = some (.cells vs.toArray t (0, 0)) := by
  obtain ⟨c, h1, h2⟩ := heap_setCells vs 0 w cur h
  have hr := World.rangeAt_setCells_same w b 0 vs (there_of h hn)
  rw [h1]
  have e : c = vs.toArray := by
    apply Array.ext (by rw [h2, hn]; simp)
    intro j k1 k2
    have hj : j < vs.length := by simpa using k2
    have h3 := hr j vs[j] (List.getElem?_eq_getElem hj)
    rw [Nat.zero_add, cellAt h1 j (Array.getElem?_eq_getElem k1)] at h3
    simpa using h3
  rw [e]
theorem range_of {w : World} {b : Nat} {t : TypeId} {f : Nat × Nat} {cs : List Value} (h : w.heap[b]? = some (.cells cs.toArray t f)) : w.rangeAt b 0 cs := fun j v hv => by
  rw [Nat.zero_add]
  exact cellAt h j (by simpa using hv)
end Go.Con
