/-
  Texts put together: Stp, Mid, SameK, Tail, Stb.
-/
import Derived.Test.YtdkbajdnckmckaaMg2
import Derived.Deep.RegionLaw
import Derived.Test.YtdkbajdnckmckaaMg1
import Derived.Deep.MidRow
import Derived.Deep.CutRange
import Derived.Deep.RegionHeld3
import Derived.Outline
set_option linter.unusedVariables false
set_option linter.unusedSimpArgs false
namespace Go.Proofs.Ytdkbajdnckmckaa
open Go.RowKit Go.Con
/-- A new row, written out, is the call's own. -/
theorem ownNew (w : World) (base : Nat) (l : List UInt8) (n : Nat) (hn : l.length = n) (hb : base ≤ w.heap.size) (hm : n ≤ maxLen) : Own (w.alloc (.cells (l.map u8v).toArray 5)) base (.slice (some ⟨w.heap.size, 0, none⟩) n n) l := by
  subst hn
  refine ⟨by simp, .inr ⟨w.heap.size, l.length, (l.map u8v).toArray, rfl, hb, heapNew w _, Nat.le_refl _, hm, by simp, ?_⟩⟩
  rw [List.take_of_length_le (by simp)]
theorem ownNew1 (W : World) (base : Nat) (x0 : Int) (b0 : UInt8) (h0 : x0 = b0.toNat) (hb : base ≤ W.heap.size) :
    Own (W.alloc (.cells #[.int .u8 x0] 5)) base (.slice (some ⟨W.heap.size, 0, none⟩) 1 1) [b0] := by
  subst h0; exact ownNew W base [b0] 1 rfl hb (by decide)
section
variable {ops : Array Oper} {o : Oper} {a : Act} {w : World} {K : Act → World → Prop} {Q : Exit → Act → World → Prop} {E : Prop}
end
end Go.Proofs.Ytdkbajdnckmckaa

set_option linter.unusedVariables false
set_option linter.unusedSimpArgs false
namespace Go.Con
open Go Go.RowKit
theorem Kept.setCells {B : Nat} {S : Nat → Prop} {a : World} {b : Nat} (hb : B ≤ b ∨ S b) : ∀ (vs : List Value) (o : Nat) (w : World), Kept B S a w → Kept B S a (w.setCells b o vs)
  | [], _, _, h => h
  | v :: r, o, w, h => Kept.setCells hb r (o + 1) _ (h.setCell (p := ⟨b, o, none⟩) hb v)
theorem below_setCells {B : Nat} {a : World} {b : Nat} (hb : B ≤ b) : ∀ (vs : List Value) (o : Nat) (w : World), Below B a w → Below B a (w.setCells b o vs)
  | [], _, _, h => h
  | v :: r, o, w, h => below_setCells hb r (o + 1) _ (h.setCell (p := ⟨b, o, none⟩) hb v)
theorem heap_setCells {b : Nat} {e : TypeId} {f : Nat × Nat} : ∀ (vs : List Value) (o : Nat) (w : World) (cur : Array Value), w.heap[b]? = some (.cells cur e f) → ∃ cur', (w.setCells b o vs).heap[b]? = some (.cells cur' e f) ∧ cur'.size = cur.size
  | [], _, _, cur, h => ⟨cur, h, rfl⟩
  | v :: r, o, w, cur, h => by
    obtain ⟨c, h1, h2⟩ := heap_setCells r (o + 1) (w.setCell ⟨b, o, none⟩ v) _ (heapSet h v)
    exact ⟨c, h1, by rw [h2]; simp⟩
theorem heap_setCells_ne {b k : Nat} (hk : k ≠ b) : ∀ (vs : List Value) (o : Nat) (w : World), (w.setCells b o vs).heap[k]? = w.heap[k]?
  | [], _, _ => rfl
  | v :: r, o, w => (heap_setCells_ne hk r (o + 1) _).trans (heapSet_ne o v hk)
theorem size_setCells {b : Nat} : ∀ (vs : List Value) (o : Nat) (w : World), (w.setCells b o vs).heap.size = w.heap.size
  | [], _, _ => rfl
  | v :: r, o, w => (size_setCells r (o + 1) _).trans (by simp [World.setCell])
theorem there_of {w : World} {b n : Nat} {t : TypeId} {cur : Array Value} (h : w.heap[b]? = some (.cells cur t (0, 0))) (hn : cur.size = n) : w.there b 0 n := fun j hj => by
  rw [Nat.zero_add]
  refine ⟨?_, freeAt h j⟩
  rw [cellD h j (by omega)]
  rfl
/-- A row that was stored whole. -/
theorem storedRow {w : World} {b : Nat} {t : TypeId} {cur : Array Value} {vs : List Value} (h : w.heap[b]? = some (.cells cur t (0, 0))) (hn : cur.size = vs.length) : (w.setCells b 0 vs).heap[b]? = some (.cells vs.toArray t (0, 0)) := by
  obtain ⟨c, h1, h2⟩ := heap_setCells vs 0 w cur h
  have hr := World.rangeAt_setCells_same w b 0 vs (there_of h hn)
  rw [h1]
  have e : c = vs.toArray := by
    apply Array.ext (by rw [h2, hn]; simp)
    intro j k1 k2
    have hj : j < vs.length := by simpa using k2
    have h3 := hr j vs[j] (List.getElem?_eq_getElem hj)
    rw [Nat.zero_add, cellAt h1 j (Array.getElem?_eq_getElem k1)] at h3
    simpa using h3
  rw [e]
theorem range_of {w : World} {b : Nat} {t : TypeId} {f : Nat × Nat} {cs : List Value} (h : w.heap[b]? = some (.cells cs.toArray t f)) : w.rangeAt b 0 cs := fun j v hv => by
  rw [Nat.zero_add]
  exact cellAt h j (by simpa using hv)
end Go.Con

set_option linter.unusedVariables false
set_option linter.unusedSimpArgs false
namespace Go.Proofs.Ytdkbajdnckmckaa
open Go.RowKit Go.Con

end Go.Proofs.Ytdkbajdnckmckaa

set_option linter.unusedVariables false
set_option linter.unusedSimpArgs false
namespace Go.Proofs.Ytdkbajdnckmckaa
open Go.RowKit Go.Con
theorem Rd.shapeN {w : World} {v : Value} {l : List UInt8} (h : Rd w v l) (n : Nat) (hn : l.length = n) (h0 : 0 < n) : ∃ b off c, v = .slice (some ⟨b, off, none⟩) n c ∧ n ≤ c ∧ c ≤ maxLen := by
  subst hn
  obtain ⟨a, c, rfl, h1, h2, _, h3⟩ := h
  obtain ⟨b, off, rfl, _⟩ := h3 (by intro h; rw [h] at h0; exact absurd h0 (by decide))
  exact ⟨b, off, c, rfl, h1, h2⟩
theorem Rd.tail {w : World} {b off n c : Nat} {l : List UInt8} (h : Rd w (.slice (some ⟨b, off, none⟩) n c) l) (k m : Nat) (hk : k < n) (hm : m = n - k) : Rd w (.slice (some ⟨b, off + k, none⟩) m (c - k)) (l.drop k) := by
  subst hm
  obtain ⟨a', c', he, hlc, hcm, h0, hcell⟩ := h
  injection he with e1 e2 e3
  subst e1 e2 e3
  have hlen : (l.drop k).length = l.length - k := by simp
  refine ⟨_, _, by rw [hlen], by omega, by omega, (fun h => by cases h), fun hne => ?_⟩
  obtain ⟨b', o', e4, hc⟩ := hcell (by intro h; rw [h] at hk; exact absurd hk (by simp))
  injection e4 with e4
  injection e4 with e5 e6 e7
  subst e5 e6
  refine ⟨_, _, rfl, fun i hi => ?_⟩
  rw [hlen] at hi
  rw [show off + k + i = off + (k + i) by omega, hc (k + i) (by omega)]
  simp [List.getElem?_drop]
/-- a cut from lo to hi -/
theorem Rd.mid {w : World} {b off n c : Nat} {l : List UInt8} (h : Rd w (.slice (some ⟨b, off, none⟩) n c) l) (k m : Nat) (hk : k < n) (hm : k + m ≤ n) : Rd w (.slice (some ⟨b, off + k, none⟩) m (c - k)) ((l.drop k).take m) := by
  have h1 := h.tail k (n - k) hk rfl
  obtain ⟨_, _, e, _⟩ := h
  injection e with _ e2 _
  exact h1.pre m (by simp; omega)
end Go.Proofs.Ytdkbajdnckmckaa

set_option linter.unusedVariables false
set_option linter.unusedSimpArgs false
namespace Go.Proofs.Ytdkbajdnckmckaa
open Go.RowKit Go.Con
theorem Rd.cellR {w : World} {b off n c : Nat} {l : List UInt8} (h : Rd w (.slice (some ⟨b, off, none⟩) n c) l) (k : Nat) (hk : k < l.length) : w.cell? ⟨b, off + k, none⟩ = some (.int .u8 (l.getD k 0).toNat) := by
  obtain ⟨a', c', e, _, _, _, h⟩ := h
  injection e with e1 e2 e3
  subst e1
  obtain ⟨b, off, e4, h2⟩ := h (by intro h; rw [h] at hk; cases hk)
  injection e4 with e4
  injection e4 with e5 e6
  subst e5 e6
  exact h2 k hk
theorem Own.ofHeapK {w w' : World} {base : Nat} {v : Value} {l : List UInt8} (h : Own w base v l) (hh : ∀ k, v.ownBlock = some k → w'.heap[k]? = w.heap[k]?) : Own w' base v l := by
  obtain ⟨h1, h2⟩ := h
  refine ⟨h1, ?_⟩
  rcases h2 with h2 | ⟨g, cap, cur, rfl, hg, hh2, r⟩
  · exact .inl h2
  · exact .inr ⟨g, cap, cur, rfl, hg, by rw [hh g rfl]; exact hh2, r⟩
theorem keep2 {w : World} {b c : Nat} {x y v0 v1 : Value} (hne : b ≠ c) (h : w.cell? ⟨b, 0, none⟩ = some x ∧ w.cell? ⟨b, 1, none⟩ = some y) : ((w.setCell ⟨c, 0, none⟩ v0).setCell ⟨c, 1, none⟩ v1).cell? ⟨b, 0, none⟩ = some x ∧ ((w.setCell ⟨c, 0, none⟩ v0).setCell ⟨c, 1, none⟩ v1).cell? ⟨b, 1, none⟩ = some y := by
  have e : ((w.setCell ⟨c, 0, none⟩ v0).setCell ⟨c, 1, none⟩ v1).heap[b]? = w.heap[b]? := (heapSet_ne 1 v1 hne).trans (heapSet_ne 0 v0 hne)
  exact ⟨(World.cell?_of_block (w := w) e).trans h.1, (World.cell?_of_block (w := w) e).trans h.2⟩
/-- what 'open' gives -/
def OpenPost (w : World) (l : List UInt8) (s : Int) (e : Ending) (w' : World) : Prop :=
  ∃ v', e = .returned (.tuple #[.agg #[v', .int .i64 s], .bool true]) ∧ Own w' w.heap.size v' l ∧ Below w.heap.size w w'
end Go.Proofs.Ytdkbajdnckmckaa
