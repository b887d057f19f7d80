/-
  Small laws on worlds: what is kept where some blocks are written; the cells of a block that is known whole; slices of bytes that are read.
-/
import Derived.WalkKit
import Derived.Deep.Draws
set_option linter.unusedVariables false
set_option linter.unusedSimpArgs false
namespace Go.Con
open Go Go.RowKit

/-- Below block number B, but for the blocks in S, the world w is as a was. -/
structure Kept (B : Nat) (S : Nat → Prop) (a w : World) : Prop where
  os : w.os = a.os
  tape : w.tape = a.tape
  output : w.output = a.output
  size : a.heap.size ≤ w.heap.size
  block : ∀ k, k < B → ¬ S k → w.heap[k]? = a.heap[k]?

theorem Kept.refl (B : Nat) (S : Nat → Prop) (w : World) : Kept B S w w := ⟨rfl, rfl, rfl, Nat.le_refl _, fun _ _ _ => rfl⟩
theorem Kept.trans {B : Nat} {S : Nat → Prop} {a b c : World} (h : Kept B S a b) (k : Kept B S b c) : Kept B S a c :=
  ⟨k.os.trans h.os, k.tape.trans h.tape, k.output.trans h.output, Nat.le_trans h.size k.size, fun i hi hs => (k.block i hi hs).trans (h.block i hi hs)⟩
theorem Kept.mono {B B' : Nat} {S S' : Nat → Prop} {a w : World} (h : Kept B S a w) (hB : B' ≤ B) (hS : ∀ k, k < B' → S k → S' k) : Kept B' S' a w :=
  ⟨h.os, h.tape, h.output, h.size, fun k hk hs => h.block k (by omega) (fun h' => hs (hS k hk h'))⟩
theorem Kept.drewN {B : Nat} {S : Nat → Prop} {a w : World} (h : Kept B S a w) (n : Nat) : Kept B S a (w.drewN n) := ⟨h.os, h.tape, h.output, h.size, h.block⟩
theorem Kept.drew {B : Nat} {S : Nat → Prop} {a w : World} (h : Kept B S a w) : Kept B S a w.drew := ⟨h.os, h.tape, h.output, h.size, h.block⟩
theorem Kept.alloc {B : Nat} {S : Nat → Prop} {a w : World} (h : Kept B S a w) (hB : B ≤ w.heap.size) (o : Obj) : Kept B S a (w.alloc o) :=
  h.trans ⟨rfl, rfl, rfl, by simp, fun k hk _ => Below.heap_alloc _ _ _ (by omega)⟩
theorem Kept.setCell {B : Nat} {S : Nat → Prop} {a w : World} (h : Kept B S a w) {p : Addr} (hp : B ≤ p.block ∨ S p.block) (u : Value) : Kept B S a (w.setCell p u) :=
  h.trans ⟨rfl, rfl, rfl, by simp [World.setCell], fun k hk hs => Below.heap_setCell _ _ _ _ (fun e => by
    subst e; exact hp.elim (by omega) hs)⟩
theorem Kept.below {B : Nat} {S : Nat → Prop} {a w : World} (h : Kept B S a w) (hS : ∀ k, k < B → ¬ S k) : Below B a w :=
  ⟨h.os, h.tape, h.output, h.size, fun k hk => h.block k hk (hS k hk)⟩
theorem Kept.of_below {B : Nat} {S : Nat → Prop} {a w : World} (h : Below B a w) : Kept B S a w :=
  ⟨h.os, h.tape, h.output, h.size, fun k hk _ => h.block k hk⟩
theorem Kept.of_grown {B : Nat} {S : Nat → Prop} {a w : World} {row : Option Nat} (h : a.grownBy w row) (hB : B ≤ a.heap.size) (hr : ∀ k, row = some k → B ≤ k ∨ S k) : Kept B S a w :=
  ⟨h.os, h.tape, h.output, h.size, fun k hk hs => h.block k (by omega) (fun e => by
    rcases hr k e.symm with h | h
    · omega
    · exact hs h)⟩
theorem Kept.cell {B : Nat} {S : Nat → Prop} {a w : World} (h : Kept B S a w) {p : Addr} (hp : p.block < B) (hs : ¬ S p.block) : w.cell? p = a.cell? p := World.cell?_of_block (w := a) (h.block p.block hp hs)

theorem below_drewN {B : Nat} {a w : World} (h : Below B a w) (n : Nat) : Below B a (w.drewN n) := ⟨h.os, h.tape, h.output, h.size, h.block⟩

/-! ### A block that is known whole -/
theorem cellAt {w : World} {b : Nat} {c : Array Value} {e : TypeId} {f : Nat × Nat} (h : w.heap[b]? = some (.cells c e f)) (o : Nat) {v : Value} (hv : c[o]? = some v) : w.cell? ⟨b, o, none⟩ = some v := by
  simp [World.cell?, h, hv]
theorem freeAt {w : World} {b : Nat} {c : Array Value} {e : TypeId} (h : w.heap[b]? = some (.cells c e (0, 0))) (o : Nat) : w.frozen? ⟨b, o, none⟩ = false := by
  simp [World.frozen?, h]
theorem heapSet {w : World} {b o : Nat} {c : Array Value} {e : TypeId} {f : Nat × Nat} (h : w.heap[b]? = some (.cells c e f)) (v : Value) :
    (w.setCell ⟨b, o, none⟩ v).heap[b]? = some (.cells (c.setIfInBounds o v) e f) := by
  simp [World.setCell, Array.getElem?_modify, h]
theorem heapSet_ne {w : World} {b k : Nat} (o : Nat) (v : Value) (hk : k ≠ b) : (w.setCell ⟨b, o, none⟩ v).heap[k]? = w.heap[k]? :=
  Below.heap_setCell _ _ _ _ hk
theorem heapNew (w : World) (o : Obj) : (w.alloc o).heap[w.heap.size]? = some o := heap_alloc_new w o
theorem heapOld (w : World) (o : Obj) (k : Nat) (h : k < w.heap.size) : (w.alloc o).heap[k]? = w.heap[k]? := heap_alloc_old w o h
theorem heapNew1 (w : World) (A B : Obj) : ((w.alloc A).alloc B).heap[w.heap.size + 1]? = some B := by
  have e : (w.alloc A).heap.size = w.heap.size + 1 := by simp
  rw [← e]; exact heapNew _ _
theorem heapNew0 (w : World) (A B : Obj) : ((w.alloc A).alloc B).heap[w.heap.size]? = some A := by
  rw [heapOld _ _ _ (by simp)]; exact heapNew _ _
theorem lt_of_heap {w : World} {b : Nat} {o : Obj} (h : w.heap[b]? = some o) : b < w.heap.size := (Array.getElem?_eq_some_iff.1 h).1

/-- A cell of a block known whole, by getD. -/
theorem cellD {w : World} {b : Nat} {c : Array Value} {e : TypeId} {f : Nat × Nat} (h : w.heap[b]? = some (.cells c e f)) (o : Nat) (ho : o < c.size) : w.cell? ⟨b, o, none⟩ = some (c.getD o undef) :=
  cellAt h o (by simp [ho])
/-- One more cell of a row is filled. -/
theorem fillOne {w : World} {b k n : Nat} {c : Array Value} {e : TypeId} (nq : Nat) {g : Nat → Value} {v : Value} (h : w.heap[b]? = some (.cells c e (0, 0))) (hs : c.size = n) (hk : k < n)
    (hold : ∀ j, j < k → c[j]? = some (g j)) (hv : v = g k) :
    ∃ c', ((w.drewN nq).setCell ⟨b, k, none⟩ v).heap[b]? = some (.cells c' e (0, 0)) ∧ c'.size = n ∧ ∀ j, j < k + 1 → c'[j]? = some (g j) := by
  refine ⟨c.setIfInBounds k v, heapSet (w := w.drewN nq) h v, by simp [hs], fun j hj => ?_⟩
  by_cases hjk : j = k
  · subst hjk; subst hv; simp [hs, hk]
  · rw [Array.getElem?_setIfInBounds, if_neg (by omega)]; exact hold j (by omega)

theorem set8 {w : World} {b : Nat} {c0 c1 c2 c3 c4 c5 c6 c7 : Value} {e : TypeId} (h : w.heap[b]? = some (.cells #[c0, c1, c2, c3, c4, c5, c6, c7] e (0, 0))) (v0 v1 v2 v3 v4 v5 v6 v7 : Value) :
    ((((((((w.setCell ⟨b, 0, none⟩ v0).setCell ⟨b, 1, none⟩ v1).setCell ⟨b, 2, none⟩ v2).setCell ⟨b, 3, none⟩ v3).setCell ⟨b, 4, none⟩ v4).setCell ⟨b, 5, none⟩ v5).setCell ⟨b, 6, none⟩ v6).setCell ⟨b, 7, none⟩ v7).heap[b]? = some (.cells #[v0, v1, v2, v3, v4, v5, v6, v7] e (0, 0)) :=
  by
  have h1 := heapSet (o := 0) h v0
  have h2 := heapSet (o := 1) h1 v1
  have h3 := heapSet (o := 2) h2 v2
  have h4 := heapSet (o := 3) h3 v3
  have h5 := heapSet (o := 4) h4 v4
  have h6 := heapSet (o := 5) h5 v5
  have h7 := heapSet (o := 6) h6 v6
  have h8 := heapSet (o := 7) h7 v7
  rw [h8]
  simp
theorem arr8 {cur : Array Value} {g : Nat → Value} (hs : cur.size = 8) (h : ∀ j, j < 8 → cur[j]? = some (g j)) : cur = #[g 0, g 1, g 2, g 3, g 4, g 5, g 6, g 7] := by
  apply Array.ext (by simpa using hs)
  intro i h1 h2
  have hi : i < 8 := by omega
  have := h i hi
  rw [Array.getElem?_eq_getElem h1] at this
  rw [Option.some.inj this]
  match i, hi with
  | 0, _ => rfl
  | 1, _ => rfl
  | 2, _ => rfl
  | 3, _ => rfl
  | 4, _ => rfl
  | 5, _ => rfl
  | 6, _ => rfl
  | 7, _ => rfl
/-- One cell of a row is turned. -/
theorem turnOne {w : World} {b k n : Nat} {c : Array Value} {e : TypeId} (nq : Nat) {g g' : Nat → Value} {v : Value} (h : w.heap[b]? = some (.cells c e (0, 0))) (hs : c.size = n) (hk : k < n)
    (hold : ∀ j, j < n → c[j]? = some (g j)) (hv : v = g' k) (hg : ∀ j, j < n → j ≠ k → g' j = g j) :
    ∃ c', ((w.drewN nq).setCell ⟨b, k, none⟩ v).heap[b]? = some (.cells c' e (0, 0)) ∧ c'.size = n ∧ ∀ j, j < n → c'[j]? = some (g' j) := by
  refine ⟨c.setIfInBounds k v, heapSet (w := w.drewN nq) h v, by simp [hs], fun j hj => ?_⟩
  by_cases hjk : j = k
  · subst hjk; subst hv; simp [hs, hk]
  · rw [Array.getElem?_setIfInBounds, if_neg (by omega), hold j hj, hg j hj hjk]

/-- A byte as a value. -/
def u8v (b : UInt8) : Value := .int .u8 b.toNat
/-- The length of a slice value. -/
def lenV : Value → Nat | .slice _ n _ => n | _ => 0
end Go.Con
