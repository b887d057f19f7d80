/-
  The walk of stable.Vote.
-/
import Derived.Test.YtdkbajdnckmckaaStP
set_option linter.unusedVariables false
set_option linter.unusedSimpArgs false
namespace Go.Proofs.Ytdkbajdnckmckaa
open Go.RowKit Go.Con
/-- a vote's body -/
def Tp.voB (y0 y1 y2 y3 y4 y5 y6 y7 : Int) : List UInt8 := (2 :: flatB [y0, y1, y2]) ++ encC ⟨y3, y4, y5, y6, y7⟩
theorem encC_len (c : Cmd) : (encC c).length = 20 := encK_length c 5
theorem voB_len (y0 y1 y2 y3 y4 y5 y6 y7 : Int) : (Tp.voB y0 y1 y2 y3 y4 y5 y6 y7).length = 33 := by rw [Tp.voB, List.length_append, List.length_cons, flatB_len, encC_len]; rfl
theorem three_ge (x r q : Int) (hx : 0 ≤ x) (hr : 0 ≤ r) (hq : 0 ≤ q) : ∀ i, i < [x, r, q].length → 0 ≤ [x, r, q].getD i 0 := by
  intro i hi
  have hc : i = 0 ∨ i = 1 ∨ i = 2 := by simp at hi; omega
  rcases hc with rfl | rfl | rfl <;> simp <;> omega
theorem three_bd (x r q : Int) (hx : 0 ≤ x ∧ x ≤ 65536) (hr : 0 ≤ r ∧ r ≤ 65536) (hq : 0 ≤ q ∧ q ≤ 65536) : ∀ i, i < [x, r, q].length → -9223372036854775808 ≤ [x, r, q].getD i 0 ∧ [x, r, q].getD i 0 ≤ 9223372036854775807 := by
  intro i hi
  have hc : i = 0 ∨ i = 1 ∨ i = 2 := by simp at hi; omega
  rcases hc with rfl | rfl | rfl <;> simp <;> omega
abbrev SV (w : World) (tb bb : Nat) (v : Value) (s x r q : Int) : Prop := w.cell? ⟨tb, 0, none⟩ = some v ∧ w.cell? ⟨tb, 1, none⟩ = some (.int .i64 s) ∧ w.cell? ⟨bb, 0, none⟩ = some (.int .i64 x) ∧ w.cell? ⟨bb, 1, none⟩ = some (.int .i64 r) ∧ w.cell? ⟨bb, 2, none⟩ = some (.int .i64 q)
theorem SV.stay {w w' : World} {tb bb : Nat} {v : Value} {s x r q : Int} (h : SV w tb bb v s x r q) (h1 : tb < w.heap.size) (h2 : bb < w.heap.size) (hb : Below w.heap.size w w') : SV w' tb bb v s x r q :=
  ⟨(hb.cell (p := ⟨tb, 0, none⟩) h1).trans h.1, (hb.cell (p := ⟨tb, 1, none⟩) h1).trans h.2.1, (hb.cell (p := ⟨bb, 0, none⟩) h2).trans h.2.2.1, (hb.cell (p := ⟨bb, 1, none⟩) h2).trans h.2.2.2.1, (hb.cell (p := ⟨bb, 2, none⟩) h2).trans h.2.2.2.2⟩
theorem SV.set {w : World} {tb bb rb : Nat} {v v0 v1 : Value} {s x r q : Int} (h1 : tb ≠ rb) (h2 : bb ≠ rb) (h : SV w tb bb v s x r q) : SV ((w.setCell ⟨rb, 0, none⟩ v0).setCell ⟨rb, 1, none⟩ v1) tb bb v s x r q := by
  have e : ∀ b, b ≠ rb → ((w.setCell ⟨rb, 0, none⟩ v0).setCell ⟨rb, 1, none⟩ v1).heap[b]? = w.heap[b]? := fun b hne => (heapSet_ne 1 v1 hne).trans (heapSet_ne 0 v0 hne)
  exact ⟨(World.cell?_of_block (w := w) (e tb h1)).trans h.1, (World.cell?_of_block (w := w) (e tb h1)).trans h.2.1, (World.cell?_of_block (w := w) (e bb h2)).trans h.2.2.1, (World.cell?_of_block (w := w) (e bb h2)).trans h.2.2.2.1, (World.cell?_of_block (w := w) (e bb h2)).trans h.2.2.2.2⟩
theorem SV.alloc {w : World} {tb bb : Nat} {v : Value} {s x r q : Int} (h : SV w tb bb v s x r q) (h1 : tb < w.heap.size) (h2 : bb < w.heap.size) (o : Obj) : SV (w.alloc o) tb bb v s x r q := h.stay h1 h2 ((Below.refl _ _).alloc (Nat.le_refl _) o)
theorem SV.drew {w : World} {tb bb : Nat} {v : Value} {s x r q : Int} (h : SV w tb bb v s x r q) : SV w.drew tb bb v s x r q := h
end Go.Proofs.Ytdkbajdnckmckaa
