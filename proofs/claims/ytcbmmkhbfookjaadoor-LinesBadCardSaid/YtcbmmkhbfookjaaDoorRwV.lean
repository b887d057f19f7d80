/-
  Rows of votes: shown, own, grown.
-/
import Derived.Test.YtcbmmkhbfookjaaDoorPax
import Derived.Maps.AppendAt
import Derived.Lib.AppendZerosOnto
set_option linter.unusedVariables false
set_option linter.unusedSimpArgs false
namespace Go.Con
open Go
theorem flatMap_row {α : Type} (f : α → List Value) (d : α) (k : Nat) (hf : ∀ x, (f x).length = k) : ∀ (l : List α) (i : Nat), i < l.length → ∀ j, j < k → (l.flatMap f)[k * i + j]? = (f (l.getD i d))[j]?
  | c :: l, 0, _, j, hj => by
    rw [List.flatMap_cons, Nat.mul_zero, Nat.zero_add, List.getElem?_append_left (by rw [hf]; exact hj)]; rfl
  | c :: l, i + 1, hi, j, hj => by
    rw [List.flatMap_cons, List.getElem?_append_right (by rw [hf, Nat.mul_succ]; omega), hf]
    have e : k * (i + 1) + j - k = k * i + j := by rw [Nat.mul_succ]; omega
    rw [e]
    exact flatMap_row f d k hf l i (by simpa using hi) j hj
theorem flatMap_len {α : Type} (f : α → List Value) (k : Nat) (hf : ∀ x, (f x).length = k) (l : List α) : (l.flatMap f).length = l.length * k := by
  induction l with
  | nil => simp
  | cons c l ih => rw [List.flatMap_cons, List.length_append, ih, hf, List.length_cons, Nat.succ_mul]; omega
/-- a slice that shows a row -/
def RdRow {α : Type} (k : Nat) (f : α → List Value) (d : α) (w : World) (v : Value) (l : List α) : Prop :=
  ∃ a c, v = .slice a l.length c ∧ l.length ≤ c ∧ c ≤ maxLen ∧ (l ≠ [] → ∃ b off, a = some ⟨b, off, none⟩ ∧ b < w.heap.size ∧ ∀ i, i < l.length → ∀ j, j < k → w.cell? ⟨b, off + (k * i + j), none⟩ = (f (l.getD i d))[j]?)
theorem RdRow.ofOwn {α : Type} {k : Nat} {f : α → List Value} {d : α} {w : World} {base : Nat} {t : TypeId} {v : Value} {l : List α} (hf : ∀ x, (f x).length = k) (h : w.ownsRow base t k v l.length (l.flatMap f)) : RdRow k f d w v l := by
  obtain ⟨h1, h2⟩ := h
  rcases h2 with ⟨rfl, hn⟩ | ⟨g, cap, cur, rfl, hb, hg, hnc, hcm, hcs, htake⟩
  · have : l = [] := List.eq_nil_of_length_eq_zero hn
    subst this
    exact ⟨none, 0, rfl, Nat.le_refl _, Nat.zero_le _, fun h => absurd rfl h⟩
  · refine ⟨some ⟨g, 0, none⟩, cap, rfl, hnc, hcm, fun _ => ⟨g, 0, rfl, lt_of_heap hg, fun i hi j hj => ?_⟩⟩
    rw [Nat.zero_add, ← flatMap_row f d k hf l i hi j hj]
    have hlt : k * i + j < (l.flatMap f).length := by
      rw [h1]
      have : k * i + k ≤ l.length * k := by rw [← Nat.mul_succ, Nat.mul_comm]; exact Nat.mul_le_mul_right _ hi
      omega
    have hcur : cur[k * i + j]? = (l.flatMap f)[k * i + j]? := by
      rw [← htake, List.getElem?_take, if_pos (by omega)]; simp
    rw [List.getElem?_eq_getElem hlt] at hcur ⊢
    exact cellAt hg _ hcur
theorem RdRow.heap {α : Type} {k : Nat} {f : α → List Value} {d : α} {w w' : World} {v : Value} {l : List α} (h : RdRow k f d w v l) (hh : ∀ q, v.ownBlock = some q → q < w.heap.size → w'.heap[q]? = w.heap[q]?) : RdRow k f d w' v l := by
  obtain ⟨a, c, rfl, h1, h2, h3⟩ := h
  refine ⟨a, c, rfl, h1, h2, fun hl => ?_⟩
  obtain ⟨b, off, rfl, hb, hc⟩ := h3 hl
  have hw := hh b rfl hb
  refine ⟨b, off, rfl, ?_, fun i hi j hj => ?_⟩
  · rcases Nat.lt_or_ge b w'.heap.size with h | h
    · exact h
    · rw [Array.getElem?_eq_none h, Array.getElem?_eq_getElem hb] at hw; cases hw
  · rw [← hc i hi j hj]
    exact World.cell?_of_block (w := w) hw
/-- what a row's cells are, where it is not empty -/
theorem RdRow.cells {α : Type} {k : Nat} {f : α → List Value} {d : α} {w : World} {a : Option Addr} {n c : Nat} {l : List α} (h : RdRow k f d w (.slice a n c) l) : n = l.length ∧ n ≤ c ∧ (∀ i, i < n → ∃ b off, a = some ⟨b, off, none⟩ ∧ b < w.heap.size ∧ ∀ j, j < k → w.cell? ⟨b, off + (k * i + j), none⟩ = (f (l.getD i d))[j]?) := by
  obtain ⟨a', c', h0, h1, h2, h3⟩ := h
  injection h0 with e1 e2 e3
  subst e1 e3
  refine ⟨e2, by omega, fun i hi => ?_⟩
  obtain ⟨b, off, rfl, hb, hc⟩ := h3 (fun e => by rw [e] at e2; simp at e2; omega)
  exact ⟨b, off, rfl, hb, hc i (by omega)⟩
end Go.Con
namespace Go.Proofs.YtcbmmkhbfookjaaDoor
open Go.RowKit Go.Con
theorem _root_.Go.Con.RdRow.stay {α : Type} {k : Nat} {f : α → List Value} {d : α} {w w' : World} {v : Value} {l : List α} (h : RdRow k f d w v l) (hb : Below w.heap.size w w') : RdRow k f d w' v l := h.heap (fun q _ hq => hb.block q hq)
abbrev RdV := RdRow 8 votCells Vot.zero
theorem row_ofHeap {w w' : World} {base size : Nat} {e : TypeId} {v : Value} {n : Nat} {xs : List Value} (h : w.ownsRow base e size v n xs) (hh : ∀ k, v.ownBlock = some k → w'.heap[k]? = w.heap[k]?) : w'.ownsRow base e size v n xs := by
  obtain ⟨h1, h2⟩ := h
  refine ⟨h1, ?_⟩
  rcases h2 with h2 | ⟨g, cap, cur, rfl, hg, hh2, r⟩
  · exact .inl h2
  · exact .inr ⟨g, cap, cur, rfl, hg, by rw [hh g rfl]; exact hh2, r⟩
theorem row_mono {w : World} {base base' size : Nat} {e : TypeId} {v : Value} {n : Nat} {xs : List Value} (h : w.ownsRow base e size v n xs) (hb : base' ≤ base) : w.ownsRow base' e size v n xs := by
  obtain ⟨h1, h2⟩ := h
  refine ⟨h1, ?_⟩
  rcases h2 with h2 | ⟨g, cap, cur, hv, hg, r⟩
  · exact .inl h2
  · exact .inr ⟨g, cap, cur, hv, by omega, r⟩
theorem row_lt {w : World} {base size : Nat} {e : TypeId} {v : Value} {n : Nat} {xs : List Value} (h : w.ownsRow base e size v n xs) : ∀ k, v.ownBlock = some k → base ≤ k ∧ k < w.heap.size := by
  intro k hk
  obtain ⟨h1, h2⟩ := h
  rcases h2 with ⟨rfl, _⟩ | ⟨g, cap, cur, rfl, hg, hh2, r⟩
  · cases hk
  · injection hk with e; subst e; exact ⟨hg, lt_of_heap hh2⟩
theorem info_part {P : Program} {t : TypeId} {z : Option Value} {s b : Nat} (h : (P.info? t).map (fun i => (i.zero, i.size, i.bytes)) = some (z, s, b)) : ∃ i, P.info? t = some i ∧ i.zero = z ∧ i.size = s ∧ i.bytes = b := by
  cases hi : P.info? t with
  | none => rw [hi] at h; cases h
  | some i => rw [hi] at h; simp at h; exact ⟨i, rfl, h.1, h.2.1, h.2.2⟩
theorem votCells_one (l : List Vot) : ∀ u ∈ l.flatMap votCells, u.oneCell' = true := by
  intro u hu
  obtain ⟨e, he, hu⟩ := List.mem_flatMap.1 hu
  simp [votCells] at hu
  rcases hu with rfl | rfl | rfl | rfl | rfl | rfl | rfl | rfl <;> rfl
theorem rdV_cells {w : World} {ea : Option Addr} {k c : Nat} {m : List Vot} (h : RdV w (.slice ea k c) m) (ad : Addr) (he : ea = some ad) : ∀ j u, (m.flatMap votCells)[j]? = some u → w.cell? (ad.add j) = some u := by
  intro j u hu
  obtain ⟨hk, hkc, hcells⟩ := h.cells
  have hj : j < m.length * 8 := by
    have := (List.getElem?_eq_some_iff.1 hu).1
    rwa [flatMap_len votCells 8 (fun _ => rfl)] at this
  obtain ⟨b, off, he2, -, hc⟩ := hcells (j / 8) (by omega)
  obtain rfl := Option.some.inj (he.symm.trans he2)
  have h2 := hc (j % 8) (Nat.mod_lt _ (by decide))
  have h3 := flatMap_row votCells Vot.zero 8 (fun _ => rfl) m (j / 8) (by omega) (j % 8) (Nat.mod_lt _ (by decide))
  rw [Nat.div_add_mod] at h2 h3
  rw [Addr.add_mid]
  exact h2.trans (h3.symm.trans hu)
section
variable {ops : Array Oper} {rest : List Oper} {o : Oper} {a : Act} {Q : Exit → Act → World → Prop} {w : World}
end
section
variable {ops : Array Oper} {o : Oper} {a : Act} {w : World} {K : Act → World → Prop} {Q : Exit → Act → World → Prop} {E : Prop}
end
end Go.Proofs.YtcbmmkhbfookjaaDoor
