/-
  Rows of votes: shown, own, grown.
-/
import Derived.Test.YtdkbajdnckmckaaPax
import Derived.Maps.AppendAt
import Derived.Lib.AppendZerosOnto
set_option linter.unusedVariables false
set_option linter.unusedSimpArgs false
namespace Go.Con
open Go
theorem flatMap_row {α : Type} (f : α → List Value) (d : α) (k : Nat) (hf : ∀ x, (f x).length = k) : ∀ (l : List α) (i : Nat), i < l.length → ∀ j, j < k → (l.flatMap f)[k * i + j]? = (f (l.getD i d))[j]?
  | c :: l, 0, _, j, hj => by
    rw [List.flatMap_cons, Nat.mul_zero, Nat.zero_add, List.getElem?_append_left (by rw [hf]; exact hj)]; rfl
  | c :: l, i + 1, hi, j, hj => by
    rw [List.flatMap_cons, List.getElem?_append_right (by rw [hf, Nat.mul_succ]; omega), hf]
    have e : k * (i + 1) + j - k = k * i + j := by rw [Nat.mul_succ]; omega
    rw [e]
    exact flatMap_row f d k hf l i (by simpa using hi) j hj
theorem flatMap_len {α : Type} (f : α → List Value) (k : Nat) (hf : ∀ x, (f x).length = k) (l : List α) : (l.flatMap f).length = l.length * k := by
  induction l with
  | nil => simp
  | cons c l ih => rw [List.flatMap_cons, List.length_append, ih, hf, List.length_cons, Nat.succ_mul]; omega
/-- a slice that shows a row -/
def RdRow {α : Type} (k : Nat) (f : α → List Value) (d : α) (w : World) (v : Value) (l : List α) : Prop :=
  ∃ a c, v = .slice a l.length c ∧ l.length ≤ c ∧ c ≤ maxLen ∧ (l ≠ [] → ∃ b off, a = some ⟨b, off, none⟩ ∧ b < w.heap.size ∧ ∀ i, i < l.length → ∀ j, j < k → w.cell? ⟨b, off + (k * i + j), none⟩ = (f (l.getD i d))[j]?)
theorem RdRow.ofOwn {α : Type} {k : Nat} {f : α → List Value} {d : α} {w : World} {base : Nat} {t : TypeId} {v : Value} {l : List α} (hf : ∀ x, (f x).length = k) (h : w.ownsRow base t k v l.length (l.flatMap f)) : RdRow k f d w v l := by
  obtain ⟨h1, h2⟩ := h
  rcases h2 with ⟨rfl, hn⟩ | ⟨g, cap, cur, rfl, hb, hg, hnc, hcm, hcs, htake⟩
  · have : l = [] := List.eq_nil_of_length_eq_zero hn
    subst this
    exact ⟨none, 0, rfl, Nat.le_refl _, Nat.zero_le _, fun h => absurd rfl h⟩
  · refine ⟨some ⟨g, 0, none⟩, cap, rfl, hnc, hcm, fun _ => ⟨g, 0, rfl, lt_of_heap hg, fun i hi j hj => ?_⟩⟩
    rw [Nat.zero_add, ← flatMap_row f d k hf l i hi j hj]
    have hlt : k * i + j < (l.flatMap f).length := by
      rw [h1]
      have : k * i + k ≤ l.length * k := by rw [← Nat.mul_succ, Nat.mul_comm]; exact Nat.mul_le_mul_right _ hi
      omega
    have hcur : cur[k * i + j]? = (l.flatMap f)[k * i + j]? := by
      rw [← htake, List.getElem?_take, if_pos (by omega)]; simp
    rw [List.getElem?_eq_getElem hlt] at hcur ⊢
    exact cellAt hg _ hcur
theorem RdRow.heap {α : Type} {k : Nat} {f : α → List Value} {d : α} {w w' : World} {v : Value} {l : List α} (h : RdRow k f d w v l) (hh : ∀ q, v.ownBlock = some q → q < w.heap.size → w'.heap[q]? = w.heap[q]?) : RdRow k f d w' v l := by
  obtain ⟨a, c, rfl, h1, h2, h3⟩ := h
  refine ⟨a, c, rfl, h1, h2, fun hl => ?_⟩
  obtain ⟨b, off, rfl, hb, hc⟩ := h3 hl
  have hw := hh b rfl hb
  refine ⟨b, off, rfl, ?_, fun i hi j hj => ?_⟩
  · rcases Nat.lt_or_ge b w'.heap.size with h | h
    · exact h
    · rw [Array.getElem?_eq_none h, Array.getElem?_eq_getElem hb] at hw; cases hw
  · rw [← hc i hi j hj]
    exact World.cell?_of_block (w := w) hw
/-- what a row's cells are, where it is not empty -/
theorem RdRow.cells {α : Type} {k : Nat} {f : α → List Value} {d : α} {w : World} {a : Option Addr} {n c : Nat} {l : List α} (h : RdRow k f d w (.slice a n c) l) : n = l.length ∧ n ≤ c ∧ (∀ i, i < n → ∃ b off, a = some ⟨b, off, none⟩ ∧ b < w.heap.size ∧ ∀ j, j < k → w.cell? ⟨b, off + (k * i + j), none⟩ = (f (l.getD i d))[j]?) := by
  obtain ⟨a', c', h0, h1, h2, h3⟩ := h
  injection h0 with e1 e2 e3
  subst e1 e3
  refine ⟨e2, by omega, fun i hi => ?_⟩
  obtain ⟨b, off, rfl, hb, hc⟩ := h3 (fun e => by rw [e] at e2; simp at e2; omega)
  exact ⟨b, off, rfl, hb, hc i (by omega)⟩
end Go.Con
namespace Go.Proofs.Ytdkbajdnckmckaa
open Go.RowKit Go.Con
theorem _root_.Go.Con.RdRow.stay {α : Type} {k : Nat} {f : α → List Value} {d : α} {w w' : World} {v : Value} {l : List α} (h : RdRow k f d w v l) (hb : Below w.heap.size w w') : RdRow k f d w' v l := h.heap (fun q _ hq => hb.block q hq)
abbrev RdV := RdRow 8 votCells Vot.zero
/-- a row of votes of the call's own -/
def OwnV (w : World) (base : Nat) (v : Value) (l : List Vot) : Prop := w.ownsRow base 32 8 v l.length (l.flatMap votCells)
theorem OwnV.row {w : World} {base : Nat} {v : Value} {l : List Vot} (h : OwnV w base v l) : RdV w v l := RdRow.ofOwn (fun _ => rfl) h
theorem row_ofHeap {w w' : World} {base size : Nat} {e : TypeId} {v : Value} {n : Nat} {xs : List Value} (h : w.ownsRow base e size v n xs) (hh : ∀ k, v.ownBlock = some k → w'.heap[k]? = w.heap[k]?) : w'.ownsRow base e size v n xs := by
  obtain ⟨h1, h2⟩ := h
  refine ⟨h1, ?_⟩
  rcases h2 with h2 | ⟨g, cap, cur, rfl, hg, hh2, r⟩
  · exact .inl h2
  · exact .inr ⟨g, cap, cur, rfl, hg, by rw [hh g rfl]; exact hh2, r⟩
theorem row_mono {w : World} {base base' size : Nat} {e : TypeId} {v : Value} {n : Nat} {xs : List Value} (h : w.ownsRow base e size v n xs) (hb : base' ≤ base) : w.ownsRow base' e size v n xs := by
  obtain ⟨h1, h2⟩ := h
  refine ⟨h1, ?_⟩
  rcases h2 with h2 | ⟨g, cap, cur, hv, hg, r⟩
  · exact .inl h2
  · exact .inr ⟨g, cap, cur, hv, by omega, r⟩
theorem row_lt {w : World} {base size : Nat} {e : TypeId} {v : Value} {n : Nat} {xs : List Value} (h : w.ownsRow base e size v n xs) : ∀ k, v.ownBlock = some k → base ≤ k ∧ k < w.heap.size := by
  intro k hk
  obtain ⟨h1, h2⟩ := h
  rcases h2 with ⟨rfl, _⟩ | ⟨g, cap, cur, rfl, hg, hh2, r⟩
  · cases hk
  · injection hk with e; subst e; exact ⟨hg, lt_of_heap hh2⟩
theorem info_part {P : Program} {t : TypeId} {z : Option Value} {s b : Nat} (h : (P.info? t).map (fun i => (i.zero, i.size, i.bytes)) = some (z, s, b)) : ∃ i, P.info? t = some i ∧ i.zero = z ∧ i.size = s ∧ i.bytes = b := by
  cases hi : P.info? t with
  | none => rw [hi] at h; cases h
  | some i => rw [hi] at h; simp at h; exact ⟨i, rfl, h.1, h.2.1, h.2.2⟩
theorem infoVot : (Try.prog.info? 32).map (fun i => (i.zero, i.size, i.bytes)) = some (some (.agg #[.int .i64 0, .int .i64 0, .int .i64 0, .int .i64 0, .int .i64 0, .int .i64 0, .int .i64 0, .int .i64 0]), 8, 64) := by kernel_rfl
theorem votCells_one (l : List Vot) : ∀ u ∈ l.flatMap votCells, u.oneCell' = true := by
  intro u hu
  obtain ⟨e, he, hu⟩ := List.mem_flatMap.1 hu
  simp [votCells] at hu
  rcases hu with rfl | rfl | rfl | rfl | rfl | rfl | rfl | rfl <;> rfl
theorem rdV_cells {w : World} {ea : Option Addr} {k c : Nat} {m : List Vot} (h : RdV w (.slice ea k c) m) (ad : Addr) (he : ea = some ad) : ∀ j u, (m.flatMap votCells)[j]? = some u → w.cell? (ad.add j) = some u := by
  intro j u hu
  obtain ⟨hk, hkc, hcells⟩ := h.cells
  have hj : j < m.length * 8 := by
    have := (List.getElem?_eq_some_iff.1 hu).1
    rwa [flatMap_len votCells 8 (fun _ => rfl)] at this
  obtain ⟨b, off, he2, -, hc⟩ := hcells (j / 8) (by omega)
  obtain rfl := Option.some.inj (he.symm.trans he2)
  have h2 := hc (j % 8) (Nat.mod_lt _ (by decide))
  have h3 := flatMap_row votCells Vot.zero 8 (fun _ => rfl) m (j / 8) (by omega) (j % 8) (Nat.mod_lt _ (by decide))
  rw [Nat.div_add_mod] at h2 h3
  rw [Addr.add_mid]
  exact h2.trans (h3.symm.trans hu)
section
variable {ops : Array Oper} {rest : List Oper} {o : Oper} {a : Act} {Q : Exit → Act → World → Prop} {w : World}
/-- append(own votes, shown ones...) -/
theorem apV (hgd : o.guard = none) (s x : Operand) (ho : o.op = .call { callee := .builtin .append, args := #[s, x], argTypes := #[23, 23] })
    (base : Nat) (v : Value) (l m : List Vot) (ea : Option Addr) (k c : Nat) (hs : a.eval s = v) (hown : OwnV w base v l) (hx : a.eval x = .slice ea k c) (hsrc : RdV w (.slice ea k c) m) (hnone : ea = none → c = 0) (hlen : l.length + m.length ≤ 1000000) (hbase : base ≤ w.heap.size)
    (h : ∀ v' w', OwnV w' base v' (l ++ m) → w.grownBy w' v.ownBlock → (v'.ownBlock = v.ownBlock ∨ v'.ownBlock = some w.heap.size) → wpList Try.prog ops Q rest (a.put o.dst v') w') : wpList Try.prog ops Q (o :: rest) a w := by
  obtain ⟨i, hi, hz, hsz, hb⟩ := info_part infoVot
  obtain ⟨hk, hkc, hcells⟩ := hsrc.cells
  cases ea with
  | none =>
    have hk0 : k = 0 := by
      rcases Nat.eq_zero_or_pos k with h | h
      · exact h
      · obtain ⟨b, off, he, -⟩ := hcells 0 h; cases he
    have hm : m = [] := List.eq_nil_of_length_eq_zero (by omega)
    rw [hk0, hnone rfl] at hx
    subst hm
    refine wpList_append_own_none hgd s x 23 ho base 32 i 8 Try.underlying23 hi v l.length _ hs hown hx ?_
    exact h v w (by simpa using hown) ⟨rfl, rfl, rfl, Nat.le_refl _, fun _ _ _ => rfl⟩ (.inl rfl)
  | some ad =>
    refine wpList_append_own_at w hgd s x 23 ho base 32 i _ 8 64 Try.underlying23 hi hz hsz hb rfl (by decide) v l.length (l.flatMap votCells) hs hown ad k c (m.flatMap votCells) hx (by rw [flatMap_len votCells 8 (fun _ => rfl), hk]) (rdV_cells hsrc ad rfl) (votCells_one m) (by unfold maxLen; omega) (by omega) hbase ?_
    intro v' w' h1 h2 _ h4
    refine h v' w' ?_ h2 h4
    unfold OwnV
    rw [List.length_append, List.flatMap_append, ← hk]
    exact h1
end
section
variable {ops : Array Oper} {o : Oper} {a : Act} {w : World} {K : Act → World → Prop} {Q : Exit → Act → World → Prop} {E : Prop}
/-- append(own votes, one more), as one step of a region that draws -/
theorem step_apV (hg : o.guard = none) (s x : Operand) (ho : o.op = .call { callee := .builtin .append, args := #[s, x], argTypes := #[23, 23] })
    (base : Nat) (v : Value) (l : List Vot) (c : Vot) (g : Nat) (hs : a.eval s = v) (hown : OwnV w base v l) (hx : a.eval x = .slice (some ⟨g, 0, none⟩) 1 1) (hsrc : w.heap[g]? = some (.cells (votCells c).toArray 32 (0, 0))) (hlen : l.length ≤ 1000000) (hbase : base ≤ w.heap.size)
    (h : ∀ v' w', OwnV w' base v' (l ++ [c]) → w.grownBy w' v.ownBlock → (v'.ownBlock = v.ownBlock ∨ v'.ownBlock = some w.heap.size) → K (a.put o.dst v') w') : if Region.wanted o (yielded ops a.tmps) = true then Oper.wp Try.prog o a w K Q else E := by
  have hw : Region.wanted o (yielded ops a.tmps) = true := by simp [Region.wanted, hg]
  rw [if_pos hw]
  obtain ⟨i, hi, hz, hsz, hb⟩ := info_part infoVot
  obtain ⟨v', w', hr, h2, h3, h4, h5⟩ := run_append_own_at (P := Try.prog) w base 23 o.type 32 i _ 8 64 Try.underlying23 hi hz hsz hb rfl (by decide) v l.length (l.flatMap votCells) hown ⟨g, 0, none⟩ 1 1 (votCells c) rfl (fun j u hu => by
    have hj := cellAt hsrc j (by simpa using hu)
    rw [Addr.add_mid, Nat.zero_add]; exact hj) (fun u hu => by
    simp [votCells] at hu
    rcases hu with rfl | rfl | rfl | rfl | rfl | rfl | rfl | rfl <;> rfl) (by unfold maxLen; omega) (by omega) hbase
  refine Lib.wp_append_run w s x _ _ ho _ _ hs hx v' w' hr (h v' w' ?_ h3 h5)
  unfold OwnV
  rw [List.length_append, List.flatMap_append]
  simpa using h2
end
end Go.Proofs.Ytdkbajdnckmckaa
