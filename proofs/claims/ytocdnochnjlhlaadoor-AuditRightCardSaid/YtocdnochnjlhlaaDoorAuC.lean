/-
  What the walks of Audit's laws share.
-/
import Derived.Test.YtocdnochnjlhlaaDoorAud
set_option linter.unusedVariables false
set_option linter.unusedSimpArgs false
namespace Go.Proofs.YtocdnochnjlhlaaDoor
open Go.RowKit Go.Con
section
variable {ops : Array Oper} {rest : List Oper} {o : Oper} {a : Act} {Q : Exit → Act → World → Prop} {w : World}
/-- append(own entries, shown ones...) -/
theorem apE (hgd : o.guard = none) (s x : Operand) (ho : o.op = .call { callee := .builtin .append, args := #[s, x], argTypes := #[35, 35] })
    (base : Nat) (v : Value) (l m : List Ent) (ea : Option Addr) (k c : Nat) (hs : a.eval s = v) (hown : OwnE w base v l) (hx : a.eval x = .slice ea k c) (hsrc : RdE w (.slice ea k c) m) (hnone : ea = none → c = 0) (h1 : ∀ e ∈ m, e.sum.oneCell' = true) (hlen : l.length + m.length ≤ 1000000) (hbase : base ≤ w.heap.size)
    (h : ∀ v' w', OwnE w' base v' (l ++ m) → w.grownBy w' v.ownBlock → wpList Tryd.prog ops Q rest (a.put o.dst v') w') : wpList Tryd.prog ops Q (o :: rest) a w := by
  obtain ⟨i, hi, hz, hsz, hb⟩ := info_part infoEnt
  obtain ⟨hk, hkc, hcells⟩ := hsrc.cells
  cases ea with
  | none =>
    have hk0 : k = 0 := by
      rcases Nat.eq_zero_or_pos k with h | h
      · exact h
      · obtain ⟨b, off, he, -⟩ := hcells 0 h; cases he
    have hm : m = [] := List.eq_nil_of_length_eq_zero (by omega)
    rw [hk0, hnone rfl] at hx
    subst hm
    refine wpList_append_own_none hgd s x 35 ho base 45 i 8 Tryd.underlying35 hi v l.length _ hs hown hx ?_
    exact h v w (by simpa using hown) ⟨rfl, rfl, rfl, Nat.le_refl _, fun _ _ _ => rfl⟩
  | some ad =>
    refine wpList_append_own_at w hgd s x 35 ho base 45 i _ 8 80 Tryd.underlying35 hi hz hsz hb rfl (by decide) v l.length (l.flatMap entCells) hs hown ad k c (m.flatMap entCells) hx (by rw [flatMap_len entCells 8 (fun _ => rfl), hk]) (fun j u hu => ?_) (fun u hu => ?_) (by unfold maxLen; omega) (by omega) hbase ?_
    · have hj : j < m.length * 8 := by
        have := (List.getElem?_eq_some_iff.1 hu).1
        rwa [flatMap_len entCells 8 (fun _ => rfl)] at this
      obtain ⟨b, off, he, -, hc⟩ := hcells (j / 8) (by omega)
      obtain rfl := Option.some.inj he
      have h2 := hc (j % 8) (Nat.mod_lt _ (by decide))
      have h3 := flatMap_row entCells ent0 8 (fun _ => rfl) m (j / 8) (by omega) (j % 8) (Nat.mod_lt _ (by decide))
      rw [Nat.div_add_mod] at h2 h3
      rw [Addr.add_mid]
      exact h2.trans (h3.symm.trans hu)
    · obtain ⟨e, he, hu⟩ := List.mem_flatMap.1 hu
      have h2 := h1 e he
      simp [entCells] at hu
      rcases hu with rfl | rfl | rfl | rfl | rfl | rfl | rfl | rfl <;> first | rfl | exact h2
    · intro v' w' h1 h2 _ h4
      refine h v' w' ?_ h2
      unfold OwnE
      rw [List.length_append, List.flatMap_append, ← hk]
      exact h1
end
theorem newE (W : World) (e : Ent) : RdE (W.alloc (.cells (entCells e).toArray 45)) (.slice (some ⟨W.heap.size, 0, none⟩) 1 1) [e] := by
  refine ⟨_, _, rfl, Nat.le_refl _, by decide, fun _ => ⟨_, _, rfl, by simp, fun i hi j hj => ?_⟩⟩
  have hi0 : i = 0 := by simpa using hi
  subst hi0
  rw [Nat.mul_zero, Nat.zero_add, Nat.zero_add]
  have hlt : j < (entCells e).length := hj
  have : (([e] : List Ent).getD 0 ⟨Cmd.zero, (0, 0), .slice none 0 0⟩) = e := rfl
  rw [this, List.getElem?_eq_getElem hlt]
  exact cellAt (heapNew W _) j (by simp [hlt])
theorem _root_.Go.Con.RdRow.firstC {α : Type} {k : Nat} {f : α → List Value} {d : α} {w : World} {a : Option Addr} {n c : Nat} {l : List α} (h : RdRow k f d w (.slice a n c) l) (m : Nat) (hm : m ≤ n) : RdRow k f d w (.slice a m c) (l.take m) := by
  obtain ⟨a', c', h0, h1, h2, h3⟩ := h
  injection h0 with e1 e2 e3
  subst e1 e3
  have hlen : (l.take m).length = m := by simp; omega
  refine ⟨a, c, by rw [hlen], by omega, by omega, fun hne => ?_⟩
  obtain ⟨b, off, rfl, hb, hc⟩ := h3 (fun e => hne (by rw [e]; simp))
  refine ⟨b, off, rfl, hb, fun i hi j hj => ?_⟩
  rw [hlen] at hi
  rw [hc i (by omega) j hj, List.getD_eq_getElem?_getD, List.getD_eq_getElem?_getD, List.getElem?_take, if_pos (by omega)]
/-- what is right of a chain's beginning -/
theorem right_take {es fs : List Ent} {L : List Cmd} {k : Nat} {z : List UInt8} (hk : k ≤ es.length) (H : ∀ i e, es[i]? = some e → e.what = L.getD i Cmd.zero ∧ e.ans = (Sto.zero.answers L).getD i (0, 0)) (hfs : ∀ i, i < k → fs.getD i ent0 = es.getD i ent0) :
    ∀ i, i < k → (fs.getD i ent0).what = (L.take k).getD i Cmd.zero ∧ (fs.getD i ent0).ans = (Sto.zero.answers (L.take k)).getD i (0, 0) ∧ (Sto.zero.sums z L).getD i [] = (Sto.zero.sums z (L.take k)).getD i [] := by
  intro i hi
  have hget : es[i]? = some (es.getD i ent0) := by
    have : i < es.length := by omega
    rw [List.getD_eq_getElem?_getD, List.getElem?_eq_getElem this]; rfl
  obtain ⟨h1, h2⟩ := H i _ hget
  rw [hfs i hi, h1, h2, getD_take _ _ _ _ hi, answers_take, getD_take _ _ _ _ hi, sums_take, getD_take _ _ _ _ hi]
  exact ⟨rfl, rfl, rfl⟩
end Go.Proofs.YtocdnochnjlhlaaDoor
