/-
  Plain laws of the store: what few commands make, and the laws' own plain answers (no program in sight).
-/
import Derived.Test.YtocdnochnjlhlaaDoorVau
set_option linter.unusedVariables false
set_option linter.unusedSimpArgs false
namespace Go.Con
theorem Sto.done_code0 (s : Sto) (h : s.Ok) (c : Cmd) (hc : c.Real) (k : Nat) (hk : k < 8) (h0 : s.code k = 0) : (s.done c).code k = 0 := by
  rw [Sto.done_code s h c hc k hk]; split
  · rfl
  · exact h0
/-- a command of few clients and names -/
structure Cmd.Few (c : Cmd) : Prop where
  real : c.Real
  cl : c.client < 4
  sq : c.seq < 6
  nm : c.name < 4
/-- what a store is behind commands of few clients and names -/
structure Sto.Few (s : Sto) : Prop where
  ok : s.Ok
  last6 : ∀ k, k < 8 → s.last k ≤ 6
  far : ∀ k, 4 ≤ k → k < 8 → s.last k = 0 ∧ s.rev k = false
theorem getD_lt {α : Type} (l : List α) (i : Nat) (d : α) (h : i < l.length) : l.getD i d = l[i] := by simp [List.getD, h]
theorem Sto.zero_far : ∀ k, k < 8 → Sto.zero.last k = 0 ∧ Sto.zero.rev k = false := by decide
theorem Sto.zero_few : Sto.zero.Few := ⟨Sto.zero_ok, by decide, fun k _ h => Sto.zero_far k h⟩
theorem Sto.next_few (s : Sto) (h : s.Few) (c : Cmd) (hc : c.Few) : (s.next c).Few := by
  unfold Sto.next
  by_cases hf : s.fresh c = true
  · rw [if_pos hf]
    have a0 := hc.real.c0
    have a1 := hc.real.n0
    have a2 := hc.cl
    have a3 := hc.nm
    have a4 := hc.sq
    refine ⟨s.done_ok h.ok c hc.real, fun k hk => ?_, fun k h4 h8 => ⟨?_, ?_⟩⟩
    · rw [s.done_last h.ok c hc.real k hk]; split
      · omega
      · exact h.last6 k hk
    · rw [s.done_last h.ok c hc.real k h8, if_neg (by omega)]; exact (h.far k h4 h8).1
    · rw [s.done_r h.ok c hc.real k, if_neg (by omega)]; exact (h.far k h4 h8).2
  · rw [if_neg hf]; exact h
theorem Sto.all_few (s : Sto) (h : s.Few) : ∀ (l : List Cmd), (∀ c ∈ l, c.Few) → (s.all l).Few
  | [], _ => h
  | c :: l, hl => Sto.all_few (s.next c) (s.next_few h c (hl c (by simp))) l (fun d hd => hl d (by simp [hd]))
theorem Cmd.Real.check {c : Cmd} (h : c.Real) (hv : c.kind ≠ 1 → c.value = 0) : checkC c = 0 := by
  obtain ⟨k1, k3, c0, c7, s0, s1, n0, n7, v0, v1⟩ := h
  unfold checkC
  rw [if_neg (by omega), if_pos ⟨k1, k3⟩, if_neg (by unfold inRange; simp only [decide_eq_false_iff_not]; intro hh; exact hh ⟨c0, c7, s0, s1, n0, n7, v0, v1⟩), if_neg (fun ⟨a, b⟩ => b (hv a))]
theorem cmdOf_few (x : Cmd) : (cmdOf x).Few ∧ ((cmdOf x).kind ≠ 1 → (cmdOf x).value = 0) ∧ (cmdOf x).value < 1000 := by
  have h1 := pick_nonneg x.kind 5 (by omega)
  have h2 := pick_lt x.kind 5 (by omega)
  have h3 := pick_nonneg x.client 4 (by omega)
  have h4 := pick_lt x.client 4 (by omega)
  have h5 := pick_nonneg x.seq 6 (by omega)
  have h6 := pick_lt x.seq 6 (by omega)
  have h7 := pick_nonneg x.name 4 (by omega)
  have h8 := pick_lt x.name 4 (by omega)
  have h9 := pick_nonneg x.value 1000 (by omega)
  have h10 := pick_lt x.value 1000 (by omega)
  refine ⟨⟨⟨?_, ?_, ?_, ?_, ?_, ?_, ?_, ?_, ?_, ?_⟩, ?_, ?_, ?_⟩, ?_, ?_⟩ <;> simp only [cmdOf] <;> first | omega | (split <;> omega) | (intro h; exact if_neg h)
/-- done anew -/
theorem Sto.next_fresh (s : Sto) (c : Cmd) (hc : c.Real) (hl : s.last c.client.toNat ≤ c.seq) (hr : s.rev c.client.toNat = false) : s.next c = s.done c ∧ s.answer c = (0, s.told c) := by
  have hk := hc.k1
  have hf : s.fresh c = true := by unfold Sto.fresh; simp [hl, hr]; omega
  refine ⟨by unfold Sto.next; rw [if_pos hf], ?_⟩
  unfold Sto.answer
  rw [if_neg (by omega), if_neg (by omega), if_neg (by omega), if_neg (by simp [hr])]
/-- it may not -/
theorem Sto.next_rev (s : Sto) (c : Cmd) (hc : c.Real) (hl : s.last c.client.toNat ≤ c.seq) (hr : s.rev c.client.toNat = true) : s.next c = s ∧ s.answer c = (11, 0) := by
  have hk := hc.k1
  have hf : s.fresh c = false := by unfold Sto.fresh; simp [hr]
  refine ⟨by unfold Sto.next; rw [hf]; rfl, ?_⟩
  unfold Sto.answer
  rw [if_neg (by omega), if_neg (by omega), if_neg (by omega), if_pos hr]
/-- too old -/
theorem Sto.next_old (s : Sto) (c : Cmd) (hc : c.Real) (hl : c.seq + 1 < s.last c.client.toNat) : s.next c = s ∧ s.answer c = (7, 0) := by
  have hk := hc.k1
  have hf : s.fresh c = false := by
    unfold Sto.fresh
    rw [show decide (s.last c.client.toNat ≤ c.seq) = false by rw [decide_eq_false_iff_not]; omega]; simp
  refine ⟨by unfold Sto.next; rw [hf]; rfl, ?_⟩
  unfold Sto.answer
  rw [if_neg (by omega), if_neg (by omega), if_pos (by omega)]
/-- the last one again -/
theorem Sto.next_same (s : Sto) (c : Cmd) (hc : c.Real) (hl : c.seq + 1 = s.last c.client.toNat) : s.next c = s ∧ s.answer c = (s.code c.client.toNat, s.aval c.client.toNat) := by
  have hk := hc.k1
  have hf : s.fresh c = false := by
    unfold Sto.fresh
    rw [show decide (s.last c.client.toNat ≤ c.seq) = false by rw [decide_eq_false_iff_not]; omega]; simp
  refine ⟨by unfold Sto.next; rw [hf]; rfl, ?_⟩
  unfold Sto.answer
  rw [if_neg (by omega), if_pos hl]
/-- a Noop -/
theorem Sto.next_noop (s : Sto) : s.next Cmd.zero = s ∧ s.answer Cmd.zero = (0, 0) := by
  refine ⟨by unfold Sto.next Sto.fresh; simp [Cmd.zero], by unfold Sto.answer; rw [if_pos (show Cmd.zero.kind = 0 from rfl)]⟩
theorem Sto.ext_of {s t : Sto} (hs : s.Ok) (ht : t.Ok) (hn : ∀ j, s.n.getD j 0 = t.n.getD j 0) (hr : ∀ j, s.rev j = t.rev j) : s = t := by
  obtain ⟨sn, sr⟩ := s
  obtain ⟨tn, tr⟩ := t
  have l1 := hs.ln
  have l2 := ht.ln
  have l3 := hs.lr
  have l4 := ht.lr
  dsimp only at l1 l2 l3 l4 hn
  have e1 : sn = tn := by
    apply List.ext_getElem (by omega)
    intro i h1 h2
    have := hn i
    rwa [getD_lt _ _ _ h1, getD_lt _ _ _ h2] at this
  have e2 : sr = tr := by
    apply List.ext_getElem (by omega)
    intro i h1 h2
    have := hr i
    unfold Sto.rev at this
    rwa [getD_lt _ _ _ h1, getD_lt _ _ _ h2] at this
  rw [e1, e2]
end Go.Con
