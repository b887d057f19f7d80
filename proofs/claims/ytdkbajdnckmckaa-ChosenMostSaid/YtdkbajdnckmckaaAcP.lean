/-
  Accept: plain laws, and a vote of a row of the call's own that is changed.
-/
import Derived.Test.YtdkbajdnckmckaaPro
import Derived.Test.YtdkbajdnckmckaaIns
set_option linter.unusedVariables false
set_option linter.unusedSimpArgs false
namespace Go.Con
open Go
/-- votes, with one more for its slot -/
def putV (y : Vot) (l : List Vot) : List Vot := (l.filter fun v => decide (v.slot < y.slot)) ++ y :: l.filter fun v => decide (y.slot < v.slot)
theorem okVs_rise {p : Int × Int} : ∀ (l : List Vot) (last : Int), okVs p last l = true → (∀ v ∈ l, last < v.slot) ∧ ∀ a b, a < b → b < l.length → (l.getD a Vot.zero).slot < (l.getD b Vot.zero).slot
  | [], last, _ => ⟨(fun v h => by cases h), (fun a b _ h => by cases h)⟩
  | v :: l, last, h => by
    have h' : (okV v && decide (last < v.slot) && decide (cmpB v.bal p ≤ 0) && okVs p v.slot l) = true := h
    simp only [Bool.and_eq_true, decide_eq_true_eq] at h'
    obtain ⟨h1, h2⟩ := okVs_rise l v.slot h'.2
    refine ⟨fun u hu => ?_, fun a b hab hb => ?_⟩
    · rcases List.mem_cons.1 hu with rfl | hu
      · exact h'.1.1.2
      · have := h1 u hu; omega
    · cases b with
      | zero => omega
      | succ b =>
        have hb' : b < l.length := by simpa using hb
        cases a with
        | zero =>
          have : (l.getD b Vot.zero) ∈ l := by
            rw [List.getD_eq_getElem?_getD, List.getElem?_eq_getElem hb']; exact List.getElem_mem _
          exact h1 _ this
        | succ a => exact h2 a b (by omega) hb'
theorem filter_parts {l : List Vot} {s : Int} {i : Nat} (hi : i ≤ l.length) (h1 : ∀ q, q < i → (l.getD q Vot.zero).slot < s) (h2 : ∀ q, i ≤ q → q < l.length → s ≤ (l.getD q Vot.zero).slot) :
    (l.filter fun v => decide (v.slot < s)) = l.take i := by
  have e : l = l.take i ++ l.drop i := (List.take_append_drop i l).symm
  have ha : (l.take i).filter (fun v => decide (v.slot < s)) = l.take i := by
    rw [List.filter_eq_self]
    intro v hv
    obtain ⟨q, hq, rfl⟩ := List.getElem_of_mem hv
    rw [List.length_take] at hq
    have hql : q < l.length := by omega
    have h := h1 q (by omega)
    rw [List.getD_eq_getElem?_getD, List.getElem?_eq_getElem hql] at h
    rw [List.getElem_take]
    simpa using h
  have hb : (l.drop i).filter (fun v => decide (v.slot < s)) = [] := by
    rw [List.filter_eq_nil_iff]
    intro v hv
    obtain ⟨q, hq, rfl⟩ := List.getElem_of_mem hv
    rw [List.length_drop] at hq
    have h := h2 (i + q) (by omega) (by omega)
    rw [List.getD_eq_getElem?_getD, List.getElem?_eq_getElem (by omega)] at h
    rw [List.getElem_drop]
    simpa using h
  calc l.filter (fun v => decide (v.slot < s)) = (l.take i ++ l.drop i).filter (fun v => decide (v.slot < s)) := by rw [← e]
    _ = _ := by rw [List.filter_append, ha, hb, List.append_nil]
theorem filter_parts2 {l : List Vot} {s : Int} {i : Nat} (hi : i ≤ l.length) (h1 : ∀ q, q < i → (l.getD q Vot.zero).slot ≤ s) (h2 : ∀ q, i ≤ q → q < l.length → s < (l.getD q Vot.zero).slot) :
    (l.filter fun v => decide (s < v.slot)) = l.drop i := by
  have e : l = l.take i ++ l.drop i := (List.take_append_drop i l).symm
  have ha : (l.take i).filter (fun v => decide (s < v.slot)) = [] := by
    rw [List.filter_eq_nil_iff]
    intro v hv
    obtain ⟨q, hq, rfl⟩ := List.getElem_of_mem hv
    rw [List.length_take] at hq
    have hql : q < l.length := by omega
    have h := h1 q (by omega)
    rw [List.getD_eq_getElem?_getD, List.getElem?_eq_getElem hql] at h
    rw [List.getElem_take]
    simpa using h
  have hb : (l.drop i).filter (fun v => decide (s < v.slot)) = l.drop i := by
    rw [List.filter_eq_self]
    intro v hv
    obtain ⟨q, hq, rfl⟩ := List.getElem_of_mem hv
    rw [List.length_drop] at hq
    have h := h2 (i + q) (by omega) (by omega)
    rw [List.getD_eq_getElem?_getD, List.getElem?_eq_getElem (by omega)] at h
    rw [List.getElem_drop]
    simpa using h
  calc l.filter (fun v => decide (s < v.slot)) = (l.take i ++ l.drop i).filter (fun v => decide (s < v.slot)) := by rw [← e]
    _ = _ := by rw [List.filter_append, ha, hb, List.nil_append]
/-- a vote put where its slot is not yet -/
theorem putV_new {y : Vot} {l : List Vot} {i : Nat} (hi : i ≤ l.length) (h1 : ∀ q, q < i → (l.getD q Vot.zero).slot < y.slot) (h2 : ∀ q, i ≤ q → q < l.length → y.slot ≤ (l.getD q Vot.zero).slot)
    (hs : ∀ a b, a < b → b < l.length → (l.getD a Vot.zero).slot < (l.getD b Vot.zero).slot) (hn : ¬ (i < l.length ∧ (l.getD i Vot.zero).slot = y.slot)) : l.take i ++ y :: l.drop i = putV y l := by
  unfold putV
  rw [filter_parts hi h1 h2, filter_parts2 hi (fun q hq => by have := h1 q hq; omega) (fun q hq hql => by
    have h3 := h2 q hq hql
    rcases Nat.lt_or_ge i q with h | h
    · have h4 := hs i q h hql
      have h5 := h2 i (Nat.le_refl _) (by omega)
      omega
    · obtain rfl : q = i := by omega
      have : (l.getD q Vot.zero).slot ≠ y.slot := fun e => hn ⟨hql, e⟩
      omega)]
/-- a vote put where its slot is -/
theorem putV_old {y : Vot} {l : List Vot} {i : Nat} (hi : i < l.length) (h1 : ∀ q, q < i → (l.getD q Vot.zero).slot < y.slot) (h2 : ∀ q, i ≤ q → q < l.length → y.slot ≤ (l.getD q Vot.zero).slot)
    (hs : ∀ a b, a < b → b < l.length → (l.getD a Vot.zero).slot < (l.getD b Vot.zero).slot) (hn : (l.getD i Vot.zero).slot = y.slot) : l.take i ++ y :: l.drop (i + 1) = putV y l := by
  unfold putV
  rw [filter_parts (Nat.le_of_lt hi) h1 h2, filter_parts2 (i := i + 1) hi (fun q hq => by
    rcases Nat.lt_or_ge q i with h | h
    · have := h1 q h; omega
    · obtain rfl : q = i := by omega
      omega) (fun q hq hql => by
    have h4 := hs i q (by omega) hql
    omega)]
theorem listSet8 {L : List Value} {k : Nat} (c0 c1 c2 c3 c4 c5 c6 c7 : Value) (h : k + 8 ≤ L.length) :
    (((((((L.set k c0).set (k + 1) c1).set (k + 2) c2).set (k + 3) c3).set (k + 4) c4).set (k + 5) c5).set (k + 6) c6).set (k + 7) c7 = L.take k ++ [c0, c1, c2, c3, c4, c5, c6, c7] ++ L.drop (k + 8) := by
  obtain ⟨A, B, hL, hA⟩ : ∃ A B, L = A ++ B ∧ A.length = k := ⟨L.take k, L.drop k, (List.take_append_drop k L).symm, by rw [List.length_take]; omega⟩
  subst hL
  subst hA
  rw [List.length_append] at h
  have hB : 8 ≤ B.length := by omega
  match B, hB with
  | d0 :: d1 :: d2 :: d3 :: d4 :: d5 :: d6 :: d7 :: R, _ =>
    have e : ∀ j, ¬ (A.length + j < A.length) := fun j => by omega
    simp [List.set_append, e, Nat.add_sub_cancel_left, List.drop_append]
end Go.Con
namespace Go.Proofs.Ytdkbajdnckmckaa
open Go.RowKit Go.Con
/-- one vote of a row of the call's own is changed -/
theorem ownV_set {w : World} {base g n c : Nat} {l : List Vot} (h : OwnV w base (.slice (some ⟨g, 0, none⟩) n c) l) (i : Nat) (hi : i < l.length) (y : Vot) :
    OwnV ((((((((w.setCell ⟨g, i * 8, none⟩ (.int .i64 y.slot)).setCell ⟨g, i * 8 + 1, none⟩ (.int .i64 y.bal.1)).setCell ⟨g, i * 8 + 2, none⟩ (.int .i64 y.bal.2)).setCell ⟨g, i * 8 + 3, none⟩ (.int .i64 y.what.kind)).setCell ⟨g, i * 8 + 4, none⟩ (.int .i64 y.what.client)).setCell ⟨g, i * 8 + 5, none⟩ (.int .i64 y.what.seq)).setCell ⟨g, i * 8 + 6, none⟩ (.int .i64 y.what.name)).setCell ⟨g, i * 8 + 7, none⟩ (.int .i64 y.what.value)) base (.slice (some ⟨g, 0, none⟩) n c) (l.take i ++ y :: l.drop (i + 1)) := by
  obtain ⟨h1, h2⟩ := h
  rcases h2 with ⟨h3, hn⟩ | ⟨g', cap, cur, h3, hbg, hg, hnc, hcm, hcs, htake⟩
  · cases h3
  · injection h3 with e1 e2 e3
    injection e1 with e1
    injection e1 with e4
    subst e4 e3
    have hl2 : (l.take i ++ y :: l.drop (i + 1)).length = l.length := by simp; omega
    have hcl : cur.toList.length = c * 8 := by rw [Array.length_toList, hcs]
    unfold OwnV
    refine ⟨by rw [flatMap_len votCells 8 (fun _ => rfl)], .inr ⟨g, c, _, by rw [hl2]; exact congrArg (fun q => Value.slice (some ⟨g, 0, none⟩) q c) e2, hbg, heapSet (heapSet (heapSet (heapSet (heapSet (heapSet (heapSet (heapSet hg _) _) _) _) _) _) _) _, by rw [hl2]; exact hnc, hcm, by simp [hcs], ?_⟩⟩
    simp only [Array.toList_setIfInBounds]
    rw [listSet8 _ _ _ _ _ _ _ _ (by rw [hcl]; omega), hl2]
    have hsplit : l.flatMap votCells = (l.take i).flatMap votCells ++ ((l.drop i).take 1).flatMap votCells ++ (l.drop (i + 1)).flatMap votCells := by
      rw [← List.flatMap_append, ← List.flatMap_append, List.append_assoc, show (l.drop i).take 1 ++ l.drop (i + 1) = l.drop i by
        rw [show l.drop (i + 1) = (l.drop i).drop 1 by rw [List.drop_drop], List.take_append_drop], List.take_append_drop]
    obtain ⟨A, hA⟩ : ∃ A, A = (l.take i).flatMap votCells := ⟨_, rfl⟩
    obtain ⟨M, hM⟩ : ∃ A, A = ((l.drop i).take 1).flatMap votCells := ⟨_, rfl⟩
    obtain ⟨D, hD⟩ : ∃ D, D = (l.drop (i + 1)).flatMap votCells := ⟨_, rfl⟩
    have hAl : A.length = i * 8 := by rw [hA, flatMap_len votCells 8 (fun _ => rfl), List.length_take]; omega
    have hMl : M.length = 8 := by rw [hM, flatMap_len votCells 8 (fun _ => rfl), List.length_take, List.length_drop]; omega
    have hDl : D.length = (l.length - (i + 1)) * 8 := by rw [hD, flatMap_len votCells 8 (fun _ => rfl), List.length_drop]
    have hcur : cur.toList = A ++ M ++ D ++ cur.toList.drop (l.length * 8) := by
      rw [hA, hM, hD, ← hsplit, ← htake, List.take_append_drop]
    generalize cur.toList.drop (l.length * 8) = R at hcur
    rw [hcur]
    have t1 : (A ++ M ++ D ++ R).take (i * 8) = A := by rw [← hAl]; simp [List.append_assoc]
    have t2 : (A ++ M ++ D ++ R).drop (i * 8 + 8) = D ++ R := by
      rw [List.append_assoc, List.drop_left']
      simp [hAl, hMl]
    rw [t1, t2, ← List.append_assoc, List.take_left' (by simp [hAl, hDl]; omega), List.flatMap_append, List.flatMap_cons, ← hA, ← hD]
    simp [votCells]
end Go.Proofs.Ytdkbajdnckmckaa
