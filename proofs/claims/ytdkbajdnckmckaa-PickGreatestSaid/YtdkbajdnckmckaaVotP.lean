/-
  Plain laws of the best vote.
-/
import Derived.Test.YtdkbajdnckmckaaPik
import Derived.Test.YtdkbajdnckmckaaPick
set_option linter.unusedVariables false
set_option linter.unusedSimpArgs false
namespace Go.Con
open Go
theorem cmpI_le {a b : Int} : cmpI a b ≤ 0 ↔ a ≤ b := by
  rcases cmpI_cases a b with ⟨h, hr⟩ | ⟨h, hr⟩ | ⟨h, hr⟩ <;> rw [hr] <;> omega
theorem cmpB_le {a b : Int × Int} : cmpB a b ≤ 0 ↔ a.1 < b.1 ∨ (a.1 = b.1 ∧ a.2 ≤ b.2) := by
  unfold cmpB
  rcases cmpI_cases a.1 b.1 with ⟨h, hr⟩ | ⟨h, hr⟩ | ⟨h, hr⟩
  · rw [hr, if_pos (by decide)]; omega
  · rw [hr, if_neg (by decide), cmpI_le]; omega
  · rw [hr, if_pos (by decide)]; omega
theorem cmpB_lt {a b : Int × Int} : 0 < cmpB a b ↔ b.1 < a.1 ∨ (a.1 = b.1 ∧ b.2 < a.2) := by
  have h := @cmpB_le a b
  constructor
  · intro h1
    have : ¬ cmpB a b ≤ 0 := by omega
    rw [h] at this; omega
  · intro h1
    have : ¬ cmpB a b ≤ 0 := by rw [h]; omega
    omega
/-- what the best of votes is -/
def IsBest (s : Int) (l : List Vot) (r : Vot) : Prop :=
  (r = Vot.zero ∧ ∀ v ∈ l, v.slot ≠ s) ∨ (r ∈ l ∧ r.slot = s ∧ ∀ v ∈ l, v.slot = s → cmpB v.bal r.bal ≤ 0)
theorem bestV_is (s : Int) (l : List Vot) (hl : ∀ v ∈ l, 1 ≤ v.bal.1) : IsBest s l (bestV s Vot.zero l) := by
  have key : ∀ k, k ≤ l.length → IsBest s (l.take k) (bestV s Vot.zero (l.take k)) := by
    intro k
    induction k with
    | zero => intro _; exact .inl ⟨rfl, fun v hv => by simp at hv⟩
    | succ k ih =>
      intro hk
      have ih := ih (by omega)
      have hkl : k < l.length := by omega
      have e : l.take (k + 1) = l.take k ++ [l[k]] := by rw [List.take_add_one, List.getElem?_eq_getElem hkl]; rfl
      rw [e, bestV_snoc]
      have h1 : 1 ≤ (l[k]).bal.1 := hl _ (List.getElem_mem hkl)
      generalize bestV s Vot.zero (l.take k) = b at ih ⊢
      generalize l[k] = v at h1 ⊢
      unfold better
      by_cases hs : v.slot = s
      · by_cases hc : 0 < cmpB v.bal b.bal
        · rw [if_pos ⟨hs, hc⟩]
          refine .inr ⟨by simp, hs, fun u hu hus => ?_⟩
          rcases List.mem_append.1 hu with hu | hu
          · rcases ih with ⟨-, h⟩ | ⟨-, -, h⟩
            · exact absurd hus (h u hu)
            · have h2 := h u hu hus
              rw [cmpB_le] at h2 ⊢
              rw [cmpB_lt] at hc
              omega
          · rw [List.mem_singleton.1 hu, cmpB_le]; omega
        · rw [if_neg (fun h => hc h.2)]
          rcases ih with ⟨rfl, h⟩ | ⟨h, h2, h3⟩
          · exfalso; apply hc; rw [cmpB_lt]; left; show (0 : Int) < _; omega
          · refine .inr ⟨by simp [h], h2, fun u hu hus => ?_⟩
            rcases List.mem_append.1 hu with hu | hu
            · exact h3 u hu hus
            · rw [List.mem_singleton.1 hu]; omega
      · rw [if_neg (fun h => hs h.1)]
        rcases ih with ⟨rfl, h⟩ | ⟨h, h2, h3⟩
        · refine .inl ⟨rfl, fun u hu => ?_⟩
          rcases List.mem_append.1 hu with hu | hu
          · exact h u hu
          · rw [List.mem_singleton.1 hu]; exact hs
        · refine .inr ⟨by simp [h], h2, fun u hu hus => ?_⟩
          rcases List.mem_append.1 hu with hu | hu
          · exact h3 u hu hus
          · rw [List.mem_singleton.1 hu] at hus; exact absurd hus hs
  have h := key l.length (Nat.le_refl _)
  rwa [List.take_length] at h
theorem isBest_one {s : Int} {l m : List Vot} {r r' : Vot} (h : IsBest s l r) (h' : IsBest s m r') (hm : ∀ v, v ∈ l ↔ v ∈ m) (hd : ∀ u ∈ l, ∀ v ∈ l, u.bal = v.bal → u = v) : r = r' := by
  rcases h with ⟨h1, h2⟩ | ⟨h1, h2, h3⟩ <;> rcases h' with ⟨g1, g2⟩ | ⟨g1, g2, g3⟩
  · rw [h1, g1]
  · exact absurd g2 (h2 _ ((hm _).2 g1))
  · exact absurd h2 (g2 _ ((hm _).1 h1))
  · have a := h3 r' ((hm _).2 g1) g2
    have b := g3 r ((hm _).1 h1) h2
    rw [cmpB_le] at a b
    refine hd r h1 r' ((hm _).2 g1) ?_
    have e1 : r.bal.1 = r'.bal.1 := by omega
    have e2 : r.bal.2 = r'.bal.2 := by omega
    exact Prod.ext e1 e2
/-- a ply as a vote -/
def plyVote (i : Nat) (x : Cmd) : Vot := ⟨pick x.name 3, (1 + ((i : Int) * 7) % 20, pick x.client 5), ⟨2, 0, pick x.value 50, 0, 0⟩⟩
def votesTo (l : List Cmd) (q : Nat) : List Vot := (List.range q).map fun p => plyVote p (l.getD p Cmd.zero)
theorem votesTo_succ (l : List Cmd) (q : Nat) : votesTo l (q + 1) = votesTo l q ++ [plyVote q (l.getD q Cmd.zero)] := by
  unfold votesTo; rw [List.range_succ, List.map_append]; rfl
theorem votesTo_length (l : List Cmd) (q : Nat) : (votesTo l q).length = q := by unfold votesTo; simp
theorem plyVote_ok (i : Nat) (x : Cmd) : okV (plyVote i x) = true ∧ 1 ≤ (plyVote i x).bal.1 := by
  have h1 := pick_nonneg x.name 3 (by omega)
  have h2 := pick_lt x.name 3 (by omega)
  have h3 := pick_nonneg x.client 5 (by omega)
  have h4 := pick_lt x.client 5 (by omega)
  have h5 := pick_nonneg x.value 50 (by omega)
  have h6 := pick_lt x.value 50 (by omega)
  have h7 : 0 ≤ ((i : Int) * 7) % 20 := Int.emod_nonneg _ (by decide)
  have h8 : ((i : Int) * 7) % 20 < 20 := Int.emod_lt_of_pos _ (by decide)
  refine ⟨?_, by show 1 ≤ 1 + ((i : Int) * 7) % 20; omega⟩
  have hc : checkC ⟨2, 0, pick x.value 50, 0, 0⟩ = 0 := by
    unfold checkC
    rw [if_neg (show ¬ ((2 : Int) = 0) by decide), if_pos (show (1 : Int) ≤ 2 ∧ (2 : Int) ≤ 3 by decide)]
    have hr : inRange ⟨2, 0, pick x.value 50, 0, 0⟩ = true := by unfold inRange; rw [decide_eq_true_eq]; simp; omega
    rw [if_neg (by rw [hr]; decide), if_neg (show ¬ ((2 : Int) ≠ 1 ∧ (0 : Int) ≠ 0) by decide)]
  unfold okV okB plyVote
  dsimp only
  rw [hc]
  simp
  omega
theorem votesTo_ok (l : List Cmd) (q : Nat) : ∀ v ∈ votesTo l q, okV v = true ∧ 1 ≤ v.bal.1 := by
  intro v hv
  unfold votesTo at hv
  obtain ⟨p, _, rfl⟩ := List.mem_map.1 hv
  exact plyVote_ok _ _
theorem votesTo_apart (l : List Cmd) (q : Nat) (hq : q ≤ 20) : ∀ u ∈ votesTo l q, ∀ v ∈ votesTo l q, u.bal = v.bal → u = v := by
  intro u hu v hv h
  unfold votesTo at hu hv
  obtain ⟨i, hi, rfl⟩ := List.mem_map.1 hu
  obtain ⟨j, hj, rfl⟩ := List.mem_map.1 hv
  have hi := List.mem_range.1 hi
  have hj := List.mem_range.1 hj
  have h1 := congrArg Prod.fst h
  have h2 : 1 + ((i : Int) * 7) % 20 = 1 + ((j : Int) * 7) % 20 := h1
  have : i = j := by omega
  rw [this]
end Go.Con
