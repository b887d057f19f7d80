/-
  Regions that draw and whose operations load limbs, call functions of limbs, and lay new variables of limbs.
-/
import Derived.Test.YthoganfinpfibaaReg2
import Derived.Test.YthoganfinpfibaaFdp
set_option linter.unusedVariables false
set_option linter.unusedSimpArgs false
namespace Go.Con
open Go Go.RowKit
def vsOf (n : Nat) (zs : Nat → List Int) (bs : Nat → Nat) : Nat → Value := fun k => if k < n then limV (zs k) else .pointer (some ⟨bs k, 0, none⟩)
def KL (n B : Nat) (T : TypeId) (G : Nat → List Int → Prop) : Nat → Value → World → Prop := fun k v w =>
  if k < n then ∃ zs, v = limV zs ∧ G k zs else ∃ b, b < w.heap.size ∧ B ≤ b ∧ Rom w b 16 T ∧ v = .pointer (some ⟨b, 0, none⟩)
theorem region_lim {P : Program} {ops : Array Oper} {Q : Exit → Act → World → Prop} {a0 : Act} {w0 : World} {L0 : Array Bool} {fuel : Nat} {T : TypeId} (n m : Nat) (d : Nat → Tmp) (G : Nat → List Int → Prop)
    (hcl : closedB .any ops L0 (List.range (n + m)) = true) (hsl : slotsB ops L0 a0.tmps.size (List.range (n + m)) d = true) (hnd : ((List.range (n + m)).map d).Nodup)
    (hval : ∀ i, i < n → ∀ (a : Act) (w : World), Below w0.heap.size w0 w → (∀ t, (∀ k ∈ List.range (n + m), d k ≠ t) → a.eval (.tmp t) = a0.eval (.tmp t)) →
      (∀ k, k < n → (∀ o, ops[i]? = some o → o.after.any (fun e => Region.binds .any e && e.on == k) = true) → ∃ zs, a.eval (.tmp (d k)) = limV zs ∧ G k zs) →
      wpOp P ops Q i (fun a' w' => ∃ zs, a' = a.put (some (d i)) (limV zs) ∧ G i zs ∧ Below w.heap.size w w') a w)
    (hall : ∀ i, n ≤ i → i < n + m → ∃ o, ops[i]? = some o ∧ o.guard = none ∧ o.dst = some (d i) ∧ ∀ ρ w, ∃ Z : Array Value, Z.size = 16 ∧ (execOp ρ o).run P w = .ok (.value (.pointer (some ⟨w.heap.size, 0, none⟩))) (w.alloc (.cells Z T)))
    (hlast : ∀ (w : World) (zs : Nat → List Int) (bs : Nat → Nat), Below w0.heap.size w0 w → (∀ k, k < n → G k (zs k)) → (∀ k, n ≤ k → k < n + m → w0.heap.size ≤ bs k ∧ Rom w (bs k) 16 T) → (∀ i k, n ≤ i → i < n + m → n ≤ k → k < n + m → i ≠ k → bs i ≠ bs k) →
      wpAny P .any ops Q fuel (mark L0 (List.range (n + m))) (puts a0 d (vsOf n zs bs) (List.range (n + m))) w) :
    wpAny P .any ops Q (n + m + fuel) L0 a0 w0 := by
  have h0 := wpAny_pre (P := P) (md := .any) (ops := ops) (Q := Q) (ix := List.range (n + m)) (al := (List.range (n + m)).filter fun k => decide (n ≤ k)) (d := d) (K := KL n w0.heap.size T G) (a0 := a0) (w0 := w0) (L0 := L0) (fuel := fuel) hcl hsl hnd ?_ ?_ ?_ ?_
  · rw [List.length_range] at h0; exact h0
  · intro k hk v w w' hb hK
    unfold KL at hK ⊢
    split at hK
    · rename_i h; rw [if_pos h]; exact hK
    · rename_i h
      rw [if_neg h]
      obtain ⟨b, h1, h2, h3, h4⟩ := hK
      exact ⟨b, Nat.lt_of_lt_of_le h1 hb.size, h2, h3.stay hb, h4⟩
  · intro k hk
    rw [List.mem_filter, decide_eq_true_eq] at hk
    refine ⟨hk.1, fun v w hK => ?_⟩
    unfold KL at hK
    rw [if_neg (by omega)] at hK
    obtain ⟨b, h1, -, -, h4⟩ := hK
    exact ⟨b, h1, h4⟩
  · intro i hi a w vs p hb hget hoth hdep
    rw [List.mem_range] at hi
    by_cases hin : i < n
    · refine wpOp_mono (fun a' w' h => ?_) (hval i hin a w hb hoth (fun k hk hbind => ?_))
      · obtain ⟨zs, rfl, hG, hbw⟩ := h
        refine ⟨limV zs, rfl, ?_, hbw, fun hal => ?_⟩
        · unfold KL; rw [if_pos hin]; exact ⟨zs, rfl, hG⟩
        · rw [List.mem_filter, decide_eq_true_eq] at hal; omega
      · have hsk := List.all_eq_true.1 hsl i (List.mem_range.2 hi)
        rw [Bool.and_eq_true, Bool.and_eq_true, decide_eq_true_eq] at hsk
        cases ho : ops[i]? with
        | none => rw [ho] at hsk; simp at hsk
        | some o =>
          have h1 := hbind o ho
          rw [Array.any_eq_true'] at h1
          obtain ⟨e, he, h2⟩ := h1
          rw [Bool.and_eq_true, beq_iff_eq] at h2
          have h3 := hdep o ho e he h2.1 (by rw [h2.2, List.mem_range]; omega)
          rw [h2.2] at h3
          obtain ⟨h4, h5⟩ := hget k (by rw [List.mem_range]; omega) h3
          unfold KL at h5
          rw [if_pos hk] at h5
          obtain ⟨zs, h6, h7⟩ := h5
          exact ⟨zs, by rw [h4, h6], h7⟩
    · obtain ⟨o, ho, hg, hd, hrun⟩ := hall i (by omega) hi
      obtain ⟨Z, hZ, hr⟩ := hrun a.eval w
      refine wpOp_run ho hg _ hr ⟨_, by rw [hd], ?_, (Below.refl _ _).alloc (Nat.le_refl _) _, fun _ => rfl⟩
      unfold KL
      rw [if_neg hin]
      exact ⟨_, by simp, hb.size, ⟨Z, heapNew w _, hZ⟩, rfl⟩
  · intro w vs hb hK hdist
    have hz : ∀ k, ∃ z, k < n → vs k = limV z ∧ G k z := fun k => by
      by_cases hk : k < n
      · have := hK k (by rw [List.mem_range]; omega)
        unfold KL at this
        rw [if_pos hk] at this
        obtain ⟨z, h1, h2⟩ := this
        exact ⟨z, fun _ => ⟨h1, h2⟩⟩
      · exact ⟨[], fun h => absurd h hk⟩
    have hbk : ∀ k, ∃ b, n ≤ k → k < n + m → w0.heap.size ≤ b ∧ Rom w b 16 T ∧ vs k = .pointer (some ⟨b, 0, none⟩) := fun k => by
      by_cases hk : n ≤ k ∧ k < n + m
      · have := hK k (by rw [List.mem_range]; omega)
        unfold KL at this
        rw [if_neg (by omega)] at this
        obtain ⟨b, -, h2, h3, h4⟩ := this
        exact ⟨b, fun _ _ => ⟨h2, h3, h4⟩⟩
      · exact ⟨0, fun h1 h2 => absurd ⟨h1, h2⟩ hk⟩
    obtain ⟨zs, hzs⟩ := Classical.axiomOfChoice hz
    obtain ⟨bs, hbs⟩ := Classical.axiomOfChoice hbk
    have he : puts a0 d vs (List.range (n + m)) = puts a0 d (vsOf n zs bs) (List.range (n + m)) := puts_congr d _ _ _ (fun k hk => by
      rw [List.mem_range] at hk
      unfold vsOf
      by_cases hkn : k < n
      · rw [if_pos hkn]; exact (hzs k hkn).1
      · rw [if_neg hkn]; exact (hbs k (by omega) hk).2.2) a0
    rw [he]
    refine hlast w zs bs hb (fun k hk => (hzs k hk).2) (fun k h1 h2 => ⟨(hbs k h1 h2).1, (hbs k h1 h2).2.1⟩) (fun i k hi1 hi2 hk1 hk2 hne e => ?_)
    refine hdist i (List.mem_filter.2 ⟨List.mem_range.2 hi2, by simpa using hi1⟩) k (List.mem_filter.2 ⟨List.mem_range.2 hk2, by simpa using hk1⟩) hne ?_
    rw [(hbs i hi1 hi2).2.2, (hbs k hk1 hk2).2.2, e]
end Go.Con
