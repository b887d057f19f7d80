/-
  A slice of integers that came in, opened.
-/
import Derived.Test.YtoekopdogfnkhaaFrm
set_option linter.unusedVariables false
set_option linter.unusedSimpArgs false
namespace Go.Proofs.Ytoekopdogfnkhaa
open Go.ChangeShapes Go.WideShapes Go.ChangeAt Go.RowKit Go.Con
/-- the value is a slice that shows integers -/
def RdInts (w : World) (v : Value) (zs : List Int) : Prop :=
  ∃ a c, v = .slice a zs.length c ∧ zs.length ≤ c ∧ c ≤ maxLen ∧ (∀ i, i < zs.length → -9223372036854775808 ≤ zs.getD i 0 ∧ zs.getD i 0 ≤ 9223372036854775807) ∧ (zs ≠ [] → ∃ b off, a = some ⟨b, off, none⟩ ∧ ∀ i, i < zs.length → w.cell? ⟨b, off + i, none⟩ = some (.int .i64 (zs.getD i 0)))
theorem RdInts.stay {w w' : World} {v : Value} {zs : List Int} (h : RdInts w v zs) (hb : Below w.heap.size w w') : RdInts w' v zs := by
  obtain ⟨a, c, rfl, h1, h2, h0, h3⟩ := h
  refine ⟨a, c, rfl, h1, h2, h0, fun hl => ?_⟩
  obtain ⟨b, off, rfl, hc⟩ := h3 hl
  refine ⟨b, off, rfl, fun i hi => ?_⟩
  exact (World.cell?_of_block (w := w) (hb.block b (World.block_lt_of_cell? w _ (hc i hi)))).trans (hc i hi)
section
variable {H : Type} {enc : TypeId × Value → H} {W : World} {base b0 : Nat}
set_option maxRecDepth 100000 in
theorem open_ints {v : Value} {d : DataW H} {p : List MemPlace} (hv : Value.okWide Try.prog W .any b0 38 v) (h : DataW.Trod enc Try.prog W base (fun _ => true) true 38 v d p) : ∃ zs, RdInts W v zs := by
  obtain ⟨a, len, cap, rfl⟩ := okWide_slice Try.underlying38 hv
  obtain ⟨fuel, hf⟩ := h
  rcases Go.ChangeShapes.open_ints Try.underlying38 Try.underlying3 (by kernel_rfl) hf with ⟨hcs, _⟩ | ⟨x, l, c, zs, hcs, _, hl, hm, hz, _, hcell, hwz⟩
  · simp [Value.cells] at hcs
    obtain ⟨rfl, rfl, rfl⟩ := hcs
    exact ⟨[], none, 0, rfl, Nat.le_refl _, Nat.zero_le _, (fun i hi => by cases hi), fun h => absurd rfl h⟩
  · simp [Value.cells] at hcs
    obtain ⟨rfl, rfl, rfl⟩ := hcs
    have hzl : zs.length = cap := by simpa using hz
    have hlen : (zs.take len).length = len := by simp; omega
    have hget : ∀ i, i < len → (zs.take len).getD i 0 = zs.getD i 0 := fun i hi => by simp [List.getElem?_take, hi]
    refine ⟨zs.take len, some x, cap, by rw [hlen], by rw [hlen]; exact hl, hm, fun i hi => ?_, fun hne => ?_⟩
    · rw [hlen] at hi
      rw [hget i hi]
      have hiz : i < zs.length := by omega
      have e2 : zs.getD i 0 = zs[i] := by simp [hiz]
      rw [e2]
      exact bounds_i64 (hwz zs[i] (List.getElem_mem hiz))
    · have hpos : 0 < len := by rw [← hlen]; exact List.length_pos_iff.2 hne
      obtain ⟨b, off, spot⟩ := x
      have hspot : spot = none := by
        have := hcell 0 (by omega)
        simpa [Addr.add] using World.cell?_spot this
      subst hspot
      refine ⟨b, off, rfl, fun i hi => ?_⟩
      rw [hlen] at hi
      have hc := hcell i (by omega)
      rw [hget i hi]
      unfold Addr.add at hc
      split at hc
      · rename_i h0; subst h0; simpa using hc
      · exact hc
end
end Go.Proofs.Ytoekopdogfnkhaa
