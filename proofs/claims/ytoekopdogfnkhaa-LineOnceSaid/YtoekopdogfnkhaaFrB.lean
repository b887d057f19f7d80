/-
  A slice of slices of bytes that came in, opened.
-/
import Derived.Test.YtoekopdogfnkhaaFrm
import Derived.Deep.Slices
set_option linter.unusedVariables false
set_option linter.unusedSimpArgs false
namespace Go.Proofs.Ytoekopdogfnkhaa
open Go.ChangeShapes Go.WideShapes Go.ChangeAt Go.RowKit Go.Con Go.Deep
/-- A slice of slices of bytes: each of its cells shows bytes. -/
def RdRows (w : World) (v : Value) (ls : List (List UInt8)) : Prop :=
  ∃ a c, v = .slice a ls.length c ∧ ls.length ≤ c ∧ c ≤ maxLen ∧ (ls ≠ [] → ∃ b off, a = some ⟨b, off, none⟩ ∧ ∀ i, i < ls.length → ∃ x, w.cell? ⟨b, off + i, none⟩ = some x ∧ Rd w x (ls.getD i []))
section
variable {H : Type} {enc : TypeId × Value → H} {W : World} {base b0 : Nat}
set_option maxRecDepth 100000 in
/-- the cell of a slice of bytes -/
theorem open_row {fuel : Nat} {cs : List Value} {x : DataW H × List MemPlace} (hf : DataW.trod enc Try.prog W base (fun _ => true) true fuel 22 cs = some x) : ∃ v l, cs = [v] ∧ Rd W v l := by
  rcases open_ints Try.underlying22 Try.underlying5 (by kernel_rfl) hf with ⟨hcs, _⟩ | ⟨x, l, c, zs, hcs, _, hl, hm, hz, _, hcell, hwz⟩
  · exact ⟨_, [], hcs, Rd.nil W⟩
  · refine ⟨_, (zs.take l).map fun z => UInt8.ofNat z.toNat, hcs, ?_⟩
    have hzl : zs.length = c := by simpa using hz
    have hlen : ((zs.take l).map fun z => UInt8.ofNat z.toNat).length = l := by simp; omega
    refine ⟨some x, c, by rw [hlen], by rw [hlen]; exact hl, hm, (fun h => by cases h), fun hne => ?_⟩
    have hpos : 0 < l := by rw [← hlen]; exact List.length_pos_iff.2 hne
    obtain ⟨b, off, spot⟩ := x
    have hspot : spot = none := by
      have := hcell 0 (by omega)
      simpa [Addr.add] using World.cell?_spot this
    subst hspot
    refine ⟨b, off, rfl, fun i hi => ?_⟩
    rw [hlen] at hi
    have hc := hcell i (by omega)
    have hiz : i < zs.length := by omega
    have hb := bounds_u8 (hwz zs[i] (List.getElem_mem hiz))
    have e : u8v (((zs.take l).map fun z => UInt8.ofNat z.toNat).getD i 0) = .int .u8 (zs.getD i 0) := by
      have e1 : ((zs.take l).map fun z => UInt8.ofNat z.toNat).getD i 0 = UInt8.ofNat zs[i].toNat := by
        simp [List.getElem?_take, hi, hiz]
      have e2 : zs.getD i 0 = zs[i] := by simp [hiz]
      have e3 : (UInt8.ofNat zs[i].toNat).toNat = zs[i].toNat := by
        rw [UInt8.toNat_ofNat']; omega
      rw [e1, e2, u8v, e3]
      congr 1
      omega
    rw [e]
    unfold Addr.add at hc
    split at hc
    · rename_i h0; subst h0; simpa using hc
    · exact hc
set_option maxRecDepth 100000 in
theorem open_bytess {v : Value} {d : DataW H} {p : List MemPlace} (hv : Value.okWide Try.prog W .any b0 23 v) (h : DataW.Trod enc Try.prog W base (fun _ => true) true 23 v d p) : ∃ ls, RdRows W v ls := by
  obtain ⟨a, len, cap, rfl⟩ := okWide_slice Try.underlying23 hv
  obtain ⟨fuel, hf⟩ := h
  rcases open_slice Try.underlying23 hf with ⟨hcs, _⟩ | ⟨x, l, c, m, n, D, Pl, hcs, hb, hl, hm, hmm, hx, hi⟩
  · simp [Value.cells] at hcs
    obtain ⟨rfl, rfl, rfl⟩ := hcs
    exact ⟨[], none, 0, rfl, Nat.le_refl _, Nat.zero_le _, fun h => absurd rfl h⟩
  · simp [Value.cells] at hcs
    obtain ⟨rfl, rfl, rfl⟩ := hcs
    have hc1 : Try.prog.cellsOf 22 = 1 := by kernel_rfl
    simp only [if_true] at hmm
    subst hmm
    have he : ∀ i, i < len → ∃ y : Value × List UInt8, W.cell? (x.add i) = some y.1 ∧ Rd W y.1 y.2 := by
      intro i hlt
      obtain ⟨cs', hc, ht⟩ := hi i (by omega)
      obtain ⟨v, l, rfl, hr⟩ := open_row ht
      obtain ⟨_, hcl, hat⟩ := World.cells?_some hc
      have h1 := hat 0 (by rw [hc1]; decide)
      rw [hc1, Nat.mul_one] at h1
      refine ⟨(v, l), ?_, hr⟩
      have e : (x.add i).add 0 = x.add i := by unfold Addr.add; rfl
      rw [e] at h1
      simpa using h1
    obtain ⟨g, hg⟩ := choose_lt he
    have hlen : ((List.range len).map fun i => (g i).2).length = len := by simp
    refine ⟨(List.range len).map fun i => (g i).2, some x, _, by rw [hlen], by rw [hlen]; exact hl, hm, fun hne => ?_⟩
    have hpos : 0 < len := by rw [← hlen]; exact List.length_pos_iff.2 hne
    obtain ⟨b, off, spot⟩ := x
    have hspot : spot = none := by
      have h0 := (hg 0 hpos).1
      simpa [Addr.add] using World.cell?_spot h0
    subst hspot
    refine ⟨b, off, rfl, fun i hi => ?_⟩
    rw [hlen] at hi
    refine ⟨(g i).1, ?_, ?_⟩
    · have h1 := (hg i hi).1
      unfold Addr.add at h1
      split at h1
      · rename_i h0; subst h0; simpa using h1
      · exact h1
    · have e : ((List.range len).map fun i => (g i).2).getD i [] = (g i).2 := by simp [hi]
      rw [e]; exact (hg i hi).2
end
end Go.Proofs.Ytoekopdogfnkhaa
