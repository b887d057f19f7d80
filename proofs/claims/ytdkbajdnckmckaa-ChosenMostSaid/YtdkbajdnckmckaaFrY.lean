/-
  A slice of plies that came in, opened.
-/
import Derived.Test.YtdkbajdnckmckaaFrW
set_option linter.unusedVariables false
set_option linter.unusedSimpArgs false
namespace Go.Proofs.Ytdkbajdnckmckaa
open Go.ChangeShapes Go.WideShapes Go.ChangeAt Go.RowKit Go.Con Go.Deep
section
variable {H : Type} {enc : TypeId × Value → H} {W : World} {base b0 : Nat} {sp : Nat → Bool}
set_option maxRecDepth 100000 in
theorem open_plies {v : Value} {d : DataW H} {p : List MemPlace} (hv : Value.okWide Try.prog W .any b0 22 v) (h : DataW.Trod enc Try.prog W base (fun _ => true) true 22 v d p) : ∃ l, RdWishes W v l := by
  obtain ⟨a, len, cap, rfl⟩ := okWide_slice Try.underlying22 hv
  obtain ⟨fuel, hf⟩ := h
  rcases open_slice Try.underlying22 hf with ⟨hcs, _⟩ | ⟨x, l, c, m, n, D, Pl, hcs, hb, hl, hm, hmm, hx, hi⟩
  · simp [Value.cells] at hcs
    obtain ⟨rfl, rfl, rfl⟩ := hcs
    exact ⟨[], none, 0, rfl, Nat.le_refl _, Nat.zero_le _, (fun x h => by cases h), fun h => absurd rfl h⟩
  · simp [Value.cells] at hcs
    obtain ⟨rfl, rfl, rfl⟩ := hcs
    have hc5 : Try.prog.cellsOf 26 = 5 := by kernel_rfl
    simp only [if_true] at hmm
    subst hmm
    have he : ∀ i, i < len → ∃ y : Cmd, WishOk y ∧ ∀ j, j < 5 → W.cell? (x.add (i * 5 + j)) = (wishCells y)[j]? := by
      intro i hlt
      obtain ⟨cs', hc, ht⟩ := hi i (by omega)
      obtain ⟨hl5, hz⟩ := trod_ints Try.underlying26 (by kernel_rfl) ht
      obtain ⟨_, hcl, hat⟩ := World.cells?_some hc
      obtain ⟨n0, e0, b0⟩ := hz 0 (by decide)
      obtain ⟨n1, e1, b1⟩ := hz 1 (by decide)
      obtain ⟨n2, e2, b2⟩ := hz 2 (by decide)
      obtain ⟨n3, e3, b3⟩ := hz 3 (by decide)
      obtain ⟨n4, e4, b4⟩ := hz 4 (by decide)
      refine ⟨⟨n0, n1, n2, n3, n4⟩, ⟨b0, b1, b2, b3, b4⟩, fun j hj => ?_⟩
      have h1 := hat j (by omega)
      rw [hc5] at h1
      rw [← Go.Deep.add_add, h1]
      have h5 : j = 0 ∨ j = 1 ∨ j = 2 ∨ j = 3 ∨ j = 4 := by omega
      rcases h5 with rfl | rfl | rfl | rfl | rfl
      · exact e0
      · exact e1
      · exact e2
      · exact e3
      · exact e4
    obtain ⟨g, hg⟩ : ∃ g : Nat → Cmd, ∀ i, i < len → WishOk (g i) ∧ ∀ j, j < 5 → W.cell? (x.add (i * 5 + j)) = (wishCells (g i))[j]? := by
      refine ⟨fun i => if h : i < len then (he i h).choose else Cmd.zero, fun i h => ?_⟩
      have e : (if h : i < len then (he i h).choose else Cmd.zero) = (he i h).choose := dif_pos h
      show WishOk (if h : i < len then (he i h).choose else Cmd.zero) ∧ _
      dsimp only
      rw [e]
      exact (he i h).choose_spec
    have hlen : ((List.range len).map g).length = len := by simp
    refine ⟨(List.range len).map g, some x, _, by rw [hlen], by rw [hlen]; exact hl, hm, ?_, fun hne => ?_⟩
    · intro y hy
      obtain ⟨i, hi, rfl⟩ := List.mem_map.1 hy
      exact (hg i (List.mem_range.1 hi)).1
    · have hpos : 0 < len := by rw [← hlen]; exact List.length_pos_iff.2 hne
      obtain ⟨b, off, spot⟩ := x
      have hspot : spot = none := by
        have h0 : W.cell? (Addr.add ⟨b, off, spot⟩ (0 * 5 + 0)) = some (.int .i64 (g 0).kind) := (hg 0 hpos).2 0 (by omega)
        simpa [Addr.add] using World.cell?_spot h0
      subst hspot
      refine ⟨b, off, rfl, fun i hi j hj => ?_⟩
      rw [hlen] at hi
      have h1 := (hg i hi).2 j hj
      have e : ((List.range len).map g).getD i Cmd.zero = g i := by simp [hi]
      rw [e, ← h1]
      have e2 : Addr.add ⟨b, off, none⟩ (i * 5 + j) = ⟨b, off + (5 * i + j), none⟩ := by
        unfold Addr.add
        split
        · rename_i h0; simp only [Addr.mk.injEq, and_true, true_and]; omega
        · rw [Nat.mul_comm]
      rw [e2]
end
end Go.Proofs.Ytdkbajdnckmckaa
