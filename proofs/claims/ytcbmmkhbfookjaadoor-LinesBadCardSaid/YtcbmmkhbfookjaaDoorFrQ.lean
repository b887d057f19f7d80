/-
  A slice of feats that came in, opened.
-/
import Derived.Test.YtcbmmkhbfookjaaDoorFea
import Derived.Test.YtcbmmkhbfookjaaDoorFrF
set_option linter.unusedVariables false
set_option linter.unusedSimpArgs false
namespace Go.Proofs.YtcbmmkhbfookjaaDoor
open Go.ChangeShapes Go.WideShapes Go.ChangeAt Go.RowKit Go.Con Go.Deep
section
variable {H : Type} {enc : TypeId × Value → H} {W : World} {base b0 : Nat}
set_option maxRecDepth 100000 in
set_option maxHeartbeats 1000000 in
theorem open_feats {v : Value} {d : DataW H} {p : List MemPlace} (hv : Value.okWide Tryd.prog W .any b0 22 v) (h : DataW.Trod enc Tryd.prog W base (fun _ => true) true 22 v d p) : ∃ l, RdFeats W v l := by
  obtain ⟨a, len, cap, rfl⟩ := okWide_slice Tryd.underlying22 hv
  obtain ⟨fuel, hf⟩ := h
  rcases open_slice Tryd.underlying22 hf with ⟨hcs, _⟩ | ⟨x, l, c, m, n, D, Pl, hcs, hb, hl, hm, hmm, hx, hi⟩
  · simp [Value.cells] at hcs
    obtain ⟨rfl, rfl, rfl⟩ := hcs
    exact ⟨[], none, 0, rfl, Nat.le_refl _, Nat.zero_le _, fun h => absurd rfl h⟩
  · simp [Value.cells] at hcs
    obtain ⟨rfl, rfl, rfl⟩ := hcs
    have hc4 : Tryd.prog.cellsOf 41 = 4 := by kernel_rfl
    have hc1 : Tryd.prog.cellsOf 3 = 1 := by kernel_rfl
    have hc2 : Tryd.prog.cellsOf 30 = 1 := by kernel_rfl
    simp only [if_true] at hmm
    subst hmm
    have he : ∀ i, i < len → ∃ y : FeatX, ∃ dv, W.cell? (x.add (i * 4)) = some (.int .i64 y.kind) ∧ W.cell? (x.add (i * 4 + 1)) = some (.int .i64 y.a) ∧ W.cell? (x.add (i * 4 + 2)) = some (.int .i64 y.b) ∧ W.cell? (x.add (i * 4 + 3)) = some dv ∧ Con.Int64 y.kind ∧ Con.Int64 y.a ∧ Con.Int64 y.b ∧ Rd W dv y.data := by
      intro i hlt
      obtain ⟨cs', hc, ht⟩ := hi i (by omega)
      obtain ⟨xs, n', _, _, hl', hlen', hfl⟩ := DataW.trod_struct Tryd.underlying41 ht
      obtain ⟨_, hcl, hat⟩ := World.cells?_some hc
      have h4 : cs'.length = 4 := by simpa [hc4] using hcl
      match cs', h4 with
      | [q0, q1, q2, q3], _ =>
        have g0 := hfl 0 _ rfl
        have g1 := hfl 1 _ rfl
        have g2 := hfl 2 _ rfl
        have g3 := hfl 3 _ rfl
        rw [List.getElem?_eq_getElem (by have := hlen'; simp at this; omega)] at g0 g1 g2 g3
        simp [hc1, hc2] at g0 g1 g2 g3
        obtain ⟨n0, e0, _, b0⟩ := DataW.trod_int Tryd.underlying3 g0
        obtain ⟨n1, e1, _, b1⟩ := DataW.trod_int Tryd.underlying3 g1
        obtain ⟨n2, e2, _, b2⟩ := DataW.trod_int Tryd.underlying3 g2
        obtain ⟨dv, ll, e3, hr⟩ := open_row g3
        simp at e0 e1 e2 e3
        subst e0 e1 e2 e3
        have w0 := hat 0 (by omega)
        have w1 := hat 1 (by omega)
        have w2 := hat 2 (by omega)
        have w3 := hat 3 (by omega)
        rw [hc4] at w0 w1 w2 w3
        rw [Go.Deep.add_add] at w0 w1 w2 w3
        exact ⟨⟨n0, n1, n2, ll⟩, _, w0, w1, w2, w3, bounds_i64 b0, bounds_i64 b1, bounds_i64 b2, hr⟩
    obtain ⟨g, hg⟩ : ∃ g : Nat → FeatX, ∀ i, i < len → ∃ dv, W.cell? (x.add (i * 4)) = some (.int .i64 (g i).kind) ∧ W.cell? (x.add (i * 4 + 1)) = some (.int .i64 (g i).a) ∧ W.cell? (x.add (i * 4 + 2)) = some (.int .i64 (g i).b) ∧ W.cell? (x.add (i * 4 + 3)) = some dv ∧ Con.Int64 (g i).kind ∧ Con.Int64 (g i).a ∧ Con.Int64 (g i).b ∧ Rd W dv (g i).data := by
      refine ⟨fun i => if h : i < len then (he i h).choose else ⟨0, 0, 0, []⟩, fun i h => ?_⟩
      have e : (if h : i < len then (he i h).choose else ⟨0, 0, 0, []⟩ : FeatX) = (he i h).choose := dif_pos h
      dsimp only
      rw [e]
      exact (he i h).choose_spec
    have hlen : ((List.range len).map g).length = len := by simp
    refine ⟨(List.range len).map g, some x, _, by rw [hlen], by rw [hlen]; exact hl, hm, fun hne => ?_⟩
    have hpos : 0 < len := by rw [← hlen]; exact List.length_pos_iff.2 hne
    obtain ⟨b, off, spot⟩ := x
    have hspot : spot = none := by
      obtain ⟨_, h0, -⟩ := hg 0 hpos
      have h0 : W.cell? (Addr.add ⟨b, off, spot⟩ (0 * 4)) = some (.int .i64 (g 0).kind) := h0
      simpa [Addr.add] using World.cell?_spot h0
    subst hspot
    have ad : ∀ z, Addr.add ⟨b, off, none⟩ z = ⟨b, off + z, none⟩ := fun z => by
      unfold Addr.add
      split
      · rename_i h0; simp only [Addr.mk.injEq, and_true, true_and]; omega
      · rfl
    refine ⟨b, off, rfl, ?_, fun i hi => ?_⟩
    · obtain ⟨_, h0, -⟩ := hg 0 hpos
      rw [ad] at h0
      exact World.block_lt_of_cell? W _ h0
    · rw [hlen] at hi
      have e : ((List.range len).map g)[i]'(by rw [hlen]; exact hi) = g i := by simp
      obtain ⟨dv, w0, w1, w2, w3, r⟩ := hg i hi
      rw [ad] at w0 w1 w2 w3
      rw [e]
      exact ⟨dv, w0, w1, w2, w3, r⟩
end
end Go.Proofs.YtcbmmkhbfookjaaDoor
