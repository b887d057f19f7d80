/-
  Regions that call Send or Take and keep the channel that comes back in a block of its own, laid at whatever time.
-/
import Derived.Test.YtoekopdogfnkhaaLiV
import Derived.Deep.CutRange
import Derived.Deep.RegionHeld3
set_option linter.unusedVariables false
set_option linter.unusedSimpArgs false
namespace Go.Proofs.Ytoekopdogfnkhaa
open Go.RowKit Go.Con
/-- a channel's eleven cells in a block -/
abbrev Cells (w : World) (b : Nat) (x0 x1 x2 x3 x4 x5 x6 x7 x8 x9 x10 : Value) : Prop :=
  w.cell? ⟨b, 0, none⟩ = some x0 ∧ w.cell? ⟨b, 1, none⟩ = some x1 ∧ w.cell? ⟨b, 2, none⟩ = some x2 ∧ w.cell? ⟨b, 3, none⟩ = some x3 ∧ w.cell? ⟨b, 4, none⟩ = some x4 ∧ w.cell? ⟨b, 5, none⟩ = some x5 ∧ w.cell? ⟨b, 6, none⟩ = some x6 ∧ w.cell? ⟨b, 7, none⟩ = some x7 ∧ w.cell? ⟨b, 8, none⟩ = some x8 ∧ w.cell? ⟨b, 9, none⟩ = some x9 ∧ w.cell? ⟨b, 10, none⟩ = some x10
theorem cells_of {w : World} {b : Nat} {x0 x1 x2 x3 x4 x5 x6 x7 x8 x9 x10 : Value} {t : TypeId} {f : Nat × Nat} (h : w.heap[b]? = some (.cells #[x0, x1, x2, x3, x4, x5, x6, x7, x8, x9, x10] t f)) : Cells w b x0 x1 x2 x3 x4 x5 x6 x7 x8 x9 x10 :=
  ⟨cellAt h 0 rfl, cellAt h 1 rfl, cellAt h 2 rfl, cellAt h 3 rfl, cellAt h 4 rfl, cellAt h 5 rfl, cellAt h 6 rfl, cellAt h 7 rfl, cellAt h 8 rfl, cellAt h 9 rfl, cellAt h 10 rfl⟩
theorem Cells.drew {w : World} {b : Nat} {x0 x1 x2 x3 x4 x5 x6 x7 x8 x9 x10 : Value} (h : Cells w b x0 x1 x2 x3 x4 x5 x6 x7 x8 x9 x10) : Cells w.drew b x0 x1 x2 x3 x4 x5 x6 x7 x8 x9 x10 := h
theorem Cells.alloc {w : World} {b : Nat} {x0 x1 x2 x3 x4 x5 x6 x7 x8 x9 x10 : Value} (h : Cells w b x0 x1 x2 x3 x4 x5 x6 x7 x8 x9 x10) (o : Obj) : Cells (w.alloc o) b x0 x1 x2 x3 x4 x5 x6 x7 x8 x9 x10 := by
  have hb := World.block_lt_of_cell? w _ h.1
  have e : ∀ k, (w.alloc o).cell? ⟨b, k, none⟩ = w.cell? ⟨b, k, none⟩ := fun k => ((Below.refl w.heap.size w).alloc (Nat.le_refl _) o).cell (p := ⟨b, k, none⟩) hb
  unfold Cells
  simp only [e]
  exact h
theorem Cells.set {w : World} {b c : Nat} {x0 x1 x2 x3 x4 x5 x6 x7 x8 x9 x10 v0 v1 v2 v3 v4 v5 v6 v7 v8 v9 v10 : Value} (hne : c ≠ b) (h : Cells w b x0 x1 x2 x3 x4 x5 x6 x7 x8 x9 x10) :
    Cells (((((((((((w.setCell ⟨c, 0, none⟩ v0).setCell ⟨c, 1, none⟩ v1).setCell ⟨c, 2, none⟩ v2).setCell ⟨c, 3, none⟩ v3).setCell ⟨c, 4, none⟩ v4).setCell ⟨c, 5, none⟩ v5).setCell ⟨c, 6, none⟩ v6).setCell ⟨c, 7, none⟩ v7).setCell ⟨c, 8, none⟩ v8).setCell ⟨c, 9, none⟩ v9).setCell ⟨c, 10, none⟩ v10) b x0 x1 x2 x3 x4 x5 x6 x7 x8 x9 x10 :=
  keep11 hne h
theorem below_set11 {B b : Nat} {a w : World} {v0 v1 v2 v3 v4 v5 v6 v7 v8 v9 v10 : Value} (hB : B ≤ b) (h : Below B a w) : Below B a (((((((((((w.setCell ⟨b, 0, none⟩ v0).setCell ⟨b, 1, none⟩ v1).setCell ⟨b, 2, none⟩ v2).setCell ⟨b, 3, none⟩ v3).setCell ⟨b, 4, none⟩ v4).setCell ⟨b, 5, none⟩ v5).setCell ⟨b, 6, none⟩ v6).setCell ⟨b, 7, none⟩ v7).setCell ⟨b, 8, none⟩ v8).setCell ⟨b, 9, none⟩ v9).setCell ⟨b, 10, none⟩ v10) := (((((((((((h.setCell hB v0).setCell hB v1).setCell hB v2).setCell hB v3).setCell hB v4).setCell hB v5).setCell hB v6).setCell hB v7).setCell hB v8).setCell hB v9).setCell hB v10)
/-- where the channel that came back lies, and what else came -/
def ResRel (w : World) (K : List UInt8) (s t : Int) (f : Nat → Bool) (r : List UInt8) (vp vr : Value) (wc : World) : Prop :=
  ∃ b kg kcap, vp = .pointer (some ⟨b, 0, none⟩) ∧ wc.heap[b]? = some (.cells #[.slice (some ⟨kg, 0, none⟩) 32 kcap, .int .i64 s, .int .i64 t, .bool (f 0), .bool (f 1), .bool (f 2), .bool (f 3), .bool (f 4), .bool (f 5), .bool (f 6), .bool (f 7)] 28 (0, 0)) ∧ w.heap.size ≤ b ∧ Rd wc (.slice (some ⟨kg, 0, none⟩) 32 kcap) K ∧ w.heap.size ≤ kg ∧ kg ≠ b ∧ Rd wc vr r ∧ (∀ k, vr.ownBlock = some k → w.heap.size ≤ k ∧ k ≠ b) ∧ Below w.heap.size w wc
theorem Rd.setsNe {w : World} {c : Nat} {vs : List Value} {v : Value} {l : List UInt8} (h : Rd w v l) (hne : ∀ k, v.ownBlock = some k → k ≠ c) : Rd (w.setCells c 0 vs) v l := by
  obtain ⟨a, c', rfl, h1, h2, h0, h3⟩ := h
  refine ⟨a, c', rfl, h1, h2, h0, fun hl => ?_⟩
  obtain ⟨b, off, rfl, hc⟩ := h3 hl
  have hb := hne b rfl
  exact ⟨b, off, rfl, fun i hi => (World.cell?_of_block (w := w) (heap_setCells_ne hb _ _ _)).trans (hc i hi)⟩
/-- the block was laid last -/
theorem res_last {w w2 : World} {K r : List UInt8} {s t : Int} {f : Nat → Bool} {kg kcap base : Nat} {vr : Value} (hb : Below w.heap.size w w2) (hok : Own w2 base (.slice (some ⟨kg, 0, none⟩) 32 kcap) K) (hor : Own w2 base vr r) (hbase : w.heap.size ≤ base) :
    ResRel w K s t f r (.pointer (some ⟨w2.heap.size, 0, none⟩)) vr (w2.alloc (.cells #[.slice (some ⟨kg, 0, none⟩) 32 kcap, .int .i64 s, .int .i64 t, .bool (f 0), .bool (f 1), .bool (f 2), .bool (f 3), .bool (f 4), .bool (f 5), .bool (f 6), .bool (f 7)] 28)) :=
  ⟨_, _, _, rfl, heapNew w2 _, hb.size, hok.rd.alloc _, Nat.le_trans hbase (hok.lt kg rfl).1, Nat.ne_of_lt (hok.lt kg rfl).2, hor.rd.alloc _, fun k hk => ⟨Nat.le_trans hbase (hor.lt k hk).1, Nat.ne_of_lt (hor.lt k hk).2⟩, hb.alloc hb.size _⟩
/-- it was laid before -/
theorem res_first {w w2 : World} {K r : List UInt8} {s t : Int} {f : Nat → Bool} {b kg kcap base : Nat} {vr : Value} (hb : Below w.heap.size w w2) (hok : Own w2 base (.slice (some ⟨kg, 0, none⟩) 32 kcap) K) (hor : Own w2 base vr r) (hwb : w.heap.size ≤ b) (hbase : b < base)
    (hz : w2.heap[b]? = some (.cells #[.slice none 0 0, .int .i64 0, .int .i64 0, .bool false, .bool false, .bool false, .bool false, .bool false, .bool false, .bool false, .bool false] 28 (0, 0))) :
    ResRel w K s t f r (.pointer (some ⟨b, 0, none⟩)) vr (((((((((((w2.setCell ⟨b, 0, none⟩ (.slice (some ⟨kg, 0, none⟩) 32 kcap)).setCell ⟨b, 1, none⟩ (.int .i64 s)).setCell ⟨b, 2, none⟩ (.int .i64 t)).setCell ⟨b, 3, none⟩ (.bool (f 0))).setCell ⟨b, 4, none⟩ (.bool (f 1))).setCell ⟨b, 5, none⟩ (.bool (f 2))).setCell ⟨b, 6, none⟩ (.bool (f 3))).setCell ⟨b, 7, none⟩ (.bool (f 4))).setCell ⟨b, 8, none⟩ (.bool (f 5))).setCell ⟨b, 9, none⟩ (.bool (f 6))).setCell ⟨b, 10, none⟩ (.bool (f 7))) := by
  have e : (((((((((((w2.setCell ⟨b, 0, none⟩ (.slice (some ⟨kg, 0, none⟩) 32 kcap)).setCell ⟨b, 1, none⟩ (.int .i64 s)).setCell ⟨b, 2, none⟩ (.int .i64 t)).setCell ⟨b, 3, none⟩ (.bool (f 0))).setCell ⟨b, 4, none⟩ (.bool (f 1))).setCell ⟨b, 5, none⟩ (.bool (f 2))).setCell ⟨b, 6, none⟩ (.bool (f 3))).setCell ⟨b, 7, none⟩ (.bool (f 4))).setCell ⟨b, 8, none⟩ (.bool (f 5))).setCell ⟨b, 9, none⟩ (.bool (f 6))).setCell ⟨b, 10, none⟩ (.bool (f 7))) = w2.setCells b 0 [.slice (some ⟨kg, 0, none⟩) 32 kcap, .int .i64 s, .int .i64 t, .bool (f 0), .bool (f 1), .bool (f 2), .bool (f 3), .bool (f 4), .bool (f 5), .bool (f 6), .bool (f 7)] := rfl
  rw [e]
  have hkg := (hok.lt kg rfl).1
  refine ⟨b, kg, kcap, rfl, storedRow hz rfl, hwb, hok.rd.setsNe (fun k hk => ?_), by omega, by omega, hor.rd.setsNe (fun k hk => ?_), fun k hk => ?_, below_setCells hwb _ _ _ hb⟩
  · have e : kg = k := Option.some.inj hk
    omega
  · have := (hor.lt k hk).1; omega
  · have := (hor.lt k hk).1; exact ⟨by omega, by omega⟩
theorem Send_lit (a : Addr) (c : Nat) (pv : Value) (key plain r : List UInt8) (s t : Nat) (f : Nat → Bool) (w : World) (hv : Rd w (.slice (some a) 32 c) key) (hp : Rd w pv plain) (hkl : key.length = 32) (hpl : plain.length ≤ 2000) (hs : s < 1073741824) (ht : t ≤ 1073741824) (hf : SeenOk t f) (hr : recB key s plain = r) :
    Calls Try.prog 15 #[.agg #[.slice (some a) 32 c, .int .i64 s, .int .i64 t, .bool (f 0), .bool (f 1), .bool (f 2), .bool (f 3), .bool (f 4), .bool (f 5), .bool (f 6), .bool (f 7)], pv] w fun e w' => ∃ kg kcap rv, e = .returned (.tuple #[.agg #[.slice (some ⟨kg, 0, none⟩) 32 kcap, .int .i64 ((s : Int) + 1), .int .i64 t, .bool (f 0), .bool (f 1), .bool (f 2), .bool (f 3), .bool (f 4), .bool (f 5), .bool (f 6), .bool (f 7)], rv, .int .i64 0]) ∧ Own w' w.heap.size (.slice (some ⟨kg, 0, none⟩) 32 kcap) key ∧ Own w' w.heap.size rv r ∧ Below w.heap.size w w' := by
  refine (Send_ok a c pv key plain s t f w hv hp hkl hpl hs ht hf).mono ?_
  rintro e w' ⟨kv, rv, rfl, hok, hor, hb⟩
  obtain ⟨kg, kcap, hkv, _, _, _, _⟩ := hok.shape (by intro h; rw [h] at hkl; cases hkl)
  rw [hkl] at hkv
  subst hkv
  rw [hr] at hor
  exact ⟨kg, kcap, rv, rfl, hok, hor, hb⟩
theorem Take_lit (a : Addr) (c : Nat) (rv : Value) (key r p : List UInt8) (s t n T : Nat) (f g : Nat → Bool) (w : World) (hv : Rd w (.slice (some a) 32 c) key) (hr : Rd w rv r) (hkl : key.length = 32) (hrp : r = recB key n p) (hpl : p.length ≤ 2000) (hn : n < 1073741824) (hs : s ≤ 1073741824) (ht : t ≤ 1073741824) (hf : SeenOk t f) (hm : metB t n f = false) (hT : max t (n + 1) = T) (hg : withF t n f = g) :
    Calls Try.prog 10 #[.agg #[.slice (some a) 32 c, .int .i64 s, .int .i64 t, .bool (f 0), .bool (f 1), .bool (f 2), .bool (f 3), .bool (f 4), .bool (f 5), .bool (f 6), .bool (f 7)], rv] w fun e w' => ∃ kg kcap pv, e = .returned (.tuple #[.agg #[.slice (some ⟨kg, 0, none⟩) 32 kcap, .int .i64 s, .int .i64 T, .bool (g 0), .bool (g 1), .bool (g 2), .bool (g 3), .bool (g 4), .bool (g 5), .bool (g 6), .bool (g 7)], pv, .int .i64 0]) ∧ Own w' w.heap.size (.slice (some ⟨kg, 0, none⟩) 32 kcap) key ∧ Own w' w.heap.size pv p ∧ Below w.heap.size w w' := by
  subst hT hg
  refine (Take_rec a c rv key r p s t n f w hv hr hkl hrp hpl hn hs ht hf hm).mono ?_
  rintro e w' ⟨kv, pv, rfl, hok, hor, hb⟩
  obtain ⟨kg, kcap, hkv, _, _, _, _⟩ := hok.shape (by intro h; rw [h] at hkl; cases hkl)
  rw [hkl] at hkv
  subst hkv
  exact ⟨kg, kcap, pv, rfl, hok, hor, hb⟩
end Go.Proofs.Ytoekopdogfnkhaa
