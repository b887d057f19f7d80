/-
  Tapes: the walks of Clone and stable.open, four, get.
-/
import Derived.Test.YtdkbajdnckmckaaDoorBy2
import Derived.Test.YtdkbajdnckmckaaDoorStp
import Derived.Test.YtdkbajdnckmckaaDoorRes
import Derived.Test.YtdkbajdnckmckaaDoorMid
import Derived.Test.YtdkbajdnckmckaaDoorTail
import Derived.Deep.CutRange
import Derived.Deep.RegionHeld3
import Derived.Outline
set_option linter.unusedVariables false
set_option linter.unusedSimpArgs false
namespace Go.Proofs.YtdkbajdnckmckaaDoor
open Go.RowKit Go.Con
theorem Rd.cellR {w : World} {b off n c : Nat} {l : List UInt8} (h : Rd w (.slice (some ⟨b, off, none⟩) n c) l) (k : Nat) (hk : k < l.length) : w.cell? ⟨b, off + k, none⟩ = some (.int .u8 (l.getD k 0).toNat) := by
  obtain ⟨a', c', e, _, _, _, h⟩ := h
  injection e with e1 e2 e3
  subst e1
  obtain ⟨b, off, e4, h2⟩ := h (by intro h; rw [h] at hk; cases hk)
  injection e4 with e4
  injection e4 with e5 e6
  subst e5 e6
  exact h2 k hk
/-- slices.Clone of bytes -/
theorem cloneB_any (v : Value) (l : List UInt8) (w : World) (hv : Rd w v l) (hl : l.length ≤ 1099511627776) :
    Calls Tryd.prog 33 #[v] w (FreshB w l) := by
  obtain ⟨a, c, rfl, hc, hcm⟩ := hv.slice
  obtain ⟨n, hn⟩ : ∃ n, n = l.length := ⟨_, rfl⟩
  rw [← hn] at hv hl hc ⊢
  have hnl := fun (w : World) (a : Option Addr) => Lib.run_eql_slice_nil (P := Tryd.prog) w 25 5 a n c 0 0 Tryd.underlying25
  have HV := Lib.hid hv
  have HN := Lib.hid hn
  clear hv hn
  cases a with
  | none =>
    have h0 := HV.out.none_nil
    have H0 := Lib.hid h0
    clear h0
    go_enter Tryd.func33, Tryd.ntmps33
    go_wp2
    go_ret
    exact ⟨_, rfl, by rw [H0.out.1]; exact Own.nil _ _, Below.refl _ _⟩
  | some a =>
    go_enter Tryd.func33, Tryd.ntmps33
    go_wp2_with (at_builtin; refine apB rfl (.tmp 5) (.tmp 6) rfl w.heap.size (.slice (some ⟨w.heap.size, 0, none⟩) 0 0) _ [] l rfl (ownNew w _ [] 0 rfl (Nat.le_refl _) (by decide)) rfl (HV.out.alloc _) (by rw [← HN.out]; simp; omega) (by simp) ?_; intro v2 w2 ho2 hg2; have O2 := Lib.hid ho2; have G2 := Lib.hid hg2; clear ho2 hg2)
    go_ret
    exact ⟨_, rfl, O2.out, ((Below.refl _ _).alloc (Nat.le_refl _) _).grown G2.out (by simp) (fun k hk => by injection hk with hk; subst hk; exact Nat.le_refl _)⟩
theorem Own.ofHeapK {w w' : World} {base : Nat} {v : Value} {l : List UInt8} (h : Own w base v l) (hh : ∀ k, v.ownBlock = some k → w'.heap[k]? = w.heap[k]?) : Own w' base v l := by
  obtain ⟨h1, h2⟩ := h
  refine ⟨h1, ?_⟩
  rcases h2 with h2 | ⟨g, cap, cur, rfl, hg, hh2, r⟩
  · exact .inl h2
  · exact .inr ⟨g, cap, cur, rfl, hg, by rw [hh g rfl]; exact hh2, r⟩
theorem tapeSz : (Tryd.prog.info? 27).map (fun x => x.size) = some 2 := by kernel_rfl
theorem keep2 {w : World} {b c : Nat} {x y v0 v1 : Value} (hne : b ≠ c) (h : w.cell? ⟨b, 0, none⟩ = some x ∧ w.cell? ⟨b, 1, none⟩ = some y) : ((w.setCell ⟨c, 0, none⟩ v0).setCell ⟨c, 1, none⟩ v1).cell? ⟨b, 0, none⟩ = some x ∧ ((w.setCell ⟨c, 0, none⟩ v0).setCell ⟨c, 1, none⟩ v1).cell? ⟨b, 1, none⟩ = some y := by
  have e : ((w.setCell ⟨c, 0, none⟩ v0).setCell ⟨c, 1, none⟩ v1).heap[b]? = w.heap[b]? := (heapSet_ne 1 v1 hne).trans (heapSet_ne 0 v0 hne)
  exact ⟨(World.cell?_of_block (w := w) e).trans h.1, (World.cell?_of_block (w := w) e).trans h.2⟩
/-- what 'open' gives -/
def OpenPost (w : World) (l : List UInt8) (s : Int) (e : Ending) (w' : World) : Prop :=
  ∃ v', e = .returned (.tuple #[.agg #[v', .int .i64 s], .bool true]) ∧ Own w' w.heap.size v' l ∧ Below w.heap.size w w'
set_option maxRecDepth 100000 in
set_option maxHeartbeats 2000000 in
theorem open_ok (v : Value) (l : List UInt8) (s : Int) (w : World) (hv : Rd w v l) (h0 : 0 ≤ s) (h1 : s ≤ l.length) (h2 : l.length ≤ 100000) :
    Calls Tryd.prog 20 #[.agg #[v, .int .i64 s]] w (OpenPost w l s) := by
  obtain ⟨a, c, rfl, hc, hcm⟩ := id hv.slice
  obtain ⟨n, hn⟩ : ∃ n, n = l.length := ⟨_, rfl⟩
  rw [← hn] at hv h1 h2 hc ⊢
  have HV := Lib.hid hv
  have HN := Lib.hid hn
  have d1 : decide (s < 0) = false := by rw [decide_eq_false_iff_not]; omega
  have d2 : decide ((n : Int) < s) = false := by rw [decide_eq_false_iff_not]; omega
  have d3 : decide ((100000 : Int) < (n : Int)) = false := by rw [decide_eq_false_iff_not]; omega
  have d3n : decide (100000 < n) = false := by rw [decide_eq_false_iff_not]; omega
  have HC := Lib.hid (fun w h => cloneB_any (.slice a n c) l w h (by rw [← hn]; omega))
  clear hv hn hc hcm
  go_enter Tryd.func20, Tryd.ntmps20
  go_upto_region 3 with fail
  generalize hW : World.alloc _ _ = w1
  have X : w1.heap[w.heap.size]? = some (.cells #[.slice a n c, .int .i64 s] 27 (0, 0)) := by rw [← hW]; exact heapNew0 w _ _
  have Y : w1.heap[w.heap.size + 1]? = some (.cells #[.slice none 0 0, .int .i64 0] 27 (0, 0)) := by rw [← hW]; exact heapNew1 w _ _
  have B1 := Lib.hid (show Below w.heap.size w w1 by rw [← hW]; exact ((Below.refl _ _).alloc (Nat.le_refl _) _).alloc (by simp) _)
  have hz1 : w1.heap.size = w.heap.size + 1 + 1 := by rw [← hW]; simp
  have HZ := Lib.hid hz1
  have c0 := cellAt X 0 rfl
  have c1 := cellAt X 1 rfl
  have S0 : w1.cell? ⟨w.heap.size, 0, none⟩ = some (.slice a n c) ∧ w1.cell? ⟨w.heap.size, 1, none⟩ = some (.int .i64 s) := ⟨c0, c1⟩
  have XL := lt_of_heap X
  have YL := lt_of_heap Y
  have NE : w.heap.size ≠ w.heap.size + 1 := by omega
  have HX := Lib.hid X
  have HY := Lib.hid Y
  clear hW hz1 X Y c0 c1
  go_region_held3 (fun w' => w'.cell? ⟨w.heap.size, 0, none⟩ = some (.slice a n c) ∧ w'.cell? ⟨w.heap.size, 1, none⟩ = some (.int .i64 s)) (first | with_reducible exact S0 | with_reducible exact S2 | with_reducible exact keep2 NE S2 | exact S0) (first
    | (go_at_call 33; refine (HC.out _ (show Rd w1.drew _ l from (HV.out.below B1.out HV.out.lt).drewN 1)).mono ?_; rintro e v2 ⟨vc, rfl, hoc, hb2⟩; obtain ⟨sa, sc, rfl, _, _⟩ := hoc.rd.slice; have hb3 : Below w1.heap.size w1 v2 := (below_drewN (Below.refl _ _) 1).trans hb2; have S2 : v2.cell? ⟨w.heap.size, 0, none⟩ = some (.slice a n c) ∧ v2.cell? ⟨w.heap.size, 1, none⟩ = some (.int .i64 s) := ⟨(hb3.cell (p := ⟨w.heap.size, 0, none⟩) XL).trans S0.1, (hb3.cell (p := ⟨w.heap.size, 1, none⟩) XL).trans S0.2⟩; have y2 := (hb3.block (w.heap.size + 1) YL).trans HY.out; have y20 := cellAt y2 0 rfl; have y21 := cellAt y2 1 rfl; have fy := freeAt y2; have Y2 := Lib.hid y2; clear y2; have B3 := Lib.hid hb3; have O2 := Lib.hid hoc; clear hb2 hb3 hoc))
  go_wp2_with fail
  have z4 := heapSet (o := 1) (heapSet (o := 0) Y2.out (.slice sa l.length sc)) (.int .i64 s)
  have B4 := Lib.hid (show Below w.heap.size w ((v2.setCell ⟨w.heap.size + 1, 0, none⟩ (.slice sa l.length sc)).setCell ⟨w.heap.size + 1, 1, none⟩ (.int .i64 s)) from ((B1.out.trans (B3.out.mono B1.out.size)).setCell (by show w.heap.size ≤ w.heap.size + 1; omega) _).setCell (by show w.heap.size ≤ w.heap.size + 1; omega) _)
  have o4 := (O2.out.mono (base' := w.heap.size) (by have := HZ.out; show w.heap.size ≤ w1.heap.size; omega)).ofHeapK (w' := (v2.setCell ⟨w.heap.size + 1, 0, none⟩ (.slice sa l.length sc)).setCell ⟨w.heap.size + 1, 1, none⟩ (.int .i64 s)) (fun k hk => by
    have h3 := (O2.out.lt k hk).1
    have h4 : w1.heap.size ≤ k := h3
    exact (heapSet_ne 1 _ (by have := HZ.out; omega)).trans (heapSet_ne 0 _ (by have := HZ.out; omega)))
  generalize hW : World.setCell _ _ _ = w4 at z4 B4 o4 ⊢
  have hl := run_loadVar_mid (P := Tryd.prog) w4 (w.heap.size + 1) 0 27 [.slice sa l.length sc, .int .i64 s] _ (range_of z4) Tryd.underlying27 rfl tapeSz
  exact bodyPost_ret (v := .tuple #[.agg #[.slice sa l.length sc, .int .i64 s], .bool true]) (results_ct Tryd.results20 rfl hl) rfl ⟨_, rfl, o4, B4.out⟩
end Go.Proofs.YtdkbajdnckmckaaDoor
