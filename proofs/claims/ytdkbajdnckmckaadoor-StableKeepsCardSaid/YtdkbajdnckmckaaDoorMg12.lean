/-
  Texts put together: Qui, Rep, KnF, StL, Some.
-/
import Derived.Test.YtdkbajdnckmckaaDoorMg1
import Derived.BigQuiet
import Derived.Deep.Quiet
import Derived.Test.YtdkbajdnckmckaaDoorMg10
import Derived.Test.YtdkbajdnckmckaaDoorMg4
import Derived.Test.YtdkbajdnckmckaaDoorMg5
import Derived.Lib.LaidTab
import Derived.Test.YtdkbajdnckmckaaDoorMg11
set_option linter.unusedVariables false
set_option linter.unusedSimpArgs false
namespace Go.Con
open Go Go.RowKit
/-- a world in which what was in 'w' stays -/
structure BelW (w : World) where
  out : World
  bel : Below w.heap.size w out
instance (w : World) : Nonempty (BelW w) := ⟨⟨w, Below.refl _ _⟩⟩
/-- The region's operations are written out; the class is that of the worlds in which what was there stays. -/
theorem wp_region_below {P : Program} {id : Nat} {Q : Exit → Act → World → Prop} {a : Act} {w : World} {l : List Oper} (hm : P.follows .mixedOrders = true) (hB : Region.lexB .any l.toArray = true)
    (h : wpQuiet P l.toArray (fun w' => ∃ n : BelW w, w' = n.out) (fun a' => ∀ w', (∃ n : BelW w, w' = n.out) → Q .normal a' w') l a) : (Code.region id l.toArray true).wp P Q a w :=
  wp_region_quiet (C := fun w' => ∃ n : BelW w, w' = n.out) hm hB ⟨⟨_, below_drewN (Below.refl _ _) 1⟩, rfl⟩ (by simpa using h)
theorem calls_below {P : Program} {f : FuncId} {args : Array Value} {v : Value} {w0 : World} {n : BelW w0} (h : Calls P f args n.out fun e w' => e = .returned v ∧ Below n.out.heap.size n.out w') : Calls P f args n.out fun e w' => e = .returned v ∧ ∃ m : BelW w0, w' = m.out :=
  h.mono fun _ _ ⟨h1, h2⟩ => ⟨h1, ⟨_, n.bel.trans (h2.mono n.bel.size)⟩, rfl⟩
end Go.Con

set_option linter.unusedVariables false
set_option linter.unusedSimpArgs false
namespace Go.Proofs.YtdkbajdnckmckaaDoor
open Go.RowKit Go.Con
set_option maxRecDepth 100000 in
set_option maxHeartbeats 4000000 in
theorem repair_any (v : Value) (D : List UInt8) (s m : Int) (w : World) (hv : Rd w v D) (h0 : 0 ≤ s) (h1 : s ≤ D.length) (h2 : D.length ≤ 100000) (hk : Kn w) (hm : m = min s ((rcvAll Apr.zero D).2 : Nat)) :
    Calls Tryd.prog 18 #[.agg #[v, .int .i64 s]] w (TapePost w (D.take (rcvAll Apr.zero D).2) m 0) := by
  obtain ⟨va, vc, rfl, hc, hcm⟩ := id hv.slice
  have hle := rcvAll_le D.length Apr.zero D (Nat.le_refl _)
  have HREC := Lib.hid (fun w h hk => recover_any (.slice va D.length vc) D s w h h0 h1 h2 hk)
  obtain ⟨R, hR⟩ : ∃ R, R = rcvAll Apr.zero D := ⟨_, rfl⟩
  unfold RecPost at HREC
  rw [← hR] at HREC hle hm ⊢
  obtain ⟨k, hkk⟩ : ∃ k, k = R.2 := ⟨_, rfl⟩
  rw [← hkk] at HREC hle hm ⊢
  obtain ⟨n, hn⟩ : ∃ n, n = D.length := ⟨_, rfl⟩
  rw [← hn] at hv h1 h2 hc hle HREC ⊢
  have HV := Lib.hid hv
  have HN := Lib.hid hn
  have HK := Lib.hid hk
  have HM := Lib.hid hm
  have VCM := Lib.hid (show vc ≤ 9223372036854775807 from hcm)
  clear hv hn hcm hk hm hR hkk
  go_enter Tryd.func18, Tryd.ntmps18
  go_upto_region 1 with fail
  generalize hW : World.alloc _ _ = w1
  obtain ⟨X, Y, B0, hz1⟩ := alloc2T hW
  have HB0 := Lib.hid B0
  have c0 := cellAt X 0 rfl
  have c1 := cellAt X 1 rfl
  have HV1 := Lib.hid (HV.out.below B0 HV.out.lt)
  have HK1 := Lib.hid (HK.out.stay B0)
  have HZ := Lib.hid hz1
  have HX := Lib.hid X
  have HY := Lib.hid Y
  clear hW hz1 X Y B0
  go_upto_region 2 with (go_at_call 14; refine (HREC.out _ HV1.out HK1.out).mono ?_; rintro e w2 ⟨hb2, a1, n1, c1', rfl, ho2⟩; have B2 := Lib.hid hb2; clear hb2 ho2)
  have hb3 : Below w1.heap.size w1 (w2.alloc (.cells #[.int .i64 R.1.p.1, .int .i64 R.1.p.2, .slice a1 n1 c1'] 45)) := B2.out.alloc B2.out.size _
  generalize hW : w2.alloc _ = w3 at hb3 ⊢
  have HV3 := Lib.hid (HV1.out.stay hb3)
  have x3 := (hb3.block _ (lt_of_heap HX.out)).trans HX.out
  have y3 := (hb3.block _ (lt_of_heap HY.out)).trans HY.out
  have B3 := Lib.hid hb3
  have HX3 := Lib.hid x3
  have HY3 := Lib.hid y3
  clear hW hb3 c0 c1 B2 HX HY HREC HV1 HK1
  go_upto_region 4 with fail
  have XL := lt_of_heap x3
  have YL := lt_of_heap y3
  have NE : w.heap.size ≠ w.heap.size + 1 := by omega
  have S0 : w3.cell? ⟨w.heap.size, 0, none⟩ = some (.slice va n vc) ∧ w3.cell? ⟨w.heap.size, 1, none⟩ = some (.int .i64 s) := ⟨cellAt x3 0 rfl, cellAt x3 1 rfl⟩
  have hck : ¬ (vc < k) := by omega
  clear x3 y3
  have HKL := Lib.hid (show (D.take k).length = k by rw [List.length_take, ← HN.out]; omega)
  have HC := Lib.hid (fun (W : World) (hW : Below w3.heap.size w3 W) => cloneB_any (.slice va k vc) (D.take k) W ((HV3.out.pre k (by rw [← HN.out]; exact hle)).stay hW) (by simp; omega))
  have hb1 : (0 : Int) ≤ (k : Int) := by omega
  have hb2 : (k : Int) ≤ (vc : Int) := by omega
  have hb3 : k ≤ vc := by omega
  have hb4 : vc ≤ 9223372036854775807 := VCM.out
  by_cases hlt : (k : Int) < s
  · obtain rfl : m = (k : Int) := by have := HM.out; omega
    go_region_held3 (fun w' => w'.cell? ⟨w.heap.size, 0, none⟩ = some (.slice va n vc) ∧ w'.cell? ⟨w.heap.size, 1, none⟩ = some (.int .i64 s)) (first | with_reducible exact S0 | with_reducible exact S2 | with_reducible exact keep2 NE S2 | exact S0) (first
      | (go_at_call 33; refine (HC.out _ ?hb).mono ?_; (case hb => (repeat (first | exact Below.refl _ _ | with_reducible refine bel_drew ?_ | with_reducible refine below_drewN ?_ _ | with_reducible refine bel_alloc ?_))); rintro e v2 ⟨vcl, rfl, hoc, hb2⟩; obtain ⟨sa, sc, rfl, _, _⟩ := hoc.rd.sliceN k HKL.out; have hb3 : Below w3.heap.size w3 v2 := (by (refine bel_trans ?_ hb2; (repeat (first | exact Below.refl _ _ | with_reducible refine bel_drew ?_ | with_reducible refine below_drewN ?_ _ | with_reducible refine bel_alloc ?_)))); have S2 : v2.cell? ⟨w.heap.size, 0, none⟩ = some (.slice va n vc) ∧ v2.cell? ⟨w.heap.size, 1, none⟩ = some (.int .i64 s) := ⟨(hb3.cell (p := ⟨w.heap.size, 0, none⟩) XL).trans S0.1, (hb3.cell (p := ⟨w.heap.size, 1, none⟩) XL).trans S0.2⟩; have y2 := (hb3.block (w.heap.size + 1) YL).trans HY3.out; have y20 := cellAt y2 0 rfl; have y21 := cellAt y2 1 rfl; have fy := freeAt y2; have Y2 := Lib.hid y2; clear y2; have B4 := Lib.hid hb3; have O2 := Lib.hid (show Own v2 w3.heap.size (.slice sa k sc) (D.take k) from hoc); clear hb2 hb3 hoc))
    all_goals
      go_wp2_with fail
      have z4 := heapSet (o := 1) (heapSet (o := 0) Y2.out (.slice sa k sc)) (.int .i64 (k : Int))
      have hw1 : w.heap.size + 1 + 1 ≤ w3.heap.size := by have h1 := HZ.out; have h2 := B3.out.size; omega
      have b4 : Below w.heap.size w ((v2.setCell ⟨w.heap.size + 1, 0, none⟩ (.slice sa k sc)).setCell ⟨w.heap.size + 1, 1, none⟩ (.int .i64 (k : Int))) := ((bel_trans (bel_trans HB0.out B3.out) B4.out).setCell (by show w.heap.size ≤ w.heap.size + 1; omega) _).setCell (by show w.heap.size ≤ w.heap.size + 1; omega) _
      have o4 := (O2.out.mono (base' := w.heap.size) (by omega)).ofHeapK (w' := (v2.setCell ⟨w.heap.size + 1, 0, none⟩ (.slice sa k sc)).setCell ⟨w.heap.size + 1, 1, none⟩ (.int .i64 (k : Int))) (fun j hj => by
        have h3 := (O2.out.lt j hj).1
        exact (heapSet_ne 1 _ (by omega)).trans (heapSet_ne 0 _ (by omega)))
      generalize hW : World.setCell _ _ _ = w4 at z4 b4 o4 ⊢
      have hl := run_loadVar_mid (P := Tryd.prog) w4 (w.heap.size + 1) 0 27 [.slice sa k sc, .int .i64 (k : Int)] _ (range_of z4) Tryd.underlying27 rfl tapeSz
      exact bodyPost_ret (v := .tuple #[.agg #[.slice sa k sc, .int .i64 (k : Int)], .int .i64 0]) (results_ct Tryd.results18 rfl hl) rfl ⟨_, rfl, o4, b4⟩
  · obtain rfl : s = m := by have := HM.out; omega
    go_region_held3 (fun w' => w'.cell? ⟨w.heap.size, 0, none⟩ = some (.slice va n vc) ∧ w'.cell? ⟨w.heap.size, 1, none⟩ = some (.int .i64 s)) (first | with_reducible exact S0 | with_reducible exact S2 | with_reducible exact keep2 NE S2 | exact S0) (first
      | (go_at_call 33; refine (HC.out _ ?hb).mono ?_; (case hb => (repeat (first | exact Below.refl _ _ | with_reducible refine bel_drew ?_ | with_reducible refine below_drewN ?_ _ | with_reducible refine bel_alloc ?_))); rintro e v2 ⟨vcl, rfl, hoc, hb2⟩; obtain ⟨sa, sc, rfl, _, _⟩ := hoc.rd.sliceN k HKL.out; have hb3 : Below w3.heap.size w3 v2 := (by (refine bel_trans ?_ hb2; (repeat (first | exact Below.refl _ _ | with_reducible refine bel_drew ?_ | with_reducible refine below_drewN ?_ _ | with_reducible refine bel_alloc ?_)))); have S2 : v2.cell? ⟨w.heap.size, 0, none⟩ = some (.slice va n vc) ∧ v2.cell? ⟨w.heap.size, 1, none⟩ = some (.int .i64 s) := ⟨(hb3.cell (p := ⟨w.heap.size, 0, none⟩) XL).trans S0.1, (hb3.cell (p := ⟨w.heap.size, 1, none⟩) XL).trans S0.2⟩; have y2 := (hb3.block (w.heap.size + 1) YL).trans HY3.out; have y20 := cellAt y2 0 rfl; have y21 := cellAt y2 1 rfl; have fy := freeAt y2; have Y2 := Lib.hid y2; clear y2; have B4 := Lib.hid hb3; have O2 := Lib.hid (show Own v2 w3.heap.size (.slice sa k sc) (D.take k) from hoc); clear hb2 hb3 hoc))
    all_goals
      go_wp2_with fail
      have z4 := heapSet (o := 1) (heapSet (o := 0) Y2.out (.slice sa k sc)) (.int .i64 s)
      have hw1 : w.heap.size + 1 + 1 ≤ w3.heap.size := by have h1 := HZ.out; have h2 := B3.out.size; omega
      have b4 : Below w.heap.size w ((v2.setCell ⟨w.heap.size + 1, 0, none⟩ (.slice sa k sc)).setCell ⟨w.heap.size + 1, 1, none⟩ (.int .i64 s)) := ((bel_trans (bel_trans HB0.out B3.out) B4.out).setCell (by show w.heap.size ≤ w.heap.size + 1; omega) _).setCell (by show w.heap.size ≤ w.heap.size + 1; omega) _
      have o4 := (O2.out.mono (base' := w.heap.size) (by omega)).ofHeapK (w' := (v2.setCell ⟨w.heap.size + 1, 0, none⟩ (.slice sa k sc)).setCell ⟨w.heap.size + 1, 1, none⟩ (.int .i64 s)) (fun j hj => by
        have h3 := (O2.out.lt j hj).1
        exact (heapSet_ne 1 _ (by omega)).trans (heapSet_ne 0 _ (by omega)))
      generalize hW : World.setCell _ _ _ = w4 at z4 b4 o4 ⊢
      have hl := run_loadVar_mid (P := Tryd.prog) w4 (w.heap.size + 1) 0 27 [.slice sa k sc, .int .i64 s] _ (range_of z4) Tryd.underlying27 rfl tapeSz
      exact bodyPost_ret (v := .tuple #[.agg #[.slice sa k sc, .int .i64 s], .int .i64 0]) (results_ct Tryd.results18 rfl hl) rfl ⟨_, rfl, o4, b4⟩
end Go.Proofs.YtdkbajdnckmckaaDoor

set_option linter.unusedVariables false
set_option linter.unusedSimpArgs false
namespace Go.Proofs.YtdkbajdnckmckaaDoor
open Go.RowKit Go.Con

theorem numbers_tab : (Rows.laid_conclave_sha_numbers : DataW Unit) = Lib.tabData .u32 (Sha.kn.map fun x => (x.toNat : Int)) := by kernel_rfl

theorem kn_of_laid {W : World} {rest : List (String × DataW Unit)} (hp : laidMet Tryd.prog (("conclave/sha.numbers", Rows.laid_conclave_sha_numbers) :: rest) W) : Kn W := by
  rw [numbers_tab] at hp
  have hg : Tryd.prog.globalNamed "conclave/sha.numbers" = some 0 := by kernel_rfl
  have ht := Lib.tabIs_of_head (t := 100) (e := 95) (n := 64) hg (by kernel_rfl) Tryd.underlying100 Tryd.underlying95 (by kernel_rfl) (by kernel_rfl) hp
  intro i hi
  have := ht.cell hg i (by rw [List.length_map]; exact hi)
  rw [this]
  congr 2
  have hl : i < Sha.kn.length := hi
  simp [hl]
end Go.Proofs.YtdkbajdnckmckaaDoor

set_option linter.unusedVariables false
set_option linter.unusedSimpArgs false
namespace Go.Proofs.YtdkbajdnckmckaaDoor
open Go.RowKit Go.Con
theorem recover_tap {D : List UInt8} {L : List Apr} {a : Apr} (ht : Tap Apr.zero D L a) (va : Option Addr) (nd vc : Nat) (s : Int) (w : World) (hn : nd = D.length) (hv : Rd w (.slice va nd vc) D) (h0 : 0 ≤ s) (h1 : s ≤ nd) (h2 : nd ≤ 100000) (hk : Kn w) :
    Calls Tryd.prog 14 #[.agg #[.slice va nd vc, .int .i64 s]] w fun e w' => Below w.heap.size w w' ∧ ∃ a1 n1 c1, e = .returned (.tuple #[.agg #[.int .i64 a.p.1, .int .i64 a.p.2, .slice a1 n1 c1], .int .i64 (nd : Int), .int .i64 0]) ∧ OwnV w' w.heap.size (.slice a1 n1 c1) a.l := by
  subst hn
  refine (recover_any (.slice va D.length vc) D s w hv h0 (by omega) h2 hk).mono ?_
  rintro e w' ⟨h1, a1, n1, c1, rfl, h3⟩
  have e1 : (rcvAll Apr.zero D).1 = a := by rw [ht.full]
  have e2 : (rcvAll Apr.zero D).2 = D.length := by rw [ht.full]
  rw [e1] at h3
  exact ⟨h1, a1, n1, c1, by rw [e1, e2], h3⟩
/-- the cells that the last line reads -/
abbrev SBk (w : World) (rb b0 o tb : Nat) (p1 p2 q1 q2 : Int) (v1 v2 v3 : Value) : Prop := w.cell? ⟨rb, 0, none⟩ = some (.int .i64 p1) ∧ w.cell? ⟨rb, 1, none⟩ = some (.int .i64 p2) ∧ w.cell? ⟨rb, 2, none⟩ = some v1 ∧ w.cell? ⟨b0, o, none⟩ = some (.int .i64 q1) ∧ w.cell? ⟨b0, o + 1, none⟩ = some (.int .i64 q2) ∧ w.cell? ⟨b0, o + 2, none⟩ = some v2 ∧ w.cell? ⟨tb, 0, none⟩ = some v3 ∧ w.cell? ⟨tb, 1, none⟩ = some (.int .i64 0)
theorem SBk.stay {w w' : World} {rb b0 o tb : Nat} {p1 p2 q1 q2 : Int} {v1 v2 v3 : Value} (h : SBk w rb b0 o tb p1 p2 q1 q2 v1 v2 v3) (h1 : rb < w.heap.size) (h2 : b0 < w.heap.size) (h3 : tb < w.heap.size) (hb : Below w.heap.size w w') : SBk w' rb b0 o tb p1 p2 q1 q2 v1 v2 v3 := by
  have e : ∀ b o, b < w.heap.size → w'.cell? ⟨b, o, none⟩ = w.cell? ⟨b, o, none⟩ := fun b o hl => World.cell?_of_block (w := w) (hb.block b hl)
  obtain ⟨a0, a1, a2, a3, a4, a5, a6, a7⟩ := h
  exact ⟨(e _ _ h1).trans a0, (e _ _ h1).trans a1, (e _ _ h1).trans a2, (e _ _ h2).trans a3, (e _ _ h2).trans a4, (e _ _ h2).trans a5, (e _ _ h3).trans a6, (e _ _ h3).trans a7⟩
theorem sameAcc_tt (r m : Int) (a1 a2 : Option Addr) (n1 n2 c1 c2 : Nat) (l : List Vot) (w : World) (h1 : RdV w (.slice a1 n1 c1) l) (h2 : RdV w (.slice a2 n2 c2) l) :
    Calls Tryd.prog 15 #[.agg #[.int .i64 r, .int .i64 m, .slice a1 n1 c1], .agg #[.int .i64 r, .int .i64 m, .slice a2 n2 c2]] w fun e w' => e = .returned (.bool true) ∧ Below w.heap.size w w' :=
  (sameAcc_any r m r m a1 a2 n1 n2 c1 c2 l l w h1 h2).mono fun e w' ⟨h1, h2⟩ => ⟨by rw [h1]; simp, h2⟩
theorem SBk.all {w : World} {rb b0 o tb : Nat} {p1 p2 q1 q2 : Int} {v1 v2 v3 : Value} (h : SBk w rb b0 o tb p1 p2 q1 q2 v1 v2 v3) (h1 : rb < w.heap.size) (h2 : b0 < w.heap.size) (h3 : tb < w.heap.size) :
    (∀ n : BelW w, n.out.cell? ⟨rb, 0, none⟩ = some (.int .i64 p1)) ∧ (∀ n : BelW w, n.out.cell? ⟨rb, 1, none⟩ = some (.int .i64 p2)) ∧ (∀ n : BelW w, n.out.cell? ⟨rb, 2, none⟩ = some v1) ∧ (∀ n : BelW w, n.out.cell? ⟨b0, o, none⟩ = some (.int .i64 q1)) ∧ (∀ n : BelW w, n.out.cell? ⟨b0, o + 1, none⟩ = some (.int .i64 q2)) ∧ (∀ n : BelW w, n.out.cell? ⟨b0, o + 2, none⟩ = some v2) ∧ (∀ n : BelW w, n.out.cell? ⟨tb, 0, none⟩ = some v3) ∧ (∀ n : BelW w, n.out.cell? ⟨tb, 1, none⟩ = some (.int .i64 0)) :=
  ⟨fun n => (h.stay h1 h2 h3 n.bel).1, fun n => (h.stay h1 h2 h3 n.bel).2.1, fun n => (h.stay h1 h2 h3 n.bel).2.2.1, fun n => (h.stay h1 h2 h3 n.bel).2.2.2.1, fun n => (h.stay h1 h2 h3 n.bel).2.2.2.2.1, fun n => (h.stay h1 h2 h3 n.bel).2.2.2.2.2.1, fun n => (h.stay h1 h2 h3 n.bel).2.2.2.2.2.2.1, fun n => (h.stay h1 h2 h3 n.bel).2.2.2.2.2.2.2⟩
/-- the cells that a round of the search reads -/
theorem sfCells {w : World} {rb b0 o : Nat} {p1 p2 q1 q2 : Int} {v1 v2 : Value} (hr : w.heap[rb]? = some (.cells #[.int .i64 p1, .int .i64 p2, v1] 45 (0, 0))) (hb : b0 < w.heap.size)
    (h0 : w.cell? ⟨b0, o, none⟩ = some (.int .i64 q1)) (h1 : w.cell? ⟨b0, o + 1, none⟩ = some (.int .i64 q2)) (h2 : w.cell? ⟨b0, o + 2, none⟩ = some v2) :
    (∀ n : BelW w, n.out.cell? ⟨rb, 0, none⟩ = some (.int .i64 p1)) ∧ (∀ n : BelW w, n.out.cell? ⟨rb, 1, none⟩ = some (.int .i64 p2)) ∧ (∀ n : BelW w, n.out.cell? ⟨rb, 2, none⟩ = some v1) ∧ (∀ n : BelW w, n.out.cell? ⟨b0, o, none⟩ = some (.int .i64 q1)) ∧ (∀ n : BelW w, n.out.cell? ⟨b0, o + 1, none⟩ = some (.int .i64 q2)) ∧ (∀ n : BelW w, n.out.cell? ⟨b0, o + 2, none⟩ = some v2) := by
  have e : ∀ (n : BelW w) o, n.out.cell? ⟨b0, o, none⟩ = w.cell? ⟨b0, o, none⟩ := fun n o => World.cell?_of_block (w := w) (n.bel.block b0 hb)
  have f := fun (n : BelW w) => (n.bel.block rb (lt_of_heap hr)).trans hr
  exact ⟨fun n => cellAt (f n) 0 rfl, fun n => cellAt (f n) 1 rfl, fun n => cellAt (f n) 2 rfl, fun n => (e n _).trans h0, fun n => (e n _).trans h1, fun n => (e n _).trans h2⟩
theorem sameAcc_bb (x y : Acr) (a1 : Option Addr) (n1 c1 : Nat) (p : Int × Int) (l : List Vot) (b : Bool) (w : World) (h1 : RdV w (.slice a1 n1 c1) l) (h2 : Votes w (.slice y.ad y.n y.c) y.a.l) (hb : Hid (b = decide ((⟨p, l⟩ : Apr) = y.a))) :
    Calls Tryd.prog 15 #[.agg #[.int .i64 p.1, .int .i64 p.2, .slice a1 n1 c1], .agg #[.int .i64 y.a.p.1, .int .i64 y.a.p.2, .slice y.ad y.n y.c]] w fun e w' => e = .returned (.bool b) ∧ Below w.heap.size w w' :=
  (sameAcc_any p.1 p.2 y.a.p.1 y.a.p.2 a1 y.ad n1 y.n c1 y.c l y.a.l w h1 h2.1).mono fun e w' ⟨h1, h2⟩ => ⟨by
    rw [h1, hb.out]
    congr 2
    obtain ⟨⟨⟨y1, y2⟩, yl⟩, _, _, _⟩ := y
    obtain ⟨p1, p2⟩ := p
    simp [and_assoc], h2⟩
end Go.Proofs.YtdkbajdnckmckaaDoor

set_option linter.unusedVariables false
set_option linter.unusedSimpArgs false
namespace Go.Proofs.YtdkbajdnckmckaaDoor
open Go.RowKit Go.Con

set_option maxHeartbeats 400000 in
theorem some_any (v : Value) (l : List UInt8) (m : Nat) (w : World) (hv : Rd w v l) (hm : m ≤ 1099511627776) :
    Calls Tryd.prog 19 #[v, .int .i64 m] w (FreshB w (l.take m)) := by
  obtain ⟨a, c, rfl, hlc, hcm⟩ := hv.slice
  have HV := Lib.hid hv
  clear hv
  have hcm' : c ≤ 9223372036854775807 := hcm
  clear hcm
  by_cases hml : (m : Int) < (l.length : Int)
  · have hr := Lib.hid (HV.out.pre m (by omega))
    go_enter Tryd.func19, Tryd.ntmps19
    go_wp2_with (at_builtin; refine apB rfl (.const (.slice none 0 0)) (.tmp 10) rfl w.heap.size (.slice none 0 0) _ [] (l.take m) rfl (Own.nil _ _) rfl hr.out (by simp; omega) (Nat.le_refl _) ?_; intro v1 w1 hown1 hg1; have HO1 := Lib.hid hown1; have HG1 := Lib.hid hg1; clear hown1 hg1)
    go_ret
    exact ⟨_, rfl, HO1.out, (Below.refl _ _).grown HG1.out (Nat.le_refl _) (fun k hk => by simp [Value.ownBlock] at hk)⟩
  · have ht : l.take m = l := List.take_of_length_le (by omega)
    rw [ht]
    clear ht
    have hr := Lib.hid HV.out
    go_enter Tryd.func19, Tryd.ntmps19
    go_wp2_with (at_builtin; refine apB rfl (.const (.slice none 0 0)) (.tmp 10) rfl w.heap.size (.slice none 0 0) _ [] l rfl (Own.nil _ _) rfl hr.out (by simp; omega) (Nat.le_refl _) ?_; intro v1 w1 hown1 hg1; have HO1 := Lib.hid hown1; have HG1 := Lib.hid hg1; clear hown1 hg1)
    go_ret
    exact ⟨_, rfl, HO1.out, (Below.refl _ _).grown HG1.out (Nat.le_refl _) (fun k hk => by simp [Value.ownBlock] at hk)⟩

end Go.Proofs.YtdkbajdnckmckaaDoor
