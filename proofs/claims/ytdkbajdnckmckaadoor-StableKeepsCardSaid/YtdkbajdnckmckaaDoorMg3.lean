/-
  Texts put together: Tail, Stb, Ord, OrdE, B64.
-/
import Derived.Test.YtdkbajdnckmckaaDoorMg2
import Derived.Test.YtdkbajdnckmckaaDoorMg1
import Derived.Deep.CutRange
import Derived.Deep.RegionHeld3
import Derived.Outline
import Derived.WalkKit
set_option linter.unusedVariables false
set_option linter.unusedSimpArgs false
namespace Go.Proofs.YtdkbajdnckmckaaDoor
open Go.RowKit Go.Con
theorem Rd.shapeN {w : World} {v : Value} {l : List UInt8} (h : Rd w v l) (n : Nat) (hn : l.length = n) (h0 : 0 < n) : ∃ b off c, v = .slice (some ⟨b, off, none⟩) n c ∧ n ≤ c ∧ c ≤ maxLen := by
  subst hn
  obtain ⟨a, c, rfl, h1, h2, _, h3⟩ := h
  obtain ⟨b, off, rfl, _⟩ := h3 (by intro h; rw [h] at h0; exact absurd h0 (by decide))
  exact ⟨b, off, c, rfl, h1, h2⟩
theorem Rd.tail {w : World} {b off n c : Nat} {l : List UInt8} (h : Rd w (.slice (some ⟨b, off, none⟩) n c) l) (k m : Nat) (hk : k < n) (hm : m = n - k) : Rd w (.slice (some ⟨b, off + k, none⟩) m (c - k)) (l.drop k) := by
  subst hm
  obtain ⟨a', c', he, hlc, hcm, h0, hcell⟩ := h
  injection he with e1 e2 e3
  subst e1 e2 e3
  have hlen : (l.drop k).length = l.length - k := by simp
  refine ⟨_, _, by rw [hlen], by omega, by omega, (fun h => by cases h), fun hne => ?_⟩
  obtain ⟨b', o', e4, hc⟩ := hcell (by intro h; rw [h] at hk; exact absurd hk (by simp))
  injection e4 with e4
  injection e4 with e5 e6 e7
  subst e5 e6
  refine ⟨_, _, rfl, fun i hi => ?_⟩
  rw [hlen] at hi
  rw [show off + k + i = off + (k + i) by omega, hc (k + i) (by omega)]
  simp [List.getElem?_drop]
/-- a cut from lo to hi -/
theorem Rd.mid {w : World} {b off n c : Nat} {l : List UInt8} (h : Rd w (.slice (some ⟨b, off, none⟩) n c) l) (k m : Nat) (hk : k < n) (hm : k + m ≤ n) : Rd w (.slice (some ⟨b, off + k, none⟩) m (c - k)) ((l.drop k).take m) := by
  have h1 := h.tail k (n - k) hk rfl
  obtain ⟨_, _, e, _⟩ := h
  injection e with _ e2 _
  exact h1.pre m (by simp; omega)
theorem same_trueR (a b : Value) (x y : List UInt8) (w : World) (ha : Rd w a x) (hb : Rd w b y) (h : x = y) :
    Calls Tryd.prog 12 #[a, b] w fun e w' => e = .returned (.bool true) ∧ w' = w :=
  (same_true a b x y w ha hb h).mono fun e w' ⟨he, hw⟩ => ⟨he, hw.symm⟩
theorem same_R (a b : Value) (x y : List UInt8) (w : World) (t : Bool) (ha : Rd w a x) (hb : Rd w b y) (h : (x == y) = t) :
    Calls Tryd.prog 12 #[a, b] w fun e w' => e = .returned (.bool t) ∧ w' = w :=
  (same_any a b x y w ha hb).mono fun e w' ⟨he, hw⟩ => ⟨by rw [he, h], hw.symm⟩
end Go.Proofs.YtdkbajdnckmckaaDoor

set_option linter.unusedVariables false
set_option linter.unusedSimpArgs false
namespace Go.Proofs.YtdkbajdnckmckaaDoor
open Go.RowKit Go.Con
theorem Rd.cellR {w : World} {b off n c : Nat} {l : List UInt8} (h : Rd w (.slice (some ⟨b, off, none⟩) n c) l) (k : Nat) (hk : k < l.length) : w.cell? ⟨b, off + k, none⟩ = some (.int .u8 (l.getD k 0).toNat) := by
  obtain ⟨a', c', e, _, _, _, h⟩ := h
  injection e with e1 e2 e3
  subst e1
  obtain ⟨b, off, e4, h2⟩ := h (by intro h; rw [h] at hk; cases hk)
  injection e4 with e4
  injection e4 with e5 e6
  subst e5 e6
  exact h2 k hk
/-- slices.Clone of bytes -/
theorem cloneB_any (v : Value) (l : List UInt8) (w : World) (hv : Rd w v l) (hl : l.length ≤ 1099511627776) :
    Calls Tryd.prog 33 #[v] w (FreshB w l) := by
  obtain ⟨a, c, rfl, hc, hcm⟩ := hv.slice
  obtain ⟨n, hn⟩ : ∃ n, n = l.length := ⟨_, rfl⟩
  rw [← hn] at hv hl hc ⊢
  have hnl := fun (w : World) (a : Option Addr) => Lib.run_eql_slice_nil (P := Tryd.prog) w 25 5 a n c 0 0 Tryd.underlying25
  have HV := Lib.hid hv
  have HN := Lib.hid hn
  clear hv hn
  cases a with
  | none =>
    have h0 := HV.out.none_nil
    have H0 := Lib.hid h0
    clear h0
    go_enter Tryd.func33, Tryd.ntmps33
    go_wp2
    go_ret
    exact ⟨_, rfl, by rw [H0.out.1]; exact Own.nil _ _, Below.refl _ _⟩
  | some a =>
    go_enter Tryd.func33, Tryd.ntmps33
    go_wp2_with (at_builtin; refine apB rfl (.tmp 5) (.tmp 6) rfl w.heap.size (.slice (some ⟨w.heap.size, 0, none⟩) 0 0) _ [] l rfl (ownNew w _ [] 0 rfl (Nat.le_refl _) (by decide)) rfl (HV.out.alloc _) (by rw [← HN.out]; simp; omega) (by simp) ?_; intro v2 w2 ho2 hg2; have O2 := Lib.hid ho2; have G2 := Lib.hid hg2; clear ho2 hg2)
    go_ret
    exact ⟨_, rfl, O2.out, ((Below.refl _ _).alloc (Nat.le_refl _) _).grown G2.out (by simp) (fun k hk => by injection hk with hk; subst hk; exact Nat.le_refl _)⟩
theorem Own.ofHeapK {w w' : World} {base : Nat} {v : Value} {l : List UInt8} (h : Own w base v l) (hh : ∀ k, v.ownBlock = some k → w'.heap[k]? = w.heap[k]?) : Own w' base v l := by
  obtain ⟨h1, h2⟩ := h
  refine ⟨h1, ?_⟩
  rcases h2 with h2 | ⟨g, cap, cur, rfl, hg, hh2, r⟩
  · exact .inl h2
  · exact .inr ⟨g, cap, cur, rfl, hg, by rw [hh g rfl]; exact hh2, r⟩
theorem tapeSz : (Tryd.prog.info? 27).map (fun x => x.size) = some 2 := by kernel_rfl
theorem keep2 {w : World} {b c : Nat} {x y v0 v1 : Value} (hne : b ≠ c) (h : w.cell? ⟨b, 0, none⟩ = some x ∧ w.cell? ⟨b, 1, none⟩ = some y) : ((w.setCell ⟨c, 0, none⟩ v0).setCell ⟨c, 1, none⟩ v1).cell? ⟨b, 0, none⟩ = some x ∧ ((w.setCell ⟨c, 0, none⟩ v0).setCell ⟨c, 1, none⟩ v1).cell? ⟨b, 1, none⟩ = some y := by
  have e : ((w.setCell ⟨c, 0, none⟩ v0).setCell ⟨c, 1, none⟩ v1).heap[b]? = w.heap[b]? := (heapSet_ne 1 v1 hne).trans (heapSet_ne 0 v0 hne)
  exact ⟨(World.cell?_of_block (w := w) e).trans h.1, (World.cell?_of_block (w := w) e).trans h.2⟩
/-- what 'open' gives -/
def OpenPost (w : World) (l : List UInt8) (s : Int) (e : Ending) (w' : World) : Prop :=
  ∃ v', e = .returned (.tuple #[.agg #[v', .int .i64 s], .bool true]) ∧ Own w' w.heap.size v' l ∧ Below w.heap.size w w'
set_option maxRecDepth 100000 in
set_option maxHeartbeats 2000000 in
theorem open_ok (v : Value) (l : List UInt8) (s : Int) (w : World) (hv : Rd w v l) (h0 : 0 ≤ s) (h1 : s ≤ l.length) (h2 : l.length ≤ 100000) :
    Calls Tryd.prog 20 #[.agg #[v, .int .i64 s]] w (OpenPost w l s) := by
  obtain ⟨a, c, rfl, hc, hcm⟩ := id hv.slice
  obtain ⟨n, hn⟩ : ∃ n, n = l.length := ⟨_, rfl⟩
  rw [← hn] at hv h1 h2 hc ⊢
  have HV := Lib.hid hv
  have HN := Lib.hid hn
  have d1 : decide (s < 0) = false := by rw [decide_eq_false_iff_not]; omega
  have d2 : decide ((n : Int) < s) = false := by rw [decide_eq_false_iff_not]; omega
  have d3 : decide ((100000 : Int) < (n : Int)) = false := by rw [decide_eq_false_iff_not]; omega
  have d3n : decide (100000 < n) = false := by rw [decide_eq_false_iff_not]; omega
  have HC := Lib.hid (fun w h => cloneB_any (.slice a n c) l w h (by rw [← hn]; omega))
  clear hv hn hc hcm
  go_enter Tryd.func20, Tryd.ntmps20
  go_upto_region 3 with fail
  generalize hW : World.alloc _ _ = w1
  have X : w1.heap[w.heap.size]? = some (.cells #[.slice a n c, .int .i64 s] 27 (0, 0)) := by rw [← hW]; exact heapNew0 w _ _
  have Y : w1.heap[w.heap.size + 1]? = some (.cells #[.slice none 0 0, .int .i64 0] 27 (0, 0)) := by rw [← hW]; exact heapNew1 w _ _
  have B1 := Lib.hid (show Below w.heap.size w w1 by rw [← hW]; exact ((Below.refl _ _).alloc (Nat.le_refl _) _).alloc (by simp) _)
  have hz1 : w1.heap.size = w.heap.size + 1 + 1 := by rw [← hW]; simp
  have HZ := Lib.hid hz1
  have c0 := cellAt X 0 rfl
  have c1 := cellAt X 1 rfl
  have S0 : w1.cell? ⟨w.heap.size, 0, none⟩ = some (.slice a n c) ∧ w1.cell? ⟨w.heap.size, 1, none⟩ = some (.int .i64 s) := ⟨c0, c1⟩
  have XL := lt_of_heap X
  have YL := lt_of_heap Y
  have NE : w.heap.size ≠ w.heap.size + 1 := by omega
  have HX := Lib.hid X
  have HY := Lib.hid Y
  clear hW hz1 X Y c0 c1
  go_region_held3 (fun w' => w'.cell? ⟨w.heap.size, 0, none⟩ = some (.slice a n c) ∧ w'.cell? ⟨w.heap.size, 1, none⟩ = some (.int .i64 s)) (first | with_reducible exact S0 | with_reducible exact S2 | with_reducible exact keep2 NE S2 | exact S0) (first
    | (go_at_call 33; refine (HC.out _ (show Rd w1.drew _ l from (HV.out.below B1.out HV.out.lt).drewN 1)).mono ?_; rintro e v2 ⟨vc, rfl, hoc, hb2⟩; obtain ⟨sa, sc, rfl, _, _⟩ := hoc.rd.slice; have hb3 : Below w1.heap.size w1 v2 := (below_drewN (Below.refl _ _) 1).trans hb2; have S2 : v2.cell? ⟨w.heap.size, 0, none⟩ = some (.slice a n c) ∧ v2.cell? ⟨w.heap.size, 1, none⟩ = some (.int .i64 s) := ⟨(hb3.cell (p := ⟨w.heap.size, 0, none⟩) XL).trans S0.1, (hb3.cell (p := ⟨w.heap.size, 1, none⟩) XL).trans S0.2⟩; have y2 := (hb3.block (w.heap.size + 1) YL).trans HY.out; have y20 := cellAt y2 0 rfl; have y21 := cellAt y2 1 rfl; have fy := freeAt y2; have Y2 := Lib.hid y2; clear y2; have B3 := Lib.hid hb3; have O2 := Lib.hid hoc; clear hb2 hb3 hoc))
  go_wp2_with fail
  have z4 := heapSet (o := 1) (heapSet (o := 0) Y2.out (.slice sa l.length sc)) (.int .i64 s)
  have B4 := Lib.hid (show Below w.heap.size w ((v2.setCell ⟨w.heap.size + 1, 0, none⟩ (.slice sa l.length sc)).setCell ⟨w.heap.size + 1, 1, none⟩ (.int .i64 s)) from ((B1.out.trans (B3.out.mono B1.out.size)).setCell (by show w.heap.size ≤ w.heap.size + 1; omega) _).setCell (by show w.heap.size ≤ w.heap.size + 1; omega) _)
  have o4 := (O2.out.mono (base' := w.heap.size) (by have := HZ.out; show w.heap.size ≤ w1.heap.size; omega)).ofHeapK (w' := (v2.setCell ⟨w.heap.size + 1, 0, none⟩ (.slice sa l.length sc)).setCell ⟨w.heap.size + 1, 1, none⟩ (.int .i64 s)) (fun k hk => by
    have h3 := (O2.out.lt k hk).1
    have h4 : w1.heap.size ≤ k := h3
    exact (heapSet_ne 1 _ (by have := HZ.out; omega)).trans (heapSet_ne 0 _ (by have := HZ.out; omega)))
  generalize hW : World.setCell _ _ _ = w4 at z4 B4 o4 ⊢
  have hl := run_loadVar_mid (P := Tryd.prog) w4 (w.heap.size + 1) 0 27 [.slice sa l.length sc, .int .i64 s] _ (range_of z4) Tryd.underlying27 rfl tapeSz
  exact bodyPost_ret (v := .tuple #[.agg #[.slice sa l.length sc, .int .i64 s], .bool true]) (results_ct Tryd.results20 rfl hl) rfl ⟨_, rfl, o4, B4.out⟩
end Go.Proofs.YtdkbajdnckmckaaDoor

set_option linter.unusedVariables false
set_option linter.unusedSimpArgs false
namespace Go.Con
/-- five numbers: a command; and what a wish is made of -/
structure Cmd where
  kind : Int
  client : Int
  seq : Int
  name : Int
  value : Int
  deriving DecidableEq
def Cmd.zero : Cmd := ⟨0, 0, 0, 0, 0⟩
def cmdV (c : Cmd) : Value := .agg #[.int .i64 c.kind, .int .i64 c.client, .int .i64 c.seq, .int .i64 c.name, .int .i64 c.value]
def inRange (c : Cmd) : Bool := decide (0 ≤ c.client ∧ c.client ≤ 7 ∧ 0 ≤ c.seq ∧ c.seq ≤ 1048576 ∧ 0 ≤ c.name ∧ c.name ≤ 7 ∧ 0 ≤ c.value ∧ c.value ≤ 1073741824)
/-- what is wrong with a command; 0: nothing -/
def checkC (c : Cmd) : Int :=
  if c.kind = 0 then (if c = Cmd.zero then 0 else 3)
  else if 1 ≤ c.kind ∧ c.kind ≤ 3 then (if inRange c = false then 2 else if c.kind ≠ 1 ∧ c.value ≠ 0 then 3 else 0)
  else 4
end Go.Con
namespace Go.Proofs.YtdkbajdnckmckaaDoor
open Go.RowKit Go.Con

set_option maxHeartbeats 400000 in
theorem within_true (n lo hi : Int) (w : World) (h1 : lo ≤ n) (h2 : n ≤ hi) :
    Calls Tryd.prog 49 #[.int .i64 n, .int .i64 lo, .int .i64 hi] w fun e w' => e = .returned (.bool true) ∧ w = w' := by
  go_enter Tryd.func49, Tryd.ntmps49
  go_wp2
  go_ret
  exact ⟨rfl, rfl⟩
set_option maxHeartbeats 400000 in
theorem within_false (n lo hi : Int) (w : World) (h : n < lo ∨ hi < n) :
    Calls Tryd.prog 49 #[.int .i64 n, .int .i64 lo, .int .i64 hi] w fun e w' => e = .returned (.bool false) ∧ w = w' := by
  by_cases h1 : n < lo
  · go_enter Tryd.func49, Tryd.ntmps49
    go_wp2
    go_ret
    exact ⟨rfl, rfl⟩
  · have h2 : hi < n := by omega
    have h3 : lo ≤ n := by omega
    have hd : decide (n ≤ hi) = false := by simp; omega
    go_enter Tryd.func49, Tryd.ntmps49
    go_wp2
    go_ret
    exact ⟨rfl, rfl⟩
def withinB (n lo hi : Int) : Bool := decide (lo ≤ n ∧ n ≤ hi)
theorem within_any (n lo hi : Int) (w : World) :
    Calls Tryd.prog 49 #[.int .i64 n, .int .i64 lo, .int .i64 hi] w fun e w' => e = .returned (.bool (withinB n lo hi)) ∧ w = w' := by
  by_cases h : lo ≤ n ∧ n ≤ hi
  · exact (within_true n lo hi w h.1 h.2).mono fun e w' ⟨he, hw⟩ => ⟨by rw [he, withinB, decide_eq_true h], hw⟩
  · exact (within_false n lo hi w (by omega)).mono fun e w' ⟨he, hw⟩ => ⟨by rw [he, withinB, decide_eq_false h], hw⟩

set_option maxHeartbeats 400000 in
theorem check_k1a (cl sq nm vl : Int) (w : World) (h : cl < 0 ∨ 7 < cl) :
    Calls Tryd.prog 39 #[.agg #[.int .i64 1, .int .i64 cl, .int .i64 sq, .int .i64 nm, .int .i64 vl]] w fun e w' => e = .returned (.int .i64 2) ∧ Below w.heap.size w w' := by
  go_enter Tryd.func39, Tryd.ntmps39
  go_wp2_with (go_at_call 49; first | (refine (within_true _ _ _ _ (by omega) (by omega)).mono ?_; rintro e w' ⟨rfl, rfl⟩) | (refine (within_false _ _ _ _ (by omega)).mono ?_; rintro e w' ⟨rfl, rfl⟩))
  go_ret
  exact ⟨rfl, (Below.refl _ _).alloc (Nat.le_refl _) _⟩
set_option maxHeartbeats 400000 in
theorem check_k1b (cl sq nm vl : Int) (w : World) (hc1 : 0 ≤ cl) (hc2 : cl ≤ 7) (h : sq < 0 ∨ 1048576 < sq) :
    Calls Tryd.prog 39 #[.agg #[.int .i64 1, .int .i64 cl, .int .i64 sq, .int .i64 nm, .int .i64 vl]] w fun e w' => e = .returned (.int .i64 2) ∧ Below w.heap.size w w' := by
  go_enter Tryd.func39, Tryd.ntmps39
  go_wp2_with (go_at_call 49; first | (refine (within_true _ _ _ _ (by omega) (by omega)).mono ?_; rintro e w' ⟨rfl, rfl⟩) | (refine (within_false _ _ _ _ (by omega)).mono ?_; rintro e w' ⟨rfl, rfl⟩))
  go_ret
  exact ⟨rfl, (Below.refl _ _).alloc (Nat.le_refl _) _⟩
set_option maxHeartbeats 400000 in
theorem check_k1c (cl sq nm vl : Int) (w : World) (hc1 : 0 ≤ cl) (hc2 : cl ≤ 7) (hs1 : 0 ≤ sq) (hs2 : sq ≤ 1048576) (h : nm < 0 ∨ 7 < nm) :
    Calls Tryd.prog 39 #[.agg #[.int .i64 1, .int .i64 cl, .int .i64 sq, .int .i64 nm, .int .i64 vl]] w fun e w' => e = .returned (.int .i64 2) ∧ Below w.heap.size w w' := by
  go_enter Tryd.func39, Tryd.ntmps39
  go_wp2_with (go_at_call 49; first | (refine (within_true _ _ _ _ (by omega) (by omega)).mono ?_; rintro e w' ⟨rfl, rfl⟩) | (refine (within_false _ _ _ _ (by omega)).mono ?_; rintro e w' ⟨rfl, rfl⟩))
  go_ret
  exact ⟨rfl, (Below.refl _ _).alloc (Nat.le_refl _) _⟩
set_option maxHeartbeats 400000 in
theorem check_k1d (cl sq nm vl : Int) (w : World) (hc1 : 0 ≤ cl) (hc2 : cl ≤ 7) (hs1 : 0 ≤ sq) (hs2 : sq ≤ 1048576) (hn1 : 0 ≤ nm) (hn2 : nm ≤ 7) (h : vl < 0 ∨ 1073741824 < vl) :
    Calls Tryd.prog 39 #[.agg #[.int .i64 1, .int .i64 cl, .int .i64 sq, .int .i64 nm, .int .i64 vl]] w fun e w' => e = .returned (.int .i64 2) ∧ Below w.heap.size w w' := by
  go_enter Tryd.func39, Tryd.ntmps39
  go_wp2_with (go_at_call 49; first | (refine (within_true _ _ _ _ (by omega) (by omega)).mono ?_; rintro e w' ⟨rfl, rfl⟩) | (refine (within_false _ _ _ _ (by omega)).mono ?_; rintro e w' ⟨rfl, rfl⟩))
  go_ret
  exact ⟨rfl, (Below.refl _ _).alloc (Nat.le_refl _) _⟩
set_option maxHeartbeats 400000 in
theorem check_k1e (cl sq nm vl : Int) (w : World) (hc1 : 0 ≤ cl) (hc2 : cl ≤ 7) (hs1 : 0 ≤ sq) (hs2 : sq ≤ 1048576) (hn1 : 0 ≤ nm) (hn2 : nm ≤ 7) (hv1 : 0 ≤ vl) (hv2 : vl ≤ 1073741824) :
    Calls Tryd.prog 39 #[.agg #[.int .i64 1, .int .i64 cl, .int .i64 sq, .int .i64 nm, .int .i64 vl]] w fun e w' => e = .returned (.int .i64 0) ∧ Below w.heap.size w w' := by
  go_enter Tryd.func39, Tryd.ntmps39
  go_wp2_with (go_at_call 49; first | (refine (within_true _ _ _ _ (by omega) (by omega)).mono ?_; rintro e w' ⟨rfl, rfl⟩) | (refine (within_false _ _ _ _ (by omega)).mono ?_; rintro e w' ⟨rfl, rfl⟩))
  go_ret
  exact ⟨rfl, (Below.refl _ _).alloc (Nat.le_refl _) _⟩
set_option maxHeartbeats 400000 in
theorem check_k2a (cl sq nm vl : Int) (w : World) (h : cl < 0 ∨ 7 < cl) :
    Calls Tryd.prog 39 #[.agg #[.int .i64 2, .int .i64 cl, .int .i64 sq, .int .i64 nm, .int .i64 vl]] w fun e w' => e = .returned (.int .i64 2) ∧ Below w.heap.size w w' := by
  go_enter Tryd.func39, Tryd.ntmps39
  go_wp2_with (go_at_call 49; first | (refine (within_true _ _ _ _ (by omega) (by omega)).mono ?_; rintro e w' ⟨rfl, rfl⟩) | (refine (within_false _ _ _ _ (by omega)).mono ?_; rintro e w' ⟨rfl, rfl⟩))
  go_ret
  exact ⟨rfl, (Below.refl _ _).alloc (Nat.le_refl _) _⟩
set_option maxHeartbeats 400000 in
theorem check_k2b (cl sq nm vl : Int) (w : World) (hc1 : 0 ≤ cl) (hc2 : cl ≤ 7) (h : sq < 0 ∨ 1048576 < sq) :
    Calls Tryd.prog 39 #[.agg #[.int .i64 2, .int .i64 cl, .int .i64 sq, .int .i64 nm, .int .i64 vl]] w fun e w' => e = .returned (.int .i64 2) ∧ Below w.heap.size w w' := by
  go_enter Tryd.func39, Tryd.ntmps39
  go_wp2_with (go_at_call 49; first | (refine (within_true _ _ _ _ (by omega) (by omega)).mono ?_; rintro e w' ⟨rfl, rfl⟩) | (refine (within_false _ _ _ _ (by omega)).mono ?_; rintro e w' ⟨rfl, rfl⟩))
  go_ret
  exact ⟨rfl, (Below.refl _ _).alloc (Nat.le_refl _) _⟩
set_option maxHeartbeats 400000 in
theorem check_k2c (cl sq nm vl : Int) (w : World) (hc1 : 0 ≤ cl) (hc2 : cl ≤ 7) (hs1 : 0 ≤ sq) (hs2 : sq ≤ 1048576) (h : nm < 0 ∨ 7 < nm) :
    Calls Tryd.prog 39 #[.agg #[.int .i64 2, .int .i64 cl, .int .i64 sq, .int .i64 nm, .int .i64 vl]] w fun e w' => e = .returned (.int .i64 2) ∧ Below w.heap.size w w' := by
  go_enter Tryd.func39, Tryd.ntmps39
  go_wp2_with (go_at_call 49; first | (refine (within_true _ _ _ _ (by omega) (by omega)).mono ?_; rintro e w' ⟨rfl, rfl⟩) | (refine (within_false _ _ _ _ (by omega)).mono ?_; rintro e w' ⟨rfl, rfl⟩))
  go_ret
  exact ⟨rfl, (Below.refl _ _).alloc (Nat.le_refl _) _⟩
set_option maxHeartbeats 400000 in
theorem check_k2d (cl sq nm vl : Int) (w : World) (hc1 : 0 ≤ cl) (hc2 : cl ≤ 7) (hs1 : 0 ≤ sq) (hs2 : sq ≤ 1048576) (hn1 : 0 ≤ nm) (hn2 : nm ≤ 7) (h : vl < 0 ∨ 1073741824 < vl) :
    Calls Tryd.prog 39 #[.agg #[.int .i64 2, .int .i64 cl, .int .i64 sq, .int .i64 nm, .int .i64 vl]] w fun e w' => e = .returned (.int .i64 2) ∧ Below w.heap.size w w' := by
  go_enter Tryd.func39, Tryd.ntmps39
  go_wp2_with (go_at_call 49; first | (refine (within_true _ _ _ _ (by omega) (by omega)).mono ?_; rintro e w' ⟨rfl, rfl⟩) | (refine (within_false _ _ _ _ (by omega)).mono ?_; rintro e w' ⟨rfl, rfl⟩))
  go_ret
  exact ⟨rfl, (Below.refl _ _).alloc (Nat.le_refl _) _⟩
set_option maxHeartbeats 400000 in
theorem check_k2e (cl sq nm vl : Int) (w : World) (hc1 : 0 ≤ cl) (hc2 : cl ≤ 7) (hs1 : 0 ≤ sq) (hs2 : sq ≤ 1048576) (hn1 : 0 ≤ nm) (hn2 : nm ≤ 7) (hv1 : 0 ≤ vl) (hv2 : vl ≤ 1073741824) (hv : vl ≠ 0) :
    Calls Tryd.prog 39 #[.agg #[.int .i64 2, .int .i64 cl, .int .i64 sq, .int .i64 nm, .int .i64 vl]] w fun e w' => e = .returned (.int .i64 3) ∧ Below w.heap.size w w' := by
  have hvb : (vl != 0) = true := by simpa using hv
  clear hv
  go_enter Tryd.func39, Tryd.ntmps39
  go_wp2_with (go_at_call 49; first | (refine (within_true _ _ _ _ (by omega) (by omega)).mono ?_; rintro e w' ⟨rfl, rfl⟩) | (refine (within_false _ _ _ _ (by omega)).mono ?_; rintro e w' ⟨rfl, rfl⟩))
  go_ret
  exact ⟨rfl, (Below.refl _ _).alloc (Nat.le_refl _) _⟩
set_option maxHeartbeats 400000 in
theorem check_k2f (cl sq nm : Int) (w : World) (hc1 : 0 ≤ cl) (hc2 : cl ≤ 7) (hs1 : 0 ≤ sq) (hs2 : sq ≤ 1048576) (hn1 : 0 ≤ nm) (hn2 : nm ≤ 7) :
    Calls Tryd.prog 39 #[.agg #[.int .i64 2, .int .i64 cl, .int .i64 sq, .int .i64 nm, .int .i64 0]] w fun e w' => e = .returned (.int .i64 0) ∧ Below w.heap.size w w' := by
  go_enter Tryd.func39, Tryd.ntmps39
  go_wp2_with (go_at_call 49; first | (refine (within_true _ _ _ _ (by omega) (by omega)).mono ?_; rintro e w' ⟨rfl, rfl⟩) | (refine (within_false _ _ _ _ (by omega)).mono ?_; rintro e w' ⟨rfl, rfl⟩))
  go_ret
  exact ⟨rfl, (Below.refl _ _).alloc (Nat.le_refl _) _⟩
set_option maxHeartbeats 400000 in
theorem check_k3a (cl sq nm vl : Int) (w : World) (h : cl < 0 ∨ 7 < cl) :
    Calls Tryd.prog 39 #[.agg #[.int .i64 3, .int .i64 cl, .int .i64 sq, .int .i64 nm, .int .i64 vl]] w fun e w' => e = .returned (.int .i64 2) ∧ Below w.heap.size w w' := by
  go_enter Tryd.func39, Tryd.ntmps39
  go_wp2_with (go_at_call 49; first | (refine (within_true _ _ _ _ (by omega) (by omega)).mono ?_; rintro e w' ⟨rfl, rfl⟩) | (refine (within_false _ _ _ _ (by omega)).mono ?_; rintro e w' ⟨rfl, rfl⟩))
  go_ret
  exact ⟨rfl, (Below.refl _ _).alloc (Nat.le_refl _) _⟩
set_option maxHeartbeats 400000 in
theorem check_k3b (cl sq nm vl : Int) (w : World) (hc1 : 0 ≤ cl) (hc2 : cl ≤ 7) (h : sq < 0 ∨ 1048576 < sq) :
    Calls Tryd.prog 39 #[.agg #[.int .i64 3, .int .i64 cl, .int .i64 sq, .int .i64 nm, .int .i64 vl]] w fun e w' => e = .returned (.int .i64 2) ∧ Below w.heap.size w w' := by
  go_enter Tryd.func39, Tryd.ntmps39
  go_wp2_with (go_at_call 49; first | (refine (within_true _ _ _ _ (by omega) (by omega)).mono ?_; rintro e w' ⟨rfl, rfl⟩) | (refine (within_false _ _ _ _ (by omega)).mono ?_; rintro e w' ⟨rfl, rfl⟩))
  go_ret
  exact ⟨rfl, (Below.refl _ _).alloc (Nat.le_refl _) _⟩
set_option maxHeartbeats 400000 in
theorem check_k3c (cl sq nm vl : Int) (w : World) (hc1 : 0 ≤ cl) (hc2 : cl ≤ 7) (hs1 : 0 ≤ sq) (hs2 : sq ≤ 1048576) (h : nm < 0 ∨ 7 < nm) :
    Calls Tryd.prog 39 #[.agg #[.int .i64 3, .int .i64 cl, .int .i64 sq, .int .i64 nm, .int .i64 vl]] w fun e w' => e = .returned (.int .i64 2) ∧ Below w.heap.size w w' := by
  go_enter Tryd.func39, Tryd.ntmps39
  go_wp2_with (go_at_call 49; first | (refine (within_true _ _ _ _ (by omega) (by omega)).mono ?_; rintro e w' ⟨rfl, rfl⟩) | (refine (within_false _ _ _ _ (by omega)).mono ?_; rintro e w' ⟨rfl, rfl⟩))
  go_ret
  exact ⟨rfl, (Below.refl _ _).alloc (Nat.le_refl _) _⟩
set_option maxHeartbeats 400000 in
theorem check_k3d (cl sq nm vl : Int) (w : World) (hc1 : 0 ≤ cl) (hc2 : cl ≤ 7) (hs1 : 0 ≤ sq) (hs2 : sq ≤ 1048576) (hn1 : 0 ≤ nm) (hn2 : nm ≤ 7) (h : vl < 0 ∨ 1073741824 < vl) :
    Calls Tryd.prog 39 #[.agg #[.int .i64 3, .int .i64 cl, .int .i64 sq, .int .i64 nm, .int .i64 vl]] w fun e w' => e = .returned (.int .i64 2) ∧ Below w.heap.size w w' := by
  go_enter Tryd.func39, Tryd.ntmps39
  go_wp2_with (go_at_call 49; first | (refine (within_true _ _ _ _ (by omega) (by omega)).mono ?_; rintro e w' ⟨rfl, rfl⟩) | (refine (within_false _ _ _ _ (by omega)).mono ?_; rintro e w' ⟨rfl, rfl⟩))
  go_ret
  exact ⟨rfl, (Below.refl _ _).alloc (Nat.le_refl _) _⟩
set_option maxHeartbeats 400000 in
theorem check_k3e (cl sq nm vl : Int) (w : World) (hc1 : 0 ≤ cl) (hc2 : cl ≤ 7) (hs1 : 0 ≤ sq) (hs2 : sq ≤ 1048576) (hn1 : 0 ≤ nm) (hn2 : nm ≤ 7) (hv1 : 0 ≤ vl) (hv2 : vl ≤ 1073741824) (hv : vl ≠ 0) :
    Calls Tryd.prog 39 #[.agg #[.int .i64 3, .int .i64 cl, .int .i64 sq, .int .i64 nm, .int .i64 vl]] w fun e w' => e = .returned (.int .i64 3) ∧ Below w.heap.size w w' := by
  have hvb : (vl != 0) = true := by simpa using hv
  clear hv
  go_enter Tryd.func39, Tryd.ntmps39
  go_wp2_with (go_at_call 49; first | (refine (within_true _ _ _ _ (by omega) (by omega)).mono ?_; rintro e w' ⟨rfl, rfl⟩) | (refine (within_false _ _ _ _ (by omega)).mono ?_; rintro e w' ⟨rfl, rfl⟩))
  go_ret
  exact ⟨rfl, (Below.refl _ _).alloc (Nat.le_refl _) _⟩
set_option maxHeartbeats 400000 in
theorem check_k3f (cl sq nm : Int) (w : World) (hc1 : 0 ≤ cl) (hc2 : cl ≤ 7) (hs1 : 0 ≤ sq) (hs2 : sq ≤ 1048576) (hn1 : 0 ≤ nm) (hn2 : nm ≤ 7) :
    Calls Tryd.prog 39 #[.agg #[.int .i64 3, .int .i64 cl, .int .i64 sq, .int .i64 nm, .int .i64 0]] w fun e w' => e = .returned (.int .i64 0) ∧ Below w.heap.size w w' := by
  go_enter Tryd.func39, Tryd.ntmps39
  go_wp2_with (go_at_call 49; first | (refine (within_true _ _ _ _ (by omega) (by omega)).mono ?_; rintro e w' ⟨rfl, rfl⟩) | (refine (within_false _ _ _ _ (by omega)).mono ?_; rintro e w' ⟨rfl, rfl⟩))
  go_ret
  exact ⟨rfl, (Below.refl _ _).alloc (Nat.le_refl _) _⟩

set_option maxHeartbeats 1000000 in
theorem Check_any (c : Cmd) (w : World) :
    Calls Tryd.prog 39 #[cmdV c] w fun e w' => e = .returned (.int .i64 (checkC c)) ∧ Below w.heap.size w w' := by
  obtain ⟨k, cl, sq, nm, vl⟩ := c
  show Calls Tryd.prog 39 #[.agg #[.int .i64 k, .int .i64 cl, .int .i64 sq, .int .i64 nm, .int .i64 vl]] w _
  by_cases h0 : k = 0
  · subst h0
    by_cases hz : (⟨0, cl, sq, nm, vl⟩ : Cmd) = Cmd.zero
    · have hc : checkC ⟨0, cl, sq, nm, vl⟩ = 0 := by rw [checkC, if_pos rfl, if_pos hz]
      rw [hc]
      injection hz with a1 a2 a3 a4 a5
      subst a2 a3 a4 a5
      clear hc
      go_enter Tryd.func39, Tryd.ntmps39
      go_wp2
      go_ret
      exact ⟨rfl, (Below.refl _ _).alloc (Nat.le_refl _) _⟩
    · have hc : checkC ⟨0, cl, sq, nm, vl⟩ = 3 := by rw [checkC, if_pos rfl, if_neg hz]
      rw [hc]
      have Hz := Lib.hid hz
      clear hc hz
      go_enter Tryd.func39, Tryd.ntmps39
      go_wp2
      all_goals go_ret
      all_goals first
        | exact ⟨rfl, (Below.refl _ _).alloc (Nat.le_refl _) _⟩
        | (exfalso; apply Hz.out; subst_vars; rfl)
        | (exfalso; apply Hz.out; simp_all [Cmd.zero])
  · by_cases hk : 1 ≤ k ∧ k ≤ 3
    · have hk3 : k = 1 ∨ k = 2 ∨ k = 3 := by omega
      have bad : inRange ⟨k, cl, sq, nm, vl⟩ = false → checkC ⟨k, cl, sq, nm, vl⟩ = 2 := fun h => by rw [checkC, if_neg h0, if_pos hk, if_pos h]
      have good3 : inRange ⟨k, cl, sq, nm, vl⟩ = true → k ≠ 1 → vl ≠ 0 → checkC ⟨k, cl, sq, nm, vl⟩ = 3 := fun h h1 h2 => by rw [checkC, if_neg h0, if_pos hk, if_neg (by rw [h]; decide), if_pos ⟨h1, h2⟩]
      have good0 : inRange ⟨k, cl, sq, nm, vl⟩ = true → (k = 1 ∨ vl = 0) → checkC ⟨k, cl, sq, nm, vl⟩ = 0 := fun h h1 => by rw [checkC, if_neg h0, if_pos hk, if_neg (by rw [h]; decide), if_neg (by simp; omega)]
      by_cases c1 : 0 ≤ cl ∧ cl ≤ 7
      · by_cases c2 : 0 ≤ sq ∧ sq ≤ 1048576
        · by_cases c3 : 0 ≤ nm ∧ nm ≤ 7
          · by_cases c4 : 0 ≤ vl ∧ vl ≤ 1073741824
            · have hin : inRange ⟨k, cl, sq, nm, vl⟩ = true := by simp [inRange]; omega
              by_cases hv : vl = 0
              · rw [good0 hin (.inr hv)]
                subst hv
                rcases hk3 with rfl | rfl | rfl
                · exact check_k1e _ _ _ _ _ c1.1 c1.2 c2.1 c2.2 c3.1 c3.2 c4.1 c4.2
                · exact check_k2f _ _ _ _ c1.1 c1.2 c2.1 c2.2 c3.1 c3.2
                · exact check_k3f _ _ _ _ c1.1 c1.2 c2.1 c2.2 c3.1 c3.2
              · rcases hk3 with rfl | rfl | rfl
                · rw [good0 hin (.inl rfl)]
                  exact check_k1e _ _ _ _ _ c1.1 c1.2 c2.1 c2.2 c3.1 c3.2 c4.1 c4.2
                · rw [good3 hin (by decide) hv]
                  exact check_k2e _ _ _ _ _ c1.1 c1.2 c2.1 c2.2 c3.1 c3.2 c4.1 c4.2 hv
                · rw [good3 hin (by decide) hv]
                  exact check_k3e _ _ _ _ _ c1.1 c1.2 c2.1 c2.2 c3.1 c3.2 c4.1 c4.2 hv
            · rw [bad (by unfold inRange; rw [decide_eq_false_iff_not]; dsimp only; omega)]
              rcases hk3 with rfl | rfl | rfl
              · exact check_k1d _ _ _ _ _ c1.1 c1.2 c2.1 c2.2 c3.1 c3.2 (by omega)
              · exact check_k2d _ _ _ _ _ c1.1 c1.2 c2.1 c2.2 c3.1 c3.2 (by omega)
              · exact check_k3d _ _ _ _ _ c1.1 c1.2 c2.1 c2.2 c3.1 c3.2 (by omega)
          · rw [bad (by unfold inRange; rw [decide_eq_false_iff_not]; dsimp only; omega)]
            rcases hk3 with rfl | rfl | rfl
            · exact check_k1c _ _ _ _ _ c1.1 c1.2 c2.1 c2.2 (by omega)
            · exact check_k2c _ _ _ _ _ c1.1 c1.2 c2.1 c2.2 (by omega)
            · exact check_k3c _ _ _ _ _ c1.1 c1.2 c2.1 c2.2 (by omega)
        · rw [bad (by unfold inRange; rw [decide_eq_false_iff_not]; dsimp only; omega)]
          rcases hk3 with rfl | rfl | rfl
          · exact check_k1b _ _ _ _ _ c1.1 c1.2 (by omega)
          · exact check_k2b _ _ _ _ _ c1.1 c1.2 (by omega)
          · exact check_k3b _ _ _ _ _ c1.1 c1.2 (by omega)
      · rw [bad (by unfold inRange; rw [decide_eq_false_iff_not]; dsimp only; omega)]
        rcases hk3 with rfl | rfl | rfl
        · exact check_k1a _ _ _ _ _ (by omega)
        · exact check_k2a _ _ _ _ _ (by omega)
        · exact check_k3a _ _ _ _ _ (by omega)
    · have hc : checkC ⟨k, cl, sq, nm, vl⟩ = 4 := by rw [checkC, if_neg h0, if_neg hk]
      rw [hc]
      have e0 : (k == 0) = false := by simpa using h0
      have e1 : (k == 1) = false := by rw [beq_eq_false_iff_ne]; omega
      have e2 : (k == 2) = false := by rw [beq_eq_false_iff_ne]; omega
      have e3 : (k == 3) = false := by rw [beq_eq_false_iff_ne]; omega
      clear hc h0 hk
      go_enter Tryd.func39, Tryd.ntmps39
      go_wp2
      go_ret
      exact ⟨rfl, (Below.refl _ _).alloc (Nat.le_refl _) _⟩
end Go.Proofs.YtdkbajdnckmckaaDoor

set_option linter.unusedVariables false
set_option linter.unusedSimpArgs false
namespace Go.Con
/-- four bytes of a number -/
def fourB (n : Nat) : List UInt8 := [UInt8.ofNat (n / 16777216), UInt8.ofNat (n / 65536), UInt8.ofNat (n / 256), UInt8.ofNat n]
def Cmd.fld (c : Cmd) (k : Nat) : Int := match k with | 0 => c.kind | 1 => c.client | 2 => c.seq | 3 => c.name | _ => c.value
/-- the bytes of a command's first k numbers -/
def encK (c : Cmd) : Nat → List UInt8
  | 0 => []
  | k + 1 => encK c k ++ fourB (c.fld k).toNat
def encC (c : Cmd) : List UInt8 := encK c 5
theorem encK_length (c : Cmd) (k : Nat) : (encK c k).length = 4 * k := by
  induction k with
  | zero => rfl
  | succ k ih => rw [encK, List.length_append, ih]; simp [fourB]; omega
end Go.Con
namespace Go.Proofs.YtdkbajdnckmckaaDoor
open Go.RowKit Go.Con

theorem raw24 (q : Int) (h : 0 ≤ q) : q / 16777216 % 256 = ((UInt8.ofNat (q.toNat / 16777216)).toNat : Int) := by
  obtain ⟨n, rfl⟩ := Int.eq_ofNat_of_zero_le h
  rw [UInt8.toNat_ofNat']; simp
theorem raw16 (q : Int) (h : 0 ≤ q) : q / 65536 % 256 = ((UInt8.ofNat (q.toNat / 65536)).toNat : Int) := by
  obtain ⟨n, rfl⟩ := Int.eq_ofNat_of_zero_le h
  rw [UInt8.toNat_ofNat']; simp
theorem raw8 (q : Int) (h : 0 ≤ q) : q / 256 % 256 = ((UInt8.ofNat (q.toNat / 256)).toNat : Int) := by
  obtain ⟨n, rfl⟩ := Int.eq_ofNat_of_zero_le h
  rw [UInt8.toNat_ofNat']; simp
theorem raw0 (q : Int) (h : 0 ≤ q) : q % 256 = ((UInt8.ofNat q.toNat).toNat : Int) := by
  obtain ⟨n, rfl⟩ := Int.eq_ofNat_of_zero_le h
  rw [UInt8.toNat_ofNat']; simp

set_option maxHeartbeats 400000 in
theorem four_any (v : Value) (l : List UInt8) (q : Int) (base : Nat) (w : World) (hO : Own w base v l) (hb : base ≤ w.heap.size) (h0 : 0 ≤ q) (hl : l.length ≤ 1099511627776) :
    Calls Tryd.prog 41 #[v, .int .i64 q] w fun e w' => ∃ v', e = .returned v' ∧ Own w' base v' (l ++ fourB q.toNat) ∧ Kept w.heap.size (fun k => v.ownBlock = some k) w w' := by
  have HO := Lib.hid hO
  have hn4 : ∀ W : World, Rd (W.alloc (.cells #[.int .u8 (q / 16777216 % 256), .int .u8 (q / 65536 % 256), .int .u8 (q / 256 % 256), .int .u8 (q % 256)] 5)) (.slice (some ⟨W.heap.size, 0, none⟩) 4 4) (fourB q.toNat) := fun W =>
    newB4 W _ _ _ _ _ _ _ _ (raw24 q h0) (raw16 q h0) (raw8 q h0) (raw0 q h0)
  have HN4 := Lib.hid hn4
  clear hO hn4
  go_enter Tryd.func41, Tryd.ntmps41
  go_wp2_with (at_builtin; refine apB rfl (.tmp 5) (.tmp 17) rfl base _ _ l (fourB q.toNat) rfl (HO.out.alloc _) rfl (HN4.out _) (by simp [fourB]; omega) (by simp; omega) ?_; intro v1 w1 hown1 hg1; have HO1 := Lib.hid hown1; have HG1 := Lib.hid hg1; clear hown1 hg1)
  go_ret
  refine ⟨_, rfl, HO1.out, ?_⟩
  refine ((Kept.refl _ _ _).alloc (Nat.le_refl _) _).trans (Kept.of_grown HG1.out (by simp) fun k hk => .inr hk)

def ptrs (b off : Nat) : Array Value := #[.pointer (some ⟨b, off, none⟩), .pointer (some ⟨b, off + 1, none⟩), .pointer (some ⟨b, off + 2, none⟩), .pointer (some ⟨b, off + 3, none⟩), .pointer (some ⟨b, off + 4, none⟩)]

set_option maxHeartbeats 1000000 in
theorem numbers_any (b : Nat) (w : World) :
    Calls Tryd.prog 40 #[.pointer (some ⟨b, 0, none⟩)] w fun e w' => e = .returned (.agg #[.pointer (some ⟨b, 0, none⟩), .pointer (some ⟨b, 1, none⟩), .pointer (some ⟨b, 2, none⟩), .pointer (some ⟨b, 3, none⟩), .pointer (some ⟨b, 4, none⟩)]) ∧ Below w.heap.size w w' := by
  go_enter Tryd.func40, Tryd.ntmps40
  go_wp2
  refine region_quiet_tail 16 (by kernel_rfl) (by kernel_rfl) ?_
  simp only [List.take_succ_cons, List.take_zero, List.drop_succ_cons, List.drop_zero]
  repeat (go_big_quiet_step (fail))
  refine wpQuiet_nil ?_
  intro w9 hw9
  obtain ⟨nq, rfl⟩ := hw9
  go_wp2
  have hx : ∀ (W : World), W.heap[w.heap.size]? = some (.cells #[.pointer none, .pointer none, .pointer none, .pointer none, .pointer none] 85 (0, 0)) →
      (((((W.setCell ⟨w.heap.size, 0, none⟩ (.pointer (some ⟨b, 0, none⟩))).setCell ⟨w.heap.size, 1, none⟩ (.pointer (some ⟨b, 1, none⟩))).setCell ⟨w.heap.size, 2, none⟩ (.pointer (some ⟨b, 2, none⟩))).setCell ⟨w.heap.size, 3, none⟩ (.pointer (some ⟨b, 3, none⟩))).setCell ⟨w.heap.size, 4, none⟩ (.pointer (some ⟨b, 4, none⟩))).heap[w.heap.size]? =
        some (.cells #[.pointer (some ⟨b, 0, none⟩), .pointer (some ⟨b, 1, none⟩), .pointer (some ⟨b, 2, none⟩), .pointer (some ⟨b, 3, none⟩), .pointer (some ⟨b, 4, none⟩)] 85 (0, 0)) := by
    intro W h
    have h1 := heapSet (o := 0) h (.pointer (some ⟨b, 0, none⟩))
    have h2 := heapSet (o := 1) h1 (.pointer (some ⟨b, 1, none⟩))
    have h3 := heapSet (o := 2) h2 (.pointer (some ⟨b, 2, none⟩))
    have h4 := heapSet (o := 3) h3 (.pointer (some ⟨b, 3, none⟩))
    exact heapSet (o := 4) h4 (.pointer (some ⟨b, 4, none⟩))
  have hx := hx ((w.alloc (.cells #[.pointer none, .pointer none, .pointer none, .pointer none, .pointer none] 85)).drewN nq) (heapNew w _)
  have hb : Below w.heap.size w ((((((((w.alloc (.cells #[.pointer none, .pointer none, .pointer none, .pointer none, .pointer none] 85)).drewN nq).setCell ⟨w.heap.size, 0, none⟩ (.pointer (some ⟨b, 0, none⟩))).setCell ⟨w.heap.size, 1, none⟩ (.pointer (some ⟨b, 1, none⟩))).setCell ⟨w.heap.size, 2, none⟩ (.pointer (some ⟨b, 2, none⟩))).setCell ⟨w.heap.size, 3, none⟩ (.pointer (some ⟨b, 3, none⟩))).setCell ⟨w.heap.size, 4, none⟩ (.pointer (some ⟨b, 4, none⟩)))) := by
    refine Below.setCell (Below.setCell (Below.setCell (Below.setCell (Below.setCell (below_drewN (Below.alloc (Below.refl _ _) (Nat.le_refl _) _) nq) ?_ _) ?_ _) ?_ _) ?_ _) ?_ _ <;> exact Nat.le_refl _
  generalize hW : World.setCell _ _ _ = W
  rw [hW] at hb hx
  clear hW
  refine bodyPost_ret (v := .agg #[.pointer (some ⟨b, 0, none⟩), .pointer (some ⟨b, 1, none⟩), .pointer (some ⟨b, 2, none⟩), .pointer (some ⟨b, 3, none⟩), .pointer (some ⟨b, 4, none⟩)]) ?_ rfl ⟨rfl, hb⟩
  have c0 := cellAt hx 0 rfl
  have c1 := cellAt hx 1 rfl
  have c2 := cellAt hx 2 rfl
  have c3 := cellAt hx 3 rfl
  have c4 := cellAt hx 4 rfl
  clear hx hb
  simp [results, Tryd.results40, go_sem, c0, c1, c2, c3, c4]

theorem indexP (b k : Nat) (hk : k < 5) (W : World) :
    (Instr.index 85 (.agg #[.pointer (some ⟨b, 0, none⟩), .pointer (some ⟨b, 1, none⟩), .pointer (some ⟨b, 2, none⟩), .pointer (some ⟨b, 3, none⟩), .pointer (some ⟨b, 4, none⟩)]) (.int .i64 k)).run Tryd.prog W = .ok (.pointer (some ⟨b, k, none⟩)) W := by
  have h5 : k = 0 ∨ k = 1 ∨ k = 2 ∨ k = 3 ∨ k = 4 := by omega
  rcases h5 with rfl | rfl | rfl | rfl | rfl <;> (show _ = _; kernel_rfl)

/-- The cells of a command. -/
def cmdA (c : Cmd) : Array Value := #[.int .i64 c.kind, .int .i64 c.client, .int .i64 c.seq, .int .i64 c.name, .int .i64 c.value]
theorem cmdA_at (c : Cmd) (k : Nat) (hk : k < 5) : (cmdA c)[k]? = some (.int .i64 (c.fld k)) := by
  have h5 : k = 0 ∨ k = 1 ∨ k = 2 ∨ k = 3 ∨ k = 4 := by omega
  rcases h5 with rfl | rfl | rfl | rfl | rfl <;> rfl
theorem fld_nonneg (c : Cmd) (h : checkC c = 0) (k : Nat) : 0 ≤ c.fld k ∧ c.fld k ≤ 1073741824 := by
  unfold checkC at h
  split at h
  · split at h
    · rename_i h1 h2
      subst h2
      match k with
      | 0 => simp [Cmd.fld, Cmd.zero]
      | 1 => simp [Cmd.fld, Cmd.zero]
      | 2 => simp [Cmd.fld, Cmd.zero]
      | 3 => simp [Cmd.fld, Cmd.zero]
      | k + 4 => simp [Cmd.fld, Cmd.zero]
    · cases h
  · split at h
    · rename_i h1 h2
      split at h
      · cases h
      · rename_i h3
        have h4 : inRange c = true := by simpa using h3
        unfold inRange at h4
        have h4 := of_decide_eq_true h4
        match k with
        | 0 => simp only [Cmd.fld]; omega
        | 1 => simp only [Cmd.fld]; omega
        | 2 => simp only [Cmd.fld]; omega
        | 3 => simp only [Cmd.fld]; omega
        | k + 4 => simp only [Cmd.fld]; omega
    · cases h

/-- A call that gives a row of its own with these bytes and a number, and turns nothing that was there. -/
def FreshBC (w : World) (R : List UInt8) (c : Int) (e : Ending) (w' : World) : Prop := ∃ v', e = .returned (.tuple #[v', .int .i64 c]) ∧ Own w' w.heap.size v' R ∧ Below w.heap.size w w'

set_option maxHeartbeats 1000000 in
theorem Encode_ok (c : Cmd) (w : World) (hc : checkC c = 0) :
    Calls Tryd.prog 24 #[cmdV c] w (FreshBC w (encC c) 0) := by
  have HC := Lib.hid hc
  have hck := fun w' => Check_any c w'
  rw [hc] at hck
  have HCK := Lib.hid hck
  clear hc hck
  unfold cmdV at HCK ⊢
  go_enter Tryd.func24, Tryd.ntmps24
  go_wp2_with fail
  refine (HCK.out _).mono ?_
  rintro e w1 ⟨rfl, hb1⟩
  have hx1 : w1.heap[w.heap.size]? = some (.cells (cmdA c) 33 (0, 0)) := (hb1.block _ (by simp)).trans (heapNew w _)
  have hs1 : w.heap.size + 1 ≤ w1.heap.size := by have := hb1.size; simpa using this
  have HB1 := Lib.hid (((Below.refl w.heap.size w).alloc (Nat.le_refl _) (.cells (cmdA c) 33)).trans (hb1.mono (by simp)))
  have HX1 := Lib.hid hx1
  clear hb1 hx1
  go_wp2_with fail
  refine (numbers_any _ _).mono ?_
  rintro e w2 ⟨rfl, hb2⟩
  have hs2 : w.heap.size + 1 ≤ w2.heap.size := by have := hb2.size; omega
  have HX2 := Lib.hid ((hb2.block _ (by omega)).trans HX1.out)
  have HB2 := Lib.hid (HB1.out.trans (hb2.mono (by omega)))
  clear hb2
  go_wp2_with fail
  have hix := fun k hk W => indexP w.heap.size k hk W
  have HIX := Lib.hid hix
  clear hix
  go_loopw [5, 14] (fun v i wr => ∃ k g cap n : Nat, k ≤ 5 ∧ i = .int .i64 k ∧ Own wr (w.heap.size + 1) v (encK c k) ∧ wr.heap[w.heap.size]? = some (.cells (cmdA c) 33 (0, 0)) ∧ Below w.heap.size w wr ∧ w.heap.size + 1 ≤ wr.heap.size)
    (fun _ i _ => 5 - (intOf i).toNat)
  case atStart => exact ⟨0, 0, 0, 0, by omega, rfl, Own.nil _ _, HX2.out, HB2.out, hs2⟩
  case round =>
    obtain ⟨k, _, _, _, hk, rfl, hO, hX, hB, hS⟩ := hrel
    have HO := Lib.hid hO
    have HX := Lib.hid hX
    have HB := Lib.hid hB
    by_cases hlt : k < 5
    · have hc1 := cellAt hX k (cmdA_at c k hlt)
      have hik := HIX.out k hlt
      obtain ⟨q, hq⟩ : ∃ q, q = c.fld k := ⟨_, rfl⟩
      have hq0 : 0 ≤ q := by rw [hq]; exact (fld_nonneg c HC.out k).1
      rw [← hq] at hc1
      have HQ := Lib.hid hq
      have hel := encK_length c k
      clear hO hX hB hq
      go_wp2_with (go_at_call 41; refine (four_any _ (encK c k) q (w.heap.size + 1) _ HO.out hS hq0 (by omega)).mono ?_; rintro e w3 ⟨v3, rfl, ho3, hk3⟩; have HO3 := Lib.hid ho3; have HK3 := Lib.hid hk3; clear ho3 hk3)
      have hlt' := HO.out.lt
      go_roundw
      case rel =>
        refine ⟨k + 1, 0, 0, 0, by omega, by go_num, ?_, ?_, ?_, ?_⟩
        · rw [encK, ← HQ.out]; exact HO3.out
        · exact (HK3.out.block _ (by omega) (fun e => by have := (HO.out.lt _ e).1; omega)).trans HX.out
        · exact HB.out.trans ((HK3.out.mono (B' := w.heap.size) (S' := fun _ => False) (by omega) (fun k hk h => by have := (HO.out.lt _ h).1; omega)).below (fun _ _ h => h))
        · have := HK3.out.size; omega
      case measure => simp [intOf]; omega
    · clear hO hX hB
      go_wp2
      go_ret2
      have hk5 : k = 5 := by omega
      have h := HO.out
      rw [hk5] at h
      exact ⟨_, rfl, h.mono (by omega), HB.out⟩

set_option maxHeartbeats 1000000 in
theorem Encode_bad (c : Cmd) (w : World) (hc : checkC c ≠ 0) :
    Calls Tryd.prog 24 #[cmdV c] w (FreshBC w [] (checkC c)) := by
  have hck := fun w' => Check_any c w'
  have HCK := Lib.hid hck
  obtain ⟨q, hq⟩ : ∃ q, q = checkC c := ⟨_, rfl⟩
  rw [← hq] at hc HCK ⊢
  have hq0 : (q != 0) = true := by simpa using hc
  clear hck hq hc
  unfold cmdV at HCK ⊢
  go_enter Tryd.func24, Tryd.ntmps24
  go_wp2_with fail
  refine (HCK.out _).mono ?_
  rintro e w1 ⟨rfl, hb1⟩
  have HB1 := Lib.hid (((Below.refl w.heap.size w).alloc (Nat.le_refl _) (.cells (cmdA c) 33)).trans (hb1.mono (by simp)))
  clear hb1
  go_wp2
  go_ret2
  exact ⟨_, rfl, Own.nil _ _, HB1.out⟩
end Go.Proofs.YtdkbajdnckmckaaDoor

set_option linter.unusedVariables false
set_option linter.unusedSimpArgs false
namespace Go.Con
open Go Go.RowKit
theorem or64 (x y : Nat) (hx : x < 9223372036854775808) (hy : y < 9223372036854775808) : bits .or .i64 (x : Int) (y : Int) = ((x ||| y : Nat) : Int) := by
  show IntKind.i64.wrap ((BitVec.ofInt 64 (x : Int) ||| BitVec.ofInt 64 (y : Int)).toNat : Int) = _
  have hxy : (x ||| y) < 2 ^ 63 := Nat.or_lt_two_pow hx hy
  rw [BitVec.ofInt_natCast, BitVec.ofInt_natCast, BitVec.toNat_or, BitVec.toNat_ofNat, BitVec.toNat_ofNat, Nat.mod_eq_of_lt (by omega), Nat.mod_eq_of_lt (by omega)]
  exact IntWalk.i64_in _ (by omega)
theorem and64 (x y : Nat) (hx : x < 9223372036854775808) (hy : y < 9223372036854775808) : bits .and .i64 (x : Int) (y : Int) = ((x &&& y : Nat) : Int) := by
  show IntKind.i64.wrap ((BitVec.ofInt 64 (x : Int) &&& BitVec.ofInt 64 (y : Int)).toNat : Int) = _
  have hxy : (x &&& y) < 2 ^ 63 := Nat.and_lt_two_pow x hy
  rw [BitVec.ofInt_natCast, BitVec.ofInt_natCast, BitVec.toNat_and, BitVec.toNat_ofNat, BitVec.toNat_ofNat, Nat.mod_eq_of_lt (by omega), Nat.mod_eq_of_lt (by omega)]
  exact IntWalk.i64_in _ (by omega)
/-- bits that are apart are added -/
theorem or_apart (a b i : Nat) (h : b < 2 ^ i) : (a * 2 ^ i ||| b) = a * 2 ^ i + b := by
  have := Nat.shiftLeft_add_eq_or_of_lt h a
  rw [Nat.shiftLeft_eq] at this
  exact this.symm
theorem four64 (x0 x1 x2 x3 : UInt8) :
    bits .or .i64 (bits .or .i64 (bits .or .i64 (wrap64 (wrap64 (x0.toNat : Int) * 16777216)) (wrap64 (wrap64 (x1.toNat : Int) * 65536))) (wrap64 (wrap64 (x2.toNat : Int) * 256))) (wrap64 (x3.toNat : Int))
      = ((x0.toNat * 16777216 + x1.toNat * 65536 + x2.toNat * 256 + x3.toNat : Nat) : Int) := by
  have h0 := x0.toNat_lt
  have h1 := x1.toNat_lt
  have h2 := x2.toNat_lt
  have h3 := x3.toNat_lt
  have w (n : Nat) (h : n < 9223372036854775808) : wrap64 (n : Int) = n := IntWalk.wrap64_in _ (by omega)
  rw [w _ (by omega), w _ (by omega), w _ (by omega), w _ (by omega)]
  rw [show (x0.toNat : Int) * 16777216 = ((x0.toNat * 16777216 : Nat) : Int) by omega, show (x1.toNat : Int) * 65536 = ((x1.toNat * 65536 : Nat) : Int) by omega, show (x2.toNat : Int) * 256 = ((x2.toNat * 256 : Nat) : Int) by omega]
  rw [w _ (by omega), w _ (by omega), w _ (by omega)]
  have e1 := or_apart x0.toNat (x1.toNat * 65536) 24 (by omega)
  have e2 := or_apart (x0.toNat * 256 + x1.toNat) (x2.toNat * 256) 16 (by omega)
  have e3 := or_apart (x0.toNat * 65536 + x1.toNat * 256 + x2.toNat) x3.toNat 8 (by omega)
  rw [or64 _ _ (by omega) (by omega)]
  rw [show (2 : Nat) ^ 24 = 16777216 by rfl] at e1
  rw [show (2 : Nat) ^ 16 = 65536 by rfl] at e2
  rw [show (2 : Nat) ^ 8 = 256 by rfl] at e3
  rw [e1, or64 _ _ (by omega) (by omega)]
  rw [show x0.toNat * 16777216 + x1.toNat * 65536 = (x0.toNat * 256 + x1.toNat) * 65536 by omega, e2, or64 _ _ (by omega) (by omega)]
  rw [show (x0.toNat * 256 + x1.toNat) * 65536 + x2.toNat * 256 = (x0.toNat * 65536 + x1.toNat * 256 + x2.toNat) * 256 by omega, e3]
end Go.Con

