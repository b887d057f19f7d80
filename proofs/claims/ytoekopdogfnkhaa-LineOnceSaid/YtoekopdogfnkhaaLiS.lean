/-
  The walk of line.Send.
-/
import Derived.Test.YtoekopdogfnkhaaLiM
import Derived.Deep.RegionHeld3
set_option linter.unusedVariables false
set_option linter.unusedSimpArgs false
namespace Go.Con
/-- the record of a number -/
def recB (key : List UInt8) (s : Nat) (plain : List UInt8) : List UInt8 := Go.Proofs.Ytoekopdogfnkhaa.fourN s ++ Sea.boxed key (Go.Proofs.Ytoekopdogfnkhaa.nonceN (Go.Proofs.Ytoekopdogfnkhaa.fourN s)) (Go.Proofs.Ytoekopdogfnkhaa.fourN s) plain
theorem recB_length (key : List UInt8) (s : Nat) (plain : List UInt8) : (recB key s plain).length = plain.length + 20 := by
  simp [recB, Sea.boxed_length, Go.Proofs.Ytoekopdogfnkhaa.fourN]
end Go.Con
namespace Go.Proofs.Ytoekopdogfnkhaa
open Go.RowKit Go.Con
theorem grown_other {w w' : World} {g n c b : Nat} {v : Value} {o : Obj} (h : w.grownBy w' v.ownBlock) (hv : v = .slice (some ⟨g, 0, none⟩) n c) (hne : g ≠ b) (ho : w.heap[b]? = some o) : w'.heap[b]? = some o := by
  subst hv
  exact (h.block b (lt_of_heap ho) (fun e => hne (Option.some.inj e).symm)).trans ho
theorem cell_ne {w : World} {c b o k : Nat} {v : Value} (h : c ≠ b) : (w.setCell ⟨c, o, none⟩ v).cell? ⟨b, k, none⟩ = w.cell? ⟨b, k, none⟩ :=
  World.cell?_of_block (w := w) (heapSet_ne o v (fun e => h e.symm))
theorem keep11 {W : World} {c b : Nat} {x0 x1 x2 x3 x4 x5 x6 x7 x8 x9 x10 v0 v1 v2 v3 v4 v5 v6 v7 v8 v9 v10 : Value} (hne : c ≠ b) (h : W.cell? ⟨b, 0, none⟩ = some x0 ∧ W.cell? ⟨b, 1, none⟩ = some x1 ∧ W.cell? ⟨b, 2, none⟩ = some x2 ∧ W.cell? ⟨b, 3, none⟩ = some x3 ∧ W.cell? ⟨b, 4, none⟩ = some x4 ∧ W.cell? ⟨b, 5, none⟩ = some x5 ∧ W.cell? ⟨b, 6, none⟩ = some x6 ∧ W.cell? ⟨b, 7, none⟩ = some x7 ∧ W.cell? ⟨b, 8, none⟩ = some x8 ∧ W.cell? ⟨b, 9, none⟩ = some x9 ∧ W.cell? ⟨b, 10, none⟩ = some x10) :
    (((((((((((W.setCell ⟨c, 0, none⟩ v0).setCell ⟨c, 1, none⟩ v1).setCell ⟨c, 2, none⟩ v2).setCell ⟨c, 3, none⟩ v3).setCell ⟨c, 4, none⟩ v4).setCell ⟨c, 5, none⟩ v5).setCell ⟨c, 6, none⟩ v6).setCell ⟨c, 7, none⟩ v7).setCell ⟨c, 8, none⟩ v8).setCell ⟨c, 9, none⟩ v9).setCell ⟨c, 10, none⟩ v10).cell? ⟨b, 0, none⟩ = some x0 ∧ (((((((((((W.setCell ⟨c, 0, none⟩ v0).setCell ⟨c, 1, none⟩ v1).setCell ⟨c, 2, none⟩ v2).setCell ⟨c, 3, none⟩ v3).setCell ⟨c, 4, none⟩ v4).setCell ⟨c, 5, none⟩ v5).setCell ⟨c, 6, none⟩ v6).setCell ⟨c, 7, none⟩ v7).setCell ⟨c, 8, none⟩ v8).setCell ⟨c, 9, none⟩ v9).setCell ⟨c, 10, none⟩ v10).cell? ⟨b, 1, none⟩ = some x1 ∧ (((((((((((W.setCell ⟨c, 0, none⟩ v0).setCell ⟨c, 1, none⟩ v1).setCell ⟨c, 2, none⟩ v2).setCell ⟨c, 3, none⟩ v3).setCell ⟨c, 4, none⟩ v4).setCell ⟨c, 5, none⟩ v5).setCell ⟨c, 6, none⟩ v6).setCell ⟨c, 7, none⟩ v7).setCell ⟨c, 8, none⟩ v8).setCell ⟨c, 9, none⟩ v9).setCell ⟨c, 10, none⟩ v10).cell? ⟨b, 2, none⟩ = some x2 ∧ (((((((((((W.setCell ⟨c, 0, none⟩ v0).setCell ⟨c, 1, none⟩ v1).setCell ⟨c, 2, none⟩ v2).setCell ⟨c, 3, none⟩ v3).setCell ⟨c, 4, none⟩ v4).setCell ⟨c, 5, none⟩ v5).setCell ⟨c, 6, none⟩ v6).setCell ⟨c, 7, none⟩ v7).setCell ⟨c, 8, none⟩ v8).setCell ⟨c, 9, none⟩ v9).setCell ⟨c, 10, none⟩ v10).cell? ⟨b, 3, none⟩ = some x3 ∧ (((((((((((W.setCell ⟨c, 0, none⟩ v0).setCell ⟨c, 1, none⟩ v1).setCell ⟨c, 2, none⟩ v2).setCell ⟨c, 3, none⟩ v3).setCell ⟨c, 4, none⟩ v4).setCell ⟨c, 5, none⟩ v5).setCell ⟨c, 6, none⟩ v6).setCell ⟨c, 7, none⟩ v7).setCell ⟨c, 8, none⟩ v8).setCell ⟨c, 9, none⟩ v9).setCell ⟨c, 10, none⟩ v10).cell? ⟨b, 4, none⟩ = some x4 ∧ (((((((((((W.setCell ⟨c, 0, none⟩ v0).setCell ⟨c, 1, none⟩ v1).setCell ⟨c, 2, none⟩ v2).setCell ⟨c, 3, none⟩ v3).setCell ⟨c, 4, none⟩ v4).setCell ⟨c, 5, none⟩ v5).setCell ⟨c, 6, none⟩ v6).setCell ⟨c, 7, none⟩ v7).setCell ⟨c, 8, none⟩ v8).setCell ⟨c, 9, none⟩ v9).setCell ⟨c, 10, none⟩ v10).cell? ⟨b, 5, none⟩ = some x5 ∧ (((((((((((W.setCell ⟨c, 0, none⟩ v0).setCell ⟨c, 1, none⟩ v1).setCell ⟨c, 2, none⟩ v2).setCell ⟨c, 3, none⟩ v3).setCell ⟨c, 4, none⟩ v4).setCell ⟨c, 5, none⟩ v5).setCell ⟨c, 6, none⟩ v6).setCell ⟨c, 7, none⟩ v7).setCell ⟨c, 8, none⟩ v8).setCell ⟨c, 9, none⟩ v9).setCell ⟨c, 10, none⟩ v10).cell? ⟨b, 6, none⟩ = some x6 ∧ (((((((((((W.setCell ⟨c, 0, none⟩ v0).setCell ⟨c, 1, none⟩ v1).setCell ⟨c, 2, none⟩ v2).setCell ⟨c, 3, none⟩ v3).setCell ⟨c, 4, none⟩ v4).setCell ⟨c, 5, none⟩ v5).setCell ⟨c, 6, none⟩ v6).setCell ⟨c, 7, none⟩ v7).setCell ⟨c, 8, none⟩ v8).setCell ⟨c, 9, none⟩ v9).setCell ⟨c, 10, none⟩ v10).cell? ⟨b, 7, none⟩ = some x7 ∧ (((((((((((W.setCell ⟨c, 0, none⟩ v0).setCell ⟨c, 1, none⟩ v1).setCell ⟨c, 2, none⟩ v2).setCell ⟨c, 3, none⟩ v3).setCell ⟨c, 4, none⟩ v4).setCell ⟨c, 5, none⟩ v5).setCell ⟨c, 6, none⟩ v6).setCell ⟨c, 7, none⟩ v7).setCell ⟨c, 8, none⟩ v8).setCell ⟨c, 9, none⟩ v9).setCell ⟨c, 10, none⟩ v10).cell? ⟨b, 8, none⟩ = some x8 ∧ (((((((((((W.setCell ⟨c, 0, none⟩ v0).setCell ⟨c, 1, none⟩ v1).setCell ⟨c, 2, none⟩ v2).setCell ⟨c, 3, none⟩ v3).setCell ⟨c, 4, none⟩ v4).setCell ⟨c, 5, none⟩ v5).setCell ⟨c, 6, none⟩ v6).setCell ⟨c, 7, none⟩ v7).setCell ⟨c, 8, none⟩ v8).setCell ⟨c, 9, none⟩ v9).setCell ⟨c, 10, none⟩ v10).cell? ⟨b, 9, none⟩ = some x9 ∧ (((((((((((W.setCell ⟨c, 0, none⟩ v0).setCell ⟨c, 1, none⟩ v1).setCell ⟨c, 2, none⟩ v2).setCell ⟨c, 3, none⟩ v3).setCell ⟨c, 4, none⟩ v4).setCell ⟨c, 5, none⟩ v5).setCell ⟨c, 6, none⟩ v6).setCell ⟨c, 7, none⟩ v7).setCell ⟨c, 8, none⟩ v8).setCell ⟨c, 9, none⟩ v9).setCell ⟨c, 10, none⟩ v10).cell? ⟨b, 10, none⟩ = some x10 := by
  simp only [cell_ne hne]
  exact h
theorem results_ctt {P : Program} {fn : Func} {tmps : Array Value} {w : World} {a b c : Nat} {t : TypeId} {ad : Addr} {v : Value} (hr : fn.results = #[.cell a t, .tmp b, .tmp c]) (ht : tmps.getD a undef = .pointer (some ad))
    (hl : (loadVar t ad).run P w = .ok v w) : (results fn tmps).run P w = .ok (.tuple #[v, tmps.getD b undef, tmps.getD c undef]) w := by
  unfold results
  rw [hr]
  simp only [Array.getD_eq_getD_getElem?] at ht
  generalize loadVar = L at hl ⊢
  simp [ht, hl, go_sem]
/-- what sending leaves -/
def SendPost (w : World) (key : List UInt8) (s t : Nat) (f : Nat → Bool) (r : List UInt8) (e : Ending) (w' : World) : Prop :=
  ∃ kv rv, e = .returned (.tuple #[.agg (chanC kv (s : Nat) t f).toArray, rv, .int .i64 0]) ∧ Own w' w.heap.size kv key ∧ Own w' w.heap.size rv r ∧ Below w.heap.size w w'
set_option maxRecDepth 100000 in
set_option maxHeartbeats 4000000 in
theorem Send_ok (a : Addr) (c : Nat) (pv : Value) (key plain : List UInt8) (s t : Nat) (f : Nat → Bool) (w : World) (hv : Rd w (.slice (some a) 32 c) key) (hp : Rd w pv plain) (hkl : key.length = 32) (hpl : plain.length ≤ 2000) (hs : s < 1073741824) (ht : t ≤ 1073741824) (hf : SeenOk t f) :
    Calls Try.prog 15 #[.agg #[.slice (some a) 32 c, .int .i64 s, .int .i64 t, .bool (f 0), .bool (f 1), .bool (f 2), .bool (f 3), .bool (f 4), .bool (f 5), .bool (f 6), .bool (f 7)], pv] w (SendPost w key (s + 1) t f (recB key s plain)) := by
  obtain ⟨m, hm⟩ : ∃ m, plain.length = m := ⟨_, rfl⟩
  obtain ⟨pa, pc, rfl, _, _⟩ := hp.sliceN m hm
  have hml : m ≤ 2000 := by omega
  have hck := fun w => lineCheck_ok (some a) c s t f w (by omega) ht hf
  have HCK := Lib.hid hck
  obtain ⟨H, hH⟩ : ∃ H, H = fourN s := ⟨_, rfl⟩
  obtain ⟨N, hN⟩ : ∃ N, N = nonceN H := ⟨_, rfl⟩
  have hHl : H.length = 4 := by rw [hH]; rfl
  have hNl : N.length = 12 := by rw [hN, hH]; rfl
  obtain ⟨X, hX⟩ : ∃ X, X = Sea.boxed key N H plain := ⟨_, rfl⟩
  have hXl : X.length = m + 16 := by rw [hX, Sea.boxed_length, hm]
  have hrec : recB key s plain = H ++ X := by rw [recB, hX, hN, hH]
  have hseal := fun kv nv av pv w h1 h2 h3 h4 => Seal_ok kv nv av pv key N H plain w h1 h2 h3 h4 hkl hNl (by omega) hpl
  rw [← hX] at hseal
  have hfour := fun w => lineFour_any s w (by omega)
  rw [← hH] at hfour
  have hnon := fun v w h => lineNonce_any v H w h hHl
  rw [← hN] at hnon
  rw [hrec]
  have hSP : ∀ (W : World) (kv : Value), (chanC kv ((s + 1 : Nat) : Int) t f) = [kv, .int .i64 ((s : Int) + 1), .int .i64 t, .bool (f 0), .bool (f 1), .bool (f 2), .bool (f 3), .bool (f 4), .bool (f 5), .bool (f 6), .bool (f 7)] := fun _ _ => rfl
  unfold SendPost
  unfold chanC
  obtain ⟨f0, hf0⟩ : ∃ b, b = f 0 := ⟨_, rfl⟩
  obtain ⟨f1, hf1⟩ : ∃ b, b = f 1 := ⟨_, rfl⟩
  obtain ⟨f2, hf2⟩ : ∃ b, b = f 2 := ⟨_, rfl⟩
  obtain ⟨f3, hf3⟩ : ∃ b, b = f 3 := ⟨_, rfl⟩
  obtain ⟨f4, hf4⟩ : ∃ b, b = f 4 := ⟨_, rfl⟩
  obtain ⟨f5, hf5⟩ : ∃ b, b = f 5 := ⟨_, rfl⟩
  obtain ⟨f6, hf6⟩ : ∃ b, b = f 6 := ⟨_, rfl⟩
  obtain ⟨f7, hf7⟩ : ∃ b, b = f 7 := ⟨_, rfl⟩
  rw [← hf0, ← hf1, ← hf2, ← hf3, ← hf4, ← hf5, ← hf6, ← hf7] at HCK ⊢
  have HV := Lib.hid hv
  have HP := Lib.hid hp
  have HKL := Lib.hid hkl
  have HSEAL := Lib.hid hseal
  have HFOUR := Lib.hid hfour
  have HNON := Lib.hid hnon
  have HHL := Lib.hid hHl
  have HXL := Lib.hid hXl
  have d2000 : decide ((2000 : Int) < (m : Int)) = false := by rw [decide_eq_false_iff_not]; omega
  have hsn : ((s : Int) == 1073741824) = false := by rw [beq_eq_false_iff_ne]; omega
  clear hv hp hkl hpl hm hck hH hN hHl hNl hX hXl hrec hseal hfour hnon hSP hf hf0 hf1 hf2 hf3 hf4 hf5 hf6 hf7
  go_enter Try.func15, Try.ntmps15
  go_wp2_with fail
  refine (HCK.out _).mono ?_
  rintro e w1 ⟨rfl, hb1⟩
  have x1 := (hb1.block w.heap.size (by simp; omega)).trans (heapNew0 w (.cells #[.slice (some a) 32 c, .int .i64 s, .int .i64 t, .bool f0, .bool f1, .bool f2, .bool f3, .bool f4, .bool f5, .bool f6, .bool f7] 28) _)
  have y1 := (hb1.block (w.heap.size + 1) (by simp)).trans (heapNew1 w _ (.cells #[.slice none 0 0, .int .i64 0, .int .i64 0, .bool false, .bool false, .bool false, .bool false, .bool false, .bool false, .bool false, .bool false] 28))
  have b1 := (((Below.refl w.heap.size w).alloc (Nat.le_refl _) _).alloc (by simp) _).trans (hb1.mono (by simp; omega))
  have z1 := lt_of_heap y1
  have X1 := Lib.hid x1
  have Y1 := Lib.hid y1
  have B1 := Lib.hid b1
  have c1 := cellAt x1 1 rfl
  clear hb1 x1 y1 b1
  go_wp2_with fail
  refine (HFOUR.out _).mono ?_
  rintro e w2 ⟨g, rfl, hg, hoh, hb2⟩
  have x2 := (hb2.block w.heap.size (by omega)).trans X1.out
  have X2 := Lib.hid x2
  have Y2 := Lib.hid ((hb2.block (w.heap.size + 1) z1).trans Y1.out)
  have B2 := Lib.hid (B1.out.trans (hb2.mono B1.out.size))
  have RH2 := Lib.hid hoh.rd
  have OH2 := Lib.hid hoh
  have RP2 := Lib.hid (HP.out.stay B2.out)
  have RV2 := Lib.hid (HV.out.stay B2.out)
  have k0 : w2.cell? ⟨w.heap.size, 0, none⟩ = some (.slice (some a) 32 c) := cellAt x2 0 rfl
  have s2 := hb2.size
  have G2 := Lib.hid hg
  have GL := Lib.hid (hoh.lt g rfl).2
  have L2 := Lib.hid (lt_of_heap x2)
  clear hb2 x2 hoh c1 X1 Y1
  go_wp2_with fail
  go_region_held3 (fun w' => w'.cell? ⟨w.heap.size, 0, none⟩ = some (.slice (some a) 32 c)) (first | exact k0 | assumption) (first
    | (go_at_call 19; refine (HNON.out _ _ (RH2.out.drewN 1)).mono ?_; rintro e w3 ⟨vn, rfl, hon, hb3⟩; have RN3 := Lib.hid hon.rd; have B3 := Lib.hid hb3; have k3 : w3.cell? ⟨w.heap.size, 0, none⟩ = some (.slice (some a) 32 c) := (hb3.cell (p := ⟨w.heap.size, 0, none⟩) L2.out).trans k0; clear hon hb3)
    | (go_at_call 22; refine (HSEAL.out _ _ _ _ _ ((RV2.out.drewN 1).stay B3.out) RN3.out ((RH2.out.drewN 1).stay B3.out) ((RP2.out.drewN 1).stay B3.out)).mono ?_; rintro e w4 ⟨vx, rfl, hox, hb4⟩; have OX4 := Lib.hid hox; have B4 := Lib.hid hb4; have k4 : w4.cell? ⟨w.heap.size, 0, none⟩ = some (.slice (some a) 32 c) := (hb4.cell (p := ⟨w.heap.size, 0, none⟩) (Nat.lt_of_lt_of_le L2.out B3.out.size)).trans k3; clear hox hb4))
  have B24 := Lib.hid (show Below w2.heap.size w2 w4 from (below_drewN (Below.refl w2.heap.size w2) 1).trans (B3.out.trans (B4.out.mono B3.out.size)))
  have x4 := (B24.out.block w.heap.size L2.out).trans X2.out
  have y4 := (B24.out.block (w.heap.size + 1) (lt_of_heap Y2.out)).trans Y2.out
  have hrg := range_of (cs := [.slice (some a) 32 c, .int .i64 s, .int .i64 t, .bool f0, .bool f1, .bool f2, .bool f3, .bool f4, .bool f5, .bool f6, .bool f7]) x4
  have Y4 := Lib.hid y4
  have B0 := Lib.hid (B2.out.trans (B24.out.mono B2.out.size))
  have RV4 := Lib.hid (RV2.out.stay B24.out)
  have OH4 := Lib.hid (OH2.out.below B24.out (fun k hk => (OH2.out.lt k hk).2))
  have RX4 := Lib.hid OX4.out.rd
  clear x4 y4 k0 k3 k4 RN3 B3 B4 RH2 RP2 RV2 OH2 OX4
  go_wp2_with (refine wpList_load_mid rfl 28 (.tmp 2) rfl w.heap.size 0 rfl [.slice (some a) 32 c, .int .i64 s, .int .i64 t, .bool f0, .bool f1, .bool f2, .bool f3, .bool f4, .bool f5, .bool f6, .bool f7] _ hrg Try.underlying28 rfl chanSz ?_)
  refine (own_any a c key s t f0 f1 f2 f3 f4 f5 f6 f7 _ RV4.out HKL.out).mono ?_
  rintro e w5 ⟨kv, rfl, hok, hb5⟩
  obtain ⟨kg, kcap, hkv, _, _, _, _⟩ := hok.shape (by intro h; have := HKL.out; rw [h] at this; cases this)
  rw [HKL.out] at hkv
  subst hkv
  have OK5 := Lib.hid hok
  have B5 := Lib.hid (B0.out.trans (hb5.mono B0.out.size))
  have B45 := Lib.hid hb5.size
  have Y5 := Lib.hid ((hb5.block (w.heap.size + 1) (lt_of_heap Y4.out)).trans Y4.out)
  have OH5 := Lib.hid (OH4.out.below hb5 (fun k hk => (OH4.out.lt k hk).2))
  have RX5 := Lib.hid (RX4.out.stay hb5)
  clear hok hb5 hrg RX4 OH4 Y4 RV4
  go_wp2_with fail
  obtain ⟨w6, hw6⟩ : ∃ w6, w6 = w5.alloc (.cells #[.slice (some ⟨kg, 0, none⟩) 32 kcap, .int .i64 ((s : Int) + 1), .int .i64 t, .bool f0, .bool f1, .bool f2, .bool f3, .bool f4, .bool f5, .bool f6, .bool f7] 28) := ⟨_, rfl⟩
  rw [← hw6]
  obtain ⟨b, hb⟩ : ∃ b, b = w5.heap.size := ⟨_, rfl⟩
  have hgb : g < b := by rw [hb]; exact (OH5.out.lt g rfl).2
  have hyb : w.heap.size + 1 < b := by rw [hb]; exact lt_of_heap Y5.out
  have hgw : w.heap.size + 1 < g := by have := G2.out; omega
  have x6 : w6.heap[b]? = some (.cells [.slice (some ⟨kg, 0, none⟩) 32 kcap, .int .i64 ((s : Int) + 1), .int .i64 t, .bool f0, .bool f1, .bool f2, .bool f3, .bool f4, .bool f5, .bool f6, .bool f7].toArray 28 (0, 0)) := by rw [hw6, hb]; exact heapNew w5 _
  have y6 := (show w6.heap[w.heap.size + 1]? = w5.heap[w.heap.size + 1]? by rw [hw6]; exact heapOld _ _ _ (lt_of_heap Y5.out)).trans Y5.out
  have HX6 := Lib.hid x6
  have HY6 := Lib.hid y6
  have hrg := range_of x6
  have B6 := Lib.hid (show Below w.heap.size w w6 by rw [hw6]; exact B5.out.alloc B5.out.size _)
  have OH6 := Lib.hid (show Own w6 w1.heap.size (.slice (some ⟨g, 0, none⟩) 4 4) H by rw [hw6]; exact OH5.out.alloc _)
  have RX6 := Lib.hid (show Rd w6 vx X by rw [hw6]; exact RX5.out.alloc _)
  have OK6 := Lib.hid (show Own w6 w.heap.size (.slice (some ⟨kg, 0, none⟩) 32 kcap) key by rw [hw6]; exact (OK5.out.mono B0.out.size).alloc _)
  have KG := Lib.hid (show w4.heap.size ≤ kg ∧ kg < b by rw [hb]; exact OK5.out.lt kg rfl)
  have HG4 := Lib.hid (show g < w4.heap.size from Nat.lt_of_lt_of_le (GL.out) B24.out.size)
  have GNB := Lib.hid (show g ≠ b by omega)
  have GNY := Lib.hid (show g ≠ w.heap.size + 1 by omega)
  have hlenX : H.length + X.length ≤ 140737488355328 := by rw [HHL.out, HXL.out]; omega
  have HLX := Lib.hid hlenX
  have HS1 := Lib.hid (show w1.heap.size ≤ w6.heap.size from Nat.le_trans s2 (Nat.le_trans B24.out.size (by rw [hw6]; simp; have := B45.out; omega)))
  have hs1x : w1.heap.size ≤ w6.heap.size := Nat.le_trans s2 (Nat.le_trans B24.out.size (by rw [hw6]; simp; have := B45.out; omega))
  have hS6 : w6.cell? ⟨b, 0, none⟩ = some (.slice (some ⟨kg, 0, none⟩) 32 kcap) ∧ w6.cell? ⟨b, 1, none⟩ = some (.int .i64 ((s : Int) + 1)) ∧ w6.cell? ⟨b, 2, none⟩ = some (.int .i64 t) ∧ w6.cell? ⟨b, 3, none⟩ = some (.bool f0) ∧ w6.cell? ⟨b, 4, none⟩ = some (.bool f1) ∧ w6.cell? ⟨b, 5, none⟩ = some (.bool f2) ∧ w6.cell? ⟨b, 6, none⟩ = some (.bool f3) ∧ w6.cell? ⟨b, 7, none⟩ = some (.bool f4) ∧ w6.cell? ⟨b, 8, none⟩ = some (.bool f5) ∧ w6.cell? ⟨b, 9, none⟩ = some (.bool f6) ∧ w6.cell? ⟨b, 10, none⟩ = some (.bool f7) := ⟨cellAt x6 0 rfl, cellAt x6 1 rfl, cellAt x6 2 rfl, cellAt x6 3 rfl, cellAt x6 4 rfl, cellAt x6 5 rfl, cellAt x6 6 rfl, cellAt x6 7 rfl, cellAt x6 8 rfl, cellAt x6 9 rfl, cellAt x6 10 rfl⟩
  have hS6d : w6.drew.cell? ⟨b, 0, none⟩ = some (.slice (some ⟨kg, 0, none⟩) 32 kcap) ∧ w6.drew.cell? ⟨b, 1, none⟩ = some (.int .i64 ((s : Int) + 1)) ∧ w6.drew.cell? ⟨b, 2, none⟩ = some (.int .i64 t) ∧ w6.drew.cell? ⟨b, 3, none⟩ = some (.bool f0) ∧ w6.drew.cell? ⟨b, 4, none⟩ = some (.bool f1) ∧ w6.drew.cell? ⟨b, 5, none⟩ = some (.bool f2) ∧ w6.drew.cell? ⟨b, 6, none⟩ = some (.bool f3) ∧ w6.drew.cell? ⟨b, 7, none⟩ = some (.bool f4) ∧ w6.drew.cell? ⟨b, 8, none⟩ = some (.bool f5) ∧ w6.drew.cell? ⟨b, 9, none⟩ = some (.bool f6) ∧ w6.drew.cell? ⟨b, 10, none⟩ = some (.bool f7) := hS6
  have hcb : w.heap.size + 1 ≠ b := by omega
  rw [← hb]
  clear hlenX hs1x x6 y6 hw6 hb Y5 OH5 RX5 OK5 B5
  go_region_held3 (fun w' => w'.cell? ⟨b, 0, none⟩ = some (.slice (some ⟨kg, 0, none⟩) 32 kcap) ∧ w'.cell? ⟨b, 1, none⟩ = some (.int .i64 ((s : Int) + 1)) ∧ w'.cell? ⟨b, 2, none⟩ = some (.int .i64 t) ∧ w'.cell? ⟨b, 3, none⟩ = some (.bool f0) ∧ w'.cell? ⟨b, 4, none⟩ = some (.bool f1) ∧ w'.cell? ⟨b, 5, none⟩ = some (.bool f2) ∧ w'.cell? ⟨b, 6, none⟩ = some (.bool f3) ∧ w'.cell? ⟨b, 7, none⟩ = some (.bool f4) ∧ w'.cell? ⟨b, 8, none⟩ = some (.bool f5) ∧ w'.cell? ⟨b, 9, none⟩ = some (.bool f6) ∧ w'.cell? ⟨b, 10, none⟩ = some (.bool f7)) (first | with_reducible exact hS6 | with_reducible exact hS6d | with_reducible exact hS7 | with_reducible exact keep11 hcb hS7 | with_reducible assumption) (first
    | (refine step_apB rfl (.tmp 49) (.tmp 50) rfl w1.heap.size _ _ H X rfl (OH6.out.drewN 1) rfl (RX6.out.drewN 1) HLX.out HS1.out ?_; intro v7 w7 ho7 hg7; have O7 := Lib.hid ho7; have G7 := Lib.hid hg7; have x7 := grown_other hg7 rfl GNB.out HX6.out; have y7 := grown_other hg7 rfl GNY.out HY6.out; have hS7 : w7.cell? ⟨b, 0, none⟩ = some (.slice (some ⟨kg, 0, none⟩) 32 kcap) ∧ w7.cell? ⟨b, 1, none⟩ = some (.int .i64 ((s : Int) + 1)) ∧ w7.cell? ⟨b, 2, none⟩ = some (.int .i64 t) ∧ w7.cell? ⟨b, 3, none⟩ = some (.bool f0) ∧ w7.cell? ⟨b, 4, none⟩ = some (.bool f1) ∧ w7.cell? ⟨b, 5, none⟩ = some (.bool f2) ∧ w7.cell? ⟨b, 6, none⟩ = some (.bool f3) ∧ w7.cell? ⟨b, 7, none⟩ = some (.bool f4) ∧ w7.cell? ⟨b, 8, none⟩ = some (.bool f5) ∧ w7.cell? ⟨b, 9, none⟩ = some (.bool f6) ∧ w7.cell? ⟨b, 10, none⟩ = some (.bool f7) := ⟨cellAt x7 0 rfl, cellAt x7 1 rfl, cellAt x7 2 rfl, cellAt x7 3 rfl, cellAt x7 4 rfl, cellAt x7 5 rfl, cellAt x7 6 rfl, cellAt x7 7 rfl, cellAt x7 8 rfl, cellAt x7 9 rfl, cellAt x7 10 rfl⟩; have z20 := cellAt y7 0 rfl; have z21 := cellAt y7 1 rfl; have z22 := cellAt y7 2 rfl; have z23 := cellAt y7 3 rfl; have z24 := cellAt y7 4 rfl; have z25 := cellAt y7 5 rfl; have z26 := cellAt y7 6 rfl; have z27 := cellAt y7 7 rfl; have z28 := cellAt y7 8 rfl; have z29 := cellAt y7 9 rfl; have z30 := cellAt y7 10 rfl; have zf := freeAt y7; have Y7 := Lib.hid y7; clear ho7 hg7 x7 y7))
  clear hS6 hS6d hS7 z20 z21 z22 z23 z24 z25 z26 z27 z28 z29 z30 zf
  go_wp2_with fail
  have hst := storedRow (vs := [.slice (some ⟨kg, 0, none⟩) 32 kcap, .int .i64 ((s : Int) + 1), .int .i64 t, .bool f0, .bool f1, .bool f2, .bool f3, .bool f4, .bool f5, .bool f6, .bool f7]) Y7.out rfl
  have hl := run_loadVar_mid (P := Try.prog) _ (w.heap.size + 1) 0 28 _ _ (range_of hst) Try.underlying28 rfl chanSz
  have hB : Below w.heap.size w (w7.setCells (w.heap.size + 1) 0 [.slice (some ⟨kg, 0, none⟩) 32 kcap, .int .i64 ((s : Int) + 1), .int .i64 t, .bool f0, .bool f1, .bool f2, .bool f3, .bool f4, .bool f5, .bool f6, .bool f7]) := below_setCells (by omega) _ _ _ ((below_drewN B6.out 1).grown G7.out B6.out.size (fun k hk => by have e : g = k := Option.some.inj hk; omega))
  have hK : Own (w7.setCells (w.heap.size + 1) 0 [.slice (some ⟨kg, 0, none⟩) 32 kcap, .int .i64 ((s : Int) + 1), .int .i64 t, .bool f0, .bool f1, .bool f2, .bool f3, .bool f4, .bool f5, .bool f6, .bool f7]) w.heap.size (.slice (some ⟨kg, 0, none⟩) 32 kcap) key :=
    ((OK6.out.drewN 1).kept G7.out (fun k hk e => by have e1 : g = k := Option.some.inj hk; have e2 : kg = k := Option.some.inj e; have := KG.out; have := HG4.out; omega)).ofHeap (fun k hk => heap_setCells_ne (by have e2 : kg = k := Option.some.inj hk; have := KG.out; have := HG4.out; omega) _ _ _)
  have hR : Own (w7.setCells (w.heap.size + 1) 0 [.slice (some ⟨kg, 0, none⟩) 32 kcap, .int .i64 ((s : Int) + 1), .int .i64 t, .bool f0, .bool f1, .bool f2, .bool f3, .bool f4, .bool f5, .bool f6, .bool f7]) w.heap.size v7 (H ++ X) :=
    (O7.out.ofHeap (fun k hk => heap_setCells_ne (by have := (O7.out.lt k hk).1; omega) _ _ _)).mono (by omega)
  exact bodyPost_ret (v := .tuple #[.agg #[.slice (some ⟨kg, 0, none⟩) 32 kcap, .int .i64 ((s : Int) + 1), .int .i64 t, .bool f0, .bool f1, .bool f2, .bool f3, .bool f4, .bool f5, .bool f6, .bool f7], v7, .int .i64 0]) (results_ctt Try.results15 rfl hl) rfl ⟨_, _, rfl, hK, hR, hB⟩
end Go.Proofs.Ytoekopdogfnkhaa
