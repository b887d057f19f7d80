/-
  The walks of curve's read and write.
-/
import Derived.Test.YthoganfinpfibaaFdu
import Derived.Test.YthoganfinpfibaaBy2
set_option linter.unusedVariables false
set_option linter.unusedSimpArgs false
namespace Go.Con.Cv
/-- so many limbs were read -/
structure Rd16 (l : List UInt8) (p : List Int) (k : Nat) : Prop where
  len : p.length = 16
  at' : ∀ j, j < k → at0 p j = limb l j
theorem limb_lt (l : List UInt8) (j : Nat) : 0 ≤ limb l j ∧ limb l j < 65536 := by
  have h2 := (l.getD (2 * j) 0).toNat_lt
  have h3 := (l.getD (2 * j + 1) 0).toNat_lt
  unfold limb; omega
theorem Rd16.step {l : List UInt8} {p : List Int} {k : Nat} (hk : k < 16) (h : Rd16 l p k) : Rd16 l (p.set k (limb l k)) (k + 1) := by
  refine ⟨by simp [h.len], fun j hj => ?_⟩
  rw [at_set _ _ _ _ (by rw [h.len]; omega)]
  by_cases hkj : k = j
  · subst hkj; rw [if_pos rfl]
  · rw [if_neg hkj]; exact h.at' j (by omega)
theorem Rd16.last {l : List UInt8} {p : List Int} (h : Rd16 l p 16) : p.set 15 (limb l 15 % 32768) = rd l := by
  apply List.ext_getElem
  · simp [h.len, rd]
  · intro j h1 h2
    have hj : j < 16 := by simpa [rd] using h2
    have hjp : j < p.length := by rw [h.len]; exact hj
    have e : p[j] = limb l j := by
      have := h.at' j hj
      simpa [at0, hjp] using this
    rw [List.getElem_set]
    by_cases h15 : 15 = j
    · subst h15; simp [rd]
    · have : ¬ j = 15 := fun e => h15 e.symm
      simp [rd, h15, this, e]
end Go.Con.Cv
namespace Go.Proofs.Ythoganfinpfibaa
open Go.RowKit Go.Con
theorem alloc2Q' {w w0 : World} {A B : Obj} (h : (w.alloc A).alloc B = w0) : w0.heap[w.heap.size]? = some A ∧ w0.heap[w.heap.size + 1]? = some B ∧ Below w.heap.size w w0 := by
  subst h
  exact ⟨heapNew0 w A B, heapNew1 w A B, ((Below.refl _ _).alloc (Nat.le_refl _) _).alloc (by simp) _⟩
set_option maxRecDepth 100000 in
set_option maxHeartbeats 4000000 in
theorem read_any (b off c : Nat) (l : List UInt8) (w : World) (hl : l.length = 32) (hR : Rd w (.slice (some ⟨b, off, none⟩) 32 c) l) :
    Calls Try.prog 18 #[.slice (some ⟨b, off, none⟩) 32 c] w
      fun e w' => e = .returned (.agg ((Cv.rd l).map i64v).toArray) ∧ Below w.heap.size w w' := by
  have hcell : ∀ W, Below w.heap.size w W → ∀ i, i < 32 → W.cell? ⟨b, off + i, none⟩ = some (.int .u8 (l.getD i 0).toNat) := by
    intro W hW i hi
    obtain ⟨a', c', e, _, _, _, h⟩ := hR.stay hW
    obtain ⟨b', o', e4, h2⟩ := h (by intro h; rw [h] at hl; cases hl)
    injection e with e1 e2 e3
    subst e1
    injection e4 with e4
    injection e4 with e5 e6
    subst e5 e6
    exact h2 i (by rw [hl]; exact hi)
  have HC := Lib.hid hcell
  clear hcell hl hR
  go_enter Try.func18, Try.ntmps18
  go_wp2_with fail
  generalize hW : World.alloc _ _ = w0
  have G := alloc2Q' hW
  have LR := Lib.hid (show Rom w0 w.heap.size 16 39 from ⟨_, G.1, rfl⟩)
  have LX := Lib.hid (show Lim w0 (w.heap.size + 1) 39 (List.replicate 16 0) from G.2.1)
  have LB := Lib.hid G.2.2
  clear hW G
  go_loopw [5] (fun i wr => ∃ (k : Nat) (p : List Int), k ≤ 16 ∧ i = .int .i64 k ∧ Hid (Cv.Rd16 l p k) ∧ Hid (Lim wr (w.heap.size + 1) 39 p) ∧ Hid (Rom wr w.heap.size 16 39) ∧ Hid (Below w.heap.size w wr)) (fun i _ => 16 - (intOf i).toNat)
  case atStart => exact ⟨0, _, by omega, rfl, Lib.hid ⟨by simp, fun j hj => by omega⟩, LX, LR, LB⟩
  case round =>
    clear LX LR LB
    obtain ⟨k, p, hk, rfl, HP, HX, HR, HB⟩ := hrel
    by_cases hlt : k < 16
    · have hd0 : decide ((k : Int) < 16) = true := by rw [decide_eq_true_eq]; omega
      obtain ⟨x, hx⟩ : ∃ x, x = l.getD (2 * k) 0 := ⟨_, rfl⟩
      obtain ⟨y, hy⟩ : ∃ y, y = l.getD (2 * k + 1) 0 := ⟨_, rfl⟩
      have c1 := HC.out _ HB.out (2 * k) (by omega)
      have c2 := HC.out _ HB.out (2 * k + 1) (by omega)
      rw [← hx] at c1
      rw [← hy] at c2
      have hst : Cv.limb l k = (x.toNat : Int) + 256 * (y.toNat : Int) := by rw [Cv.limb, hx, hy]
      have st := HP.out.step hlt
      rw [hst, ← or_two x.toNat y.toNat x.toNat_lt y.toNat_lt] at st
      have hx3 := HX.out.cell k (by rw [HP.out.len]; exact hlt)
      have f3 := freeAt HX.out k
      have hxl := x.toNat_lt
      have hyl := y.toNat_lt
      have ST := Lib.hid st
      clear hx hy hst st
      go_wp2_with fail
      refine region_quiet_tail 17 (by kernel_rfl) (by kernel_rfl) ?_
      simp only [List.take_succ_cons, List.take_zero, List.drop_succ_cons, List.drop_zero]
      repeat (go_big_quiet_step (fail))
      refine wpQuiet_nil ?_
      intro w9 hw9
      obtain ⟨nq, rfl⟩ := hw9
      go_wp2_with fail
      go_roundw
      case rel => exact ⟨k + 1, _, by omega, by go_num, ST, Lib.hid (Lim.set (w := wr.drewN nq) HX.out k _), Lib.hid (Rom.other (w := wr.drewN nq) HR.out _ _ _ (by omega)), Lib.hid ((below_drewN HB.out nq).setCell (by show w.heap.size ≤ w.heap.size + 1; omega) _)⟩
      case measure => simp [intOf]; omega
    · have hd0 : decide ((k : Int) < 16) = false := by rw [decide_eq_false_iff_not]; omega
      have hk16 : k = 16 := by omega
      rw [hk16] at HP
      have c1 := HX.out.cell 15 (by rw [HP.out.len]; omega)
      rw [HP.out.at' 15 (by omega)] at c1
      have f1 := freeAt HX.out 15
      have hm := Cv.limb_lt l 15
      obtain ⟨x, hx⟩ : ∃ x, x = Cv.limb l 15 := ⟨_, rfl⟩
      rw [← hx] at c1 hm
      have hlast := HP.out.last
      rw [← hx, ← mask15] at hlast
      have HLAST := Lib.hid hlast
      have HN := Lib.hid (Cv.rd_norm l)
      have hse : ∀ (W : World), Lim W (w.heap.size + 1) 39 p → Lim (W.setCell ⟨w.heap.size + 1, 15, none⟩ (.int .i64 (bits .and .i64 x 32767))) (w.heap.size + 1) 39 (Cv.rd l) := fun W h => by rw [← hlast]; exact Lim.set h 15 _
      have hset := hse wr HX.out
      have hrg := range_of hset
      have HSET := Lib.hid hset
      have hrom := Rom.other HR.out (w.heap.size + 1) 15 (.int .i64 (bits .and .i64 x 32767)) (by omega)
      have HROM := Lib.hid hrom
      have HBW := Lib.hid (HB.out.setCell (p := ⟨w.heap.size + 1, 15, none⟩) (by show w.heap.size ≤ w.heap.size + 1; omega) (.int .i64 (bits .and .i64 x 32767)))
      clear hk16 hx hm hlast hse hset hrom
      go_wp2_with (first
        | (refine wpList_load_mid rfl 39 (.tmp 3) rfl (w.heap.size + 1) 0 rfl ((Cv.rd l).map i64v) _ hrg Try.underlying39 rfl (szOf HN.out.1) ?_)
        | (refine wpList_store_mid rfl 39 (.tmp 2) (.tmp 30) rfl w.heap.size 0 ((Cv.rd l).map i64v).toArray rfl rfl (thOf HN.out.1 HROM.out) (szOf2 HN.out.1) (limOne _) ?_))
      generalize hW9 : World.setCells _ _ _ _ = w9
      have hb9 : Below w.heap.size w w9 := by rw [← hW9]; exact below_setCells (Nat.le_refl _) _ _ _ HBW.out
      have hf9 : Lim w9 w.heap.size 39 (Cv.rd l) := by rw [← hW9]; exact Lim.stored (by rw [HN.out.1]; exact HROM.out)
      have hl9 := run_loadVar_mid (P := Try.prog) w9 w.heap.size 0 39 ((Cv.rd l).map i64v) _ (range_of hf9) Try.underlying39 rfl (szOf HN.out.1)
      exact bodyPost_ret (v := .agg ((Cv.rd l).map i64v).toArray) (results_c Try.results18 rfl hl9) rfl ⟨rfl, hb9⟩
end Go.Proofs.Ythoganfinpfibaa
