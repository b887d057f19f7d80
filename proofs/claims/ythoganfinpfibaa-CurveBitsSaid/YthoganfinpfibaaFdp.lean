/-
  The walks of curve's plus and minus.
-/
import Derived.Test.YthoganfinpfibaaFdc
set_option linter.unusedVariables false
set_option linter.unusedSimpArgs false
namespace Go.Con
open Go Go.RowKit
/-- a block with room for limbs -/
def Rom (w : World) (b n : Nat) (t : TypeId) : Prop := ∃ cur : Array Value, w.heap[b]? = some (.cells cur t (0, 0)) ∧ cur.size = n
theorem Rom.stay {w w' : World} {b n : Nat} {t : TypeId} (h : Rom w b n t) (hb : Below w.heap.size w w') : Rom w' b n t := by
  obtain ⟨cur, h1, h2⟩ := h
  exact ⟨cur, (hb.block b (lt_of_heap h1)).trans h1, h2⟩
theorem Rom.kept {w w' : World} {b n B : Nat} {t : TypeId} {S : Nat → Prop} (h : Rom w b n t) (hk : Kept B S w w') (hb : b < B) (hs : ¬ S b) : Rom w' b n t := by
  obtain ⟨cur, h1, h2⟩ := h
  exact ⟨cur, (hk.block b hb hs).trans h1, h2⟩
theorem Rom.other {w : World} {b n : Nat} {t : TypeId} (h : Rom w b n t) (b' k : Nat) (v : Value) (hb : b ≠ b') : Rom (w.setCell ⟨b', k, none⟩ v) b n t := by
  obtain ⟨cur, h1, h2⟩ := h
  exact ⟨cur, (heapSet_ne k v hb).trans h1, h2⟩
theorem Lim.stored {w : World} {b : Nat} {t : TypeId} {s : List Int} (h : Rom w b s.length t) : Lim (w.setCells b 0 (s.map i64v)) b t s := by
  obtain ⟨cur, h1, h2⟩ := h
  exact storedRow h1 (by simpa using h2)
theorem Rom.there {w : World} {b n : Nat} {t : TypeId} (h : Rom w b n t) : w.there b 0 n := by
  obtain ⟨cur, h1, h2⟩ := h
  exact there_of h1 h2
theorem Lim.rom {w : World} {b : Nat} {t : TypeId} {s : List Int} (h : Lim w b t s) : Rom w b s.length t := ⟨_, h, by simp⟩
theorem limOne (s : List Int) : (s.map i64v).toArray.all (·.oneCell') = true := all_oneCell_toArray (by intro v hv; obtain ⟨x, _, rfl⟩ := List.mem_map.1 hv; rfl)
theorem alloc3L {w w0 : World} {A B C : Obj} (h : ((w.alloc A).alloc B).alloc C = w0) : w0.heap[w.heap.size]? = some A ∧ w0.heap[w.heap.size + 1]? = some B ∧ w0.heap[w.heap.size + 1 + 1]? = some C ∧ Below w.heap.size w w0 := by
  subst h
  have e : ((w.alloc A).alloc B).heap.size = w.heap.size + 1 + 1 := by simp
  refine ⟨(heapOld _ _ _ (by simp; omega)).trans (heapNew0 w A B), (heapOld _ _ _ (by simp)).trans (heapNew1 w A B), ?_, (((Below.refl _ _).alloc (Nat.le_refl _) _).alloc (by simp) _).alloc (by simp; omega) _⟩
  rw [← e]; exact heapNew _ _
end Go.Con
namespace Go.Proofs.Ythoganfinpfibaa
open Go.RowKit Go.Con
theorem fldSz : (Try.prog.info? 39).map (fun x => x.size) = some 16 := by kernel_rfl
/-- limb by limb -/
structure Zip (op : Int → Int → Int) (xs ys p : List Int) (k : Nat) : Prop where
  len : p.length = 16
  at' : ∀ j, j < 16 → Cv.at0 p j = if j < k then op (Cv.at0 xs j) (Cv.at0 ys j) else Cv.at0 xs j
theorem Zip.step {op : Int → Int → Int} {xs ys p : List Int} {k : Nat} (hk : k < 16) (h : Zip op xs ys p k) : Zip op xs ys (p.set k (op (Cv.at0 p k) (Cv.at0 ys k))) (k + 1) := by
  refine ⟨by simp [h.len], fun j hj => ?_⟩
  have e := h.at' k hk
  rw [if_neg (by omega)] at e
  rw [Cv.at_set _ _ _ _ (by rw [h.len]; omega), e]
  by_cases hkj : k = j
  · subst hkj; rw [if_pos rfl, if_pos (by omega)]
  · rw [if_neg hkj, h.at' j hj]
    by_cases hjk : j < k
    · rw [if_pos hjk, if_pos (by omega)]
    · rw [if_neg hjk, if_neg (by omega)]

set_option maxRecDepth 100000 in
set_option maxHeartbeats 2000000 in
theorem plus_any (xs ys : List Int) (w : World) (hx : xs.length = 16) (hy : ys.length = 16)
    (hxb : ∀ j, -1000000000 ≤ Cv.at0 xs j ∧ Cv.at0 xs j ≤ 1000000000) (hyb : ∀ j, -1000000000 ≤ Cv.at0 ys j ∧ Cv.at0 ys j ≤ 1000000000) :
    Calls Try.prog 20 #[.agg (xs.map i64v).toArray, .agg (ys.map i64v).toArray] w
      fun e w' => (∃ zs, e = .returned (.agg (zs.map i64v).toArray) ∧ Zip (fun a b => a + b) xs ys zs 16) ∧ Below w.heap.size w w' := by
  obtain ⟨X, hX⟩ : ∃ X, X = (xs.map i64v).toArray := ⟨_, rfl⟩
  obtain ⟨Y, hY⟩ : ∃ Y, Y = (ys.map i64v).toArray := ⟨_, rfl⟩
  rw [← hX, ← hY]
  have HX := Lib.hid hX
  have HY := Lib.hid hY
  have HXL := Lib.hid hx
  have HYL := Lib.hid hy
  have HXB := Lib.hid hxb
  have HYB := Lib.hid hyb
  clear hX hY hx hy hxb hyb
  go_enter Try.func20, Try.ntmps20
  go_wp2_with fail
  generalize hW : World.alloc _ _ = w0
  have G := alloc3L hW
  have LX := Lib.hid (show Lim w0 w.heap.size 39 xs by rw [Lim, ← HX.out]; exact G.1)
  have LY := Lib.hid (show Lim w0 (w.heap.size + 1) 39 ys by rw [Lim, ← HY.out]; exact G.2.1)
  have LR := Lib.hid (show Rom w0 (w.heap.size + 1 + 1) 16 39 from ⟨_, G.2.2.1, rfl⟩)
  have LB := Lib.hid G.2.2.2
  clear hW G
  go_loopw [6] (fun i wr => ∃ (k : Nat) (p : List Int), k ≤ 16 ∧ i = .int .i64 k ∧ Hid (Zip (fun a b => a + b) xs ys p k) ∧ Hid (Lim wr w.heap.size 39 p) ∧ Hid (Lim wr (w.heap.size + 1) 39 ys) ∧ Hid (Rom wr (w.heap.size + 1 + 1) 16 39) ∧ Hid (Below w.heap.size w wr)) (fun i _ => 16 - (intOf i).toNat)
  case atStart => exact ⟨0, xs, by omega, rfl, Lib.hid ⟨HXL.out, fun j _ => by rw [if_neg (by omega)]⟩, LX, LY, LR, LB⟩
  case round =>
    obtain ⟨k, p, hk, rfl, HZ, HP, HQ, HR, HB⟩ := hrel
    by_cases hlt : k < 16
    · have hd0 : decide ((k : Int) < 16) = true := by rw [decide_eq_true_eq]; omega
      obtain ⟨x, hx⟩ : ∃ x, x = Cv.at0 p k := ⟨_, rfl⟩
      obtain ⟨y, hy⟩ : ∃ y, y = Cv.at0 ys k := ⟨_, rfl⟩
      have hxy : (-1000000000 ≤ x ∧ x ≤ 1000000000) ∧ (-1000000000 ≤ y ∧ y ≤ 1000000000) := by
        rw [hx, hy, HZ.out.at' k hlt, if_neg (by omega)]
        exact ⟨HXB.out k, HYB.out k⟩
      obtain ⟨⟨hx1, hx2⟩, hy1, hy2⟩ := hxy
      have c1 := HP.out.cell k (by rw [HZ.out.len]; exact hlt)
      have f1 := freeAt HP.out k
      have c2 := HQ.out.cell k (by rw [HYL.out]; exact hlt)
      rw [← hx] at c1
      rw [← hy] at c2
      have st := HZ.out.step hlt
      rw [← hx, ← hy] at st
      have ST := Lib.hid st
      clear hx hy st
      go_wp2_with fail
      refine region_quiet_tail 8 (by kernel_rfl) (by kernel_rfl) ?_
      simp only [List.take_succ_cons, List.take_zero, List.drop_succ_cons, List.drop_zero]
      repeat (go_big_quiet_step (fail))
      refine wpQuiet_nil ?_
      intro w9 hw9
      obtain ⟨nq, rfl⟩ := hw9
      go_wp2_with fail
      go_roundw
      case rel =>
        refine ⟨k + 1, _, by omega, by go_num, ST, Lib.hid ?_, Lib.hid ?_, Lib.hid ?_, Lib.hid ?_⟩
        · exact Lim.set (w := wr.drewN nq) HP.out k _
        · exact Lim.other (w := wr.drewN nq) HQ.out w.heap.size k _ (by omega)
        · exact Rom.other (w := wr.drewN nq) HR.out w.heap.size k _ (by omega)
        · exact (below_drewN HB.out nq).setCell (Nat.le_refl _) _
      case measure => simp [intOf]; omega
    · have hd0 : decide ((k : Int) < 16) = false := by rw [decide_eq_false_iff_not]; omega
      have hk16 : k = 16 := by omega
      rw [hk16] at HZ
      have hrg := range_of HP.out
      have hpl := HZ.out.len
      have hsz : (Try.prog.info? 39).map (fun x => x.size) = some (p.map i64v).length := by rw [List.length_map, hpl]; exact fldSz
      have hsz2 : (Try.prog.info? 39).map (fun x => x.size) = some (p.map i64v).toArray.size := by rw [List.size_toArray]; exact hsz
      have hth : wr.there (w.heap.size + 1 + 1) 0 (p.map i64v).toArray.size := by rw [show (p.map i64v).toArray.size = 16 by simp [hpl]]; exact HR.out.there
      have SZ := Lib.hid hsz
      have SZ2 := Lib.hid hsz2
      have TH := Lib.hid hth
      have PL := Lib.hid hpl
      clear hk16 hpl hsz hsz2 hth
      go_wp2_with (first
        | (refine wpList_load_mid rfl 39 (.tmp 2) rfl w.heap.size 0 rfl (p.map i64v) _ hrg Try.underlying39 rfl SZ.out ?_)
        | (refine wpList_store_mid rfl 39 (.tmp 4) (.tmp 18) rfl (w.heap.size + 1 + 1) 0 (p.map i64v).toArray rfl rfl TH.out SZ2.out (limOne p) ?_))
      generalize hW9 : World.setCells _ _ _ _ = w9
      have hb9 : Below w.heap.size w w9 := by rw [← hW9]; exact below_setCells (by omega) _ _ _ HB.out
      have hf9 : Lim w9 (w.heap.size + 1 + 1) 39 p := by rw [← hW9]; exact Lim.stored (by rw [PL.out]; exact HR.out)
      have hl9 := run_loadVar_mid (P := Try.prog) w9 (w.heap.size + 1 + 1) 0 39 (p.map i64v) _ (range_of hf9) Try.underlying39 rfl SZ.out
      exact bodyPost_ret (v := .agg (p.map i64v).toArray) (results_c Try.results20 rfl hl9) rfl ⟨⟨p, rfl, HZ.out⟩, hb9⟩

set_option maxRecDepth 100000 in
set_option maxHeartbeats 2000000 in
theorem minus_any (xs ys : List Int) (w : World) (hx : xs.length = 16) (hy : ys.length = 16)
    (hxb : ∀ j, -1000000000 ≤ Cv.at0 xs j ∧ Cv.at0 xs j ≤ 1000000000) (hyb : ∀ j, -1000000000 ≤ Cv.at0 ys j ∧ Cv.at0 ys j ≤ 1000000000) :
    Calls Try.prog 21 #[.agg (xs.map i64v).toArray, .agg (ys.map i64v).toArray] w
      fun e w' => (∃ zs, e = .returned (.agg (zs.map i64v).toArray) ∧ Zip (fun a b => a - b) xs ys zs 16) ∧ Below w.heap.size w w' := by
  obtain ⟨X, hX⟩ : ∃ X, X = (xs.map i64v).toArray := ⟨_, rfl⟩
  obtain ⟨Y, hY⟩ : ∃ Y, Y = (ys.map i64v).toArray := ⟨_, rfl⟩
  rw [← hX, ← hY]
  have HX := Lib.hid hX
  have HY := Lib.hid hY
  have HXL := Lib.hid hx
  have HYL := Lib.hid hy
  have HXB := Lib.hid hxb
  have HYB := Lib.hid hyb
  clear hX hY hx hy hxb hyb
  go_enter Try.func21, Try.ntmps21
  go_wp2_with fail
  generalize hW : World.alloc _ _ = w0
  have G := alloc3L hW
  have LX := Lib.hid (show Lim w0 w.heap.size 39 xs by rw [Lim, ← HX.out]; exact G.1)
  have LY := Lib.hid (show Lim w0 (w.heap.size + 1) 39 ys by rw [Lim, ← HY.out]; exact G.2.1)
  have LR := Lib.hid (show Rom w0 (w.heap.size + 1 + 1) 16 39 from ⟨_, G.2.2.1, rfl⟩)
  have LB := Lib.hid G.2.2.2
  clear hW G
  go_loopw [6] (fun i wr => ∃ (k : Nat) (p : List Int), k ≤ 16 ∧ i = .int .i64 k ∧ Hid (Zip (fun a b => a - b) xs ys p k) ∧ Hid (Lim wr w.heap.size 39 p) ∧ Hid (Lim wr (w.heap.size + 1) 39 ys) ∧ Hid (Rom wr (w.heap.size + 1 + 1) 16 39) ∧ Hid (Below w.heap.size w wr)) (fun i _ => 16 - (intOf i).toNat)
  case atStart => exact ⟨0, xs, by omega, rfl, Lib.hid ⟨HXL.out, fun j _ => by rw [if_neg (by omega)]⟩, LX, LY, LR, LB⟩
  case round =>
    obtain ⟨k, p, hk, rfl, HZ, HP, HQ, HR, HB⟩ := hrel
    by_cases hlt : k < 16
    · have hd0 : decide ((k : Int) < 16) = true := by rw [decide_eq_true_eq]; omega
      obtain ⟨x, hx⟩ : ∃ x, x = Cv.at0 p k := ⟨_, rfl⟩
      obtain ⟨y, hy⟩ : ∃ y, y = Cv.at0 ys k := ⟨_, rfl⟩
      have hxy : (-1000000000 ≤ x ∧ x ≤ 1000000000) ∧ (-1000000000 ≤ y ∧ y ≤ 1000000000) := by
        rw [hx, hy, HZ.out.at' k hlt, if_neg (by omega)]
        exact ⟨HXB.out k, HYB.out k⟩
      obtain ⟨⟨hx1, hx2⟩, hy1, hy2⟩ := hxy
      have c1 := HP.out.cell k (by rw [HZ.out.len]; exact hlt)
      have f1 := freeAt HP.out k
      have c2 := HQ.out.cell k (by rw [HYL.out]; exact hlt)
      rw [← hx] at c1
      rw [← hy] at c2
      have st := HZ.out.step hlt
      rw [← hx, ← hy] at st
      have ST := Lib.hid st
      clear hx hy st
      go_wp2_with fail
      refine region_quiet_tail 8 (by kernel_rfl) (by kernel_rfl) ?_
      simp only [List.take_succ_cons, List.take_zero, List.drop_succ_cons, List.drop_zero]
      repeat (go_big_quiet_step (fail))
      refine wpQuiet_nil ?_
      intro w9 hw9
      obtain ⟨nq, rfl⟩ := hw9
      go_wp2_with fail
      go_roundw
      case rel =>
        refine ⟨k + 1, _, by omega, by go_num, ST, Lib.hid ?_, Lib.hid ?_, Lib.hid ?_, Lib.hid ?_⟩
        · exact Lim.set (w := wr.drewN nq) HP.out k _
        · exact Lim.other (w := wr.drewN nq) HQ.out w.heap.size k _ (by omega)
        · exact Rom.other (w := wr.drewN nq) HR.out w.heap.size k _ (by omega)
        · exact (below_drewN HB.out nq).setCell (Nat.le_refl _) _
      case measure => simp [intOf]; omega
    · have hd0 : decide ((k : Int) < 16) = false := by rw [decide_eq_false_iff_not]; omega
      have hk16 : k = 16 := by omega
      rw [hk16] at HZ
      have hrg := range_of HP.out
      have hpl := HZ.out.len
      have hsz : (Try.prog.info? 39).map (fun x => x.size) = some (p.map i64v).length := by rw [List.length_map, hpl]; exact fldSz
      have hsz2 : (Try.prog.info? 39).map (fun x => x.size) = some (p.map i64v).toArray.size := by rw [List.size_toArray]; exact hsz
      have hth : wr.there (w.heap.size + 1 + 1) 0 (p.map i64v).toArray.size := by rw [show (p.map i64v).toArray.size = 16 by simp [hpl]]; exact HR.out.there
      have SZ := Lib.hid hsz
      have SZ2 := Lib.hid hsz2
      have TH := Lib.hid hth
      have PL := Lib.hid hpl
      clear hk16 hpl hsz hsz2 hth
      go_wp2_with (first
        | (refine wpList_load_mid rfl 39 (.tmp 2) rfl w.heap.size 0 rfl (p.map i64v) _ hrg Try.underlying39 rfl SZ.out ?_)
        | (refine wpList_store_mid rfl 39 (.tmp 4) (.tmp 18) rfl (w.heap.size + 1 + 1) 0 (p.map i64v).toArray rfl rfl TH.out SZ2.out (limOne p) ?_))
      generalize hW9 : World.setCells _ _ _ _ = w9
      have hb9 : Below w.heap.size w w9 := by rw [← hW9]; exact below_setCells (by omega) _ _ _ HB.out
      have hf9 : Lim w9 (w.heap.size + 1 + 1) 39 p := by rw [← hW9]; exact Lim.stored (by rw [PL.out]; exact HR.out)
      have hl9 := run_loadVar_mid (P := Try.prog) w9 (w.heap.size + 1 + 1) 0 39 (p.map i64v) _ (range_of hf9) Try.underlying39 rfl SZ.out
      exact bodyPost_ret (v := .agg (p.map i64v).toArray) (results_c Try.results21 rfl hl9) rfl ⟨⟨p, rfl, HZ.out⟩, hb9⟩
end Go.Proofs.Ythoganfinpfibaa
