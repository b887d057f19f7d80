/-
  The walk of order.Decode.
-/
import Derived.Test.YtdjnbnbhpjiicaaOrdE
import Derived.Test.YtdjnbnbhpjiicaaB64
namespace Go.Con
/-- the number that begins at a place of a list, four bytes of it -/
def decAt (l : List UInt8) (k : Nat) : Int := ((((l.getD (4 * k) 0).toNat * 16777216 + (l.getD (4 * k + 1) 0).toNat * 65536 + (l.getD (4 * k + 2) 0).toNat * 256 + (l.getD (4 * k + 3) 0).toNat : Nat)) : Int)
def decRaw (l : List UInt8) : Cmd := ⟨decAt l 0, decAt l 1, decAt l 2, decAt l 3, decAt l 4⟩
def decC (l : List UInt8) : Cmd × Int := if l.length ≠ 20 then (Cmd.zero, 1) else if checkC (decRaw l) ≠ 0 then (Cmd.zero, checkC (decRaw l)) else (decRaw l, 0)
end Go.Con
namespace Go.Proofs.Ytdjnbnbhpjiicaa
open Go.RowKit Go.Con

theorem heapNew1 (w : World) (A B : Obj) : ((w.alloc A).alloc B).heap[w.heap.size + 1]? = some B := by
  have e : (w.alloc A).heap.size = w.heap.size + 1 := by simp
  rw [← e]; exact heapNew _ _
theorem heapNew0 (w : World) (A B : Obj) : ((w.alloc A).alloc B).heap[w.heap.size]? = some A := by
  rw [heapOld _ _ _ (by simp)]; exact heapNew _ _
theorem set5 {w : World} {b : Nat} {e : TypeId} {c : Cmd} {v0 v1 v2 v3 v4 : Value} (h : w.heap[b]? = some (.cells (cmdA c) e (0, 0))) :
    (((((w.setCell ⟨b, 0, none⟩ v0).setCell ⟨b, 1, none⟩ v1).setCell ⟨b, 2, none⟩ v2).setCell ⟨b, 3, none⟩ v3).setCell ⟨b, 4, none⟩ v4).heap[b]? = some (.cells #[v0, v1, v2, v3, v4] e (0, 0)) :=
  heapSet (o := 4) (heapSet (o := 3) (heapSet (o := 2) (heapSet (o := 1) (heapSet (o := 0) h v0) v1) v2) v3) v4
theorem set5_below {a w : World} {b B : Nat} {v0 v1 v2 v3 v4 : Value} (h : Below B a w) (hb : B ≤ b) :
    Below B a (((((w.setCell ⟨b, 0, none⟩ v0).setCell ⟨b, 1, none⟩ v1).setCell ⟨b, 2, none⟩ v2).setCell ⟨b, 3, none⟩ v3).setCell ⟨b, 4, none⟩ v4) :=
  ((((h.setCell hb _).setCell hb _).setCell hb _).setCell hb _).setCell hb _
set_option maxHeartbeats 400000 in
theorem Decode_short (v : Value) (l : List UInt8) (w : World) (hR : Rd w v l) (hl : l.length ≠ 20) :
    Calls Try.prog 19 #[v] w fun e w' => e = .returned (.tuple #[cmdV Cmd.zero, .int .i64 1]) ∧ Below w.heap.size w w' := by
  obtain ⟨a, c, rfl, hlc, hcm⟩ := hR.slice
  have hb : (((l.length : Nat) : Int) != 20) = true := by simpa using (by omega : ((l.length : Nat) : Int) ≠ 20)
  clear hl
  go_enter Try.func19, Try.ntmps19
  go_wp2
  refine bodyPost_ret (v := .tuple #[cmdV Cmd.zero, .int .i64 1]) ?_ rfl ⟨rfl, ?_⟩
  · simp [results, Try.results19, go_sem, cmdV, Cmd.zero]
  · exact (Below.refl _ _).alloc (Nat.le_refl _) _

def decCells (l : List UInt8) (k : Nat) : Nat → Value := fun j => .int .i64 (if j < k then decAt l j else 0)
set_option maxHeartbeats 1000000 in
theorem Decode_full (v : Value) (l : List UInt8) (w : World) (hR : Rd w v l) (hl : l.length = 20) :
    Calls Try.prog 19 #[v] w fun e w' => e = .returned (.tuple #[cmdV (decC l).1, .int .i64 (decC l).2]) ∧ Below w.heap.size w w' := by
  have hck := fun w' => Check_any (decRaw l) w'
  have HCK := Lib.hid hck
  have HR := Lib.hid hR
  have hRS := hR.slice
  rw [hl] at hRS
  obtain ⟨a, c, rfl, hlc, hcm⟩ := hRS
  have HL := Lib.hid hl
  clear hck hR hl
  have hix := fun k hk W => indexP (w.heap.size + 1) k hk W
  have HIX := Lib.hid hix
  clear hix
  go_enter Try.func19, Try.ntmps19
  go_wp2_with fail
  refine (numbers_any _ _).mono ?_
  rintro e w1 ⟨rfl, hb1⟩
  have hx1 : w1.heap[w.heap.size + 1]? = some (.cells (cmdA Cmd.zero) 29 (0, 0)) := (hb1.block _ (by simp)).trans (heapNew1 _ _ _)
  have hx0 : w1.heap[w.heap.size]? = some (.cells (cmdA Cmd.zero) 29 (0, 0)) := (hb1.block _ (by simp; omega)).trans (heapNew0 _ _ _)
  have hs1 : w.heap.size + 2 ≤ w1.heap.size := by have := hb1.size; simpa using this
  have HB1 := Lib.hid ((((Below.refl w.heap.size w).alloc (Nat.le_refl _) (.cells (cmdA Cmd.zero) 29)).alloc (by simp) (.cells (cmdA Cmd.zero) 29)).trans (hb1.mono (by simp; omega)))
  have HX1 := Lib.hid hx1
  have HX0 := Lib.hid hx0
  clear hb1 hx1 hx0
  go_wp2_with fail
  go_loopw [13] (fun i wr => ∃ k : Nat, k ≤ 5 ∧ i = .int .i64 k ∧ (∃ cur, wr.heap[w.heap.size + 1]? = some (.cells cur 29 (0, 0)) ∧ cur.size = 5 ∧ ∀ j, j < 5 → cur[j]? = some (decCells l k j)) ∧ wr.heap[w.heap.size]? = some (.cells (cmdA Cmd.zero) 29 (0, 0)) ∧ Below w.heap.size w wr)
    (fun i _ => 5 - (intOf i).toNat)
  case atStart => exact ⟨0, by omega, rfl, ⟨_, HX1.out, rfl, fun j hj => by
      have h5 : j = 0 ∨ j = 1 ∨ j = 2 ∨ j = 3 ∨ j = 4 := by omega
      rcases h5 with rfl | rfl | rfl | rfl | rfl <;> rfl⟩, HX0.out, HB1.out⟩
  case round =>
    obtain ⟨k, hk, rfl, ⟨cur, hcur, hsz, hold⟩, hX0, hB⟩ := hrel
    have HX := Lib.hid hX0
    have HB := Lib.hid hB
    by_cases hlt : k < 5
    · have HOLD := Lib.hid hold
      obtain ⟨b, off, rfl, hcell⟩ : ∃ b off, a = some ⟨b, off, none⟩ ∧ ∀ i, i < 20 → wr.cell? ⟨b, off + i, none⟩ = some (u8v (l.getD i 0)) := by
        obtain ⟨a', c', e, _, _, _, h⟩ := HR.out
        injection e with e1 e2 e3
        subst e1
        obtain ⟨b, off, e4, h2⟩ := h (by intro h0; have := HL.out; rw [h0] at this; cases this)
        refine ⟨b, off, e4, fun i hi => ?_⟩
        have h3 := h2 i (by have := HL.out; omega)
        exact (World.cell?_of_block (w := w) (hB.block b (World.block_lt_of_cell? w _ h3))).trans h3
      obtain ⟨x0, hx0⟩ : ∃ x, x = l.getD (4 * k) 0 := ⟨_, rfl⟩
      obtain ⟨x1, hx1⟩ : ∃ x, x = l.getD (4 * k + 1) 0 := ⟨_, rfl⟩
      obtain ⟨x2, hx2⟩ : ∃ x, x = l.getD (4 * k + 2) 0 := ⟨_, rfl⟩
      obtain ⟨x3, hx3⟩ : ∃ x, x = l.getD (4 * k + 3) 0 := ⟨_, rfl⟩
      have c0 : wr.cell? ⟨b, off + 4 * k, none⟩ = some (.int .u8 x0.toNat) := by rw [hx0]; exact hcell (4 * k) (by omega)
      have c1 : wr.cell? ⟨b, off + (4 * k + 1), none⟩ = some (.int .u8 x1.toNat) := by rw [hx1]; exact hcell (4 * k + 1) (by omega)
      have c2 : wr.cell? ⟨b, off + (4 * k + 2), none⟩ = some (.int .u8 x2.toNat) := by rw [hx2]; exact hcell (4 * k + 2) (by omega)
      have c3 : wr.cell? ⟨b, off + (4 * k + 3), none⟩ = some (.int .u8 x3.toNat) := by rw [hx3]; exact hcell (4 * k + 3) (by omega)
      have hdec : ((x0.toNat * 16777216 + x1.toNat * 65536 + x2.toNat * 256 + x3.toNat : Nat) : Int) = decAt l k := by rw [decAt, hx0, hx1, hx2, hx3]
      have HDEC := Lib.hid hdec
      have hcc := cellD hcur k (by omega)
      have hfr := freeAt hcur k
      have hik := HIX.out k hlt
      have HCUR := Lib.hid hcur
      clear hcell hx0 hx1 hx2 hx3 hold hdec hcur hX0 hB
      go_wp2
      refine region_quiet_tail 35 (by kernel_rfl) (by kernel_rfl) ?_
      simp only [List.take_succ_cons, List.take_zero, List.drop_succ_cons, List.drop_zero]
      repeat (go_big_quiet_step (fail))
      refine wpQuiet_nil ?_
      intro w9 hw9
      obtain ⟨nq, rfl⟩ := hw9
      go_wp2
      go_roundw
      case rel =>
        refine ⟨k + 1, by omega, by go_num, ?_, ?_, ?_⟩
        · refine turnOne (g := decCells l k) (g' := decCells l (k + 1)) nq HCUR.out hsz hlt HOLD.out ?_ ?_
          · rw [four64, HDEC.out, decCells, if_pos (by omega)]
          · intro j hj hne
            by_cases hjk : j < k
            · rw [decCells, decCells, if_pos hjk, if_pos (by omega)]
            · rw [decCells, decCells, if_neg hjk, if_neg (by omega)]
        · rw [heapSet_ne _ _ (by omega)]; exact HX.out
        · exact (below_drewN HB.out nq).setCell (by simp) _
      case measure => simp [intOf]; omega
    · have hk5 : k = 5 := by omega
      have hcur5 : wr.heap[w.heap.size + 1]? = some (.cells (cmdA (decRaw l)) 29 (0, 0)) := by
        rw [hcur]
        have e : cur = cmdA (decRaw l) := by
          apply Array.ext (by simpa [cmdA] using hsz)
          intro j h1 h2
          have hj : j < 5 := by omega
          have := hold j hj
          rw [Array.getElem?_eq_getElem h1, decCells, if_pos (by omega)] at this
          injection this with this
          rw [this]
          have h5 : j = 0 ∨ j = 1 ∨ j = 2 ∨ j = 3 ∨ j = 4 := by omega
          rcases h5 with rfl | rfl | rfl | rfl | rfl <;> rfl
        rw [e]
      have d0 : wr.cell? ⟨w.heap.size + 1, 0, none⟩ = some (.int .i64 (decAt l 0)) := cellAt hcur5 0 rfl
      have d1 : wr.cell? ⟨w.heap.size + 1, 1, none⟩ = some (.int .i64 (decAt l 1)) := cellAt hcur5 1 rfl
      have d2 : wr.cell? ⟨w.heap.size + 1, 2, none⟩ = some (.int .i64 (decAt l 2)) := cellAt hcur5 2 rfl
      have d3 : wr.cell? ⟨w.heap.size + 1, 3, none⟩ = some (.int .i64 (decAt l 3)) := cellAt hcur5 3 rfl
      have d4 : wr.cell? ⟨w.heap.size + 1, 4, none⟩ = some (.int .i64 (decAt l 4)) := cellAt hcur5 4 rfl
      have hc0 : decC l = if checkC (decRaw l) ≠ 0 then (Cmd.zero, checkC (decRaw l)) else (decRaw l, 0) := by rw [decC, if_neg (by rw [HL.out]; simp)]
      have HC0 := Lib.hid hc0
      have HCUR := Lib.hid hcur5
      clear hold hcur hX0 hB hc0 hcur5
      obtain ⟨q, hq⟩ : ∃ q, q = checkC (decRaw l) := ⟨_, rfl⟩
      rw [← hq] at HCK HC0
      have HQ := Lib.hid hq
      clear hq
      go_wp2_with fail
      refine (HCK.out _).mono ?_
      rintro e w2 ⟨rfl, hb2⟩
      have hbb := HB.out.trans (hb2.mono (by have := HB.out.size; omega))
      have HBB := Lib.hid hbb
      have hx2 := (hb2.block _ (by have := lt_of_heap HX.out; omega)).trans HX.out
      have hy2 := (hb2.block _ (by have := lt_of_heap HCUR.out; omega)).trans HCUR.out
      have g0 : w2.cell? ⟨w.heap.size + 1, 0, none⟩ = some (.int .i64 (decAt l 0)) := cellAt hy2 0 rfl
      have g1 : w2.cell? ⟨w.heap.size + 1, 1, none⟩ = some (.int .i64 (decAt l 1)) := cellAt hy2 1 rfl
      have g2 : w2.cell? ⟨w.heap.size + 1, 2, none⟩ = some (.int .i64 (decAt l 2)) := cellAt hy2 2 rfl
      have g3 : w2.cell? ⟨w.heap.size + 1, 3, none⟩ = some (.int .i64 (decAt l 3)) := cellAt hy2 3 rfl
      have g4 : w2.cell? ⟨w.heap.size + 1, 4, none⟩ = some (.int .i64 (decAt l 4)) := cellAt hy2 4 rfl
      have j0 := freeAt hx2
      have j1 : ∀ o < 5, ∃ v, w2.cell? ⟨w.heap.size, o, none⟩ = some v := fun o ho => ⟨_, cellD hx2 o ho⟩
      have H2 := Lib.hid hx2
      clear hb2 hx2 hy2 hbb d0 d1 d2 d3 d4
      obtain ⟨_, f0⟩ := j1 0 (by omega)
      obtain ⟨_, f1⟩ := j1 1 (by omega)
      obtain ⟨_, f2⟩ := j1 2 (by omega)
      obtain ⟨_, f3⟩ := j1 3 (by omega)
      obtain ⟨_, f4⟩ := j1 4 (by omega)
      clear j1
      by_cases hq0 : q = 0
      · have hc1 : decC l = (decRaw l, 0) := by rw [HC0.out, hq0]; rfl
        have HC1 := Lib.hid hc1
        have hqb : (q != 0) = false := by simpa using hq0
        clear hq0 hc1
        go_wp2
        have hW := set5 (w := w2) (b := w.heap.size) (e := 29) (v0 := .int .i64 (decAt l 0)) (v1 := .int .i64 (decAt l 1)) (v2 := .int .i64 (decAt l 2)) (v3 := .int .i64 (decAt l 3)) (v4 := .int .i64 (decAt l 4)) (H2.out)
        have hb := set5_below (b := w.heap.size) (B := w.heap.size) (v0 := .int .i64 (decAt l 0)) (v1 := .int .i64 (decAt l 1)) (v2 := .int .i64 (decAt l 2)) (v3 := .int .i64 (decAt l 3)) (v4 := .int .i64 (decAt l 4)) HBB.out (Nat.le_refl _)
        generalize hWe : World.setCell _ _ _ = W
        rw [hWe] at hW hb
        have k0 := cellAt hW 0 rfl
        have k1 := cellAt hW 1 rfl
        have k2 := cellAt hW 2 rfl
        have k3 := cellAt hW 3 rfl
        have k4 := cellAt hW 4 rfl
        clear hW hWe g0 g1 g2 g3 g4 f0 f1 f2 f3 f4 j0
        refine bodyPost_ret (v := .tuple #[cmdV (decRaw l), .int .i64 0]) ?_ rfl ⟨by rw [HC1.out], hb⟩
        simp [results, Try.results19, go_sem, cmdV, decRaw, k0, k1, k2, k3, k4]
      · have hc1 : decC l = (Cmd.zero, q) := by rw [HC0.out, if_pos hq0]
        have HC1 := Lib.hid hc1
        have hqb : (q != 0) = true := by simpa using hq0
        clear hq0 hc1
        go_wp2
        have hW := set5 (w := w2) (b := w.heap.size) (e := 29) (v0 := .int .i64 0) (v1 := .int .i64 0) (v2 := .int .i64 0) (v3 := .int .i64 0) (v4 := .int .i64 0) (H2.out)
        have hb := set5_below (b := w.heap.size) (B := w.heap.size) (v0 := .int .i64 0) (v1 := .int .i64 0) (v2 := .int .i64 0) (v3 := .int .i64 0) (v4 := .int .i64 0) HBB.out (Nat.le_refl _)
        generalize hWe : World.setCell _ _ _ = W
        rw [hWe] at hW hb
        have k0 := cellAt hW 0 rfl
        have k1 := cellAt hW 1 rfl
        have k2 := cellAt hW 2 rfl
        have k3 := cellAt hW 3 rfl
        have k4 := cellAt hW 4 rfl
        clear hW hWe g0 g1 g2 g3 g4 f0 f1 f2 f3 f4 j0
        refine bodyPost_ret (v := .tuple #[cmdV Cmd.zero, .int .i64 q]) ?_ rfl ⟨by rw [HC1.out], hb⟩
        simp [results, Try.results19, go_sem, cmdV, Cmd.zero, k0, k1, k2, k3, k4]

theorem Decode_any (v : Value) (l : List UInt8) (w : World) (hR : Rd w v l) :
    Calls Try.prog 19 #[v] w fun e w' => e = .returned (.tuple #[cmdV (decC l).1, .int .i64 (decC l).2]) ∧ Below w.heap.size w w' := by
  by_cases hl : l.length = 20
  · exact Decode_full v l w hR hl
  · have e : decC l = (Cmd.zero, 1) := by rw [decC, if_pos hl]
    rw [e]
    exact Decode_short v l w hR hl
end Go.Proofs.Ytdjnbnbhpjiicaa
