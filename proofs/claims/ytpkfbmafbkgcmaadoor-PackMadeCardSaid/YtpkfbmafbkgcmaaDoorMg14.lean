/-
  Texts put together: TokL, OrdD, Cmd, FrW, WCommandBytes.
-/
import Derived.Test.YtpkfbmafbkgcmaaDoorMg5
import Derived.Test.YtpkfbmafbkgcmaaDoorMg4
import Derived.Test.YtpkfbmafbkgcmaaDoorMg7
import Derived.Deep.RegionHeld3
import Derived.Deep.Slices
import Derived.Deep.Fields
set_option linter.unusedVariables false
set_option linter.unusedSimpArgs false
namespace Go.Con
theorem tokenB_take (k : List UInt8) (t : Con.Tok) : (tokenB k t).take 6 = bodyB t := by rw [tokenB, List.take_append_of_le_length (by rw [bodyB_length]; decide), List.take_of_length_le (by rw [bodyB_length]; decide)]
theorem tokenB_drop (k : List UInt8) (t : Con.Tok) : (tokenB k t).drop 6 = proofB k (bodyB t) := by rw [tokenB, List.drop_append_of_le_length (by rw [bodyB_length]; decide), List.drop_of_length_le (by rw [bodyB_length]; decide), List.nil_append]
theorem tokenB_raw (k : List UInt8) (t : Con.Tok) (h : t.Ok) : rawTok (tokenB k t) = t := by
  obtain ⟨c, r, u⟩ := t
  obtain ⟨c0, c1, r0, r1, u0, u1⟩ := h
  dsimp only at c0 c1 r0 r1 u0 u1
  have e0 : (tokenB k ⟨c, r, u⟩).getD 0 0 = UInt8.ofNat c.toNat := rfl
  have e1 : (tokenB k ⟨c, r, u⟩).getD 1 0 = UInt8.ofNat r.toNat := rfl
  have e2 : (tokenB k ⟨c, r, u⟩).getD 2 0 = UInt8.ofNat (u.toNat / 16777216) := rfl
  have e3 : (tokenB k ⟨c, r, u⟩).getD 3 0 = UInt8.ofNat (u.toNat / 65536) := rfl
  have e4 : (tokenB k ⟨c, r, u⟩).getD 4 0 = UInt8.ofNat (u.toNat / 256) := rfl
  have e5 : (tokenB k ⟨c, r, u⟩).getD 5 0 = UInt8.ofNat u.toNat := rfl
  unfold rawTok
  rw [e0, e1, e2, e3, e4, e5, UInt8.toNat_ofNat', UInt8.toNat_ofNat', UInt8.toNat_ofNat', UInt8.toNat_ofNat', UInt8.toNat_ofNat', UInt8.toNat_ofNat']
  have a : ((c.toNat % 2 ^ 8 : Nat) : Int) = c := by omega
  have b : ((r.toNat % 2 ^ 8 : Nat) : Int) = r := by omega
  have d : ((u.toNat / 16777216 % 2 ^ 8 * 16777216 + u.toNat / 65536 % 2 ^ 8 * 65536 + u.toNat / 256 % 2 ^ 8 * 256 + u.toNat % 2 ^ 8 : Nat) : Int) = u := by omega
  rw [a, b, d]
theorem tokB_of {t : Con.Tok} (h : t.Ok) : tokB t = true := decide_eq_true ⟨h.c0, h.c1, h.r0, h.r1, h.u0, h.u1⟩
theorem prove_grant (k : List UInt8) (t : Con.Tok) (h : t.Ok) : proveC k (tokenB k t) = (t, 0) := by
  unfold proveC
  rw [if_neg (by rw [tokenB_length]; simp), tokenB_take, tokenB_drop, if_neg (fun h => h rfl), tokenB_raw k t h, if_pos (tokB_of h)]
end Go.Con

set_option linter.unusedVariables false
set_option linter.unusedSimpArgs false
namespace Go.Con
/-- the number that begins at a place of a list, four bytes of it -/
def decAt (l : List UInt8) (k : Nat) : Int := ((((l.getD (4 * k) 0).toNat * 16777216 + (l.getD (4 * k + 1) 0).toNat * 65536 + (l.getD (4 * k + 2) 0).toNat * 256 + (l.getD (4 * k + 3) 0).toNat : Nat)) : Int)
def decRaw (l : List UInt8) : Cmd := ⟨decAt l 0, decAt l 1, decAt l 2, decAt l 3, decAt l 4⟩
def decC (l : List UInt8) : Cmd × Int := if l.length ≠ 20 then (Cmd.zero, 1) else if checkC (decRaw l) ≠ 0 then (Cmd.zero, checkC (decRaw l)) else (decRaw l, 0)
end Go.Con
namespace Go.Proofs.YtpkfbmafbkgcmaaDoor
open Go.RowKit Go.Con

theorem set5 {w : World} {b : Nat} {e : TypeId} {c : Cmd} {v0 v1 v2 v3 v4 : Value} (h : w.heap[b]? = some (.cells (cmdA c) e (0, 0))) :
    (((((w.setCell ⟨b, 0, none⟩ v0).setCell ⟨b, 1, none⟩ v1).setCell ⟨b, 2, none⟩ v2).setCell ⟨b, 3, none⟩ v3).setCell ⟨b, 4, none⟩ v4).heap[b]? = some (.cells #[v0, v1, v2, v3, v4] e (0, 0)) :=
  heapSet (o := 4) (heapSet (o := 3) (heapSet (o := 2) (heapSet (o := 1) (heapSet (o := 0) h v0) v1) v2) v3) v4
theorem set5_below {a w : World} {b B : Nat} {v0 v1 v2 v3 v4 : Value} (h : Below B a w) (hb : B ≤ b) :
    Below B a (((((w.setCell ⟨b, 0, none⟩ v0).setCell ⟨b, 1, none⟩ v1).setCell ⟨b, 2, none⟩ v2).setCell ⟨b, 3, none⟩ v3).setCell ⟨b, 4, none⟩ v4) :=
  ((((h.setCell hb _).setCell hb _).setCell hb _).setCell hb _).setCell hb _
set_option maxHeartbeats 400000 in
theorem Decode_short (v : Value) (l : List UInt8) (w : World) (hR : Rd w v l) (hl : l.length ≠ 20) :
    Calls Tryd.prog 33 #[v] w fun e w' => e = .returned (.tuple #[cmdV Cmd.zero, .int .i64 1]) ∧ Below w.heap.size w w' := by
  obtain ⟨a, c, rfl, hlc, hcm⟩ := hR.slice
  have hb : (((l.length : Nat) : Int) != 20) = true := by simpa using (by omega : ((l.length : Nat) : Int) ≠ 20)
  clear hl
  go_enter Tryd.func33, Tryd.ntmps33
  go_wp2
  refine bodyPost_ret (v := .tuple #[cmdV Cmd.zero, .int .i64 1]) ?_ rfl ⟨rfl, ?_⟩
  · simp [results, Tryd.results33, go_sem, cmdV, Cmd.zero]
  · exact (Below.refl _ _).alloc (Nat.le_refl _) _

def decCells (l : List UInt8) (k : Nat) : Nat → Value := fun j => .int .i64 (if j < k then decAt l j else 0)
set_option maxHeartbeats 1000000 in
theorem Decode_full (v : Value) (l : List UInt8) (w : World) (hR : Rd w v l) (hl : l.length = 20) :
    Calls Tryd.prog 33 #[v] w fun e w' => e = .returned (.tuple #[cmdV (decC l).1, .int .i64 (decC l).2]) ∧ Below w.heap.size w w' := by
  have hck := fun w' => Check_any (decRaw l) w'
  have HCK := Lib.hid hck
  have HR := Lib.hid hR
  have hRS := hR.slice
  rw [hl] at hRS
  obtain ⟨a, c, rfl, hlc, hcm⟩ := hRS
  have HL := Lib.hid hl
  clear hck hR hl
  have hix := fun k hk W => indexP (w.heap.size + 1) k hk W
  have HIX := Lib.hid hix
  clear hix
  go_enter Tryd.func33, Tryd.ntmps33
  go_wp2_with fail
  refine (numbers_any _ _).mono ?_
  rintro e w1 ⟨rfl, hb1⟩
  have hx1 : w1.heap[w.heap.size + 1]? = some (.cells (cmdA Cmd.zero) 26 (0, 0)) := (hb1.block _ (by simp)).trans (heapNew1 _ _ _)
  have hx0 : w1.heap[w.heap.size]? = some (.cells (cmdA Cmd.zero) 26 (0, 0)) := (hb1.block _ (by simp; omega)).trans (heapNew0 _ _ _)
  have hs1 : w.heap.size + 2 ≤ w1.heap.size := by have := hb1.size; simpa using this
  have HB1 := Lib.hid ((((Below.refl w.heap.size w).alloc (Nat.le_refl _) (.cells (cmdA Cmd.zero) 26)).alloc (by simp) (.cells (cmdA Cmd.zero) 26)).trans (hb1.mono (by simp; omega)))
  have HX1 := Lib.hid hx1
  have HX0 := Lib.hid hx0
  clear hb1 hx1 hx0
  go_wp2_with fail
  go_loopw [13] (fun i wr => ∃ k : Nat, k ≤ 5 ∧ i = .int .i64 k ∧ (∃ cur, wr.heap[w.heap.size + 1]? = some (.cells cur 26 (0, 0)) ∧ cur.size = 5 ∧ ∀ j, j < 5 → cur[j]? = some (decCells l k j)) ∧ wr.heap[w.heap.size]? = some (.cells (cmdA Cmd.zero) 26 (0, 0)) ∧ Below w.heap.size w wr)
    (fun i _ => 5 - (intOf i).toNat)
  case atStart => exact ⟨0, by omega, rfl, ⟨_, HX1.out, rfl, fun j hj => by
      have h5 : j = 0 ∨ j = 1 ∨ j = 2 ∨ j = 3 ∨ j = 4 := by omega
      rcases h5 with rfl | rfl | rfl | rfl | rfl <;> rfl⟩, HX0.out, HB1.out⟩
  case round =>
    obtain ⟨k, hk, rfl, ⟨cur, hcur, hsz, hold⟩, hX0, hB⟩ := hrel
    have HX := Lib.hid hX0
    have HB := Lib.hid hB
    by_cases hlt : k < 5
    · have HOLD := Lib.hid hold
      obtain ⟨b, off, rfl, hcell⟩ : ∃ b off, a = some ⟨b, off, none⟩ ∧ ∀ i, i < 20 → wr.cell? ⟨b, off + i, none⟩ = some (u8v (l.getD i 0)) := by
        obtain ⟨a', c', e, _, _, _, h⟩ := HR.out
        injection e with e1 e2 e3
        subst e1
        obtain ⟨b, off, e4, h2⟩ := h (by intro h0; have := HL.out; rw [h0] at this; cases this)
        refine ⟨b, off, e4, fun i hi => ?_⟩
        have h3 := h2 i (by have := HL.out; omega)
        exact (World.cell?_of_block (w := w) (hB.block b (World.block_lt_of_cell? w _ h3))).trans h3
      obtain ⟨x0, hx0⟩ : ∃ x, x = l.getD (4 * k) 0 := ⟨_, rfl⟩
      obtain ⟨x1, hx1⟩ : ∃ x, x = l.getD (4 * k + 1) 0 := ⟨_, rfl⟩
      obtain ⟨x2, hx2⟩ : ∃ x, x = l.getD (4 * k + 2) 0 := ⟨_, rfl⟩
      obtain ⟨x3, hx3⟩ : ∃ x, x = l.getD (4 * k + 3) 0 := ⟨_, rfl⟩
      have c0 : wr.cell? ⟨b, off + 4 * k, none⟩ = some (.int .u8 x0.toNat) := by rw [hx0]; exact hcell (4 * k) (by omega)
      have c1 : wr.cell? ⟨b, off + (4 * k + 1), none⟩ = some (.int .u8 x1.toNat) := by rw [hx1]; exact hcell (4 * k + 1) (by omega)
      have c2 : wr.cell? ⟨b, off + (4 * k + 2), none⟩ = some (.int .u8 x2.toNat) := by rw [hx2]; exact hcell (4 * k + 2) (by omega)
      have c3 : wr.cell? ⟨b, off + (4 * k + 3), none⟩ = some (.int .u8 x3.toNat) := by rw [hx3]; exact hcell (4 * k + 3) (by omega)
      have hdec : ((x0.toNat * 16777216 + x1.toNat * 65536 + x2.toNat * 256 + x3.toNat : Nat) : Int) = decAt l k := by rw [decAt, hx0, hx1, hx2, hx3]
      have HDEC := Lib.hid hdec
      have hcc := cellD hcur k (by omega)
      have hfr := freeAt hcur k
      have hik := HIX.out k hlt
      have HCUR := Lib.hid hcur
      clear hcell hx0 hx1 hx2 hx3 hold hdec hcur hX0 hB
      go_wp2
      refine region_quiet_tail 35 (by kernel_rfl) (by kernel_rfl) ?_
      simp only [List.take_succ_cons, List.take_zero, List.drop_succ_cons, List.drop_zero]
      repeat (go_big_quiet_step (fail))
      refine wpQuiet_nil ?_
      intro w9 hw9
      obtain ⟨nq, rfl⟩ := hw9
      go_wp2
      go_roundw
      case rel =>
        refine ⟨k + 1, by omega, by go_num, ?_, ?_, ?_⟩
        · refine turnOne (g := decCells l k) (g' := decCells l (k + 1)) nq HCUR.out hsz hlt HOLD.out ?_ ?_
          · rw [four64, HDEC.out, decCells, if_pos (by omega)]
          · intro j hj hne
            by_cases hjk : j < k
            · rw [decCells, decCells, if_pos hjk, if_pos (by omega)]
            · rw [decCells, decCells, if_neg hjk, if_neg (by omega)]
        · rw [heapSet_ne _ _ (by omega)]; exact HX.out
        · exact (below_drewN HB.out nq).setCell (by simp) _
      case measure => simp [intOf]; omega
    · have hk5 : k = 5 := by omega
      have hcur5 : wr.heap[w.heap.size + 1]? = some (.cells (cmdA (decRaw l)) 26 (0, 0)) := by
        rw [hcur]
        have e : cur = cmdA (decRaw l) := by
          apply Array.ext (by simpa [cmdA] using hsz)
          intro j h1 h2
          have hj : j < 5 := by omega
          have := hold j hj
          rw [Array.getElem?_eq_getElem h1, decCells, if_pos (by omega)] at this
          injection this with this
          rw [this]
          have h5 : j = 0 ∨ j = 1 ∨ j = 2 ∨ j = 3 ∨ j = 4 := by omega
          rcases h5 with rfl | rfl | rfl | rfl | rfl <;> rfl
        rw [e]
      have d0 : wr.cell? ⟨w.heap.size + 1, 0, none⟩ = some (.int .i64 (decAt l 0)) := cellAt hcur5 0 rfl
      have d1 : wr.cell? ⟨w.heap.size + 1, 1, none⟩ = some (.int .i64 (decAt l 1)) := cellAt hcur5 1 rfl
      have d2 : wr.cell? ⟨w.heap.size + 1, 2, none⟩ = some (.int .i64 (decAt l 2)) := cellAt hcur5 2 rfl
      have d3 : wr.cell? ⟨w.heap.size + 1, 3, none⟩ = some (.int .i64 (decAt l 3)) := cellAt hcur5 3 rfl
      have d4 : wr.cell? ⟨w.heap.size + 1, 4, none⟩ = some (.int .i64 (decAt l 4)) := cellAt hcur5 4 rfl
      have hc0 : decC l = if checkC (decRaw l) ≠ 0 then (Cmd.zero, checkC (decRaw l)) else (decRaw l, 0) := by rw [decC, if_neg (by rw [HL.out]; simp)]
      have HC0 := Lib.hid hc0
      have HCUR := Lib.hid hcur5
      clear hold hcur hX0 hB hc0 hcur5
      obtain ⟨q, hq⟩ : ∃ q, q = checkC (decRaw l) := ⟨_, rfl⟩
      rw [← hq] at HCK HC0
      have HQ := Lib.hid hq
      clear hq
      go_wp2_with fail
      refine (HCK.out _).mono ?_
      rintro e w2 ⟨rfl, hb2⟩
      have hbb := HB.out.trans (hb2.mono (by have := HB.out.size; omega))
      have HBB := Lib.hid hbb
      have hx2 := (hb2.block _ (by have := lt_of_heap HX.out; omega)).trans HX.out
      have hy2 := (hb2.block _ (by have := lt_of_heap HCUR.out; omega)).trans HCUR.out
      have g0 : w2.cell? ⟨w.heap.size + 1, 0, none⟩ = some (.int .i64 (decAt l 0)) := cellAt hy2 0 rfl
      have g1 : w2.cell? ⟨w.heap.size + 1, 1, none⟩ = some (.int .i64 (decAt l 1)) := cellAt hy2 1 rfl
      have g2 : w2.cell? ⟨w.heap.size + 1, 2, none⟩ = some (.int .i64 (decAt l 2)) := cellAt hy2 2 rfl
      have g3 : w2.cell? ⟨w.heap.size + 1, 3, none⟩ = some (.int .i64 (decAt l 3)) := cellAt hy2 3 rfl
      have g4 : w2.cell? ⟨w.heap.size + 1, 4, none⟩ = some (.int .i64 (decAt l 4)) := cellAt hy2 4 rfl
      have j0 := freeAt hx2
      have j1 : ∀ o < 5, ∃ v, w2.cell? ⟨w.heap.size, o, none⟩ = some v := fun o ho => ⟨_, cellD hx2 o ho⟩
      have H2 := Lib.hid hx2
      clear hb2 hx2 hy2 hbb d0 d1 d2 d3 d4
      obtain ⟨_, f0⟩ := j1 0 (by omega)
      obtain ⟨_, f1⟩ := j1 1 (by omega)
      obtain ⟨_, f2⟩ := j1 2 (by omega)
      obtain ⟨_, f3⟩ := j1 3 (by omega)
      obtain ⟨_, f4⟩ := j1 4 (by omega)
      clear j1
      by_cases hq0 : q = 0
      · have hc1 : decC l = (decRaw l, 0) := by rw [HC0.out, hq0]; rfl
        have HC1 := Lib.hid hc1
        have hqb : (q != 0) = false := by simpa using hq0
        clear hq0 hc1
        go_wp2
        have hW := set5 (w := w2) (b := w.heap.size) (e := 26) (v0 := .int .i64 (decAt l 0)) (v1 := .int .i64 (decAt l 1)) (v2 := .int .i64 (decAt l 2)) (v3 := .int .i64 (decAt l 3)) (v4 := .int .i64 (decAt l 4)) (H2.out)
        have hb := set5_below (b := w.heap.size) (B := w.heap.size) (v0 := .int .i64 (decAt l 0)) (v1 := .int .i64 (decAt l 1)) (v2 := .int .i64 (decAt l 2)) (v3 := .int .i64 (decAt l 3)) (v4 := .int .i64 (decAt l 4)) HBB.out (Nat.le_refl _)
        generalize hWe : World.setCell _ _ _ = W
        rw [hWe] at hW hb
        have k0 := cellAt hW 0 rfl
        have k1 := cellAt hW 1 rfl
        have k2 := cellAt hW 2 rfl
        have k3 := cellAt hW 3 rfl
        have k4 := cellAt hW 4 rfl
        clear hW hWe g0 g1 g2 g3 g4 f0 f1 f2 f3 f4 j0
        refine bodyPost_ret (v := .tuple #[cmdV (decRaw l), .int .i64 0]) ?_ rfl ⟨by rw [HC1.out], hb⟩
        simp [results, Tryd.results33, go_sem, cmdV, decRaw, k0, k1, k2, k3, k4]
      · have hc1 : decC l = (Cmd.zero, q) := by rw [HC0.out, if_pos hq0]
        have HC1 := Lib.hid hc1
        have hqb : (q != 0) = true := by simpa using hq0
        clear hq0 hc1
        go_wp2
        have hW := set5 (w := w2) (b := w.heap.size) (e := 26) (v0 := .int .i64 0) (v1 := .int .i64 0) (v2 := .int .i64 0) (v3 := .int .i64 0) (v4 := .int .i64 0) (H2.out)
        have hb := set5_below (b := w.heap.size) (B := w.heap.size) (v0 := .int .i64 0) (v1 := .int .i64 0) (v2 := .int .i64 0) (v3 := .int .i64 0) (v4 := .int .i64 0) HBB.out (Nat.le_refl _)
        generalize hWe : World.setCell _ _ _ = W
        rw [hWe] at hW hb
        have k0 := cellAt hW 0 rfl
        have k1 := cellAt hW 1 rfl
        have k2 := cellAt hW 2 rfl
        have k3 := cellAt hW 3 rfl
        have k4 := cellAt hW 4 rfl
        clear hW hWe g0 g1 g2 g3 g4 f0 f1 f2 f3 f4 j0
        refine bodyPost_ret (v := .tuple #[cmdV Cmd.zero, .int .i64 q]) ?_ rfl ⟨by rw [HC1.out], hb⟩
        simp [results, Tryd.results33, go_sem, cmdV, Cmd.zero, k0, k1, k2, k3, k4]

theorem Decode_any (v : Value) (l : List UInt8) (w : World) (hR : Rd w v l) :
    Calls Tryd.prog 33 #[v] w fun e w' => e = .returned (.tuple #[cmdV (decC l).1, .int .i64 (decC l).2]) ∧ Below w.heap.size w w' := by
  by_cases hl : l.length = 20
  · exact Decode_full v l w hR hl
  · have e : decC l = (Cmd.zero, 1) := by rw [decC, if_pos hl]
    rw [e]
    exact Decode_short v l w hR hl
end Go.Proofs.YtpkfbmafbkgcmaaDoor

set_option linter.unusedVariables false
set_option linter.unusedSimpArgs false
namespace Go.Con
def Int64 (n : Int) : Prop := -9223372036854775808 ≤ n ∧ n ≤ 9223372036854775807
/-- every number of a wish is an int -/
def WishOk (x : Cmd) : Prop := Int64 x.kind ∧ Int64 x.client ∧ Int64 x.seq ∧ Int64 x.name ∧ Int64 x.value
/-- a wish as a command -/
def cmdOf (x : Cmd) : Cmd :=
  let k := 1 + pick x.kind 5 / 2
  ⟨k, pick x.client 4, pick x.seq 6, pick x.name 4, if k = 1 then pick x.value 1000 else 0⟩
theorem cmdOf_check (x : Cmd) : checkC (cmdOf x) = 0 := by
  have h1 := pick_nonneg x.kind 5 (by omega)
  have h2 := pick_lt x.kind 5 (by omega)
  have h3 := pick_nonneg x.client 4 (by omega)
  have h4 := pick_lt x.client 4 (by omega)
  have h5 := pick_nonneg x.seq 6 (by omega)
  have h6 := pick_lt x.seq 6 (by omega)
  have h7 := pick_nonneg x.name 4 (by omega)
  have h8 := pick_lt x.name 4 (by omega)
  have h9 := pick_nonneg x.value 1000 (by omega)
  have h10 := pick_lt x.value 1000 (by omega)
  unfold checkC
  have hk : 1 ≤ (cmdOf x).kind ∧ (cmdOf x).kind ≤ 3 := by simp only [cmdOf]; omega
  rw [if_neg (by omega), if_pos hk]
  have hr : inRange (cmdOf x) = true := by
    unfold inRange
    rw [decide_eq_true_eq]
    simp only [cmdOf]
    refine ⟨h3, by omega, h5, by omega, h7, by omega, ?_⟩
    split <;> omega
  rw [if_neg (by rw [hr]; decide), if_neg]
  intro ⟨ha, hb⟩
  apply hb
  simp only [cmdOf] at ha ⊢
  rw [if_neg ha]
end Go.Con
namespace Go.Proofs.YtpkfbmafbkgcmaaDoor
open Go.RowKit Go.Con

set_option maxRecDepth 100000 in
set_option maxHeartbeats 1000000 in
theorem Command_any (x : Cmd) (w : World) (hx : WishOk x) :
    Calls Tryd.prog 6 #[cmdV x] w fun e w' => e = .returned (cmdV (cmdOf x)) ∧ Below w.heap.size w w' := by
  obtain ⟨k, cl, sq, nm, vl⟩ := x
  obtain ⟨⟨a1, a2⟩, ⟨b1, b2⟩, ⟨c1, c2⟩, ⟨d1, d2⟩, ⟨e1, e2⟩⟩ := hx
  dsimp only at a1 a2 b1 b2 c1 c2 d1 d2 e1 e2
  have k0 := pick_nonneg k 5 (by omega)
  have k1 := pick_lt k 5 (by omega)
  have hco : cmdOf ⟨k, cl, sq, nm, vl⟩ = ⟨1 + pick k 5 / 2, pick cl 4, pick sq 6, pick nm 4, if 1 + pick k 5 / 2 = 1 then pick vl 1000 else 0⟩ := rfl
  have HCO := Lib.hid hco
  have hq : IntKind.i64.wrap ((pick k 5).tdiv 2) = pick k 5 / 2 := by rw [Int.tdiv_eq_ediv_of_nonneg k0]; exact IntWalk.i64_in _ (by omega)
  obtain ⟨q, hqe⟩ : ∃ q, q = pick k 5 / 2 := ⟨_, rfl⟩
  have hq0 : 0 ≤ q := by omega
  have hq2 : q ≤ 2 := by omega
  rw [← hqe] at hq HCO
  clear hco hqe k0 k1
  obtain ⟨r, hr⟩ : ∃ r : Int, r = if 1 + q = 1 then pick vl 1000 else 0 := ⟨_, rfl⟩
  rw [HCO.out, ← hr]
  have HR := Lib.hid hr
  clear HCO hr
  unfold cmdV
  dsimp only
  go_enter Tryd.func6, Tryd.ntmps6
  go_wp2
  go_region_held3 (fun w' => w'.cell? ⟨w.heap.size, 0, none⟩ = some (.int .i64 k) ∧ w'.cell? ⟨w.heap.size, 1, none⟩ = some (.int .i64 cl) ∧ w'.cell? ⟨w.heap.size, 2, none⟩ = some (.int .i64 sq) ∧ w'.cell? ⟨w.heap.size, 3, none⟩ = some (.int .i64 nm)) (go_keep) (first | (go_at_call 8; refine (picked_any _ _ _ (by assumption) (by assumption) (by decide)).mono ?_; rintro e w' ⟨rfl, rfl⟩))
  all_goals by_cases hq1 : 1 + q = 1
  all_goals first
    | (have hqb : (1 + q == 1) = true := by simpa using hq1
       have HQ1 := Lib.hid hq1
       clear hq1
       go_wp2_with (go_at_call 8; refine (picked_any _ _ _ (by assumption) (by assumption) (by decide)).mono ?_; rintro e w' ⟨rfl, rfl⟩)
       refine bodyPost_ret (v := .agg #[.int .i64 (1 + q), .int .i64 (pick cl 4), .int .i64 (pick sq 6), .int .i64 (pick nm 4), .int .i64 (pick vl 1000)]) ?_ rfl ⟨by rw [HR.out, if_pos HQ1.out], ?_⟩
       · simp [results, Tryd.results6, go_sem]
       · exact below_drewN ((((Below.refl _ _).alloc (Nat.le_refl _) _).alloc (by simp) _).alloc (by simp; omega) _) 1)
    | (have hqb : (1 + q == 1) = false := by simpa using hq1
       have HQ1 := Lib.hid hq1
       clear hq1
       go_wp2
       refine bodyPost_ret (v := .agg #[.int .i64 (1 + q), .int .i64 (pick cl 4), .int .i64 (pick sq 6), .int .i64 (pick nm 4), .int .i64 0]) ?_ rfl ⟨by rw [HR.out, if_neg HQ1.out], ?_⟩
       · simp [results, Tryd.results6, go_sem]
       · exact below_drewN ((((Below.refl _ _).alloc (Nat.le_refl _) _).alloc (by simp) _).alloc (by simp; omega) _) 1)
end Go.Proofs.YtpkfbmafbkgcmaaDoor

set_option linter.unusedVariables false
set_option linter.unusedSimpArgs false
namespace Go.Proofs.YtpkfbmafbkgcmaaDoor
open Go.ChangeShapes Go.WideShapes Go.ChangeAt Go.RowKit Go.Con Go.Deep

/-- each field is one int, one behind the other -/
def intFields (fs : Array Field) : Bool := (List.range fs.size).all fun i => match fs[i]? with | some f => f.offset == i && f.type == 3 | none => false
section
variable {H : Type} {enc : TypeId × Value → H} {W : World} {base b0 : Nat} {sp : Nat → Bool}

theorem trod_ints {t : TypeId} {fs : Array Field} {fuel : Nat} {cs : List Value} {x : DataW H × List MemPlace} (hs : Tryd.prog.underlying t = some (.struct fs)) (hall : intFields fs = true)
    (h : DataW.trod enc Tryd.prog W base sp true fuel t cs = some x) : cs.length = Tryd.prog.cellsOf t ∧ ∀ i, i < fs.size → ∃ n, cs[i]? = some (.int .i64 n) ∧ Int64 n := by
  obtain ⟨xs, n, _, _, hl, hlen, hf⟩ := DataW.trod_struct hs h
  refine ⟨hl, fun i hi => ?_⟩
  have ha := List.all_eq_true.1 hall i (List.mem_range.2 hi)
  have hfi : fs[i]? = some fs[i] := Array.getElem?_eq_getElem hi
  simp only [hfi, Bool.and_eq_true, beq_iff_eq] at ha
  have h1 := hf i _ hfi
  have hc1 : Tryd.prog.cellsOf 3 = 1 := by kernel_rfl
  rw [ha.1, ha.2, hc1, List.getElem?_eq_getElem (by omega)] at h1
  obtain ⟨z, hz, _, hw⟩ := DataW.trod_int Tryd.underlying3 h1
  refine ⟨z, ?_, bounds_i64 hw⟩
  have h2 := congrArg (fun l : List Value => l[0]?) hz
  simpa [List.getElem?_take, List.getElem?_drop] using h2

def IsWish (v : Value) (x : Cmd) : Prop := v = cmdV x ∧ WishOk x
set_option maxRecDepth 100000 in
theorem open_wish {v : Value} {d : DataW H} {p : List MemPlace} (hv : Value.okWide Tryd.prog W .any b0 23 v) (h : DataW.Trod enc Tryd.prog W base (fun _ => true) true 23 v d p) : ∃ x, IsWish v x := by
  obtain ⟨⟨cs⟩, rfl, hsz⟩ := okWide_struct Tryd.underlying23 hv
  obtain ⟨fuel, hf⟩ := h
  obtain ⟨hl, hi⟩ := trod_ints Tryd.underlying23 (by kernel_rfl) hf
  have h5 : cs.length = 5 := by
    have e : Tryd.prog.cellsOf 23 = 5 := by kernel_rfl
    simpa [e] using hsz
  match cs, h5 with
  | [c0, c1, c2, c3, c4], _ =>
    have e : ∀ i, i < 5 → ∃ n, ([c0, c1, c2, c3, c4] : List Value)[i]? = some (.int .i64 n) ∧ Int64 n := fun i h => by simpa [Value.cells] using hi i h
    obtain ⟨n0, e0, b0⟩ := e 0 (by omega)
    obtain ⟨n1, e1, b1⟩ := e 1 (by omega)
    obtain ⟨n2, e2, b2⟩ := e 2 (by omega)
    obtain ⟨n3, e3, b3⟩ := e 3 (by omega)
    obtain ⟨n4, e4, b4⟩ := e 4 (by omega)
    simp at e0 e1 e2 e3 e4
    subst e0 e1 e2 e3 e4
    exact ⟨⟨n0, n1, n2, n3, n4⟩, rfl, b0, b1, b2, b3, b4⟩

/-- the cells of a wish -/
def wishCells (x : Cmd) : List Value := [.int .i64 x.kind, .int .i64 x.client, .int .i64 x.seq, .int .i64 x.name, .int .i64 x.value]
/-- A slice of wishes that came in. -/
def RdWishes (w : World) (v : Value) (l : List Cmd) : Prop :=
  ∃ a c, v = .slice a l.length c ∧ l.length ≤ c ∧ c ≤ maxLen ∧ (∀ x ∈ l, WishOk x) ∧ (l ≠ [] → ∃ b off, a = some ⟨b, off, none⟩ ∧ ∀ i, i < l.length → ∀ j, j < 5 → w.cell? ⟨b, off + (5 * i + j), none⟩ = (wishCells (l.getD i Cmd.zero))[j]?)
end
end Go.Proofs.YtpkfbmafbkgcmaaDoor

set_option linter.unusedVariables false
set_option linter.unusedSimpArgs false
namespace Go.Con
theorem fourB_get (n : Nat) (h : n < 4294967296) : (UInt8.ofNat (n / 16777216)).toNat * 16777216 + (UInt8.ofNat (n / 65536)).toNat * 65536 + (UInt8.ofNat (n / 256)).toNat * 256 + (UInt8.ofNat n).toNat = n := by
  rw [UInt8.toNat_ofNat', UInt8.toNat_ofNat', UInt8.toNat_ofNat', UInt8.toNat_ofNat']
  omega
/-- What is encoded is decoded, number by number. -/
theorem decAt_encC (c : Cmd) (k : Nat) (hk : k < 5) (h0 : 0 ≤ c.fld k) (h1 : c.fld k < 4294967296) : decAt (encC c) k = c.fld k := by
  have e : decAt (encC c) k = (((UInt8.ofNat ((c.fld k).toNat / 16777216)).toNat * 16777216 + (UInt8.ofNat ((c.fld k).toNat / 65536)).toNat * 65536 + (UInt8.ofNat ((c.fld k).toNat / 256)).toNat * 256 + (UInt8.ofNat (c.fld k).toNat).toNat : Nat) : Int) := by
    have h5 : k = 0 ∨ k = 1 ∨ k = 2 ∨ k = 3 ∨ k = 4 := by omega
    rcases h5 with rfl | rfl | rfl | rfl | rfl <;> rfl
  rw [e, fourB_get _ (by omega)]
  omega
end Go.Con
namespace Go.Proofs.YtpkfbmafbkgcmaaDoor
open Go.RowKit Go.Con

end Go.Proofs.YtpkfbmafbkgcmaaDoor
