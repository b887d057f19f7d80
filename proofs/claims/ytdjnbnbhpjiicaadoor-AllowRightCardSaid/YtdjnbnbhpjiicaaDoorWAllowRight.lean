/-
  The walk of conclavekeep.AllowRight.
-/
import Derived.Test.YtdjnbnbhpjiicaaDoorNdF
import Derived.Test.YtdjnbnbhpjiicaaDoorPas
import Derived.Test.YtdjnbnbhpjiicaaDoorCmd
set_option linter.unusedVariables false
set_option linter.unusedSimpArgs false
namespace Go.Proofs.YtdjnbnbhpjiicaaDoor
open Go.RowKit Go.Con

set_option maxRecDepth 100000 in
set_option maxHeartbeats 1000000 in
theorem ar_1_lk (x : Con.Cmd) (y : Con.Tok) (z cl sq nm vl tc tr tu n : Int) (w : World) (hx : WishOk x) (hy : PassOk y) (hz1 : -9223372036854775808 ≤ z) (hz2 : z ≤ 9223372036854775807)
    (hc : cmdOf x = ⟨1, cl, sq, nm, vl⟩) (ht : tokOf y = ⟨tc, tr, tu⟩) (hn : pick z 1048577 = n) (hN : Nd w) (hm : lacks tr 1 = true) :
    Calls Tryd.prog 3 #[cmdV x, tokV y, .int .i64 z] w fun e w' => e = .returned (.bool true) ∧ Below w.heap.size w w' := by
  have hcmd := fun w => Command_any x w hx
  rw [hc] at hcmd
  have htok := fun w => Token_any y w hy
  rw [ht] at htok
  have hpk := fun w => picked_any z 1048577 w hz1 hz2 (by decide)
  rw [hn] at hpk
  have hck : checkC ⟨1, cl, sq, nm, vl⟩ = 0 := by rw [← hc]; exact cmdOf_check x
  have htk : (Con.Tok.mk tc tr tu).Ok := by rw [← ht]; exact tokOf_ok y
  have hal := fun w (h : Nd w) => Allows_any ⟨tc, tr, tu⟩ ⟨1, cl, sq, nm, vl⟩ n w htk hck h
  have hn0 : 0 ≤ n := by rw [← hn]; exact pick_nonneg z 1048577 (by decide)
  have hq : allowC ⟨tc, tr, tu⟩ ⟨1, cl, sq, nm, vl⟩ n = 11 := by
    unfold allowC
    dsimp only
    rw [if_pos (Or.inr (Or.inr hm))]
  rw [hq] at hal
  have haz := fun w (h : Nd w) => Allows_any ⟨tc, tr, tu⟩ Cmd.zero n w htk (by decide) h
  unfold cmdV Cmd.zero at haz
  unfold cmdV at hcmd hal
  unfold tokV at htok hal haz
  dsimp only at hcmd htok hal haz
  have haz' : allowC ⟨tc, tr, tu⟩ ⟨0, 0, 0, 0, 0⟩ n = 11 := by unfold allowC; rw [if_pos (Or.inl rfl)]
  rw [haz'] at haz
  have HCMD := Lib.hid hcmd
  have HTOK := Lib.hid htok
  have HPK := Lib.hid hpk
  have HAL := Lib.hid hal
  have HAZ := Lib.hid haz
  have HN := Lib.hid hN

  have hmb : (bits .and .i64 tr 2 != 0) = false := by have h : (bits .and .i64 tr 2 == 0) = true := hm; rw [bne, h]; rfl

  clear hcmd htok hpk hck htk hal hq haz haz' hN hx hy hc ht hn hn0 hm
  obtain ⟨x0, x1, x2, x3, x4⟩ := x
  obtain ⟨y0, y1, y2⟩ := y
  unfold cmdV tokV
  dsimp only
  go_enter Tryd.func3, Tryd.ntmps3
  go_wp2_with fail
  refine (HCMD.out _).mono ?_
  rintro e w1 ⟨rfl, hb1⟩
  have s1 : w.heap.size + 2 ≤ w1.heap.size := by simpa using hb1.size
  have B1 := Lib.hid ((((Below.refl w.heap.size w).alloc (Nat.le_refl _) _).alloc (by simp) _).trans (hb1.mono (by simp; omega)))
  have X1 := Lib.hid ((hb1.block (w.heap.size + 1) (by simp)).trans (heapNew1 w _ _))
  have ol : ∀ (o : Obj) (j : Nat), (w1.alloc o).cell? ⟨w.heap.size + 1, j, none⟩ = w1.cell? ⟨w.heap.size + 1, j, none⟩ := fun o j => ((Below.refl w1.heap.size w1).alloc (Nat.le_refl _) o).cell (p := ⟨w.heap.size + 1, j, none⟩) (by show w.heap.size + 1 < _; omega)
  have p0 : ∀ o, (w1.alloc o).cell? ⟨w.heap.size + 1, 0, none⟩ = some (.int .i64 y0) := fun o => by rw [ol]; exact cellAt X1.out 0 rfl
  have p1 : ∀ o, (w1.alloc o).cell? ⟨w.heap.size + 1, 1, none⟩ = some (.int .i64 y1) := fun o => by rw [ol]; exact cellAt X1.out 1 rfl
  have p2 : ∀ o, (w1.alloc o).cell? ⟨w.heap.size + 1, 2, none⟩ = some (.int .i64 y2) := fun o => by rw [ol]; exact cellAt X1.out 2 rfl
  clear hb1 ol
  go_wp2_with fail
  refine (HTOK.out _).mono ?_
  rintro e w2 ⟨rfl, hb2⟩
  have s2 : w1.heap.size + 1 ≤ w2.heap.size := by simpa using hb2.size
  have B2 := Lib.hid ((B1.out.alloc (by omega) _).trans (hb2.mono (by simp; omega)))
  have X2 := Lib.hid ((hb2.block w1.heap.size (by simp)).trans (heapNew w1 _))
  have ol : ∀ (o : Obj) (j : Nat), (w2.alloc o).cell? ⟨w1.heap.size, j, none⟩ = w2.cell? ⟨w1.heap.size, j, none⟩ := fun o j => ((Below.refl w2.heap.size w2).alloc (Nat.le_refl _) o).cell (p := ⟨w1.heap.size, j, none⟩) (by show w1.heap.size < _; omega)
  have c0 : ∀ o, (w2.alloc o).cell? ⟨w1.heap.size, 0, none⟩ = some (.int .i64 1) := fun o => by rw [ol]; exact cellAt X2.out 0 rfl
  have c1 : ∀ o, (w2.alloc o).cell? ⟨w1.heap.size, 1, none⟩ = some (.int .i64 cl) := fun o => by rw [ol]; exact cellAt X2.out 1 rfl
  have c2 : ∀ o, (w2.alloc o).cell? ⟨w1.heap.size, 2, none⟩ = some (.int .i64 sq) := fun o => by rw [ol]; exact cellAt X2.out 2 rfl
  have c3 : ∀ o, (w2.alloc o).cell? ⟨w1.heap.size, 3, none⟩ = some (.int .i64 nm) := fun o => by rw [ol]; exact cellAt X2.out 3 rfl
  have c4 : ∀ o, (w2.alloc o).cell? ⟨w1.heap.size, 4, none⟩ = some (.int .i64 vl) := fun o => by rw [ol]; exact cellAt X2.out 4 rfl
  clear hb2 ol p0 p1 p2
  go_wp2_with fail
  refine (HPK.out _).mono ?_
  rintro e _ ⟨rfl, rfl⟩
  have B2' := Lib.hid (B2.out.alloc B2.out.size (.cells #[.int .i64 tc, .int .i64 tr, .int .i64 tu] 28))
  go_wp2_with fail
  refine (HAL.out _ (HN.out.stay B2'.out)).mono ?_
  rintro e w3 ⟨rfl, hb3⟩
  have B3 := Lib.hid (B2'.out.trans (hb3.mono B2'.out.size))
  have X3 := Lib.hid ((hb3.block w1.heap.size (by simp; omega)).trans ((heapOld w2 _ _ (by omega)).trans X2.out))
  have Y3 := Lib.hid ((hb3.block w2.heap.size (by simp)).trans (heapNew w2 _))
  have d0 := cellAt X3.out 0 rfl
  have d1 := cellAt X3.out 1 rfl
  have t0 := cellAt Y3.out 0 rfl
  have t1 := cellAt Y3.out 1 rfl
  have t2 := cellAt Y3.out 2 rfl
  clear hb3 c0 c1 c2 c3 c4
  go_wp2
  go_ret
  exact ⟨rfl, B3.out⟩
set_option maxRecDepth 100000 in
set_option maxHeartbeats 1000000 in
theorem ar_1_ne (x : Con.Cmd) (y : Con.Tok) (z cl sq nm vl tc tr tu n : Int) (w : World) (hx : WishOk x) (hy : PassOk y) (hz1 : -9223372036854775808 ≤ z) (hz2 : z ≤ 9223372036854775807)
    (hc : cmdOf x = ⟨1, cl, sq, nm, vl⟩) (ht : tokOf y = ⟨tc, tr, tu⟩) (hn : pick z 1048577 = n) (hN : Nd w) (hm : lacks tr 1 = false) (hn2 : tc ≠ cl) :
    Calls Tryd.prog 3 #[cmdV x, tokV y, .int .i64 z] w fun e w' => e = .returned (.bool true) ∧ Below w.heap.size w w' := by
  have hcmd := fun w => Command_any x w hx
  rw [hc] at hcmd
  have htok := fun w => Token_any y w hy
  rw [ht] at htok
  have hpk := fun w => picked_any z 1048577 w hz1 hz2 (by decide)
  rw [hn] at hpk
  have hck : checkC ⟨1, cl, sq, nm, vl⟩ = 0 := by rw [← hc]; exact cmdOf_check x
  have htk : (Con.Tok.mk tc tr tu).Ok := by rw [← ht]; exact tokOf_ok y
  have hal := fun w (h : Nd w) => Allows_any ⟨tc, tr, tu⟩ ⟨1, cl, sq, nm, vl⟩ n w htk hck h
  have hn0 : 0 ≤ n := by rw [← hn]; exact pick_nonneg z 1048577 (by decide)
  have hq : allowC ⟨tc, tr, tu⟩ ⟨1, cl, sq, nm, vl⟩ n = 11 := by
    unfold allowC
    dsimp only
    rw [if_pos (Or.inr (Or.inl hn2))]
  rw [hq] at hal
  have haz := fun w (h : Nd w) => Allows_any ⟨tc, tr, tu⟩ Cmd.zero n w htk (by decide) h
  unfold cmdV Cmd.zero at haz
  unfold cmdV at hcmd hal
  unfold tokV at htok hal haz
  dsimp only at hcmd htok hal haz
  have haz' : allowC ⟨tc, tr, tu⟩ ⟨0, 0, 0, 0, 0⟩ n = 11 := by unfold allowC; rw [if_pos (Or.inl rfl)]
  rw [haz'] at haz
  have HCMD := Lib.hid hcmd
  have HTOK := Lib.hid htok
  have HPK := Lib.hid hpk
  have HAL := Lib.hid hal
  have HAZ := Lib.hid haz
  have HN := Lib.hid hN

  have hmb : (bits .and .i64 tr 2 != 0) = true := by have h : (bits .and .i64 tr 2 == 0) = false := hm; rw [bne, h]; rfl
  have hnb : (tc != cl) = true := by simpa using hn2

  clear hcmd htok hpk hck htk hal hq haz haz' hN hx hy hc ht hn hn0 hm hn2
  obtain ⟨x0, x1, x2, x3, x4⟩ := x
  obtain ⟨y0, y1, y2⟩ := y
  unfold cmdV tokV
  dsimp only
  go_enter Tryd.func3, Tryd.ntmps3
  go_wp2_with fail
  refine (HCMD.out _).mono ?_
  rintro e w1 ⟨rfl, hb1⟩
  have s1 : w.heap.size + 2 ≤ w1.heap.size := by simpa using hb1.size
  have B1 := Lib.hid ((((Below.refl w.heap.size w).alloc (Nat.le_refl _) _).alloc (by simp) _).trans (hb1.mono (by simp; omega)))
  have X1 := Lib.hid ((hb1.block (w.heap.size + 1) (by simp)).trans (heapNew1 w _ _))
  have ol : ∀ (o : Obj) (j : Nat), (w1.alloc o).cell? ⟨w.heap.size + 1, j, none⟩ = w1.cell? ⟨w.heap.size + 1, j, none⟩ := fun o j => ((Below.refl w1.heap.size w1).alloc (Nat.le_refl _) o).cell (p := ⟨w.heap.size + 1, j, none⟩) (by show w.heap.size + 1 < _; omega)
  have p0 : ∀ o, (w1.alloc o).cell? ⟨w.heap.size + 1, 0, none⟩ = some (.int .i64 y0) := fun o => by rw [ol]; exact cellAt X1.out 0 rfl
  have p1 : ∀ o, (w1.alloc o).cell? ⟨w.heap.size + 1, 1, none⟩ = some (.int .i64 y1) := fun o => by rw [ol]; exact cellAt X1.out 1 rfl
  have p2 : ∀ o, (w1.alloc o).cell? ⟨w.heap.size + 1, 2, none⟩ = some (.int .i64 y2) := fun o => by rw [ol]; exact cellAt X1.out 2 rfl
  clear hb1 ol
  go_wp2_with fail
  refine (HTOK.out _).mono ?_
  rintro e w2 ⟨rfl, hb2⟩
  have s2 : w1.heap.size + 1 ≤ w2.heap.size := by simpa using hb2.size
  have B2 := Lib.hid ((B1.out.alloc (by omega) _).trans (hb2.mono (by simp; omega)))
  have X2 := Lib.hid ((hb2.block w1.heap.size (by simp)).trans (heapNew w1 _))
  have ol : ∀ (o : Obj) (j : Nat), (w2.alloc o).cell? ⟨w1.heap.size, j, none⟩ = w2.cell? ⟨w1.heap.size, j, none⟩ := fun o j => ((Below.refl w2.heap.size w2).alloc (Nat.le_refl _) o).cell (p := ⟨w1.heap.size, j, none⟩) (by show w1.heap.size < _; omega)
  have c0 : ∀ o, (w2.alloc o).cell? ⟨w1.heap.size, 0, none⟩ = some (.int .i64 1) := fun o => by rw [ol]; exact cellAt X2.out 0 rfl
  have c1 : ∀ o, (w2.alloc o).cell? ⟨w1.heap.size, 1, none⟩ = some (.int .i64 cl) := fun o => by rw [ol]; exact cellAt X2.out 1 rfl
  have c2 : ∀ o, (w2.alloc o).cell? ⟨w1.heap.size, 2, none⟩ = some (.int .i64 sq) := fun o => by rw [ol]; exact cellAt X2.out 2 rfl
  have c3 : ∀ o, (w2.alloc o).cell? ⟨w1.heap.size, 3, none⟩ = some (.int .i64 nm) := fun o => by rw [ol]; exact cellAt X2.out 3 rfl
  have c4 : ∀ o, (w2.alloc o).cell? ⟨w1.heap.size, 4, none⟩ = some (.int .i64 vl) := fun o => by rw [ol]; exact cellAt X2.out 4 rfl
  clear hb2 ol p0 p1 p2
  go_wp2_with fail
  refine (HPK.out _).mono ?_
  rintro e _ ⟨rfl, rfl⟩
  have B2' := Lib.hid (B2.out.alloc B2.out.size (.cells #[.int .i64 tc, .int .i64 tr, .int .i64 tu] 28))
  go_wp2_with fail
  refine (HAL.out _ (HN.out.stay B2'.out)).mono ?_
  rintro e w3 ⟨rfl, hb3⟩
  have B3 := Lib.hid (B2'.out.trans (hb3.mono B2'.out.size))
  have X3 := Lib.hid ((hb3.block w1.heap.size (by simp; omega)).trans ((heapOld w2 _ _ (by omega)).trans X2.out))
  have Y3 := Lib.hid ((hb3.block w2.heap.size (by simp)).trans (heapNew w2 _))
  have d0 := cellAt X3.out 0 rfl
  have d1 := cellAt X3.out 1 rfl
  have t0 := cellAt Y3.out 0 rfl
  have t1 := cellAt Y3.out 1 rfl
  have t2 := cellAt Y3.out 2 rfl
  clear hb3 c0 c1 c2 c3 c4
  go_wp2
  go_ret
  exact ⟨rfl, B3.out⟩
set_option maxRecDepth 100000 in
set_option maxHeartbeats 1000000 in
theorem ar_1_late (x : Con.Cmd) (y : Con.Tok) (z cl sq nm vl tc tr tu n : Int) (w : World) (hx : WishOk x) (hy : PassOk y) (hz1 : -9223372036854775808 ≤ z) (hz2 : z ≤ 9223372036854775807)
    (hc : cmdOf x = ⟨1, cl, sq, nm, vl⟩) (ht : tokOf y = ⟨tc, tr, tu⟩) (hn : pick z 1048577 = n) (hN : Nd w) (hm : lacks tr 1 = false) (hn2 : tc = cl) (hlt : tu < n) :
    Calls Tryd.prog 3 #[cmdV x, tokV y, .int .i64 z] w fun e w' => e = .returned (.bool true) ∧ Below w.heap.size w w' := by
  have hcmd := fun w => Command_any x w hx
  rw [hc] at hcmd
  have htok := fun w => Token_any y w hy
  rw [ht] at htok
  have hpk := fun w => picked_any z 1048577 w hz1 hz2 (by decide)
  rw [hn] at hpk
  have hck : checkC ⟨1, cl, sq, nm, vl⟩ = 0 := by rw [← hc]; exact cmdOf_check x
  have htk : (Con.Tok.mk tc tr tu).Ok := by rw [← ht]; exact tokOf_ok y
  have hal := fun w (h : Nd w) => Allows_any ⟨tc, tr, tu⟩ ⟨1, cl, sq, nm, vl⟩ n w htk hck h
  have hn0 : 0 ≤ n := by rw [← hn]; exact pick_nonneg z 1048577 (by decide)
  have hq : allowC ⟨tc, tr, tu⟩ ⟨1, cl, sq, nm, vl⟩ n = 10 := by
    unfold allowC
    dsimp only
    rw [if_neg (by intro h; rcases h with h | h | h <;> first | (exact absurd h (by decide)) | (exact absurd hn2 h) | (rw [hm] at h; cases h)), if_pos (Or.inr hlt)]
  rw [hq] at hal
  have haz := fun w (h : Nd w) => Allows_any ⟨tc, tr, tu⟩ Cmd.zero n w htk (by decide) h
  unfold cmdV Cmd.zero at haz
  unfold cmdV at hcmd hal
  unfold tokV at htok hal haz
  dsimp only at hcmd htok hal haz
  have haz' : allowC ⟨tc, tr, tu⟩ ⟨0, 0, 0, 0, 0⟩ n = 11 := by unfold allowC; rw [if_pos (Or.inl rfl)]
  rw [haz'] at haz
  have HCMD := Lib.hid hcmd
  have HTOK := Lib.hid htok
  have HPK := Lib.hid hpk
  have HAL := Lib.hid hal
  have HAZ := Lib.hid haz
  have HN := Lib.hid hN

  have hmb : (bits .and .i64 tr 2 != 0) = true := by have h : (bits .and .i64 tr 2 == 0) = false := hm; rw [bne, h]; rfl
  have hnb : (tc != cl) = false := by simpa using hn2

  clear hcmd htok hpk hck htk hal hq haz haz' hN hx hy hc ht hn hn0 hm hn2
  obtain ⟨x0, x1, x2, x3, x4⟩ := x
  obtain ⟨y0, y1, y2⟩ := y
  unfold cmdV tokV
  dsimp only
  go_enter Tryd.func3, Tryd.ntmps3
  go_wp2_with fail
  refine (HCMD.out _).mono ?_
  rintro e w1 ⟨rfl, hb1⟩
  have s1 : w.heap.size + 2 ≤ w1.heap.size := by simpa using hb1.size
  have B1 := Lib.hid ((((Below.refl w.heap.size w).alloc (Nat.le_refl _) _).alloc (by simp) _).trans (hb1.mono (by simp; omega)))
  have X1 := Lib.hid ((hb1.block (w.heap.size + 1) (by simp)).trans (heapNew1 w _ _))
  have ol : ∀ (o : Obj) (j : Nat), (w1.alloc o).cell? ⟨w.heap.size + 1, j, none⟩ = w1.cell? ⟨w.heap.size + 1, j, none⟩ := fun o j => ((Below.refl w1.heap.size w1).alloc (Nat.le_refl _) o).cell (p := ⟨w.heap.size + 1, j, none⟩) (by show w.heap.size + 1 < _; omega)
  have p0 : ∀ o, (w1.alloc o).cell? ⟨w.heap.size + 1, 0, none⟩ = some (.int .i64 y0) := fun o => by rw [ol]; exact cellAt X1.out 0 rfl
  have p1 : ∀ o, (w1.alloc o).cell? ⟨w.heap.size + 1, 1, none⟩ = some (.int .i64 y1) := fun o => by rw [ol]; exact cellAt X1.out 1 rfl
  have p2 : ∀ o, (w1.alloc o).cell? ⟨w.heap.size + 1, 2, none⟩ = some (.int .i64 y2) := fun o => by rw [ol]; exact cellAt X1.out 2 rfl
  clear hb1 ol
  go_wp2_with fail
  refine (HTOK.out _).mono ?_
  rintro e w2 ⟨rfl, hb2⟩
  have s2 : w1.heap.size + 1 ≤ w2.heap.size := by simpa using hb2.size
  have B2 := Lib.hid ((B1.out.alloc (by omega) _).trans (hb2.mono (by simp; omega)))
  have X2 := Lib.hid ((hb2.block w1.heap.size (by simp)).trans (heapNew w1 _))
  have ol : ∀ (o : Obj) (j : Nat), (w2.alloc o).cell? ⟨w1.heap.size, j, none⟩ = w2.cell? ⟨w1.heap.size, j, none⟩ := fun o j => ((Below.refl w2.heap.size w2).alloc (Nat.le_refl _) o).cell (p := ⟨w1.heap.size, j, none⟩) (by show w1.heap.size < _; omega)
  have c0 : ∀ o, (w2.alloc o).cell? ⟨w1.heap.size, 0, none⟩ = some (.int .i64 1) := fun o => by rw [ol]; exact cellAt X2.out 0 rfl
  have c1 : ∀ o, (w2.alloc o).cell? ⟨w1.heap.size, 1, none⟩ = some (.int .i64 cl) := fun o => by rw [ol]; exact cellAt X2.out 1 rfl
  have c2 : ∀ o, (w2.alloc o).cell? ⟨w1.heap.size, 2, none⟩ = some (.int .i64 sq) := fun o => by rw [ol]; exact cellAt X2.out 2 rfl
  have c3 : ∀ o, (w2.alloc o).cell? ⟨w1.heap.size, 3, none⟩ = some (.int .i64 nm) := fun o => by rw [ol]; exact cellAt X2.out 3 rfl
  have c4 : ∀ o, (w2.alloc o).cell? ⟨w1.heap.size, 4, none⟩ = some (.int .i64 vl) := fun o => by rw [ol]; exact cellAt X2.out 4 rfl
  clear hb2 ol p0 p1 p2
  go_wp2_with fail
  refine (HPK.out _).mono ?_
  rintro e _ ⟨rfl, rfl⟩
  have B2' := Lib.hid (B2.out.alloc B2.out.size (.cells #[.int .i64 tc, .int .i64 tr, .int .i64 tu] 28))
  go_wp2_with fail
  refine (HAL.out _ (HN.out.stay B2'.out)).mono ?_
  rintro e w3 ⟨rfl, hb3⟩
  have B3 := Lib.hid (B2'.out.trans (hb3.mono B2'.out.size))
  have X3 := Lib.hid ((hb3.block w1.heap.size (by simp; omega)).trans ((heapOld w2 _ _ (by omega)).trans X2.out))
  have Y3 := Lib.hid ((hb3.block w2.heap.size (by simp)).trans (heapNew w2 _))
  have d0 := cellAt X3.out 0 rfl
  have d1 := cellAt X3.out 1 rfl
  have t0 := cellAt Y3.out 0 rfl
  have t1 := cellAt Y3.out 1 rfl
  have t2 := cellAt Y3.out 2 rfl
  clear hb3 c0 c1 c2 c3 c4
  go_wp2
  go_ret
  exact ⟨rfl, B3.out⟩
set_option maxRecDepth 100000 in
set_option maxHeartbeats 1000000 in
theorem ar_1_ok (x : Con.Cmd) (y : Con.Tok) (z cl sq nm vl tc tr tu n : Int) (w : World) (hx : WishOk x) (hy : PassOk y) (hz1 : -9223372036854775808 ≤ z) (hz2 : z ≤ 9223372036854775807)
    (hc : cmdOf x = ⟨1, cl, sq, nm, vl⟩) (ht : tokOf y = ⟨tc, tr, tu⟩) (hn : pick z 1048577 = n) (hN : Nd w) (hm : lacks tr 1 = false) (hn2 : tc = cl) (hle : n ≤ tu) :
    Calls Tryd.prog 3 #[cmdV x, tokV y, .int .i64 z] w fun e w' => e = .returned (.bool true) ∧ Below w.heap.size w w' := by
  have hcmd := fun w => Command_any x w hx
  rw [hc] at hcmd
  have htok := fun w => Token_any y w hy
  rw [ht] at htok
  have hpk := fun w => picked_any z 1048577 w hz1 hz2 (by decide)
  rw [hn] at hpk
  have hck : checkC ⟨1, cl, sq, nm, vl⟩ = 0 := by rw [← hc]; exact cmdOf_check x
  have htk : (Con.Tok.mk tc tr tu).Ok := by rw [← ht]; exact tokOf_ok y
  have hal := fun w (h : Nd w) => Allows_any ⟨tc, tr, tu⟩ ⟨1, cl, sq, nm, vl⟩ n w htk hck h
  have hn0 : 0 ≤ n := by rw [← hn]; exact pick_nonneg z 1048577 (by decide)
  have hq : allowC ⟨tc, tr, tu⟩ ⟨1, cl, sq, nm, vl⟩ n = 0 := by
    unfold allowC
    dsimp only
    rw [if_neg (by intro h; rcases h with h | h | h <;> first | (exact absurd h (by decide)) | (exact absurd hn2 h) | (rw [hm] at h; cases h)), if_neg (by omega)]
  rw [hq] at hal
  have haz := fun w (h : Nd w) => Allows_any ⟨tc, tr, tu⟩ Cmd.zero n w htk (by decide) h
  unfold cmdV Cmd.zero at haz
  unfold cmdV at hcmd hal
  unfold tokV at htok hal haz
  dsimp only at hcmd htok hal haz
  have haz' : allowC ⟨tc, tr, tu⟩ ⟨0, 0, 0, 0, 0⟩ n = 11 := by unfold allowC; rw [if_pos (Or.inl rfl)]
  rw [haz'] at haz
  have HCMD := Lib.hid hcmd
  have HTOK := Lib.hid htok
  have HPK := Lib.hid hpk
  have HAL := Lib.hid hal
  have HAZ := Lib.hid haz
  have HN := Lib.hid hN

  have hmb : (bits .and .i64 tr 2 != 0) = true := by have h : (bits .and .i64 tr 2 == 0) = false := hm; rw [bne, h]; rfl
  have hnb : (tc != cl) = false := by simpa using hn2

  clear hcmd htok hpk hck htk hal hq haz haz' hN hx hy hc ht hn hn0 hm hn2
  obtain ⟨x0, x1, x2, x3, x4⟩ := x
  obtain ⟨y0, y1, y2⟩ := y
  unfold cmdV tokV
  dsimp only
  go_enter Tryd.func3, Tryd.ntmps3
  go_wp2_with fail
  refine (HCMD.out _).mono ?_
  rintro e w1 ⟨rfl, hb1⟩
  have s1 : w.heap.size + 2 ≤ w1.heap.size := by simpa using hb1.size
  have B1 := Lib.hid ((((Below.refl w.heap.size w).alloc (Nat.le_refl _) _).alloc (by simp) _).trans (hb1.mono (by simp; omega)))
  have X1 := Lib.hid ((hb1.block (w.heap.size + 1) (by simp)).trans (heapNew1 w _ _))
  have ol : ∀ (o : Obj) (j : Nat), (w1.alloc o).cell? ⟨w.heap.size + 1, j, none⟩ = w1.cell? ⟨w.heap.size + 1, j, none⟩ := fun o j => ((Below.refl w1.heap.size w1).alloc (Nat.le_refl _) o).cell (p := ⟨w.heap.size + 1, j, none⟩) (by show w.heap.size + 1 < _; omega)
  have p0 : ∀ o, (w1.alloc o).cell? ⟨w.heap.size + 1, 0, none⟩ = some (.int .i64 y0) := fun o => by rw [ol]; exact cellAt X1.out 0 rfl
  have p1 : ∀ o, (w1.alloc o).cell? ⟨w.heap.size + 1, 1, none⟩ = some (.int .i64 y1) := fun o => by rw [ol]; exact cellAt X1.out 1 rfl
  have p2 : ∀ o, (w1.alloc o).cell? ⟨w.heap.size + 1, 2, none⟩ = some (.int .i64 y2) := fun o => by rw [ol]; exact cellAt X1.out 2 rfl
  clear hb1 ol
  go_wp2_with fail
  refine (HTOK.out _).mono ?_
  rintro e w2 ⟨rfl, hb2⟩
  have s2 : w1.heap.size + 1 ≤ w2.heap.size := by simpa using hb2.size
  have B2 := Lib.hid ((B1.out.alloc (by omega) _).trans (hb2.mono (by simp; omega)))
  have X2 := Lib.hid ((hb2.block w1.heap.size (by simp)).trans (heapNew w1 _))
  have ol : ∀ (o : Obj) (j : Nat), (w2.alloc o).cell? ⟨w1.heap.size, j, none⟩ = w2.cell? ⟨w1.heap.size, j, none⟩ := fun o j => ((Below.refl w2.heap.size w2).alloc (Nat.le_refl _) o).cell (p := ⟨w1.heap.size, j, none⟩) (by show w1.heap.size < _; omega)
  have c0 : ∀ o, (w2.alloc o).cell? ⟨w1.heap.size, 0, none⟩ = some (.int .i64 1) := fun o => by rw [ol]; exact cellAt X2.out 0 rfl
  have c1 : ∀ o, (w2.alloc o).cell? ⟨w1.heap.size, 1, none⟩ = some (.int .i64 cl) := fun o => by rw [ol]; exact cellAt X2.out 1 rfl
  have c2 : ∀ o, (w2.alloc o).cell? ⟨w1.heap.size, 2, none⟩ = some (.int .i64 sq) := fun o => by rw [ol]; exact cellAt X2.out 2 rfl
  have c3 : ∀ o, (w2.alloc o).cell? ⟨w1.heap.size, 3, none⟩ = some (.int .i64 nm) := fun o => by rw [ol]; exact cellAt X2.out 3 rfl
  have c4 : ∀ o, (w2.alloc o).cell? ⟨w1.heap.size, 4, none⟩ = some (.int .i64 vl) := fun o => by rw [ol]; exact cellAt X2.out 4 rfl
  clear hb2 ol p0 p1 p2
  go_wp2_with fail
  refine (HPK.out _).mono ?_
  rintro e _ ⟨rfl, rfl⟩
  have B2' := Lib.hid (B2.out.alloc B2.out.size (.cells #[.int .i64 tc, .int .i64 tr, .int .i64 tu] 28))
  go_wp2_with fail
  refine (HAL.out _ (HN.out.stay B2'.out)).mono ?_
  rintro e w3 ⟨rfl, hb3⟩
  have B3 := Lib.hid (B2'.out.trans (hb3.mono B2'.out.size))
  have X3 := Lib.hid ((hb3.block w1.heap.size (by simp; omega)).trans ((heapOld w2 _ _ (by omega)).trans X2.out))
  have Y3 := Lib.hid ((hb3.block w2.heap.size (by simp)).trans (heapNew w2 _))
  have d0 := cellAt X3.out 0 rfl
  have d1 := cellAt X3.out 1 rfl
  have t0 := cellAt Y3.out 0 rfl
  have t1 := cellAt Y3.out 1 rfl
  have t2 := cellAt Y3.out 2 rfl
  clear hb3 c0 c1 c2 c3 c4
  go_wp2_with fail
  refine (HAZ.out _ (HN.out.stay B3.out)).mono ?_
  rintro e w4 ⟨rfl, hb4⟩
  have B4 := Lib.hid (B3.out.trans (hb4.mono B3.out.size))
  clear hb4
  go_wp2
  go_ret
  exact ⟨rfl, B4.out⟩
set_option maxRecDepth 100000 in
set_option maxHeartbeats 1000000 in
theorem ar_2_lk (x : Con.Cmd) (y : Con.Tok) (z cl sq nm vl tc tr tu n : Int) (w : World) (hx : WishOk x) (hy : PassOk y) (hz1 : -9223372036854775808 ≤ z) (hz2 : z ≤ 9223372036854775807)
    (hc : cmdOf x = ⟨2, cl, sq, nm, vl⟩) (ht : tokOf y = ⟨tc, tr, tu⟩) (hn : pick z 1048577 = n) (hN : Nd w) (hm : lacks tr 2 = true) :
    Calls Tryd.prog 3 #[cmdV x, tokV y, .int .i64 z] w fun e w' => e = .returned (.bool true) ∧ Below w.heap.size w w' := by
  have hcmd := fun w => Command_any x w hx
  rw [hc] at hcmd
  have htok := fun w => Token_any y w hy
  rw [ht] at htok
  have hpk := fun w => picked_any z 1048577 w hz1 hz2 (by decide)
  rw [hn] at hpk
  have hck : checkC ⟨2, cl, sq, nm, vl⟩ = 0 := by rw [← hc]; exact cmdOf_check x
  have htk : (Con.Tok.mk tc tr tu).Ok := by rw [← ht]; exact tokOf_ok y
  have hal := fun w (h : Nd w) => Allows_any ⟨tc, tr, tu⟩ ⟨2, cl, sq, nm, vl⟩ n w htk hck h
  have hn0 : 0 ≤ n := by rw [← hn]; exact pick_nonneg z 1048577 (by decide)
  have hq : allowC ⟨tc, tr, tu⟩ ⟨2, cl, sq, nm, vl⟩ n = 11 := by
    unfold allowC
    dsimp only
    rw [if_pos (Or.inr (Or.inr hm))]
  rw [hq] at hal
  have haz := fun w (h : Nd w) => Allows_any ⟨tc, tr, tu⟩ Cmd.zero n w htk (by decide) h
  unfold cmdV Cmd.zero at haz
  unfold cmdV at hcmd hal
  unfold tokV at htok hal haz
  dsimp only at hcmd htok hal haz
  have haz' : allowC ⟨tc, tr, tu⟩ ⟨0, 0, 0, 0, 0⟩ n = 11 := by unfold allowC; rw [if_pos (Or.inl rfl)]
  rw [haz'] at haz
  have HCMD := Lib.hid hcmd
  have HTOK := Lib.hid htok
  have HPK := Lib.hid hpk
  have HAL := Lib.hid hal
  have HAZ := Lib.hid haz
  have HN := Lib.hid hN

  have hmb : (bits .and .i64 tr 1 != 0) = false := by have h : (bits .and .i64 tr 1 == 0) = true := hm; rw [bne, h]; rfl

  clear hcmd htok hpk hck htk hal hq haz haz' hN hx hy hc ht hn hn0 hm
  obtain ⟨x0, x1, x2, x3, x4⟩ := x
  obtain ⟨y0, y1, y2⟩ := y
  unfold cmdV tokV
  dsimp only
  go_enter Tryd.func3, Tryd.ntmps3
  go_wp2_with fail
  refine (HCMD.out _).mono ?_
  rintro e w1 ⟨rfl, hb1⟩
  have s1 : w.heap.size + 2 ≤ w1.heap.size := by simpa using hb1.size
  have B1 := Lib.hid ((((Below.refl w.heap.size w).alloc (Nat.le_refl _) _).alloc (by simp) _).trans (hb1.mono (by simp; omega)))
  have X1 := Lib.hid ((hb1.block (w.heap.size + 1) (by simp)).trans (heapNew1 w _ _))
  have ol : ∀ (o : Obj) (j : Nat), (w1.alloc o).cell? ⟨w.heap.size + 1, j, none⟩ = w1.cell? ⟨w.heap.size + 1, j, none⟩ := fun o j => ((Below.refl w1.heap.size w1).alloc (Nat.le_refl _) o).cell (p := ⟨w.heap.size + 1, j, none⟩) (by show w.heap.size + 1 < _; omega)
  have p0 : ∀ o, (w1.alloc o).cell? ⟨w.heap.size + 1, 0, none⟩ = some (.int .i64 y0) := fun o => by rw [ol]; exact cellAt X1.out 0 rfl
  have p1 : ∀ o, (w1.alloc o).cell? ⟨w.heap.size + 1, 1, none⟩ = some (.int .i64 y1) := fun o => by rw [ol]; exact cellAt X1.out 1 rfl
  have p2 : ∀ o, (w1.alloc o).cell? ⟨w.heap.size + 1, 2, none⟩ = some (.int .i64 y2) := fun o => by rw [ol]; exact cellAt X1.out 2 rfl
  clear hb1 ol
  go_wp2_with fail
  refine (HTOK.out _).mono ?_
  rintro e w2 ⟨rfl, hb2⟩
  have s2 : w1.heap.size + 1 ≤ w2.heap.size := by simpa using hb2.size
  have B2 := Lib.hid ((B1.out.alloc (by omega) _).trans (hb2.mono (by simp; omega)))
  have X2 := Lib.hid ((hb2.block w1.heap.size (by simp)).trans (heapNew w1 _))
  have ol : ∀ (o : Obj) (j : Nat), (w2.alloc o).cell? ⟨w1.heap.size, j, none⟩ = w2.cell? ⟨w1.heap.size, j, none⟩ := fun o j => ((Below.refl w2.heap.size w2).alloc (Nat.le_refl _) o).cell (p := ⟨w1.heap.size, j, none⟩) (by show w1.heap.size < _; omega)
  have c0 : ∀ o, (w2.alloc o).cell? ⟨w1.heap.size, 0, none⟩ = some (.int .i64 2) := fun o => by rw [ol]; exact cellAt X2.out 0 rfl
  have c1 : ∀ o, (w2.alloc o).cell? ⟨w1.heap.size, 1, none⟩ = some (.int .i64 cl) := fun o => by rw [ol]; exact cellAt X2.out 1 rfl
  have c2 : ∀ o, (w2.alloc o).cell? ⟨w1.heap.size, 2, none⟩ = some (.int .i64 sq) := fun o => by rw [ol]; exact cellAt X2.out 2 rfl
  have c3 : ∀ o, (w2.alloc o).cell? ⟨w1.heap.size, 3, none⟩ = some (.int .i64 nm) := fun o => by rw [ol]; exact cellAt X2.out 3 rfl
  have c4 : ∀ o, (w2.alloc o).cell? ⟨w1.heap.size, 4, none⟩ = some (.int .i64 vl) := fun o => by rw [ol]; exact cellAt X2.out 4 rfl
  clear hb2 ol p0 p1 p2
  go_wp2_with fail
  refine (HPK.out _).mono ?_
  rintro e _ ⟨rfl, rfl⟩
  have B2' := Lib.hid (B2.out.alloc B2.out.size (.cells #[.int .i64 tc, .int .i64 tr, .int .i64 tu] 28))
  go_wp2_with fail
  refine (HAL.out _ (HN.out.stay B2'.out)).mono ?_
  rintro e w3 ⟨rfl, hb3⟩
  have B3 := Lib.hid (B2'.out.trans (hb3.mono B2'.out.size))
  have X3 := Lib.hid ((hb3.block w1.heap.size (by simp; omega)).trans ((heapOld w2 _ _ (by omega)).trans X2.out))
  have Y3 := Lib.hid ((hb3.block w2.heap.size (by simp)).trans (heapNew w2 _))
  have d0 := cellAt X3.out 0 rfl
  have d1 := cellAt X3.out 1 rfl
  have t0 := cellAt Y3.out 0 rfl
  have t1 := cellAt Y3.out 1 rfl
  have t2 := cellAt Y3.out 2 rfl
  clear hb3 c0 c1 c2 c3 c4
  go_wp2
  go_ret
  exact ⟨rfl, B3.out⟩
set_option maxRecDepth 100000 in
set_option maxHeartbeats 1000000 in
theorem ar_2_ne (x : Con.Cmd) (y : Con.Tok) (z cl sq nm vl tc tr tu n : Int) (w : World) (hx : WishOk x) (hy : PassOk y) (hz1 : -9223372036854775808 ≤ z) (hz2 : z ≤ 9223372036854775807)
    (hc : cmdOf x = ⟨2, cl, sq, nm, vl⟩) (ht : tokOf y = ⟨tc, tr, tu⟩) (hn : pick z 1048577 = n) (hN : Nd w) (hm : lacks tr 2 = false) (hn2 : tc ≠ cl) :
    Calls Tryd.prog 3 #[cmdV x, tokV y, .int .i64 z] w fun e w' => e = .returned (.bool true) ∧ Below w.heap.size w w' := by
  have hcmd := fun w => Command_any x w hx
  rw [hc] at hcmd
  have htok := fun w => Token_any y w hy
  rw [ht] at htok
  have hpk := fun w => picked_any z 1048577 w hz1 hz2 (by decide)
  rw [hn] at hpk
  have hck : checkC ⟨2, cl, sq, nm, vl⟩ = 0 := by rw [← hc]; exact cmdOf_check x
  have htk : (Con.Tok.mk tc tr tu).Ok := by rw [← ht]; exact tokOf_ok y
  have hal := fun w (h : Nd w) => Allows_any ⟨tc, tr, tu⟩ ⟨2, cl, sq, nm, vl⟩ n w htk hck h
  have hn0 : 0 ≤ n := by rw [← hn]; exact pick_nonneg z 1048577 (by decide)
  have hq : allowC ⟨tc, tr, tu⟩ ⟨2, cl, sq, nm, vl⟩ n = 11 := by
    unfold allowC
    dsimp only
    rw [if_pos (Or.inr (Or.inl hn2))]
  rw [hq] at hal
  have haz := fun w (h : Nd w) => Allows_any ⟨tc, tr, tu⟩ Cmd.zero n w htk (by decide) h
  unfold cmdV Cmd.zero at haz
  unfold cmdV at hcmd hal
  unfold tokV at htok hal haz
  dsimp only at hcmd htok hal haz
  have haz' : allowC ⟨tc, tr, tu⟩ ⟨0, 0, 0, 0, 0⟩ n = 11 := by unfold allowC; rw [if_pos (Or.inl rfl)]
  rw [haz'] at haz
  have HCMD := Lib.hid hcmd
  have HTOK := Lib.hid htok
  have HPK := Lib.hid hpk
  have HAL := Lib.hid hal
  have HAZ := Lib.hid haz
  have HN := Lib.hid hN

  have hmb : (bits .and .i64 tr 1 != 0) = true := by have h : (bits .and .i64 tr 1 == 0) = false := hm; rw [bne, h]; rfl
  have hnb : (tc != cl) = true := by simpa using hn2

  clear hcmd htok hpk hck htk hal hq haz haz' hN hx hy hc ht hn hn0 hm hn2
  obtain ⟨x0, x1, x2, x3, x4⟩ := x
  obtain ⟨y0, y1, y2⟩ := y
  unfold cmdV tokV
  dsimp only
  go_enter Tryd.func3, Tryd.ntmps3
  go_wp2_with fail
  refine (HCMD.out _).mono ?_
  rintro e w1 ⟨rfl, hb1⟩
  have s1 : w.heap.size + 2 ≤ w1.heap.size := by simpa using hb1.size
  have B1 := Lib.hid ((((Below.refl w.heap.size w).alloc (Nat.le_refl _) _).alloc (by simp) _).trans (hb1.mono (by simp; omega)))
  have X1 := Lib.hid ((hb1.block (w.heap.size + 1) (by simp)).trans (heapNew1 w _ _))
  have ol : ∀ (o : Obj) (j : Nat), (w1.alloc o).cell? ⟨w.heap.size + 1, j, none⟩ = w1.cell? ⟨w.heap.size + 1, j, none⟩ := fun o j => ((Below.refl w1.heap.size w1).alloc (Nat.le_refl _) o).cell (p := ⟨w.heap.size + 1, j, none⟩) (by show w.heap.size + 1 < _; omega)
  have p0 : ∀ o, (w1.alloc o).cell? ⟨w.heap.size + 1, 0, none⟩ = some (.int .i64 y0) := fun o => by rw [ol]; exact cellAt X1.out 0 rfl
  have p1 : ∀ o, (w1.alloc o).cell? ⟨w.heap.size + 1, 1, none⟩ = some (.int .i64 y1) := fun o => by rw [ol]; exact cellAt X1.out 1 rfl
  have p2 : ∀ o, (w1.alloc o).cell? ⟨w.heap.size + 1, 2, none⟩ = some (.int .i64 y2) := fun o => by rw [ol]; exact cellAt X1.out 2 rfl
  clear hb1 ol
  go_wp2_with fail
  refine (HTOK.out _).mono ?_
  rintro e w2 ⟨rfl, hb2⟩
  have s2 : w1.heap.size + 1 ≤ w2.heap.size := by simpa using hb2.size
  have B2 := Lib.hid ((B1.out.alloc (by omega) _).trans (hb2.mono (by simp; omega)))
  have X2 := Lib.hid ((hb2.block w1.heap.size (by simp)).trans (heapNew w1 _))
  have ol : ∀ (o : Obj) (j : Nat), (w2.alloc o).cell? ⟨w1.heap.size, j, none⟩ = w2.cell? ⟨w1.heap.size, j, none⟩ := fun o j => ((Below.refl w2.heap.size w2).alloc (Nat.le_refl _) o).cell (p := ⟨w1.heap.size, j, none⟩) (by show w1.heap.size < _; omega)
  have c0 : ∀ o, (w2.alloc o).cell? ⟨w1.heap.size, 0, none⟩ = some (.int .i64 2) := fun o => by rw [ol]; exact cellAt X2.out 0 rfl
  have c1 : ∀ o, (w2.alloc o).cell? ⟨w1.heap.size, 1, none⟩ = some (.int .i64 cl) := fun o => by rw [ol]; exact cellAt X2.out 1 rfl
  have c2 : ∀ o, (w2.alloc o).cell? ⟨w1.heap.size, 2, none⟩ = some (.int .i64 sq) := fun o => by rw [ol]; exact cellAt X2.out 2 rfl
  have c3 : ∀ o, (w2.alloc o).cell? ⟨w1.heap.size, 3, none⟩ = some (.int .i64 nm) := fun o => by rw [ol]; exact cellAt X2.out 3 rfl
  have c4 : ∀ o, (w2.alloc o).cell? ⟨w1.heap.size, 4, none⟩ = some (.int .i64 vl) := fun o => by rw [ol]; exact cellAt X2.out 4 rfl
  clear hb2 ol p0 p1 p2
  go_wp2_with fail
  refine (HPK.out _).mono ?_
  rintro e _ ⟨rfl, rfl⟩
  have B2' := Lib.hid (B2.out.alloc B2.out.size (.cells #[.int .i64 tc, .int .i64 tr, .int .i64 tu] 28))
  go_wp2_with fail
  refine (HAL.out _ (HN.out.stay B2'.out)).mono ?_
  rintro e w3 ⟨rfl, hb3⟩
  have B3 := Lib.hid (B2'.out.trans (hb3.mono B2'.out.size))
  have X3 := Lib.hid ((hb3.block w1.heap.size (by simp; omega)).trans ((heapOld w2 _ _ (by omega)).trans X2.out))
  have Y3 := Lib.hid ((hb3.block w2.heap.size (by simp)).trans (heapNew w2 _))
  have d0 := cellAt X3.out 0 rfl
  have d1 := cellAt X3.out 1 rfl
  have t0 := cellAt Y3.out 0 rfl
  have t1 := cellAt Y3.out 1 rfl
  have t2 := cellAt Y3.out 2 rfl
  clear hb3 c0 c1 c2 c3 c4
  go_wp2
  go_ret
  exact ⟨rfl, B3.out⟩
set_option maxRecDepth 100000 in
set_option maxHeartbeats 1000000 in
theorem ar_2_late (x : Con.Cmd) (y : Con.Tok) (z cl sq nm vl tc tr tu n : Int) (w : World) (hx : WishOk x) (hy : PassOk y) (hz1 : -9223372036854775808 ≤ z) (hz2 : z ≤ 9223372036854775807)
    (hc : cmdOf x = ⟨2, cl, sq, nm, vl⟩) (ht : tokOf y = ⟨tc, tr, tu⟩) (hn : pick z 1048577 = n) (hN : Nd w) (hm : lacks tr 2 = false) (hn2 : tc = cl) (hlt : tu < n) :
    Calls Tryd.prog 3 #[cmdV x, tokV y, .int .i64 z] w fun e w' => e = .returned (.bool true) ∧ Below w.heap.size w w' := by
  have hcmd := fun w => Command_any x w hx
  rw [hc] at hcmd
  have htok := fun w => Token_any y w hy
  rw [ht] at htok
  have hpk := fun w => picked_any z 1048577 w hz1 hz2 (by decide)
  rw [hn] at hpk
  have hck : checkC ⟨2, cl, sq, nm, vl⟩ = 0 := by rw [← hc]; exact cmdOf_check x
  have htk : (Con.Tok.mk tc tr tu).Ok := by rw [← ht]; exact tokOf_ok y
  have hal := fun w (h : Nd w) => Allows_any ⟨tc, tr, tu⟩ ⟨2, cl, sq, nm, vl⟩ n w htk hck h
  have hn0 : 0 ≤ n := by rw [← hn]; exact pick_nonneg z 1048577 (by decide)
  have hq : allowC ⟨tc, tr, tu⟩ ⟨2, cl, sq, nm, vl⟩ n = 10 := by
    unfold allowC
    dsimp only
    rw [if_neg (by intro h; rcases h with h | h | h <;> first | (exact absurd h (by decide)) | (exact absurd hn2 h) | (rw [hm] at h; cases h)), if_pos (Or.inr hlt)]
  rw [hq] at hal
  have haz := fun w (h : Nd w) => Allows_any ⟨tc, tr, tu⟩ Cmd.zero n w htk (by decide) h
  unfold cmdV Cmd.zero at haz
  unfold cmdV at hcmd hal
  unfold tokV at htok hal haz
  dsimp only at hcmd htok hal haz
  have haz' : allowC ⟨tc, tr, tu⟩ ⟨0, 0, 0, 0, 0⟩ n = 11 := by unfold allowC; rw [if_pos (Or.inl rfl)]
  rw [haz'] at haz
  have HCMD := Lib.hid hcmd
  have HTOK := Lib.hid htok
  have HPK := Lib.hid hpk
  have HAL := Lib.hid hal
  have HAZ := Lib.hid haz
  have HN := Lib.hid hN

  have hmb : (bits .and .i64 tr 1 != 0) = true := by have h : (bits .and .i64 tr 1 == 0) = false := hm; rw [bne, h]; rfl
  have hnb : (tc != cl) = false := by simpa using hn2

  clear hcmd htok hpk hck htk hal hq haz haz' hN hx hy hc ht hn hn0 hm hn2
  obtain ⟨x0, x1, x2, x3, x4⟩ := x
  obtain ⟨y0, y1, y2⟩ := y
  unfold cmdV tokV
  dsimp only
  go_enter Tryd.func3, Tryd.ntmps3
  go_wp2_with fail
  refine (HCMD.out _).mono ?_
  rintro e w1 ⟨rfl, hb1⟩
  have s1 : w.heap.size + 2 ≤ w1.heap.size := by simpa using hb1.size
  have B1 := Lib.hid ((((Below.refl w.heap.size w).alloc (Nat.le_refl _) _).alloc (by simp) _).trans (hb1.mono (by simp; omega)))
  have X1 := Lib.hid ((hb1.block (w.heap.size + 1) (by simp)).trans (heapNew1 w _ _))
  have ol : ∀ (o : Obj) (j : Nat), (w1.alloc o).cell? ⟨w.heap.size + 1, j, none⟩ = w1.cell? ⟨w.heap.size + 1, j, none⟩ := fun o j => ((Below.refl w1.heap.size w1).alloc (Nat.le_refl _) o).cell (p := ⟨w.heap.size + 1, j, none⟩) (by show w.heap.size + 1 < _; omega)
  have p0 : ∀ o, (w1.alloc o).cell? ⟨w.heap.size + 1, 0, none⟩ = some (.int .i64 y0) := fun o => by rw [ol]; exact cellAt X1.out 0 rfl
  have p1 : ∀ o, (w1.alloc o).cell? ⟨w.heap.size + 1, 1, none⟩ = some (.int .i64 y1) := fun o => by rw [ol]; exact cellAt X1.out 1 rfl
  have p2 : ∀ o, (w1.alloc o).cell? ⟨w.heap.size + 1, 2, none⟩ = some (.int .i64 y2) := fun o => by rw [ol]; exact cellAt X1.out 2 rfl
  clear hb1 ol
  go_wp2_with fail
  refine (HTOK.out _).mono ?_
  rintro e w2 ⟨rfl, hb2⟩
  have s2 : w1.heap.size + 1 ≤ w2.heap.size := by simpa using hb2.size
  have B2 := Lib.hid ((B1.out.alloc (by omega) _).trans (hb2.mono (by simp; omega)))
  have X2 := Lib.hid ((hb2.block w1.heap.size (by simp)).trans (heapNew w1 _))
  have ol : ∀ (o : Obj) (j : Nat), (w2.alloc o).cell? ⟨w1.heap.size, j, none⟩ = w2.cell? ⟨w1.heap.size, j, none⟩ := fun o j => ((Below.refl w2.heap.size w2).alloc (Nat.le_refl _) o).cell (p := ⟨w1.heap.size, j, none⟩) (by show w1.heap.size < _; omega)
  have c0 : ∀ o, (w2.alloc o).cell? ⟨w1.heap.size, 0, none⟩ = some (.int .i64 2) := fun o => by rw [ol]; exact cellAt X2.out 0 rfl
  have c1 : ∀ o, (w2.alloc o).cell? ⟨w1.heap.size, 1, none⟩ = some (.int .i64 cl) := fun o => by rw [ol]; exact cellAt X2.out 1 rfl
  have c2 : ∀ o, (w2.alloc o).cell? ⟨w1.heap.size, 2, none⟩ = some (.int .i64 sq) := fun o => by rw [ol]; exact cellAt X2.out 2 rfl
  have c3 : ∀ o, (w2.alloc o).cell? ⟨w1.heap.size, 3, none⟩ = some (.int .i64 nm) := fun o => by rw [ol]; exact cellAt X2.out 3 rfl
  have c4 : ∀ o, (w2.alloc o).cell? ⟨w1.heap.size, 4, none⟩ = some (.int .i64 vl) := fun o => by rw [ol]; exact cellAt X2.out 4 rfl
  clear hb2 ol p0 p1 p2
  go_wp2_with fail
  refine (HPK.out _).mono ?_
  rintro e _ ⟨rfl, rfl⟩
  have B2' := Lib.hid (B2.out.alloc B2.out.size (.cells #[.int .i64 tc, .int .i64 tr, .int .i64 tu] 28))
  go_wp2_with fail
  refine (HAL.out _ (HN.out.stay B2'.out)).mono ?_
  rintro e w3 ⟨rfl, hb3⟩
  have B3 := Lib.hid (B2'.out.trans (hb3.mono B2'.out.size))
  have X3 := Lib.hid ((hb3.block w1.heap.size (by simp; omega)).trans ((heapOld w2 _ _ (by omega)).trans X2.out))
  have Y3 := Lib.hid ((hb3.block w2.heap.size (by simp)).trans (heapNew w2 _))
  have d0 := cellAt X3.out 0 rfl
  have d1 := cellAt X3.out 1 rfl
  have t0 := cellAt Y3.out 0 rfl
  have t1 := cellAt Y3.out 1 rfl
  have t2 := cellAt Y3.out 2 rfl
  clear hb3 c0 c1 c2 c3 c4
  go_wp2
  go_ret
  exact ⟨rfl, B3.out⟩
set_option maxRecDepth 100000 in
set_option maxHeartbeats 1000000 in
theorem ar_2_ok (x : Con.Cmd) (y : Con.Tok) (z cl sq nm vl tc tr tu n : Int) (w : World) (hx : WishOk x) (hy : PassOk y) (hz1 : -9223372036854775808 ≤ z) (hz2 : z ≤ 9223372036854775807)
    (hc : cmdOf x = ⟨2, cl, sq, nm, vl⟩) (ht : tokOf y = ⟨tc, tr, tu⟩) (hn : pick z 1048577 = n) (hN : Nd w) (hm : lacks tr 2 = false) (hn2 : tc = cl) (hle : n ≤ tu) :
    Calls Tryd.prog 3 #[cmdV x, tokV y, .int .i64 z] w fun e w' => e = .returned (.bool true) ∧ Below w.heap.size w w' := by
  have hcmd := fun w => Command_any x w hx
  rw [hc] at hcmd
  have htok := fun w => Token_any y w hy
  rw [ht] at htok
  have hpk := fun w => picked_any z 1048577 w hz1 hz2 (by decide)
  rw [hn] at hpk
  have hck : checkC ⟨2, cl, sq, nm, vl⟩ = 0 := by rw [← hc]; exact cmdOf_check x
  have htk : (Con.Tok.mk tc tr tu).Ok := by rw [← ht]; exact tokOf_ok y
  have hal := fun w (h : Nd w) => Allows_any ⟨tc, tr, tu⟩ ⟨2, cl, sq, nm, vl⟩ n w htk hck h
  have hn0 : 0 ≤ n := by rw [← hn]; exact pick_nonneg z 1048577 (by decide)
  have hq : allowC ⟨tc, tr, tu⟩ ⟨2, cl, sq, nm, vl⟩ n = 0 := by
    unfold allowC
    dsimp only
    rw [if_neg (by intro h; rcases h with h | h | h <;> first | (exact absurd h (by decide)) | (exact absurd hn2 h) | (rw [hm] at h; cases h)), if_neg (by omega)]
  rw [hq] at hal
  have haz := fun w (h : Nd w) => Allows_any ⟨tc, tr, tu⟩ Cmd.zero n w htk (by decide) h
  unfold cmdV Cmd.zero at haz
  unfold cmdV at hcmd hal
  unfold tokV at htok hal haz
  dsimp only at hcmd htok hal haz
  have haz' : allowC ⟨tc, tr, tu⟩ ⟨0, 0, 0, 0, 0⟩ n = 11 := by unfold allowC; rw [if_pos (Or.inl rfl)]
  rw [haz'] at haz
  have HCMD := Lib.hid hcmd
  have HTOK := Lib.hid htok
  have HPK := Lib.hid hpk
  have HAL := Lib.hid hal
  have HAZ := Lib.hid haz
  have HN := Lib.hid hN

  have hmb : (bits .and .i64 tr 1 != 0) = true := by have h : (bits .and .i64 tr 1 == 0) = false := hm; rw [bne, h]; rfl
  have hnb : (tc != cl) = false := by simpa using hn2

  clear hcmd htok hpk hck htk hal hq haz haz' hN hx hy hc ht hn hn0 hm hn2
  obtain ⟨x0, x1, x2, x3, x4⟩ := x
  obtain ⟨y0, y1, y2⟩ := y
  unfold cmdV tokV
  dsimp only
  go_enter Tryd.func3, Tryd.ntmps3
  go_wp2_with fail
  refine (HCMD.out _).mono ?_
  rintro e w1 ⟨rfl, hb1⟩
  have s1 : w.heap.size + 2 ≤ w1.heap.size := by simpa using hb1.size
  have B1 := Lib.hid ((((Below.refl w.heap.size w).alloc (Nat.le_refl _) _).alloc (by simp) _).trans (hb1.mono (by simp; omega)))
  have X1 := Lib.hid ((hb1.block (w.heap.size + 1) (by simp)).trans (heapNew1 w _ _))
  have ol : ∀ (o : Obj) (j : Nat), (w1.alloc o).cell? ⟨w.heap.size + 1, j, none⟩ = w1.cell? ⟨w.heap.size + 1, j, none⟩ := fun o j => ((Below.refl w1.heap.size w1).alloc (Nat.le_refl _) o).cell (p := ⟨w.heap.size + 1, j, none⟩) (by show w.heap.size + 1 < _; omega)
  have p0 : ∀ o, (w1.alloc o).cell? ⟨w.heap.size + 1, 0, none⟩ = some (.int .i64 y0) := fun o => by rw [ol]; exact cellAt X1.out 0 rfl
  have p1 : ∀ o, (w1.alloc o).cell? ⟨w.heap.size + 1, 1, none⟩ = some (.int .i64 y1) := fun o => by rw [ol]; exact cellAt X1.out 1 rfl
  have p2 : ∀ o, (w1.alloc o).cell? ⟨w.heap.size + 1, 2, none⟩ = some (.int .i64 y2) := fun o => by rw [ol]; exact cellAt X1.out 2 rfl
  clear hb1 ol
  go_wp2_with fail
  refine (HTOK.out _).mono ?_
  rintro e w2 ⟨rfl, hb2⟩
  have s2 : w1.heap.size + 1 ≤ w2.heap.size := by simpa using hb2.size
  have B2 := Lib.hid ((B1.out.alloc (by omega) _).trans (hb2.mono (by simp; omega)))
  have X2 := Lib.hid ((hb2.block w1.heap.size (by simp)).trans (heapNew w1 _))
  have ol : ∀ (o : Obj) (j : Nat), (w2.alloc o).cell? ⟨w1.heap.size, j, none⟩ = w2.cell? ⟨w1.heap.size, j, none⟩ := fun o j => ((Below.refl w2.heap.size w2).alloc (Nat.le_refl _) o).cell (p := ⟨w1.heap.size, j, none⟩) (by show w1.heap.size < _; omega)
  have c0 : ∀ o, (w2.alloc o).cell? ⟨w1.heap.size, 0, none⟩ = some (.int .i64 2) := fun o => by rw [ol]; exact cellAt X2.out 0 rfl
  have c1 : ∀ o, (w2.alloc o).cell? ⟨w1.heap.size, 1, none⟩ = some (.int .i64 cl) := fun o => by rw [ol]; exact cellAt X2.out 1 rfl
  have c2 : ∀ o, (w2.alloc o).cell? ⟨w1.heap.size, 2, none⟩ = some (.int .i64 sq) := fun o => by rw [ol]; exact cellAt X2.out 2 rfl
  have c3 : ∀ o, (w2.alloc o).cell? ⟨w1.heap.size, 3, none⟩ = some (.int .i64 nm) := fun o => by rw [ol]; exact cellAt X2.out 3 rfl
  have c4 : ∀ o, (w2.alloc o).cell? ⟨w1.heap.size, 4, none⟩ = some (.int .i64 vl) := fun o => by rw [ol]; exact cellAt X2.out 4 rfl
  clear hb2 ol p0 p1 p2
  go_wp2_with fail
  refine (HPK.out _).mono ?_
  rintro e _ ⟨rfl, rfl⟩
  have B2' := Lib.hid (B2.out.alloc B2.out.size (.cells #[.int .i64 tc, .int .i64 tr, .int .i64 tu] 28))
  go_wp2_with fail
  refine (HAL.out _ (HN.out.stay B2'.out)).mono ?_
  rintro e w3 ⟨rfl, hb3⟩
  have B3 := Lib.hid (B2'.out.trans (hb3.mono B2'.out.size))
  have X3 := Lib.hid ((hb3.block w1.heap.size (by simp; omega)).trans ((heapOld w2 _ _ (by omega)).trans X2.out))
  have Y3 := Lib.hid ((hb3.block w2.heap.size (by simp)).trans (heapNew w2 _))
  have d0 := cellAt X3.out 0 rfl
  have d1 := cellAt X3.out 1 rfl
  have t0 := cellAt Y3.out 0 rfl
  have t1 := cellAt Y3.out 1 rfl
  have t2 := cellAt Y3.out 2 rfl
  clear hb3 c0 c1 c2 c3 c4
  go_wp2_with fail
  refine (HAZ.out _ (HN.out.stay B3.out)).mono ?_
  rintro e w4 ⟨rfl, hb4⟩
  have B4 := Lib.hid (B3.out.trans (hb4.mono B3.out.size))
  clear hb4
  go_wp2
  go_ret
  exact ⟨rfl, B4.out⟩
set_option maxRecDepth 100000 in
set_option maxHeartbeats 1000000 in
theorem ar_3_lk (x : Con.Cmd) (y : Con.Tok) (z cl sq nm vl tc tr tu n : Int) (w : World) (hx : WishOk x) (hy : PassOk y) (hz1 : -9223372036854775808 ≤ z) (hz2 : z ≤ 9223372036854775807)
    (hc : cmdOf x = ⟨3, cl, sq, nm, vl⟩) (ht : tokOf y = ⟨tc, tr, tu⟩) (hn : pick z 1048577 = n) (hN : Nd w) (hm : lacks tr 3 = true) :
    Calls Tryd.prog 3 #[cmdV x, tokV y, .int .i64 z] w fun e w' => e = .returned (.bool true) ∧ Below w.heap.size w w' := by
  have hcmd := fun w => Command_any x w hx
  rw [hc] at hcmd
  have htok := fun w => Token_any y w hy
  rw [ht] at htok
  have hpk := fun w => picked_any z 1048577 w hz1 hz2 (by decide)
  rw [hn] at hpk
  have hck : checkC ⟨3, cl, sq, nm, vl⟩ = 0 := by rw [← hc]; exact cmdOf_check x
  have htk : (Con.Tok.mk tc tr tu).Ok := by rw [← ht]; exact tokOf_ok y
  have hal := fun w (h : Nd w) => Allows_any ⟨tc, tr, tu⟩ ⟨3, cl, sq, nm, vl⟩ n w htk hck h
  have hn0 : 0 ≤ n := by rw [← hn]; exact pick_nonneg z 1048577 (by decide)
  have hq : allowC ⟨tc, tr, tu⟩ ⟨3, cl, sq, nm, vl⟩ n = 11 := by
    unfold allowC
    dsimp only
    rw [if_pos (Or.inr (Or.inr hm))]
  rw [hq] at hal
  have haz := fun w (h : Nd w) => Allows_any ⟨tc, tr, tu⟩ Cmd.zero n w htk (by decide) h
  unfold cmdV Cmd.zero at haz
  unfold cmdV at hcmd hal
  unfold tokV at htok hal haz
  dsimp only at hcmd htok hal haz
  have haz' : allowC ⟨tc, tr, tu⟩ ⟨0, 0, 0, 0, 0⟩ n = 11 := by unfold allowC; rw [if_pos (Or.inl rfl)]
  rw [haz'] at haz
  have HCMD := Lib.hid hcmd
  have HTOK := Lib.hid htok
  have HPK := Lib.hid hpk
  have HAL := Lib.hid hal
  have HAZ := Lib.hid haz
  have HN := Lib.hid hN

  have hmb : (bits .and .i64 tr 4 != 0) = false := by have h : (bits .and .i64 tr 4 == 0) = true := hm; rw [bne, h]; rfl

  clear hcmd htok hpk hck htk hal hq haz haz' hN hx hy hc ht hn hn0 hm
  obtain ⟨x0, x1, x2, x3, x4⟩ := x
  obtain ⟨y0, y1, y2⟩ := y
  unfold cmdV tokV
  dsimp only
  go_enter Tryd.func3, Tryd.ntmps3
  go_wp2_with fail
  refine (HCMD.out _).mono ?_
  rintro e w1 ⟨rfl, hb1⟩
  have s1 : w.heap.size + 2 ≤ w1.heap.size := by simpa using hb1.size
  have B1 := Lib.hid ((((Below.refl w.heap.size w).alloc (Nat.le_refl _) _).alloc (by simp) _).trans (hb1.mono (by simp; omega)))
  have X1 := Lib.hid ((hb1.block (w.heap.size + 1) (by simp)).trans (heapNew1 w _ _))
  have ol : ∀ (o : Obj) (j : Nat), (w1.alloc o).cell? ⟨w.heap.size + 1, j, none⟩ = w1.cell? ⟨w.heap.size + 1, j, none⟩ := fun o j => ((Below.refl w1.heap.size w1).alloc (Nat.le_refl _) o).cell (p := ⟨w.heap.size + 1, j, none⟩) (by show w.heap.size + 1 < _; omega)
  have p0 : ∀ o, (w1.alloc o).cell? ⟨w.heap.size + 1, 0, none⟩ = some (.int .i64 y0) := fun o => by rw [ol]; exact cellAt X1.out 0 rfl
  have p1 : ∀ o, (w1.alloc o).cell? ⟨w.heap.size + 1, 1, none⟩ = some (.int .i64 y1) := fun o => by rw [ol]; exact cellAt X1.out 1 rfl
  have p2 : ∀ o, (w1.alloc o).cell? ⟨w.heap.size + 1, 2, none⟩ = some (.int .i64 y2) := fun o => by rw [ol]; exact cellAt X1.out 2 rfl
  clear hb1 ol
  go_wp2_with fail
  refine (HTOK.out _).mono ?_
  rintro e w2 ⟨rfl, hb2⟩
  have s2 : w1.heap.size + 1 ≤ w2.heap.size := by simpa using hb2.size
  have B2 := Lib.hid ((B1.out.alloc (by omega) _).trans (hb2.mono (by simp; omega)))
  have X2 := Lib.hid ((hb2.block w1.heap.size (by simp)).trans (heapNew w1 _))
  have ol : ∀ (o : Obj) (j : Nat), (w2.alloc o).cell? ⟨w1.heap.size, j, none⟩ = w2.cell? ⟨w1.heap.size, j, none⟩ := fun o j => ((Below.refl w2.heap.size w2).alloc (Nat.le_refl _) o).cell (p := ⟨w1.heap.size, j, none⟩) (by show w1.heap.size < _; omega)
  have c0 : ∀ o, (w2.alloc o).cell? ⟨w1.heap.size, 0, none⟩ = some (.int .i64 3) := fun o => by rw [ol]; exact cellAt X2.out 0 rfl
  have c1 : ∀ o, (w2.alloc o).cell? ⟨w1.heap.size, 1, none⟩ = some (.int .i64 cl) := fun o => by rw [ol]; exact cellAt X2.out 1 rfl
  have c2 : ∀ o, (w2.alloc o).cell? ⟨w1.heap.size, 2, none⟩ = some (.int .i64 sq) := fun o => by rw [ol]; exact cellAt X2.out 2 rfl
  have c3 : ∀ o, (w2.alloc o).cell? ⟨w1.heap.size, 3, none⟩ = some (.int .i64 nm) := fun o => by rw [ol]; exact cellAt X2.out 3 rfl
  have c4 : ∀ o, (w2.alloc o).cell? ⟨w1.heap.size, 4, none⟩ = some (.int .i64 vl) := fun o => by rw [ol]; exact cellAt X2.out 4 rfl
  clear hb2 ol p0 p1 p2
  go_wp2_with fail
  refine (HPK.out _).mono ?_
  rintro e _ ⟨rfl, rfl⟩
  have B2' := Lib.hid (B2.out.alloc B2.out.size (.cells #[.int .i64 tc, .int .i64 tr, .int .i64 tu] 28))
  go_wp2_with fail
  refine (HAL.out _ (HN.out.stay B2'.out)).mono ?_
  rintro e w3 ⟨rfl, hb3⟩
  have B3 := Lib.hid (B2'.out.trans (hb3.mono B2'.out.size))
  have X3 := Lib.hid ((hb3.block w1.heap.size (by simp; omega)).trans ((heapOld w2 _ _ (by omega)).trans X2.out))
  have Y3 := Lib.hid ((hb3.block w2.heap.size (by simp)).trans (heapNew w2 _))
  have d0 := cellAt X3.out 0 rfl
  have d1 := cellAt X3.out 1 rfl
  have t0 := cellAt Y3.out 0 rfl
  have t1 := cellAt Y3.out 1 rfl
  have t2 := cellAt Y3.out 2 rfl
  clear hb3 c0 c1 c2 c3 c4
  go_wp2
  go_ret
  exact ⟨rfl, B3.out⟩
set_option maxRecDepth 100000 in
set_option maxHeartbeats 1000000 in
theorem ar_3_ne (x : Con.Cmd) (y : Con.Tok) (z cl sq nm vl tc tr tu n : Int) (w : World) (hx : WishOk x) (hy : PassOk y) (hz1 : -9223372036854775808 ≤ z) (hz2 : z ≤ 9223372036854775807)
    (hc : cmdOf x = ⟨3, cl, sq, nm, vl⟩) (ht : tokOf y = ⟨tc, tr, tu⟩) (hn : pick z 1048577 = n) (hN : Nd w) (hm : lacks tr 3 = false) (hn2 : tc ≠ cl) :
    Calls Tryd.prog 3 #[cmdV x, tokV y, .int .i64 z] w fun e w' => e = .returned (.bool true) ∧ Below w.heap.size w w' := by
  have hcmd := fun w => Command_any x w hx
  rw [hc] at hcmd
  have htok := fun w => Token_any y w hy
  rw [ht] at htok
  have hpk := fun w => picked_any z 1048577 w hz1 hz2 (by decide)
  rw [hn] at hpk
  have hck : checkC ⟨3, cl, sq, nm, vl⟩ = 0 := by rw [← hc]; exact cmdOf_check x
  have htk : (Con.Tok.mk tc tr tu).Ok := by rw [← ht]; exact tokOf_ok y
  have hal := fun w (h : Nd w) => Allows_any ⟨tc, tr, tu⟩ ⟨3, cl, sq, nm, vl⟩ n w htk hck h
  have hn0 : 0 ≤ n := by rw [← hn]; exact pick_nonneg z 1048577 (by decide)
  have hq : allowC ⟨tc, tr, tu⟩ ⟨3, cl, sq, nm, vl⟩ n = 11 := by
    unfold allowC
    dsimp only
    rw [if_pos (Or.inr (Or.inl hn2))]
  rw [hq] at hal
  have haz := fun w (h : Nd w) => Allows_any ⟨tc, tr, tu⟩ Cmd.zero n w htk (by decide) h
  unfold cmdV Cmd.zero at haz
  unfold cmdV at hcmd hal
  unfold tokV at htok hal haz
  dsimp only at hcmd htok hal haz
  have haz' : allowC ⟨tc, tr, tu⟩ ⟨0, 0, 0, 0, 0⟩ n = 11 := by unfold allowC; rw [if_pos (Or.inl rfl)]
  rw [haz'] at haz
  have HCMD := Lib.hid hcmd
  have HTOK := Lib.hid htok
  have HPK := Lib.hid hpk
  have HAL := Lib.hid hal
  have HAZ := Lib.hid haz
  have HN := Lib.hid hN

  have hmb : (bits .and .i64 tr 4 != 0) = true := by have h : (bits .and .i64 tr 4 == 0) = false := hm; rw [bne, h]; rfl
  have hnb : (tc != cl) = true := by simpa using hn2

  clear hcmd htok hpk hck htk hal hq haz haz' hN hx hy hc ht hn hn0 hm hn2
  obtain ⟨x0, x1, x2, x3, x4⟩ := x
  obtain ⟨y0, y1, y2⟩ := y
  unfold cmdV tokV
  dsimp only
  go_enter Tryd.func3, Tryd.ntmps3
  go_wp2_with fail
  refine (HCMD.out _).mono ?_
  rintro e w1 ⟨rfl, hb1⟩
  have s1 : w.heap.size + 2 ≤ w1.heap.size := by simpa using hb1.size
  have B1 := Lib.hid ((((Below.refl w.heap.size w).alloc (Nat.le_refl _) _).alloc (by simp) _).trans (hb1.mono (by simp; omega)))
  have X1 := Lib.hid ((hb1.block (w.heap.size + 1) (by simp)).trans (heapNew1 w _ _))
  have ol : ∀ (o : Obj) (j : Nat), (w1.alloc o).cell? ⟨w.heap.size + 1, j, none⟩ = w1.cell? ⟨w.heap.size + 1, j, none⟩ := fun o j => ((Below.refl w1.heap.size w1).alloc (Nat.le_refl _) o).cell (p := ⟨w.heap.size + 1, j, none⟩) (by show w.heap.size + 1 < _; omega)
  have p0 : ∀ o, (w1.alloc o).cell? ⟨w.heap.size + 1, 0, none⟩ = some (.int .i64 y0) := fun o => by rw [ol]; exact cellAt X1.out 0 rfl
  have p1 : ∀ o, (w1.alloc o).cell? ⟨w.heap.size + 1, 1, none⟩ = some (.int .i64 y1) := fun o => by rw [ol]; exact cellAt X1.out 1 rfl
  have p2 : ∀ o, (w1.alloc o).cell? ⟨w.heap.size + 1, 2, none⟩ = some (.int .i64 y2) := fun o => by rw [ol]; exact cellAt X1.out 2 rfl
  clear hb1 ol
  go_wp2_with fail
  refine (HTOK.out _).mono ?_
  rintro e w2 ⟨rfl, hb2⟩
  have s2 : w1.heap.size + 1 ≤ w2.heap.size := by simpa using hb2.size
  have B2 := Lib.hid ((B1.out.alloc (by omega) _).trans (hb2.mono (by simp; omega)))
  have X2 := Lib.hid ((hb2.block w1.heap.size (by simp)).trans (heapNew w1 _))
  have ol : ∀ (o : Obj) (j : Nat), (w2.alloc o).cell? ⟨w1.heap.size, j, none⟩ = w2.cell? ⟨w1.heap.size, j, none⟩ := fun o j => ((Below.refl w2.heap.size w2).alloc (Nat.le_refl _) o).cell (p := ⟨w1.heap.size, j, none⟩) (by show w1.heap.size < _; omega)
  have c0 : ∀ o, (w2.alloc o).cell? ⟨w1.heap.size, 0, none⟩ = some (.int .i64 3) := fun o => by rw [ol]; exact cellAt X2.out 0 rfl
  have c1 : ∀ o, (w2.alloc o).cell? ⟨w1.heap.size, 1, none⟩ = some (.int .i64 cl) := fun o => by rw [ol]; exact cellAt X2.out 1 rfl
  have c2 : ∀ o, (w2.alloc o).cell? ⟨w1.heap.size, 2, none⟩ = some (.int .i64 sq) := fun o => by rw [ol]; exact cellAt X2.out 2 rfl
  have c3 : ∀ o, (w2.alloc o).cell? ⟨w1.heap.size, 3, none⟩ = some (.int .i64 nm) := fun o => by rw [ol]; exact cellAt X2.out 3 rfl
  have c4 : ∀ o, (w2.alloc o).cell? ⟨w1.heap.size, 4, none⟩ = some (.int .i64 vl) := fun o => by rw [ol]; exact cellAt X2.out 4 rfl
  clear hb2 ol p0 p1 p2
  go_wp2_with fail
  refine (HPK.out _).mono ?_
  rintro e _ ⟨rfl, rfl⟩
  have B2' := Lib.hid (B2.out.alloc B2.out.size (.cells #[.int .i64 tc, .int .i64 tr, .int .i64 tu] 28))
  go_wp2_with fail
  refine (HAL.out _ (HN.out.stay B2'.out)).mono ?_
  rintro e w3 ⟨rfl, hb3⟩
  have B3 := Lib.hid (B2'.out.trans (hb3.mono B2'.out.size))
  have X3 := Lib.hid ((hb3.block w1.heap.size (by simp; omega)).trans ((heapOld w2 _ _ (by omega)).trans X2.out))
  have Y3 := Lib.hid ((hb3.block w2.heap.size (by simp)).trans (heapNew w2 _))
  have d0 := cellAt X3.out 0 rfl
  have d1 := cellAt X3.out 1 rfl
  have t0 := cellAt Y3.out 0 rfl
  have t1 := cellAt Y3.out 1 rfl
  have t2 := cellAt Y3.out 2 rfl
  clear hb3 c0 c1 c2 c3 c4
  go_wp2
  go_ret
  exact ⟨rfl, B3.out⟩
set_option maxRecDepth 100000 in
set_option maxHeartbeats 1000000 in
theorem ar_3_late (x : Con.Cmd) (y : Con.Tok) (z cl sq nm vl tc tr tu n : Int) (w : World) (hx : WishOk x) (hy : PassOk y) (hz1 : -9223372036854775808 ≤ z) (hz2 : z ≤ 9223372036854775807)
    (hc : cmdOf x = ⟨3, cl, sq, nm, vl⟩) (ht : tokOf y = ⟨tc, tr, tu⟩) (hn : pick z 1048577 = n) (hN : Nd w) (hm : lacks tr 3 = false) (hn2 : tc = cl) (hlt : tu < n) :
    Calls Tryd.prog 3 #[cmdV x, tokV y, .int .i64 z] w fun e w' => e = .returned (.bool true) ∧ Below w.heap.size w w' := by
  have hcmd := fun w => Command_any x w hx
  rw [hc] at hcmd
  have htok := fun w => Token_any y w hy
  rw [ht] at htok
  have hpk := fun w => picked_any z 1048577 w hz1 hz2 (by decide)
  rw [hn] at hpk
  have hck : checkC ⟨3, cl, sq, nm, vl⟩ = 0 := by rw [← hc]; exact cmdOf_check x
  have htk : (Con.Tok.mk tc tr tu).Ok := by rw [← ht]; exact tokOf_ok y
  have hal := fun w (h : Nd w) => Allows_any ⟨tc, tr, tu⟩ ⟨3, cl, sq, nm, vl⟩ n w htk hck h
  have hn0 : 0 ≤ n := by rw [← hn]; exact pick_nonneg z 1048577 (by decide)
  have hq : allowC ⟨tc, tr, tu⟩ ⟨3, cl, sq, nm, vl⟩ n = 10 := by
    unfold allowC
    dsimp only
    rw [if_neg (by intro h; rcases h with h | h | h <;> first | (exact absurd h (by decide)) | (exact absurd hn2 h) | (rw [hm] at h; cases h)), if_pos (Or.inr hlt)]
  rw [hq] at hal
  have haz := fun w (h : Nd w) => Allows_any ⟨tc, tr, tu⟩ Cmd.zero n w htk (by decide) h
  unfold cmdV Cmd.zero at haz
  unfold cmdV at hcmd hal
  unfold tokV at htok hal haz
  dsimp only at hcmd htok hal haz
  have haz' : allowC ⟨tc, tr, tu⟩ ⟨0, 0, 0, 0, 0⟩ n = 11 := by unfold allowC; rw [if_pos (Or.inl rfl)]
  rw [haz'] at haz
  have HCMD := Lib.hid hcmd
  have HTOK := Lib.hid htok
  have HPK := Lib.hid hpk
  have HAL := Lib.hid hal
  have HAZ := Lib.hid haz
  have HN := Lib.hid hN

  have hmb : (bits .and .i64 tr 4 != 0) = true := by have h : (bits .and .i64 tr 4 == 0) = false := hm; rw [bne, h]; rfl
  have hnb : (tc != cl) = false := by simpa using hn2

  clear hcmd htok hpk hck htk hal hq haz haz' hN hx hy hc ht hn hn0 hm hn2
  obtain ⟨x0, x1, x2, x3, x4⟩ := x
  obtain ⟨y0, y1, y2⟩ := y
  unfold cmdV tokV
  dsimp only
  go_enter Tryd.func3, Tryd.ntmps3
  go_wp2_with fail
  refine (HCMD.out _).mono ?_
  rintro e w1 ⟨rfl, hb1⟩
  have s1 : w.heap.size + 2 ≤ w1.heap.size := by simpa using hb1.size
  have B1 := Lib.hid ((((Below.refl w.heap.size w).alloc (Nat.le_refl _) _).alloc (by simp) _).trans (hb1.mono (by simp; omega)))
  have X1 := Lib.hid ((hb1.block (w.heap.size + 1) (by simp)).trans (heapNew1 w _ _))
  have ol : ∀ (o : Obj) (j : Nat), (w1.alloc o).cell? ⟨w.heap.size + 1, j, none⟩ = w1.cell? ⟨w.heap.size + 1, j, none⟩ := fun o j => ((Below.refl w1.heap.size w1).alloc (Nat.le_refl _) o).cell (p := ⟨w.heap.size + 1, j, none⟩) (by show w.heap.size + 1 < _; omega)
  have p0 : ∀ o, (w1.alloc o).cell? ⟨w.heap.size + 1, 0, none⟩ = some (.int .i64 y0) := fun o => by rw [ol]; exact cellAt X1.out 0 rfl
  have p1 : ∀ o, (w1.alloc o).cell? ⟨w.heap.size + 1, 1, none⟩ = some (.int .i64 y1) := fun o => by rw [ol]; exact cellAt X1.out 1 rfl
  have p2 : ∀ o, (w1.alloc o).cell? ⟨w.heap.size + 1, 2, none⟩ = some (.int .i64 y2) := fun o => by rw [ol]; exact cellAt X1.out 2 rfl
  clear hb1 ol
  go_wp2_with fail
  refine (HTOK.out _).mono ?_
  rintro e w2 ⟨rfl, hb2⟩
  have s2 : w1.heap.size + 1 ≤ w2.heap.size := by simpa using hb2.size
  have B2 := Lib.hid ((B1.out.alloc (by omega) _).trans (hb2.mono (by simp; omega)))
  have X2 := Lib.hid ((hb2.block w1.heap.size (by simp)).trans (heapNew w1 _))
  have ol : ∀ (o : Obj) (j : Nat), (w2.alloc o).cell? ⟨w1.heap.size, j, none⟩ = w2.cell? ⟨w1.heap.size, j, none⟩ := fun o j => ((Below.refl w2.heap.size w2).alloc (Nat.le_refl _) o).cell (p := ⟨w1.heap.size, j, none⟩) (by show w1.heap.size < _; omega)
  have c0 : ∀ o, (w2.alloc o).cell? ⟨w1.heap.size, 0, none⟩ = some (.int .i64 3) := fun o => by rw [ol]; exact cellAt X2.out 0 rfl
  have c1 : ∀ o, (w2.alloc o).cell? ⟨w1.heap.size, 1, none⟩ = some (.int .i64 cl) := fun o => by rw [ol]; exact cellAt X2.out 1 rfl
  have c2 : ∀ o, (w2.alloc o).cell? ⟨w1.heap.size, 2, none⟩ = some (.int .i64 sq) := fun o => by rw [ol]; exact cellAt X2.out 2 rfl
  have c3 : ∀ o, (w2.alloc o).cell? ⟨w1.heap.size, 3, none⟩ = some (.int .i64 nm) := fun o => by rw [ol]; exact cellAt X2.out 3 rfl
  have c4 : ∀ o, (w2.alloc o).cell? ⟨w1.heap.size, 4, none⟩ = some (.int .i64 vl) := fun o => by rw [ol]; exact cellAt X2.out 4 rfl
  clear hb2 ol p0 p1 p2
  go_wp2_with fail
  refine (HPK.out _).mono ?_
  rintro e _ ⟨rfl, rfl⟩
  have B2' := Lib.hid (B2.out.alloc B2.out.size (.cells #[.int .i64 tc, .int .i64 tr, .int .i64 tu] 28))
  go_wp2_with fail
  refine (HAL.out _ (HN.out.stay B2'.out)).mono ?_
  rintro e w3 ⟨rfl, hb3⟩
  have B3 := Lib.hid (B2'.out.trans (hb3.mono B2'.out.size))
  have X3 := Lib.hid ((hb3.block w1.heap.size (by simp; omega)).trans ((heapOld w2 _ _ (by omega)).trans X2.out))
  have Y3 := Lib.hid ((hb3.block w2.heap.size (by simp)).trans (heapNew w2 _))
  have d0 := cellAt X3.out 0 rfl
  have d1 := cellAt X3.out 1 rfl
  have t0 := cellAt Y3.out 0 rfl
  have t1 := cellAt Y3.out 1 rfl
  have t2 := cellAt Y3.out 2 rfl
  clear hb3 c0 c1 c2 c3 c4
  go_wp2
  go_ret
  exact ⟨rfl, B3.out⟩
set_option maxRecDepth 100000 in
set_option maxHeartbeats 1000000 in
theorem ar_3_ok (x : Con.Cmd) (y : Con.Tok) (z cl sq nm vl tc tr tu n : Int) (w : World) (hx : WishOk x) (hy : PassOk y) (hz1 : -9223372036854775808 ≤ z) (hz2 : z ≤ 9223372036854775807)
    (hc : cmdOf x = ⟨3, cl, sq, nm, vl⟩) (ht : tokOf y = ⟨tc, tr, tu⟩) (hn : pick z 1048577 = n) (hN : Nd w) (hm : lacks tr 3 = false) (hn2 : tc = cl) (hle : n ≤ tu) :
    Calls Tryd.prog 3 #[cmdV x, tokV y, .int .i64 z] w fun e w' => e = .returned (.bool true) ∧ Below w.heap.size w w' := by
  have hcmd := fun w => Command_any x w hx
  rw [hc] at hcmd
  have htok := fun w => Token_any y w hy
  rw [ht] at htok
  have hpk := fun w => picked_any z 1048577 w hz1 hz2 (by decide)
  rw [hn] at hpk
  have hck : checkC ⟨3, cl, sq, nm, vl⟩ = 0 := by rw [← hc]; exact cmdOf_check x
  have htk : (Con.Tok.mk tc tr tu).Ok := by rw [← ht]; exact tokOf_ok y
  have hal := fun w (h : Nd w) => Allows_any ⟨tc, tr, tu⟩ ⟨3, cl, sq, nm, vl⟩ n w htk hck h
  have hn0 : 0 ≤ n := by rw [← hn]; exact pick_nonneg z 1048577 (by decide)
  have hq : allowC ⟨tc, tr, tu⟩ ⟨3, cl, sq, nm, vl⟩ n = 0 := by
    unfold allowC
    dsimp only
    rw [if_neg (by intro h; rcases h with h | h | h <;> first | (exact absurd h (by decide)) | (exact absurd hn2 h) | (rw [hm] at h; cases h)), if_neg (by omega)]
  rw [hq] at hal
  have haz := fun w (h : Nd w) => Allows_any ⟨tc, tr, tu⟩ Cmd.zero n w htk (by decide) h
  unfold cmdV Cmd.zero at haz
  unfold cmdV at hcmd hal
  unfold tokV at htok hal haz
  dsimp only at hcmd htok hal haz
  have haz' : allowC ⟨tc, tr, tu⟩ ⟨0, 0, 0, 0, 0⟩ n = 11 := by unfold allowC; rw [if_pos (Or.inl rfl)]
  rw [haz'] at haz
  have HCMD := Lib.hid hcmd
  have HTOK := Lib.hid htok
  have HPK := Lib.hid hpk
  have HAL := Lib.hid hal
  have HAZ := Lib.hid haz
  have HN := Lib.hid hN

  have hmb : (bits .and .i64 tr 4 != 0) = true := by have h : (bits .and .i64 tr 4 == 0) = false := hm; rw [bne, h]; rfl
  have hnb : (tc != cl) = false := by simpa using hn2

  clear hcmd htok hpk hck htk hal hq haz haz' hN hx hy hc ht hn hn0 hm hn2
  obtain ⟨x0, x1, x2, x3, x4⟩ := x
  obtain ⟨y0, y1, y2⟩ := y
  unfold cmdV tokV
  dsimp only
  go_enter Tryd.func3, Tryd.ntmps3
  go_wp2_with fail
  refine (HCMD.out _).mono ?_
  rintro e w1 ⟨rfl, hb1⟩
  have s1 : w.heap.size + 2 ≤ w1.heap.size := by simpa using hb1.size
  have B1 := Lib.hid ((((Below.refl w.heap.size w).alloc (Nat.le_refl _) _).alloc (by simp) _).trans (hb1.mono (by simp; omega)))
  have X1 := Lib.hid ((hb1.block (w.heap.size + 1) (by simp)).trans (heapNew1 w _ _))
  have ol : ∀ (o : Obj) (j : Nat), (w1.alloc o).cell? ⟨w.heap.size + 1, j, none⟩ = w1.cell? ⟨w.heap.size + 1, j, none⟩ := fun o j => ((Below.refl w1.heap.size w1).alloc (Nat.le_refl _) o).cell (p := ⟨w.heap.size + 1, j, none⟩) (by show w.heap.size + 1 < _; omega)
  have p0 : ∀ o, (w1.alloc o).cell? ⟨w.heap.size + 1, 0, none⟩ = some (.int .i64 y0) := fun o => by rw [ol]; exact cellAt X1.out 0 rfl
  have p1 : ∀ o, (w1.alloc o).cell? ⟨w.heap.size + 1, 1, none⟩ = some (.int .i64 y1) := fun o => by rw [ol]; exact cellAt X1.out 1 rfl
  have p2 : ∀ o, (w1.alloc o).cell? ⟨w.heap.size + 1, 2, none⟩ = some (.int .i64 y2) := fun o => by rw [ol]; exact cellAt X1.out 2 rfl
  clear hb1 ol
  go_wp2_with fail
  refine (HTOK.out _).mono ?_
  rintro e w2 ⟨rfl, hb2⟩
  have s2 : w1.heap.size + 1 ≤ w2.heap.size := by simpa using hb2.size
  have B2 := Lib.hid ((B1.out.alloc (by omega) _).trans (hb2.mono (by simp; omega)))
  have X2 := Lib.hid ((hb2.block w1.heap.size (by simp)).trans (heapNew w1 _))
  have ol : ∀ (o : Obj) (j : Nat), (w2.alloc o).cell? ⟨w1.heap.size, j, none⟩ = w2.cell? ⟨w1.heap.size, j, none⟩ := fun o j => ((Below.refl w2.heap.size w2).alloc (Nat.le_refl _) o).cell (p := ⟨w1.heap.size, j, none⟩) (by show w1.heap.size < _; omega)
  have c0 : ∀ o, (w2.alloc o).cell? ⟨w1.heap.size, 0, none⟩ = some (.int .i64 3) := fun o => by rw [ol]; exact cellAt X2.out 0 rfl
  have c1 : ∀ o, (w2.alloc o).cell? ⟨w1.heap.size, 1, none⟩ = some (.int .i64 cl) := fun o => by rw [ol]; exact cellAt X2.out 1 rfl
  have c2 : ∀ o, (w2.alloc o).cell? ⟨w1.heap.size, 2, none⟩ = some (.int .i64 sq) := fun o => by rw [ol]; exact cellAt X2.out 2 rfl
  have c3 : ∀ o, (w2.alloc o).cell? ⟨w1.heap.size, 3, none⟩ = some (.int .i64 nm) := fun o => by rw [ol]; exact cellAt X2.out 3 rfl
  have c4 : ∀ o, (w2.alloc o).cell? ⟨w1.heap.size, 4, none⟩ = some (.int .i64 vl) := fun o => by rw [ol]; exact cellAt X2.out 4 rfl
  clear hb2 ol p0 p1 p2
  go_wp2_with fail
  refine (HPK.out _).mono ?_
  rintro e _ ⟨rfl, rfl⟩
  have B2' := Lib.hid (B2.out.alloc B2.out.size (.cells #[.int .i64 tc, .int .i64 tr, .int .i64 tu] 28))
  go_wp2_with fail
  refine (HAL.out _ (HN.out.stay B2'.out)).mono ?_
  rintro e w3 ⟨rfl, hb3⟩
  have B3 := Lib.hid (B2'.out.trans (hb3.mono B2'.out.size))
  have X3 := Lib.hid ((hb3.block w1.heap.size (by simp; omega)).trans ((heapOld w2 _ _ (by omega)).trans X2.out))
  have Y3 := Lib.hid ((hb3.block w2.heap.size (by simp)).trans (heapNew w2 _))
  have d0 := cellAt X3.out 0 rfl
  have d1 := cellAt X3.out 1 rfl
  have t0 := cellAt Y3.out 0 rfl
  have t1 := cellAt Y3.out 1 rfl
  have t2 := cellAt Y3.out 2 rfl
  clear hb3 c0 c1 c2 c3 c4
  go_wp2_with fail
  refine (HAZ.out _ (HN.out.stay B3.out)).mono ?_
  rintro e w4 ⟨rfl, hb4⟩
  have B4 := Lib.hid (B3.out.trans (hb4.mono B3.out.size))
  clear hb4
  go_wp2
  go_ret
  exact ⟨rfl, B4.out⟩
theorem cmdOf_kind (x : Con.Cmd) : (cmdOf x).kind = 1 ∨ (cmdOf x).kind = 2 ∨ (cmdOf x).kind = 3 := by
  have h1 := pick_nonneg x.kind 5 (by omega)
  have h2 := pick_lt x.kind 5 (by omega)
  simp only [cmdOf]
  omega
theorem walk_AllowRight (vx : Value) (x : Con.Cmd) (vy : Value) (y : Con.Tok) (vz : Value) (z : Int) (w : World) (hv : IsWish vx x) (hp : IsPass vy y) (hz : IsInt vz z) (hN : Nd w) :
    Calls Tryd.prog 3 #[vx, vy, vz] w fun e w' => e = .returned (.bool true) ∧ Below w.heap.size w w' := by
  obtain ⟨rfl, hx⟩ := hv
  obtain ⟨rfl, hy⟩ := hp
  obtain ⟨rfl, hz1, hz2⟩ := hz
  have hk := cmdOf_kind x
  obtain ⟨⟨k, cl, sq, nm, vl⟩, hc⟩ : ∃ c, cmdOf x = c := ⟨_, rfl⟩
  obtain ⟨⟨tc, tr, tu⟩, ht⟩ : ∃ t, tokOf y = t := ⟨_, rfl⟩
  rw [hc] at hk
  dsimp only at hk
  by_cases hm : lacks tr k = true
  · rcases hk with rfl | rfl | rfl
    · exact ar_1_lk x y z cl sq nm vl tc tr tu _ w hx hy hz1 hz2 hc ht rfl hN hm
    · exact ar_2_lk x y z cl sq nm vl tc tr tu _ w hx hy hz1 hz2 hc ht rfl hN hm
    · exact ar_3_lk x y z cl sq nm vl tc tr tu _ w hx hy hz1 hz2 hc ht rfl hN hm
  · have hm' : lacks tr k = false := by simpa using hm
    by_cases hn2 : tc = cl
    · by_cases hle : pick z 1048577 ≤ tu
      · rcases hk with rfl | rfl | rfl
        · exact ar_1_ok x y z cl sq nm vl tc tr tu _ w hx hy hz1 hz2 hc ht rfl hN hm' hn2 hle
        · exact ar_2_ok x y z cl sq nm vl tc tr tu _ w hx hy hz1 hz2 hc ht rfl hN hm' hn2 hle
        · exact ar_3_ok x y z cl sq nm vl tc tr tu _ w hx hy hz1 hz2 hc ht rfl hN hm' hn2 hle
      · rcases hk with rfl | rfl | rfl
        · exact ar_1_late x y z cl sq nm vl tc tr tu _ w hx hy hz1 hz2 hc ht rfl hN hm' hn2 (by omega)
        · exact ar_2_late x y z cl sq nm vl tc tr tu _ w hx hy hz1 hz2 hc ht rfl hN hm' hn2 (by omega)
        · exact ar_3_late x y z cl sq nm vl tc tr tu _ w hx hy hz1 hz2 hc ht rfl hN hm' hn2 (by omega)
    · rcases hk with rfl | rfl | rfl
      · exact ar_1_ne x y z cl sq nm vl tc tr tu _ w hx hy hz1 hz2 hc ht rfl hN hm' hn2
      · exact ar_2_ne x y z cl sq nm vl tc tr tu _ w hx hy hz1 hz2 hc ht rfl hN hm' hn2
      · exact ar_3_ne x y z cl sq nm vl tc tr tu _ w hx hy hz1 hz2 hc ht rfl hN hm' hn2
end Go.Proofs.YtdjnbnbhpjiicaaDoor
