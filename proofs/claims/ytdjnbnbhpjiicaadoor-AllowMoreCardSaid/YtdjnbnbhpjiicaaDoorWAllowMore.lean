/-
  The walk of conclavekeep.AllowMore: more rights, and more time, allow no less.
-/
import Derived.Test.YtdjnbnbhpjiicaaDoorNdF
import Derived.Test.YtdjnbnbhpjiicaaDoorPas
import Derived.Test.YtdjnbnbhpjiicaaDoorCmd
import Derived.Test.YtdjnbnbhpjiicaaDoorQt
set_option linter.unusedVariables false
set_option linter.unusedSimpArgs false
namespace Go.Con
open Go
theorem or_table : ∀ a b : Fin 8, ∀ k : Fin 4, 0 ≤ bits .or .i64 (a.val : Int) (b.val : Int) ∧ bits .or .i64 (a.val : Int) (b.val : Int) ≤ 7 ∧ (lacks (bits .or .i64 (a.val : Int) (b.val : Int)) (k.val : Int) = true → lacks (a.val : Int) (k.val : Int) = true) := by decide +kernel
theorem or_small (r m k : Int) (h0 : 0 ≤ r) (h1 : r ≤ 7) (h2 : 0 ≤ m) (h3 : m ≤ 7) (h4 : 0 ≤ k) (h5 : k ≤ 3) : 0 ≤ bits .or .i64 r m ∧ bits .or .i64 r m ≤ 7 ∧ (lacks (bits .or .i64 r m) k = true → lacks r k = true) := by
  have h := or_table ⟨r.toNat, by omega⟩ ⟨m.toNat, by omega⟩ ⟨k.toNat, by omega⟩
  simp only [] at h
  rw [show ((r.toNat : Nat) : Int) = r by omega, show ((m.toNat : Nat) : Int) = m by omega, show ((k.toNat : Nat) : Int) = k by omega] at h
  exact h
theorem lacks_full (k : Int) (h : k = 1 ∨ k = 2 ∨ k = 3) : lacks 7 k = false ∧ lacks 0 k = true := by
  rcases h with rfl | rfl | rfl <;> decide
theorem allow_more (tc tr tu R U k cl sq nm vl n : Int) (hR : lacks R k = true → lacks tr k = true) (hU : tu ≤ U) (h : allowC ⟨tc, tr, tu⟩ ⟨k, cl, sq, nm, vl⟩ n = 0) : allowC ⟨tc, R, U⟩ ⟨k, cl, sq, nm, vl⟩ n = 0 := by
  unfold allowC at h ⊢
  dsimp only at h ⊢
  split at h
  · exact absurd h (by decide)
  · rename_i h1
    split at h
    · exact absurd h (by decide)
    · rename_i h2
      rw [if_neg, if_neg (by omega)]
      intro h3
      rcases h3 with h3 | h3 | h3
      · exact h1 (Or.inl h3)
      · exact h1 (Or.inr (Or.inl h3))
      · exact h1 (Or.inr (Or.inr (hR h3)))
end Go.Con
namespace Go.Proofs.YtdjnbnbhpjiicaaDoor
open Go.RowKit Go.Con
theorem quiet_sameM {f : FuncId} {args : Array Value} {w W : World} {v : Value} (h : Calls Tryd.prog f args W fun e w' => e = .returned v ∧ w' = W) (hW : ∃ n, W = w.drewN n) :
    Calls Tryd.prog f args W fun e w'' => e = .returned v ∧ ∃ n, w'' = w.drewN n :=
  h.mono fun _ _ ⟨he, hm⟩ => ⟨he, by rw [hm]; exact hW⟩
theorem picked_toM (n m q : Int) (w : World) (h1 : -9223372036854775808 ≤ n) (h2 : n ≤ 9223372036854775807) (h3 : 0 < m) (hq : Hid (pick n m = q)) :
    Calls Tryd.prog 23 #[.int .i64 n, .int .i64 m] w fun e w' => e = .returned (.int .i64 q) ∧ w' = w :=
  (picked_any n m w h1 h2 h3).mono fun e w' ⟨he, hw⟩ => ⟨by rw [he, hq.out], hw.symm⟩

set_option maxRecDepth 100000 in
set_option maxHeartbeats 2000000 in
theorem am_a (x : Con.Cmd) (y : Con.Tok) (m l z k cl sq nm vl tc tr tu n q1 q2 : Int) (w : World) (hx : WishOk x) (hy : PassOk y) (hm1 : -9223372036854775808 ≤ m) (hm2 : m ≤ 9223372036854775807) (hl1 : -9223372036854775808 ≤ l) (hl2 : l ≤ 9223372036854775807) (hz1 : -9223372036854775808 ≤ z) (hz2 : z ≤ 9223372036854775807)
    (hc : cmdOf x = ⟨k, cl, sq, nm, vl⟩) (ht : tokOf y = ⟨tc, tr, tu⟩) (hn : pick z 1048577 = n) (hq1 : pick m 8 = q1) (hq2 : pick l 1000 = q2) (hk : k = 1 ∨ k = 2 ∨ k = 3) (hN : Nd w) (hle : tu + q2 ≤ 1048576) :
    Calls Tryd.prog 4 #[cmdV x, tokV y, .int .i64 m, .int .i64 l, .int .i64 z] w fun e w' => e = .returned (.bool true) ∧ Below w.heap.size w w' := by
  have hcmd := fun w => Command_any x w hx
  rw [hc] at hcmd
  have htok := fun w => Token_any y w hy
  rw [ht] at htok
  have hpk := fun w => picked_any z 1048577 w hz1 hz2 (by decide)
  rw [hn] at hpk
  have hck : checkC ⟨k, cl, sq, nm, vl⟩ = 0 := by rw [← hc]; exact cmdOf_check x
  have htk : (Con.Tok.mk tc tr tu).Ok := by rw [← ht]; exact tokOf_ok y
  have hn0 : 0 ≤ n := by rw [← hn]; exact pick_nonneg z 1048577 (by decide)
  have hn1 : n < 1048577 := by rw [← hn]; exact pick_lt z 1048577 (by decide)
  have hq10 : 0 ≤ q1 := by rw [← hq1]; exact pick_nonneg m 8 (by decide)
  have hq11 : q1 < 8 := by rw [← hq1]; exact pick_lt m 8 (by decide)
  have hq20 : 0 ≤ q2 := by rw [← hq2]; exact pick_nonneg l 1000 (by decide)
  have hq21 : q2 < 1000 := by rw [← hq2]; exact pick_lt l 1000 (by decide)
  have hcl : 0 ≤ cl ∧ cl ≤ 7 := by
    have h1 := pick_nonneg x.client 4 (by decide)
    have h2 := pick_lt x.client 4 (by decide)
    have h3 : pick x.client 4 = cl := congrArg Con.Cmd.client hc
    omega
  have hor := or_small tr q1 k htk.r0 htk.r1 hq10 (by omega) (by omega) (by omega)
  obtain ⟨R, hR⟩ : ∃ R, R = bits .or .i64 tr q1 := ⟨_, rfl⟩
  rw [← hR] at hor
  have htc0 : 0 ≤ tc := htk.c0
  have htc1 : tc ≤ 7 := htk.c1
  have htb : 0 ≤ tu := htk.u0
  have htb1 : tu ≤ 1048576 := htk.u1
  have huk : (Con.Tok.mk tc R (tu + q2)).Ok := by constructor <;> dsimp only <;> omega
  have hfk : (Con.Tok.mk cl 7 1048576).Ok := by constructor <;> dsimp only <;> omega
  have hok : (Con.Tok.mk cl 0 1048576).Ok := by constructor <;> dsimp only <;> omega
  have hal := fun w (h : Nd w) => Allows_any ⟨tc, tr, tu⟩ ⟨k, cl, sq, nm, vl⟩ n w htk hck h
  have hbl := fun w (h : Nd w) => Allows_any ⟨tc, R, (tu + q2)⟩ ⟨k, cl, sq, nm, vl⟩ n w huk hck h
  have hfl := fun w (h : Nd w) => Allows_any ⟨cl, 7, 1048576⟩ ⟨k, cl, sq, nm, vl⟩ n w hfk hck h
  have hol := fun w (h : Nd w) => Allows_any ⟨cl, 0, 1048576⟩ ⟨k, cl, sq, nm, vl⟩ n w hok hck h
  have hk0 : k ≠ 0 := by omega
  have hfe : allowC ⟨cl, 7, 1048576⟩ ⟨k, cl, sq, nm, vl⟩ n = 0 := by
    unfold allowC; dsimp only
    rw [if_neg (by intro h; rcases h with h | h | h <;> first | exact hk0 h | exact h rfl | (rw [(lacks_full k hk).1] at h; cases h)), if_neg (by omega)]
  have hoe : allowC ⟨cl, 0, 1048576⟩ ⟨k, cl, sq, nm, vl⟩ n = 11 := by
    unfold allowC; dsimp only
    rw [if_pos (Or.inr (Or.inr (lacks_full k hk).2))]
  rw [hfe] at hfl
  rw [hoe] at hol
  have hmono : allowC ⟨tc, tr, tu⟩ ⟨k, cl, sq, nm, vl⟩ n = 0 → allowC ⟨tc, R, (tu + q2)⟩ ⟨k, cl, sq, nm, vl⟩ n = 0 := allow_more tc tr tu R _ k cl sq nm vl n hor.2.2 (by omega)
  obtain ⟨A, hA⟩ : ∃ A, A = allowC ⟨tc, tr, tu⟩ ⟨k, cl, sq, nm, vl⟩ n := ⟨_, rfl⟩
  obtain ⟨B, hB⟩ : ∃ B, B = allowC ⟨tc, R, (tu + q2)⟩ ⟨k, cl, sq, nm, vl⟩ n := ⟨_, rfl⟩
  rw [← hA, ← hB] at hmono
  rw [← hA] at hal
  rw [← hB] at hbl
  unfold cmdV at hcmd hal hbl hfl hol
  unfold tokV at htok hal hbl hfl hol
  dsimp only at hcmd htok hal hbl hfl hol
  have HCMD := Lib.hid hcmd
  have HTOK := Lib.hid htok
  have HPK := Lib.hid hpk
  have HAL := Lib.hid hal
  have HBL := Lib.hid hbl
  have HFL := Lib.hid hfl
  have HOL := Lib.hid hol
  have HN := Lib.hid hN
  have HQ1 := Lib.hid hq1
  have HQ2 := Lib.hid hq2
  have HRe := Lib.hid hR
  have HMONO := Lib.hid hmono
  clear hcmd htok hpk hck htk hal hbl hfl hol hfe hoe hN hx hy hc ht hn hq1 hq2 hmono hA hB hor hR huk hfk hok hk hk0 hcl
  obtain ⟨x0, x1, x2, x3, x4⟩ := x
  obtain ⟨y0, y1, y2⟩ := y
  unfold cmdV tokV
  dsimp only
  go_enter Tryd.func4, Tryd.ntmps4
  go_wp2_with fail
  refine (HCMD.out _).mono ?_
  rintro e w1 ⟨rfl, hb1⟩
  have s1 : w.heap.size + 2 ≤ w1.heap.size := by simpa using hb1.size
  have B1 := Lib.hid ((((Below.refl w.heap.size w).alloc (Nat.le_refl _) _).alloc (by simp) _).trans (hb1.mono (by simp; omega)))
  have X1 := Lib.hid ((hb1.block (w.heap.size + 1) (by simp)).trans (heapNew1 w _ _))
  have ol : ∀ (o : Obj) (j : Nat), (w1.alloc o).cell? ⟨w.heap.size + 1, j, none⟩ = w1.cell? ⟨w.heap.size + 1, j, none⟩ := fun o j => ((Below.refl w1.heap.size w1).alloc (Nat.le_refl _) o).cell (p := ⟨w.heap.size + 1, j, none⟩) (by show w.heap.size + 1 < _; omega)
  have p0 : ∀ o, (w1.alloc o).cell? ⟨w.heap.size + 1, 0, none⟩ = some (.int .i64 y0) := fun o => by rw [ol]; exact cellAt X1.out 0 rfl
  have p1 : ∀ o, (w1.alloc o).cell? ⟨w.heap.size + 1, 1, none⟩ = some (.int .i64 y1) := fun o => by rw [ol]; exact cellAt X1.out 1 rfl
  have p2 : ∀ o, (w1.alloc o).cell? ⟨w.heap.size + 1, 2, none⟩ = some (.int .i64 y2) := fun o => by rw [ol]; exact cellAt X1.out 2 rfl
  clear hb1 ol
  go_wp2_with fail
  refine (HTOK.out _).mono ?_
  rintro e w2 ⟨rfl, hb2⟩
  have s2 : w1.heap.size + 1 ≤ w2.heap.size := by simpa using hb2.size
  have B2 := Lib.hid ((B1.out.alloc (by omega) _).trans (hb2.mono (by simp; omega)))
  have X2 := Lib.hid ((hb2.block w1.heap.size (by simp)).trans (heapNew w1 _))
  clear hb2 p0 p1 p2
  go_wp2_with fail
  refine (HPK.out _).mono ?_
  rintro e _ ⟨rfl, rfl⟩
  go_wp2_with fail
  have hx4t : ((w2.alloc (.cells #[.int .i64 tc, .int .i64 tr, .int .i64 tu] 28)).alloc (.cells #[.int .i64 tc, .int .i64 tr, .int .i64 tu] 28)).heap[w2.heap.size]? = some (.cells #[.int .i64 tc, .int .i64 tr, .int .i64 tu] 28 (0, 0)) := heapNew0 _ _ _
  have hx4u : ((w2.alloc (.cells #[.int .i64 tc, .int .i64 tr, .int .i64 tu] 28)).alloc (.cells #[.int .i64 tc, .int .i64 tr, .int .i64 tu] 28)).heap[w2.heap.size + 1]? = some (.cells #[.int .i64 tc, .int .i64 tr, .int .i64 tu] 28 (0, 0)) := heapNew1 _ _ _
  have hx4c : ((w2.alloc (.cells #[.int .i64 tc, .int .i64 tr, .int .i64 tu] 28)).alloc (.cells #[.int .i64 tc, .int .i64 tr, .int .i64 tu] 28)).heap[w1.heap.size]? = some (.cells #[.int .i64 k, .int .i64 cl, .int .i64 sq, .int .i64 nm, .int .i64 vl] 26 (0, 0)) := (heapOld _ _ _ (by simp; omega)).trans ((heapOld _ _ _ (by omega)).trans X2.out)
  have hb4 : Below w.heap.size w ((w2.alloc (.cells #[.int .i64 tc, .int .i64 tr, .int .i64 tu] 28)).alloc (.cells #[.int .i64 tc, .int .i64 tr, .int .i64 tu] 28)) := (B2.out.alloc B2.out.size _).alloc (by have := B2.out.size; simp; omega) _
  generalize hW4 : (w2.alloc (.cells #[.int .i64 tc, .int .i64 tr, .int .i64 tu] 28)).alloc (.cells #[.int .i64 tc, .int .i64 tr, .int .i64 tu] 28) = w4 at hx4t hx4u hx4c hb4 ⊢
  clear hW4
  have X4t := Lib.hid hx4t
  have X4u := Lib.hid hx4u
  have X4c := Lib.hid hx4c
  have B4 := Lib.hid hb4
  have u1 := cellAt hx4u 1 rfl
  have f1 := freeAt hx4u 1
  clear hx4t hx4u hx4c hb4
  refine region_quiet_tail 6 (by kernel_rfl) (by kernel_rfl) ?_
  simp only [List.take_succ_cons, List.take_zero, List.drop_succ_cons, List.drop_zero]
  repeat (go_big_quiet_step ((go_at_call 23; refine quiet_sameM (picked_toM _ _ _ _ (by assumption) (by assumption) (by omega) (by assumption)) ⟨_, rfl⟩)))
  refine wpQuiet_nil ?_
  intro w9 hw9
  obtain ⟨nq, rfl⟩ := hw9
  go_wp2_with fail
  rw [← HRe.out]
  have hx5u : ((w4.drewN nq).setCell ⟨w2.heap.size + 1, 1, none⟩ (.int .i64 R)).heap[w2.heap.size + 1]? = some (.cells #[.int .i64 tc, .int .i64 R, .int .i64 tu] 28 (0, 0)) := heapSet (w := w4.drewN nq) X4u.out _
  have hx5t : ((w4.drewN nq).setCell ⟨w2.heap.size + 1, 1, none⟩ (.int .i64 R)).heap[w2.heap.size]? = some (.cells #[.int .i64 tc, .int .i64 tr, .int .i64 tu] 28 (0, 0)) := (heapSet_ne _ _ (by omega)).trans X4t.out
  have hx5c : ((w4.drewN nq).setCell ⟨w2.heap.size + 1, 1, none⟩ (.int .i64 R)).heap[w1.heap.size]? = some (.cells #[.int .i64 k, .int .i64 cl, .int .i64 sq, .int .i64 nm, .int .i64 vl] 26 (0, 0)) := (heapSet_ne _ _ (by omega)).trans X4c.out
  have hb5 : Below w.heap.size w ((w4.drewN nq).setCell ⟨w2.heap.size + 1, 1, none⟩ (.int .i64 R)) := (below_drewN B4.out nq).setCell (by have := B2.out.size; show w.heap.size ≤ w2.heap.size + 1; omega) _
  generalize hW5 : (w4.drewN nq).setCell ⟨w2.heap.size + 1, 1, none⟩ (.int .i64 R) = w5 at hx5t hx5u hx5c hb5 ⊢
  clear hW5 u1 f1
  have X5t := Lib.hid hx5t
  have X5u := Lib.hid hx5u
  have X5c := Lib.hid hx5c
  have B5 := Lib.hid hb5
  have t2 := cellAt hx5t 2 rfl
  have u2 := cellAt hx5u 2 rfl
  have f2 := freeAt hx5u 2
  clear hx5t hx5u hx5c hb5
  have hv : ∀ n, ((w5.drewN n).setCell ⟨w2.heap.size + 1, 2, none⟩ (.int .i64 (tu + q2))).heap[w2.heap.size + 1]? = some (.cells #[.int .i64 tc, .int .i64 R, .int .i64 (tu + q2)] 28 (0, 0)) ∧ ((w5.drewN n).setCell ⟨w2.heap.size + 1, 2, none⟩ (.int .i64 (tu + q2))).heap[w2.heap.size]? = some (.cells #[.int .i64 tc, .int .i64 tr, .int .i64 tu] 28 (0, 0)) ∧ ((w5.drewN n).setCell ⟨w2.heap.size + 1, 2, none⟩ (.int .i64 (tu + q2))).heap[w1.heap.size]? = some (.cells #[.int .i64 k, .int .i64 cl, .int .i64 sq, .int .i64 nm, .int .i64 vl] 26 (0, 0)) ∧ Below w.heap.size w ((w5.drewN n).setCell ⟨w2.heap.size + 1, 2, none⟩ (.int .i64 (tu + q2))) := fun n =>
    ⟨heapSet (w := w5.drewN n) X5u.out _, (heapSet_ne _ _ (by omega)).trans X5t.out, (heapSet_ne _ _ (by omega)).trans X5c.out, (below_drewN B5.out n).setCell (by have := B2.out.size; show w.heap.size ≤ w2.heap.size + 1; omega) _⟩
  have HV := Lib.hid hv
  have vt0 : ∀ n, ((w5.drewN n).setCell ⟨w2.heap.size + 1, 2, none⟩ (.int .i64 (tu + q2))).cell? ⟨w2.heap.size, 0, none⟩ = some (.int .i64 tc) := fun n => cellAt (hv n).2.1 0 rfl
  have vt1 : ∀ n, ((w5.drewN n).setCell ⟨w2.heap.size + 1, 2, none⟩ (.int .i64 (tu + q2))).cell? ⟨w2.heap.size, 1, none⟩ = some (.int .i64 tr) := fun n => cellAt (hv n).2.1 1 rfl
  have vt2 : ∀ n, ((w5.drewN n).setCell ⟨w2.heap.size + 1, 2, none⟩ (.int .i64 (tu + q2))).cell? ⟨w2.heap.size, 2, none⟩ = some (.int .i64 tu) := fun n => cellAt (hv n).2.1 2 rfl
  have vc0 : ∀ n, ((w5.drewN n).setCell ⟨w2.heap.size + 1, 2, none⟩ (.int .i64 (tu + q2))).cell? ⟨w1.heap.size, 0, none⟩ = some (.int .i64 k) := fun n => cellAt (hv n).2.2.1 0 rfl
  have vc1 : ∀ n, ((w5.drewN n).setCell ⟨w2.heap.size + 1, 2, none⟩ (.int .i64 (tu + q2))).cell? ⟨w1.heap.size, 1, none⟩ = some (.int .i64 cl) := fun n => cellAt (hv n).2.2.1 1 rfl
  have vc2 : ∀ n, ((w5.drewN n).setCell ⟨w2.heap.size + 1, 2, none⟩ (.int .i64 (tu + q2))).cell? ⟨w1.heap.size, 2, none⟩ = some (.int .i64 sq) := fun n => cellAt (hv n).2.2.1 2 rfl
  have vc3 : ∀ n, ((w5.drewN n).setCell ⟨w2.heap.size + 1, 2, none⟩ (.int .i64 (tu + q2))).cell? ⟨w1.heap.size, 3, none⟩ = some (.int .i64 nm) := fun n => cellAt (hv n).2.2.1 3 rfl
  have vc4 : ∀ n, ((w5.drewN n).setCell ⟨w2.heap.size + 1, 2, none⟩ (.int .i64 (tu + q2))).cell? ⟨w1.heap.size, 4, none⟩ = some (.int .i64 vl) := fun n => cellAt (hv n).2.2.1 4 rfl
  clear hv
  refine region_quiet_tail 7 (by kernel_rfl) (by kernel_rfl) ?_
  simp only [List.take_succ_cons, List.take_zero, List.drop_succ_cons, List.drop_zero]
  repeat (go_big_quiet_step ((go_at_call 23; refine quiet_sameM (picked_toM _ _ _ _ (by assumption) (by assumption) (by omega) (by assumption)) ⟨_, rfl⟩)))
  refine wpQuiet_nil ?_
  intro w9 hw9
  obtain ⟨nr, rfl⟩ := hw9
  go_wp2_with fail
  obtain ⟨hx6u, hx6t, hx6c, hb6⟩ := HV.out nr
  generalize hW6 : (w5.drewN nr).setCell ⟨w2.heap.size + 1, 2, none⟩ (.int .i64 (tu + q2)) = w6 at hx6u hx6t hx6c hb6 ⊢
  clear hW6 vt0 vt1 vt2 vc0 vc1 vc2 vc3 vc4 t2 u2 f2
  have X6u := Lib.hid hx6u
  have X6c := Lib.hid hx6c
  have B6 := Lib.hid hb6
  have l6u := lt_of_heap hx6u
  have l6c := lt_of_heap hx6c
  clear hx6u hx6t hx6c hb6
  refine (HAL.out _ (HN.out.stay B6.out)).mono ?_
  rintro e w7 ⟨rfl, hb7⟩
  have X7u := Lib.hid ((hb7.block _ l6u).trans X6u.out)
  have X7c := Lib.hid ((hb7.block _ l6c).trans X6c.out)
  have B7 := Lib.hid (B6.out.trans (hb7.mono B6.out.size))
  have l7u := lt_of_heap X7u.out
  have l7c := lt_of_heap X7c.out
  have c7_0 := cellAt X7c.out 0 rfl
  have c7_1 := cellAt X7c.out 1 rfl
  have c7_2 := cellAt X7c.out 2 rfl
  have c7_3 := cellAt X7c.out 3 rfl
  have c7_4 := cellAt X7c.out 4 rfl
  have u7_0 := cellAt X7u.out 0 rfl
  have u7_1 := cellAt X7u.out 1 rfl
  have u7_2 := cellAt X7u.out 2 rfl
  clear hb7
  go_wp2_with fail
  refine (HBL.out _ (HN.out.stay B7.out)).mono ?_
  rintro e w8 ⟨rfl, hb8⟩
  have X8u := Lib.hid ((hb8.block _ l7u).trans X7u.out)
  have X8c := Lib.hid ((hb8.block _ l7c).trans X7c.out)
  have B8 := Lib.hid (B7.out.trans (hb8.mono B7.out.size))
  have l8u := lt_of_heap X8u.out
  have l8c := lt_of_heap X8c.out
  have c8_0 := cellAt X8c.out 0 rfl
  have c8_1 := cellAt X8c.out 1 rfl
  have c8_2 := cellAt X8c.out 2 rfl
  have c8_3 := cellAt X8c.out 3 rfl
  have c8_4 := cellAt X8c.out 4 rfl
  have u8_0 := cellAt X8u.out 0 rfl
  have u8_1 := cellAt X8u.out 1 rfl
  have u8_2 := cellAt X8u.out 2 rfl
  clear hb8 c7_0 c7_1 c7_2 c7_3 c7_4 u7_0 u7_1 u7_2
  go_wp2_with fail
  refine (HFL.out _ (HN.out.stay B8.out)).mono ?_
  rintro e w9 ⟨rfl, hb9⟩
  have X9u := Lib.hid ((hb9.block _ l8u).trans X8u.out)
  have X9c := Lib.hid ((hb9.block _ l8c).trans X8c.out)
  have B9 := Lib.hid (B8.out.trans (hb9.mono B8.out.size))
  have l9u := lt_of_heap X9u.out
  have l9c := lt_of_heap X9c.out
  have c9_0 := cellAt X9c.out 0 rfl
  have c9_1 := cellAt X9c.out 1 rfl
  have c9_2 := cellAt X9c.out 2 rfl
  have c9_3 := cellAt X9c.out 3 rfl
  have c9_4 := cellAt X9c.out 4 rfl
  have u9_0 := cellAt X9u.out 0 rfl
  have u9_1 := cellAt X9u.out 1 rfl
  have u9_2 := cellAt X9u.out 2 rfl
  clear hb9 c8_0 c8_1 c8_2 c8_3 c8_4 u8_0 u8_1 u8_2
  go_wp2_with fail
  refine (HOL.out _ (HN.out.stay B9.out)).mono ?_
  rintro e w10 ⟨rfl, hb10⟩
  have X10u := Lib.hid ((hb10.block _ l9u).trans X9u.out)
  have X10c := Lib.hid ((hb10.block _ l9c).trans X9c.out)
  have B10 := Lib.hid (B9.out.trans (hb10.mono B9.out.size))
  have l10u := lt_of_heap X10u.out
  have l10c := lt_of_heap X10c.out
  clear hb10 c9_0 c9_1 c9_2 c9_3 c9_4 u9_0 u9_1 u9_2
  by_cases hA0 : A = 0
  · have hAb : (A != 0) = false := by simpa using hA0
    have hBb : (B == 0) = true := by simpa using HMONO.out hA0
    clear hA0
    go_wp2
    go_ret
    exact ⟨rfl, B10.out⟩
  · have hAb : (A != 0) = true := by simpa using hA0
    clear hA0
    go_wp2
    go_ret
    exact ⟨rfl, B10.out⟩

set_option maxRecDepth 100000 in
set_option maxHeartbeats 2000000 in
theorem am_b (x : Con.Cmd) (y : Con.Tok) (m l z k cl sq nm vl tc tr tu n q1 q2 : Int) (w : World) (hx : WishOk x) (hy : PassOk y) (hm1 : -9223372036854775808 ≤ m) (hm2 : m ≤ 9223372036854775807) (hl1 : -9223372036854775808 ≤ l) (hl2 : l ≤ 9223372036854775807) (hz1 : -9223372036854775808 ≤ z) (hz2 : z ≤ 9223372036854775807)
    (hc : cmdOf x = ⟨k, cl, sq, nm, vl⟩) (ht : tokOf y = ⟨tc, tr, tu⟩) (hn : pick z 1048577 = n) (hq1 : pick m 8 = q1) (hq2 : pick l 1000 = q2) (hk : k = 1 ∨ k = 2 ∨ k = 3) (hN : Nd w) (hgt : 1048576 < tu + q2) :
    Calls Tryd.prog 4 #[cmdV x, tokV y, .int .i64 m, .int .i64 l, .int .i64 z] w fun e w' => e = .returned (.bool true) ∧ Below w.heap.size w w' := by
  have hcmd := fun w => Command_any x w hx
  rw [hc] at hcmd
  have htok := fun w => Token_any y w hy
  rw [ht] at htok
  have hpk := fun w => picked_any z 1048577 w hz1 hz2 (by decide)
  rw [hn] at hpk
  have hck : checkC ⟨k, cl, sq, nm, vl⟩ = 0 := by rw [← hc]; exact cmdOf_check x
  have htk : (Con.Tok.mk tc tr tu).Ok := by rw [← ht]; exact tokOf_ok y
  have hn0 : 0 ≤ n := by rw [← hn]; exact pick_nonneg z 1048577 (by decide)
  have hn1 : n < 1048577 := by rw [← hn]; exact pick_lt z 1048577 (by decide)
  have hq10 : 0 ≤ q1 := by rw [← hq1]; exact pick_nonneg m 8 (by decide)
  have hq11 : q1 < 8 := by rw [← hq1]; exact pick_lt m 8 (by decide)
  have hq20 : 0 ≤ q2 := by rw [← hq2]; exact pick_nonneg l 1000 (by decide)
  have hq21 : q2 < 1000 := by rw [← hq2]; exact pick_lt l 1000 (by decide)
  have hcl : 0 ≤ cl ∧ cl ≤ 7 := by
    have h1 := pick_nonneg x.client 4 (by decide)
    have h2 := pick_lt x.client 4 (by decide)
    have h3 : pick x.client 4 = cl := congrArg Con.Cmd.client hc
    omega
  have hor := or_small tr q1 k htk.r0 htk.r1 hq10 (by omega) (by omega) (by omega)
  obtain ⟨R, hR⟩ : ∃ R, R = bits .or .i64 tr q1 := ⟨_, rfl⟩
  rw [← hR] at hor
  have htc0 : 0 ≤ tc := htk.c0
  have htc1 : tc ≤ 7 := htk.c1
  have htb : 0 ≤ tu := htk.u0
  have htb1 : tu ≤ 1048576 := htk.u1
  have huk : (Con.Tok.mk tc R 1048576).Ok := by constructor <;> dsimp only <;> omega
  have hfk : (Con.Tok.mk cl 7 1048576).Ok := by constructor <;> dsimp only <;> omega
  have hok : (Con.Tok.mk cl 0 1048576).Ok := by constructor <;> dsimp only <;> omega
  have hal := fun w (h : Nd w) => Allows_any ⟨tc, tr, tu⟩ ⟨k, cl, sq, nm, vl⟩ n w htk hck h
  have hbl := fun w (h : Nd w) => Allows_any ⟨tc, R, 1048576⟩ ⟨k, cl, sq, nm, vl⟩ n w huk hck h
  have hfl := fun w (h : Nd w) => Allows_any ⟨cl, 7, 1048576⟩ ⟨k, cl, sq, nm, vl⟩ n w hfk hck h
  have hol := fun w (h : Nd w) => Allows_any ⟨cl, 0, 1048576⟩ ⟨k, cl, sq, nm, vl⟩ n w hok hck h
  have hk0 : k ≠ 0 := by omega
  have hfe : allowC ⟨cl, 7, 1048576⟩ ⟨k, cl, sq, nm, vl⟩ n = 0 := by
    unfold allowC; dsimp only
    rw [if_neg (by intro h; rcases h with h | h | h <;> first | exact hk0 h | exact h rfl | (rw [(lacks_full k hk).1] at h; cases h)), if_neg (by omega)]
  have hoe : allowC ⟨cl, 0, 1048576⟩ ⟨k, cl, sq, nm, vl⟩ n = 11 := by
    unfold allowC; dsimp only
    rw [if_pos (Or.inr (Or.inr (lacks_full k hk).2))]
  rw [hfe] at hfl
  rw [hoe] at hol
  have hmono : allowC ⟨tc, tr, tu⟩ ⟨k, cl, sq, nm, vl⟩ n = 0 → allowC ⟨tc, R, 1048576⟩ ⟨k, cl, sq, nm, vl⟩ n = 0 := allow_more tc tr tu R _ k cl sq nm vl n hor.2.2 (by omega)
  obtain ⟨A, hA⟩ : ∃ A, A = allowC ⟨tc, tr, tu⟩ ⟨k, cl, sq, nm, vl⟩ n := ⟨_, rfl⟩
  obtain ⟨B, hB⟩ : ∃ B, B = allowC ⟨tc, R, 1048576⟩ ⟨k, cl, sq, nm, vl⟩ n := ⟨_, rfl⟩
  rw [← hA, ← hB] at hmono
  rw [← hA] at hal
  rw [← hB] at hbl
  unfold cmdV at hcmd hal hbl hfl hol
  unfold tokV at htok hal hbl hfl hol
  dsimp only at hcmd htok hal hbl hfl hol
  have HCMD := Lib.hid hcmd
  have HTOK := Lib.hid htok
  have HPK := Lib.hid hpk
  have HAL := Lib.hid hal
  have HBL := Lib.hid hbl
  have HFL := Lib.hid hfl
  have HOL := Lib.hid hol
  have HN := Lib.hid hN
  have HQ1 := Lib.hid hq1
  have HQ2 := Lib.hid hq2
  have HRe := Lib.hid hR
  have HMONO := Lib.hid hmono
  clear hcmd htok hpk hck htk hal hbl hfl hol hfe hoe hN hx hy hc ht hn hq1 hq2 hmono hA hB hor hR huk hfk hok hk hk0 hcl
  obtain ⟨x0, x1, x2, x3, x4⟩ := x
  obtain ⟨y0, y1, y2⟩ := y
  unfold cmdV tokV
  dsimp only
  go_enter Tryd.func4, Tryd.ntmps4
  go_wp2_with fail
  refine (HCMD.out _).mono ?_
  rintro e w1 ⟨rfl, hb1⟩
  have s1 : w.heap.size + 2 ≤ w1.heap.size := by simpa using hb1.size
  have B1 := Lib.hid ((((Below.refl w.heap.size w).alloc (Nat.le_refl _) _).alloc (by simp) _).trans (hb1.mono (by simp; omega)))
  have X1 := Lib.hid ((hb1.block (w.heap.size + 1) (by simp)).trans (heapNew1 w _ _))
  have ol : ∀ (o : Obj) (j : Nat), (w1.alloc o).cell? ⟨w.heap.size + 1, j, none⟩ = w1.cell? ⟨w.heap.size + 1, j, none⟩ := fun o j => ((Below.refl w1.heap.size w1).alloc (Nat.le_refl _) o).cell (p := ⟨w.heap.size + 1, j, none⟩) (by show w.heap.size + 1 < _; omega)
  have p0 : ∀ o, (w1.alloc o).cell? ⟨w.heap.size + 1, 0, none⟩ = some (.int .i64 y0) := fun o => by rw [ol]; exact cellAt X1.out 0 rfl
  have p1 : ∀ o, (w1.alloc o).cell? ⟨w.heap.size + 1, 1, none⟩ = some (.int .i64 y1) := fun o => by rw [ol]; exact cellAt X1.out 1 rfl
  have p2 : ∀ o, (w1.alloc o).cell? ⟨w.heap.size + 1, 2, none⟩ = some (.int .i64 y2) := fun o => by rw [ol]; exact cellAt X1.out 2 rfl
  clear hb1 ol
  go_wp2_with fail
  refine (HTOK.out _).mono ?_
  rintro e w2 ⟨rfl, hb2⟩
  have s2 : w1.heap.size + 1 ≤ w2.heap.size := by simpa using hb2.size
  have B2 := Lib.hid ((B1.out.alloc (by omega) _).trans (hb2.mono (by simp; omega)))
  have X2 := Lib.hid ((hb2.block w1.heap.size (by simp)).trans (heapNew w1 _))
  clear hb2 p0 p1 p2
  go_wp2_with fail
  refine (HPK.out _).mono ?_
  rintro e _ ⟨rfl, rfl⟩
  go_wp2_with fail
  have hx4t : ((w2.alloc (.cells #[.int .i64 tc, .int .i64 tr, .int .i64 tu] 28)).alloc (.cells #[.int .i64 tc, .int .i64 tr, .int .i64 tu] 28)).heap[w2.heap.size]? = some (.cells #[.int .i64 tc, .int .i64 tr, .int .i64 tu] 28 (0, 0)) := heapNew0 _ _ _
  have hx4u : ((w2.alloc (.cells #[.int .i64 tc, .int .i64 tr, .int .i64 tu] 28)).alloc (.cells #[.int .i64 tc, .int .i64 tr, .int .i64 tu] 28)).heap[w2.heap.size + 1]? = some (.cells #[.int .i64 tc, .int .i64 tr, .int .i64 tu] 28 (0, 0)) := heapNew1 _ _ _
  have hx4c : ((w2.alloc (.cells #[.int .i64 tc, .int .i64 tr, .int .i64 tu] 28)).alloc (.cells #[.int .i64 tc, .int .i64 tr, .int .i64 tu] 28)).heap[w1.heap.size]? = some (.cells #[.int .i64 k, .int .i64 cl, .int .i64 sq, .int .i64 nm, .int .i64 vl] 26 (0, 0)) := (heapOld _ _ _ (by simp; omega)).trans ((heapOld _ _ _ (by omega)).trans X2.out)
  have hb4 : Below w.heap.size w ((w2.alloc (.cells #[.int .i64 tc, .int .i64 tr, .int .i64 tu] 28)).alloc (.cells #[.int .i64 tc, .int .i64 tr, .int .i64 tu] 28)) := (B2.out.alloc B2.out.size _).alloc (by have := B2.out.size; simp; omega) _
  generalize hW4 : (w2.alloc (.cells #[.int .i64 tc, .int .i64 tr, .int .i64 tu] 28)).alloc (.cells #[.int .i64 tc, .int .i64 tr, .int .i64 tu] 28) = w4 at hx4t hx4u hx4c hb4 ⊢
  clear hW4
  have X4t := Lib.hid hx4t
  have X4u := Lib.hid hx4u
  have X4c := Lib.hid hx4c
  have B4 := Lib.hid hb4
  have u1 := cellAt hx4u 1 rfl
  have f1 := freeAt hx4u 1
  clear hx4t hx4u hx4c hb4
  refine region_quiet_tail 6 (by kernel_rfl) (by kernel_rfl) ?_
  simp only [List.take_succ_cons, List.take_zero, List.drop_succ_cons, List.drop_zero]
  repeat (go_big_quiet_step ((go_at_call 23; refine quiet_sameM (picked_toM _ _ _ _ (by assumption) (by assumption) (by omega) (by assumption)) ⟨_, rfl⟩)))
  refine wpQuiet_nil ?_
  intro w9 hw9
  obtain ⟨nq, rfl⟩ := hw9
  go_wp2_with fail
  rw [← HRe.out]
  have hx5u : ((w4.drewN nq).setCell ⟨w2.heap.size + 1, 1, none⟩ (.int .i64 R)).heap[w2.heap.size + 1]? = some (.cells #[.int .i64 tc, .int .i64 R, .int .i64 tu] 28 (0, 0)) := heapSet (w := w4.drewN nq) X4u.out _
  have hx5t : ((w4.drewN nq).setCell ⟨w2.heap.size + 1, 1, none⟩ (.int .i64 R)).heap[w2.heap.size]? = some (.cells #[.int .i64 tc, .int .i64 tr, .int .i64 tu] 28 (0, 0)) := (heapSet_ne _ _ (by omega)).trans X4t.out
  have hx5c : ((w4.drewN nq).setCell ⟨w2.heap.size + 1, 1, none⟩ (.int .i64 R)).heap[w1.heap.size]? = some (.cells #[.int .i64 k, .int .i64 cl, .int .i64 sq, .int .i64 nm, .int .i64 vl] 26 (0, 0)) := (heapSet_ne _ _ (by omega)).trans X4c.out
  have hb5 : Below w.heap.size w ((w4.drewN nq).setCell ⟨w2.heap.size + 1, 1, none⟩ (.int .i64 R)) := (below_drewN B4.out nq).setCell (by have := B2.out.size; show w.heap.size ≤ w2.heap.size + 1; omega) _
  generalize hW5 : (w4.drewN nq).setCell ⟨w2.heap.size + 1, 1, none⟩ (.int .i64 R) = w5 at hx5t hx5u hx5c hb5 ⊢
  clear hW5 u1 f1
  have X5t := Lib.hid hx5t
  have X5u := Lib.hid hx5u
  have X5c := Lib.hid hx5c
  have B5 := Lib.hid hb5
  have t2 := cellAt hx5t 2 rfl
  have u2 := cellAt hx5u 2 rfl
  have f2 := freeAt hx5u 2
  clear hx5t hx5u hx5c hb5
  have hv : ∀ n, ((w5.drewN n).setCell ⟨w2.heap.size + 1, 2, none⟩ (.int .i64 1048576)).heap[w2.heap.size + 1]? = some (.cells #[.int .i64 tc, .int .i64 R, .int .i64 1048576] 28 (0, 0)) ∧ ((w5.drewN n).setCell ⟨w2.heap.size + 1, 2, none⟩ (.int .i64 1048576)).heap[w2.heap.size]? = some (.cells #[.int .i64 tc, .int .i64 tr, .int .i64 tu] 28 (0, 0)) ∧ ((w5.drewN n).setCell ⟨w2.heap.size + 1, 2, none⟩ (.int .i64 1048576)).heap[w1.heap.size]? = some (.cells #[.int .i64 k, .int .i64 cl, .int .i64 sq, .int .i64 nm, .int .i64 vl] 26 (0, 0)) ∧ Below w.heap.size w ((w5.drewN n).setCell ⟨w2.heap.size + 1, 2, none⟩ (.int .i64 1048576)) := fun n =>
    ⟨heapSet (w := w5.drewN n) X5u.out _, (heapSet_ne _ _ (by omega)).trans X5t.out, (heapSet_ne _ _ (by omega)).trans X5c.out, (below_drewN B5.out n).setCell (by have := B2.out.size; show w.heap.size ≤ w2.heap.size + 1; omega) _⟩
  have HV := Lib.hid hv
  have vt0 : ∀ n, ((w5.drewN n).setCell ⟨w2.heap.size + 1, 2, none⟩ (.int .i64 1048576)).cell? ⟨w2.heap.size, 0, none⟩ = some (.int .i64 tc) := fun n => cellAt (hv n).2.1 0 rfl
  have vt1 : ∀ n, ((w5.drewN n).setCell ⟨w2.heap.size + 1, 2, none⟩ (.int .i64 1048576)).cell? ⟨w2.heap.size, 1, none⟩ = some (.int .i64 tr) := fun n => cellAt (hv n).2.1 1 rfl
  have vt2 : ∀ n, ((w5.drewN n).setCell ⟨w2.heap.size + 1, 2, none⟩ (.int .i64 1048576)).cell? ⟨w2.heap.size, 2, none⟩ = some (.int .i64 tu) := fun n => cellAt (hv n).2.1 2 rfl
  have vc0 : ∀ n, ((w5.drewN n).setCell ⟨w2.heap.size + 1, 2, none⟩ (.int .i64 1048576)).cell? ⟨w1.heap.size, 0, none⟩ = some (.int .i64 k) := fun n => cellAt (hv n).2.2.1 0 rfl
  have vc1 : ∀ n, ((w5.drewN n).setCell ⟨w2.heap.size + 1, 2, none⟩ (.int .i64 1048576)).cell? ⟨w1.heap.size, 1, none⟩ = some (.int .i64 cl) := fun n => cellAt (hv n).2.2.1 1 rfl
  have vc2 : ∀ n, ((w5.drewN n).setCell ⟨w2.heap.size + 1, 2, none⟩ (.int .i64 1048576)).cell? ⟨w1.heap.size, 2, none⟩ = some (.int .i64 sq) := fun n => cellAt (hv n).2.2.1 2 rfl
  have vc3 : ∀ n, ((w5.drewN n).setCell ⟨w2.heap.size + 1, 2, none⟩ (.int .i64 1048576)).cell? ⟨w1.heap.size, 3, none⟩ = some (.int .i64 nm) := fun n => cellAt (hv n).2.2.1 3 rfl
  have vc4 : ∀ n, ((w5.drewN n).setCell ⟨w2.heap.size + 1, 2, none⟩ (.int .i64 1048576)).cell? ⟨w1.heap.size, 4, none⟩ = some (.int .i64 vl) := fun n => cellAt (hv n).2.2.1 4 rfl
  clear hv
  refine region_quiet_tail 7 (by kernel_rfl) (by kernel_rfl) ?_
  simp only [List.take_succ_cons, List.take_zero, List.drop_succ_cons, List.drop_zero]
  repeat (go_big_quiet_step ((go_at_call 23; refine quiet_sameM (picked_toM _ _ _ _ (by assumption) (by assumption) (by omega) (by assumption)) ⟨_, rfl⟩)))
  refine wpQuiet_nil ?_
  intro w9 hw9
  obtain ⟨nr, rfl⟩ := hw9
  go_wp2_with fail
  obtain ⟨hx6u, hx6t, hx6c, hb6⟩ := HV.out nr
  generalize hW6 : (w5.drewN nr).setCell ⟨w2.heap.size + 1, 2, none⟩ (.int .i64 1048576) = w6 at hx6u hx6t hx6c hb6 ⊢
  clear hW6 vt0 vt1 vt2 vc0 vc1 vc2 vc3 vc4 t2 u2 f2
  have X6u := Lib.hid hx6u
  have X6c := Lib.hid hx6c
  have B6 := Lib.hid hb6
  have l6u := lt_of_heap hx6u
  have l6c := lt_of_heap hx6c
  clear hx6u hx6t hx6c hb6
  refine (HAL.out _ (HN.out.stay B6.out)).mono ?_
  rintro e w7 ⟨rfl, hb7⟩
  have X7u := Lib.hid ((hb7.block _ l6u).trans X6u.out)
  have X7c := Lib.hid ((hb7.block _ l6c).trans X6c.out)
  have B7 := Lib.hid (B6.out.trans (hb7.mono B6.out.size))
  have l7u := lt_of_heap X7u.out
  have l7c := lt_of_heap X7c.out
  have c7_0 := cellAt X7c.out 0 rfl
  have c7_1 := cellAt X7c.out 1 rfl
  have c7_2 := cellAt X7c.out 2 rfl
  have c7_3 := cellAt X7c.out 3 rfl
  have c7_4 := cellAt X7c.out 4 rfl
  have u7_0 := cellAt X7u.out 0 rfl
  have u7_1 := cellAt X7u.out 1 rfl
  have u7_2 := cellAt X7u.out 2 rfl
  clear hb7
  go_wp2_with fail
  refine (HBL.out _ (HN.out.stay B7.out)).mono ?_
  rintro e w8 ⟨rfl, hb8⟩
  have X8u := Lib.hid ((hb8.block _ l7u).trans X7u.out)
  have X8c := Lib.hid ((hb8.block _ l7c).trans X7c.out)
  have B8 := Lib.hid (B7.out.trans (hb8.mono B7.out.size))
  have l8u := lt_of_heap X8u.out
  have l8c := lt_of_heap X8c.out
  have c8_0 := cellAt X8c.out 0 rfl
  have c8_1 := cellAt X8c.out 1 rfl
  have c8_2 := cellAt X8c.out 2 rfl
  have c8_3 := cellAt X8c.out 3 rfl
  have c8_4 := cellAt X8c.out 4 rfl
  have u8_0 := cellAt X8u.out 0 rfl
  have u8_1 := cellAt X8u.out 1 rfl
  have u8_2 := cellAt X8u.out 2 rfl
  clear hb8 c7_0 c7_1 c7_2 c7_3 c7_4 u7_0 u7_1 u7_2
  go_wp2_with fail
  refine (HFL.out _ (HN.out.stay B8.out)).mono ?_
  rintro e w9 ⟨rfl, hb9⟩
  have X9u := Lib.hid ((hb9.block _ l8u).trans X8u.out)
  have X9c := Lib.hid ((hb9.block _ l8c).trans X8c.out)
  have B9 := Lib.hid (B8.out.trans (hb9.mono B8.out.size))
  have l9u := lt_of_heap X9u.out
  have l9c := lt_of_heap X9c.out
  have c9_0 := cellAt X9c.out 0 rfl
  have c9_1 := cellAt X9c.out 1 rfl
  have c9_2 := cellAt X9c.out 2 rfl
  have c9_3 := cellAt X9c.out 3 rfl
  have c9_4 := cellAt X9c.out 4 rfl
  have u9_0 := cellAt X9u.out 0 rfl
  have u9_1 := cellAt X9u.out 1 rfl
  have u9_2 := cellAt X9u.out 2 rfl
  clear hb9 c8_0 c8_1 c8_2 c8_3 c8_4 u8_0 u8_1 u8_2
  go_wp2_with fail
  refine (HOL.out _ (HN.out.stay B9.out)).mono ?_
  rintro e w10 ⟨rfl, hb10⟩
  have X10u := Lib.hid ((hb10.block _ l9u).trans X9u.out)
  have X10c := Lib.hid ((hb10.block _ l9c).trans X9c.out)
  have B10 := Lib.hid (B9.out.trans (hb10.mono B9.out.size))
  have l10u := lt_of_heap X10u.out
  have l10c := lt_of_heap X10c.out
  clear hb10 c9_0 c9_1 c9_2 c9_3 c9_4 u9_0 u9_1 u9_2
  by_cases hA0 : A = 0
  · have hAb : (A != 0) = false := by simpa using hA0
    have hBb : (B == 0) = true := by simpa using HMONO.out hA0
    clear hA0
    go_wp2
    go_ret
    exact ⟨rfl, B10.out⟩
  · have hAb : (A != 0) = true := by simpa using hA0
    clear hA0
    go_wp2
    go_ret
    exact ⟨rfl, B10.out⟩

theorem walk_AllowMore (vx : Value) (x : Con.Cmd) (vy : Value) (y : Con.Tok) (vm : Value) (m : Int) (vl : Value) (l : Int) (vz : Value) (z : Int) (w : World) (hv : IsWish vx x) (hp : IsPass vy y) (hm : IsInt vm m) (hl : IsInt vl l) (hz : IsInt vz z) (hN : Nd w) :
    Calls Tryd.prog 4 #[vx, vy, vm, vl, vz] w fun e w' => e = .returned (.bool true) ∧ Below w.heap.size w w' := by
  obtain ⟨rfl, hx⟩ := hv
  obtain ⟨rfl, hy⟩ := hp
  obtain ⟨rfl, hm1, hm2⟩ := hm
  obtain ⟨rfl, hl1, hl2⟩ := hl
  obtain ⟨rfl, hz1, hz2⟩ := hz
  have hk : (cmdOf x).kind = 1 ∨ (cmdOf x).kind = 2 ∨ (cmdOf x).kind = 3 := by
    have h1 := pick_nonneg x.kind 5 (by omega)
    have h2 := pick_lt x.kind 5 (by omega)
    simp only [cmdOf]
    omega
  obtain ⟨⟨k, cl, sq, nm, vl⟩, hc⟩ : ∃ c, cmdOf x = c := ⟨_, rfl⟩
  obtain ⟨⟨tc, tr, tu⟩, ht⟩ : ∃ t, tokOf y = t := ⟨_, rfl⟩
  rw [hc] at hk
  dsimp only at hk
  by_cases hle : tu + pick l 1000 ≤ 1048576
  · exact am_a x y m l z k cl sq nm vl tc tr tu _ _ _ w hx hy hm1 hm2 hl1 hl2 hz1 hz2 hc ht rfl rfl rfl hk hN hle
  · exact am_b x y m l z k cl sq nm vl tc tr tu _ _ _ w hx hy hm1 hm2 hl1 hl2 hz1 hz2 hc ht rfl rfl rfl hk hN (by omega)
end Go.Proofs.YtdjnbnbhpjiicaaDoor
