/-
  The walk of conclavekeep.TokenBytes: a token's bytes tell what it is, and a Mac that they are right.
-/
import Derived.Test.YtdjnbnbhpjiicaaDoorPrv
import Derived.Test.YtdjnbnbhpjiicaaDoorPas
import Derived.Test.YtdjnbnbhpjiicaaDoorFilled
import Derived.Test.YtdjnbnbhpjiicaaDoorKnF
import Derived.Test.YtdjnbnbhpjiicaaDoorTokL
set_option linter.unusedVariables false
set_option linter.unusedSimpArgs false
namespace Go.Proofs.YtdjnbnbhpjiicaaDoor
open Go.RowKit Go.Con

set_option maxRecDepth 100000 in
set_option maxHeartbeats 1000000 in
theorem walk_TokenBytes (va : Value) (a : List UInt8) (vy : Value) (y : Con.Tok) (w : World) (ha : Rd w va a) (hy : IsPass vy y) (hk : Kn w) :
    Calls Tryd.prog 12 #[va, vy] w fun e w' => e = .returned (.bool true) ∧ Below w.heap.size w w' := by
  obtain ⟨aa, ca, rfl, hlca, hcma⟩ := ha.slice
  have R_a := Lib.hid ha
  clear ha
  obtain ⟨rfl, hw_y⟩ := hy
  have HW_y := Lib.hid hw_y
  clear hw_y
  have HK := Lib.hid hk
  clear hk
  have HB0 := Lib.hid (Below.refl w.heap.size w)
  have s0 : w.heap.size ≤ w.heap.size := Nat.le_refl _
  obtain ⟨⟨tc, tr, tu⟩, ht⟩ : ∃ t, tokOf y = t := ⟨_, rfl⟩
  have htk : (Con.Tok.mk tc tr tu).Ok := by rw [← ht]; exact tokOf_ok y
  have htok := fun w => Token_any y w HW_y.out
  rw [ht] at htok
  obtain ⟨K, hKe⟩ : ∃ K, K = fill a 32 := ⟨_, rfl⟩
  have hKl : K.length = 32 := by rw [hKe]; exact fill_length _ _
  have hfk := fun v w (h : Rd w v a) => filled_any v a 32 w h (by decide)
  rw [← hKe] at hfk
  obtain ⟨y0, y1, y2⟩ := y
  unfold tokV at htok ⊢
  dsimp only at htok ⊢
  have HTK := Lib.hid htk
  have HTOK := Lib.hid htok
  have HKL := Lib.hid hKl
  have HFK := Lib.hid hfk
  clear ht htk htok hKe hKl hfk
  have hgr := fun v w h1 h2 => Grant_ok v K ⟨tc, tr, tu⟩ w h1 HKL.out HTK.out h2
  unfold tokV at hgr
  dsimp only at hgr
  obtain ⟨B, hBe⟩ : ∃ B, B = tokenB K ⟨tc, tr, tu⟩ := ⟨_, rfl⟩
  rw [← hBe] at hgr
  have hBl : B.length = 22 := by rw [hBe]; exact tokenB_length _ _
  obtain ⟨D, hDe⟩ : ∃ D, D = B.take 6 := ⟨_, rfl⟩
  have hDl : D.length = 6 := by rw [hDe, List.length_take, hBl]; rfl
  obtain ⟨M, hMe⟩ : ∃ M, M = Sha.mac K D := ⟨_, rfl⟩
  have hMl : M.length = 32 := by rw [hMe]; exact Sha.mac_length _ _
  have hmac := fun v1 v2 w h1 h2 h3 => Mac_ok v1 v2 K D w h1 h2 (by rw [HKL.out]; decide) (by rw [hDl]; decide) h3
  rw [← hMe] at hmac
  have hpm : B.drop 6 = M.take 16 := by rw [hMe, hDe, hBe, tokenB_take, tokenB_drop]; rfl
  have hraw : rawTok B = ⟨tc, tr, tu⟩ := by rw [hBe]; exact tokenB_raw _ _ HTK.out
  have HGR := Lib.hid hgr
  have HBL := Lib.hid hBl
  have HDE := Lib.hid hDe
  have HDL := Lib.hid hDl
  have HML := Lib.hid hMl
  have HMAC := Lib.hid hmac
  have HPM := Lib.hid hpm
  have HRAW := Lib.hid hraw
  clear hgr hBe hBl hDe hDl hMe hMl hmac hpm hraw
  go_enter Tryd.func12, Tryd.ntmps12
  go_wp2_with fail
  have hb1 : Below w.heap.size w (w.alloc (.cells #[.int .i64 y0, .int .i64 y1, .int .i64 y2] 25)) := (Below.refl _ _).alloc (Nat.le_refl _) _
  have hx1 : (w.alloc (.cells #[.int .i64 y0, .int .i64 y1, .int .i64 y2] 25)).heap[w.heap.size]? = some (.cells #[.int .i64 y0, .int .i64 y1, .int .i64 y2] 25 (0, 0)) := heapNew w _
  generalize hW1 : w.alloc (.cells #[.int .i64 y0, .int .i64 y1, .int .i64 y2] 25) = w1 at hb1 hx1 ⊢
  clear hW1
  have T1 := Lib.hid hb1
  replace R_a := Lib.hid (R_a.out.stay T1.out)
  have HB1 := Lib.hid (HB0.out.trans (T1.out.mono s0))
  have s1 := HB1.out.size
  have X_p := Lib.hid hx1
  clear hb1 hx1
  refine (HFK.out _ _ R_a.out).mono ?_
  rintro e w2 ⟨vk, rfl, hok, hb2⟩
  have T2 := Lib.hid hb2
  replace R_a := Lib.hid (R_a.out.stay T2.out)
  replace X_p := Lib.hid ((T2.out.block _ (lt_of_heap X_p.out)).trans X_p.out)
  have HB2 := Lib.hid (HB1.out.trans (T2.out.mono s1))
  have s2 := HB2.out.size
  have R_k := Lib.hid hok.rd
  clear hb2 hok
  obtain ⟨kb, ko, kc, hvk, hkc, _⟩ := R_k.out.shapeN 32 HKL.out (by decide)
  subst hvk
  have c_p_0 := cellAt X_p.out 0 rfl
  have d_p_0 : ∀ o, (w2.alloc o).cell? ⟨w.heap.size, 0, none⟩ = some (.int .i64 y0) := fun o => (((Below.refl w2.heap.size w2).alloc (Nat.le_refl _) o).cell (p := ⟨w.heap.size, 0, none⟩) (lt_of_heap X_p.out)).trans (cellAt X_p.out 0 rfl)
  have c_p_1 := cellAt X_p.out 1 rfl
  have d_p_1 : ∀ o, (w2.alloc o).cell? ⟨w.heap.size, 1, none⟩ = some (.int .i64 y1) := fun o => (((Below.refl w2.heap.size w2).alloc (Nat.le_refl _) o).cell (p := ⟨w.heap.size, 1, none⟩) (lt_of_heap X_p.out)).trans (cellAt X_p.out 1 rfl)
  have c_p_2 := cellAt X_p.out 2 rfl
  have d_p_2 : ∀ o, (w2.alloc o).cell? ⟨w.heap.size, 2, none⟩ = some (.int .i64 y2) := fun o => (((Below.refl w2.heap.size w2).alloc (Nat.le_refl _) o).cell (p := ⟨w.heap.size, 2, none⟩) (lt_of_heap X_p.out)).trans (cellAt X_p.out 2 rfl)
  go_wp2_with fail
  refine (HTOK.out _).mono ?_
  rintro e w3 ⟨rfl, hb3⟩
  have T3 := Lib.hid hb3
  replace R_a := Lib.hid (R_a.out.stay T3.out)
  replace R_k := Lib.hid (R_k.out.stay T3.out)
  replace X_p := Lib.hid ((T3.out.block _ (lt_of_heap X_p.out)).trans X_p.out)
  clear c_p_0 d_p_0 c_p_1 d_p_1 c_p_2 d_p_2
  have HB3 := Lib.hid (HB2.out.trans (T3.out.mono s2))
  have s3 := HB3.out.size
  clear hb3
  clear X_p
  go_wp2_with fail
  have hb4 : Below w3.heap.size w3 (w3.alloc (.cells #[.int .i64 tc, .int .i64 tr, .int .i64 tu] 28)) := (Below.refl _ _).alloc (Nat.le_refl _) _
  have hx4 : (w3.alloc (.cells #[.int .i64 tc, .int .i64 tr, .int .i64 tu] 28)).heap[w3.heap.size]? = some (.cells #[.int .i64 tc, .int .i64 tr, .int .i64 tu] 28 (0, 0)) := heapNew w3 _
  generalize hW4 : w3.alloc (.cells #[.int .i64 tc, .int .i64 tr, .int .i64 tu] 28) = w4 at hb4 hx4 ⊢
  clear hW4
  have T4 := Lib.hid hb4
  replace R_a := Lib.hid (R_a.out.stay T4.out)
  replace R_k := Lib.hid (R_k.out.stay T4.out)
  have HB4 := Lib.hid (HB3.out.trans (T4.out.mono s3))
  have s4 := HB4.out.size
  have X_t := Lib.hid hx4
  clear hb4 hx4
  refine (HGR.out _ _ R_k.out (HK.out.stay HB4.out)).mono ?_
  rintro e w5 ⟨vb, rfl, hob, hb5⟩
  have T5 := Lib.hid hb5
  replace R_a := Lib.hid (R_a.out.stay T5.out)
  replace R_k := Lib.hid (R_k.out.stay T5.out)
  replace X_t := Lib.hid ((T5.out.block _ (lt_of_heap X_t.out)).trans X_t.out)
  have HB5 := Lib.hid (HB4.out.trans (T5.out.mono s4))
  have s5 := HB5.out.size
  have R_b := Lib.hid hob.rd
  clear hb5 hob
  obtain ⟨bb, bo, bc, hvb, hbc, _⟩ := R_b.out.shapeN 22 HBL.out (by decide)
  subst hvb
  have hpre := R_b.out.pre 6 (by rw [HBL.out]; decide)
  rw [← HDE.out] at hpre
  have HPRE := Lib.hid hpre
  clear hpre
  go_wp2_with fail
  refine (HMAC.out _ _ _ R_k.out HPRE.out (HK.out.stay HB5.out)).mono ?_
  rintro e w6 ⟨vm, rfl, hom, hb6⟩
  have T6 := Lib.hid hb6
  replace R_a := Lib.hid (R_a.out.stay T6.out)
  replace R_k := Lib.hid (R_k.out.stay T6.out)
  replace R_b := Lib.hid (R_b.out.stay T6.out)
  replace X_t := Lib.hid ((T6.out.block _ (lt_of_heap X_t.out)).trans X_t.out)
  have HB6 := Lib.hid (HB5.out.trans (T6.out.mono s5))
  have s6 := HB6.out.size
  have R_m := Lib.hid hom.rd
  clear hb6 hom
  obtain ⟨mb, mo, mc, hvm, hmc, _⟩ := R_m.out.shapeN 32 HML.out (by decide)
  subst hvm
  have hp1 : ∀ n, Rd (w6.drewN n) (.slice (some ⟨bb, bo + 6, none⟩) 16 (bc - 6)) (B.drop 6) := fun n => R_b.out.tail 6 16 (by decide) rfl
  have hp2 : ∀ n, Rd (w6.drewN n) (.slice (some ⟨mb, mo, none⟩) 16 mc) (M.take 16) := fun n => R_m.out.pre 16 (by rw [HML.out]; decide)
  have HP1 := Lib.hid hp1
  have HP2 := Lib.hid hp2
  clear hp1 hp2
  have hbc6 : bc ≠ 6 := by omega
  obtain ⟨b0, b1, b2, b3, b4, b5, hb0, hb1, hb2, hb3, hb4, hb5⟩ : ∃ b0 b1 b2 b3 b4 b5, B.getD 0 0 = b0 ∧ B.getD 1 0 = b1 ∧ B.getD 2 0 = b2 ∧ B.getD 3 0 = b3 ∧ B.getD 4 0 = b4 ∧ B.getD 5 0 = b5 := ⟨_, _, _, _, _, _, rfl, rfl, rfl, rfl, rfl, rfl⟩
  have hcell : ∀ i, i < 22 → w6.cell? ⟨bb, bo + i, none⟩ = some (.int .u8 (B.getD i 0).toNat) := fun i hi => by
    obtain ⟨a', c', e, _, _, _, h⟩ := R_b.out
    obtain ⟨b', off, e4, h2⟩ := h (by intro h; have := HBL.out; rw [h] at this; cases this)
    injection e with e1 e2 e3
    subst e1
    injection e4 with e4
    injection e4 with e5 e6
    subst e5 e6
    exact h2 i (by rw [HBL.out]; exact hi)
  have q0 : w6.cell? ⟨bb, bo, none⟩ = some (.int .u8 b0.toNat) := by rw [← hb0]; exact hcell 0 (by decide)
  have q1 : w6.cell? ⟨bb, bo + 1, none⟩ = some (.int .u8 b1.toNat) := by rw [← hb1]; exact hcell 1 (by decide)
  have q2 : w6.cell? ⟨bb, bo + 2, none⟩ = some (.int .u8 b2.toNat) := by rw [← hb2]; exact hcell 2 (by decide)
  have q3 : w6.cell? ⟨bb, bo + 3, none⟩ = some (.int .u8 b3.toNat) := by rw [← hb3]; exact hcell 3 (by decide)
  have q4 : w6.cell? ⟨bb, bo + 4, none⟩ = some (.int .u8 b4.toNat) := by rw [← hb4]; exact hcell 4 (by decide)
  have q5 : w6.cell? ⟨bb, bo + 5, none⟩ = some (.int .u8 b5.toNat) := by rw [← hb5]; exact hcell 5 (by decide)
  have hr := HRAW.out
  unfold rawTok at hr
  rw [hb0, hb1, hb2, hb3, hb4, hb5] at hr
  injection hr with hr0 hr1 hr2
  have g0 : ((b0.toNat : Int) == tc) = true := by rw [hr0]; simp
  have g1 : ((b1.toNat : Int) == tr) = true := by rw [hr1]; simp
  have g2 : (bits .or .i64 (bits .or .i64 (bits .or .i64 (wrap64 (wrap64 (b2.toNat : Int) * 16777216)) (wrap64 (wrap64 (b3.toNat : Int) * 65536))) (wrap64 (wrap64 (b4.toNat : Int) * 256))) (wrap64 (b5.toNat : Int)) == tu) = true := by rw [four64, hr2]; simp
  have g3 : (bits .or .i64 (bits .or .i64 (bits .or .i64 (IntKind.i64.wrap (IntKind.i64.wrap (b2.toNat : Int) * 16777216)) (IntKind.i64.wrap (IntKind.i64.wrap (b3.toNat : Int) * 65536))) (IntKind.i64.wrap (IntKind.i64.wrap (b4.toNat : Int) * 256))) (IntKind.i64.wrap (b5.toNat : Int)) == tu) = true := by rw [wr8, wr8, wr8, wr8, four64w, hr2]; simp
  have g4 := wr8 b0
  have g5 := wr8 b1
  clear hb0 hb1 hb2 hb3 hb4 hb5 hcell hr0 hr1 hr2
  have c_t_0 := cellAt X_t.out 0 rfl
  have d_t_0 : ∀ o, (w6.alloc o).cell? ⟨w3.heap.size, 0, none⟩ = some (.int .i64 tc) := fun o => (((Below.refl w6.heap.size w6).alloc (Nat.le_refl _) o).cell (p := ⟨w3.heap.size, 0, none⟩) (lt_of_heap X_t.out)).trans (cellAt X_t.out 0 rfl)
  have c_t_1 := cellAt X_t.out 1 rfl
  have d_t_1 : ∀ o, (w6.alloc o).cell? ⟨w3.heap.size, 1, none⟩ = some (.int .i64 tr) := fun o => (((Below.refl w6.heap.size w6).alloc (Nat.le_refl _) o).cell (p := ⟨w3.heap.size, 1, none⟩) (lt_of_heap X_t.out)).trans (cellAt X_t.out 1 rfl)
  have c_t_2 := cellAt X_t.out 2 rfl
  have d_t_2 : ∀ o, (w6.alloc o).cell? ⟨w3.heap.size, 2, none⟩ = some (.int .i64 tu) := fun o => (((Below.refl w6.heap.size w6).alloc (Nat.le_refl _) o).cell (p := ⟨w3.heap.size, 2, none⟩) (lt_of_heap X_t.out)).trans (cellAt X_t.out 2 rfl)
  go_wp2_with fail
  go_quiet ((go_at_call 26; exact Calls.quiet_of_same (same_trueR _ _ _ _ _ (HP1.out _) (HP2.out _) HPM.out)))
  go_wp2
  go_ret
  exact ⟨rfl, below_drewN HB6.out nq⟩

end Go.Proofs.YtdjnbnbhpjiicaaDoor
