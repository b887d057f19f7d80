/-
  The walk of poly's whole.
-/
import Derived.Test.YtoekopdogfnkhaaPolT
set_option linter.unusedVariables false
set_option linter.unusedSimpArgs false
namespace Go.Con.Pol
def wstep (s : List Nat) (k : Nat) : List Nat :=
  let s1 := s.set (k + 1) (at0 s (k + 1) + at0 s k / 67108864)
  s1.set k (at0 s1 k % 67108864)
def wk (s : List Nat) : Nat → List Nat
  | 0 => s
  | k + 1 => wstep (wk s k) k
theorem wk_length (s : List Nat) (k : Nat) : (wk s k).length = s.length := by
  induction k with
  | zero => rfl
  | succ k ih => rw [wk, wstep]; simp [ih]
theorem wk_bound (s : List Nat) (hs : s.length = 5) (h : ∀ j, at0 s j ≤ 67111000) : ∀ k, k ≤ 4 → ∀ j, at0 (wk s k) j ≤ 67111000 + 2 * k
  | 0, _ => by simpa [wk] using h
  | k + 1, hk => by
    have ih := wk_bound s hs h k (by omega)
    intro j
    have h1 := ih k
    have h2 := ih (k + 1)
    have h3 := ih j
    have hl : (wk s k).length = 5 := by rw [wk_length]; exact hs
    rw [wk, wstep]
    rw [at_set _ _ _ _ (by rw [List.length_set]; omega), at_set _ _ _ _ (by omega), at_set _ _ _ _ (by omega)]
    have e : ¬ (k + 1 = k) := by omega
    simp only [e, if_false]
    split
    · omega
    · split <;> omega
theorem whole_list (x : L5) : (if at0 (wk ((limbs5 (carry x)).set 0 (at0 (limbs5 (carry x)) 0 + 5)) 4) 4 / 67108864 = 0 then limbs5 (carry x) else (wk ((limbs5 (carry x)).set 0 (at0 (limbs5 (carry x)) 0 + 5)) 4).set 4 (at0 (wk ((limbs5 (carry x)).set 0 (at0 (limbs5 (carry x)) 0 + 5)) 4) 4 % 67108864)) = limbs5 (whole x) := by
  unfold whole
  generalize carry x = z
  obtain ⟨a, b, c, d, e⟩ := z
  dsimp only
  have e4 : at0 (wk ((limbs5 ⟨a, b, c, d, e⟩).set 0 (at0 (limbs5 ⟨a, b, c, d, e⟩) 0 + 5)) 4) 4 = e + (d + (c + (b + (a + 5) / 67108864) / 67108864) / 67108864) / 67108864 := rfl
  rw [e4]
  by_cases h : (e + (d + (c + (b + (a + 5) / 67108864) / 67108864) / 67108864) / 67108864) / 67108864 = 0
  · rw [if_pos h, if_pos h]
  · rw [if_neg h, if_neg h]; rfl
theorem low_bound {x : L5} (h : Low x) : ∀ j, at0 (limbs5 x) j ≤ 67110912 := by
  obtain ⟨h0, h1, h2, h3, h4⟩ := h
  intro j
  match j with
  | 0 => show x.a0 ≤ _; omega
  | 1 => show x.a1 ≤ _; omega
  | 2 => show x.a2 ≤ _; omega
  | 3 => show x.a3 ≤ _; omega
  | 4 => show x.a4 ≤ _; omega
  | j + 5 => simp [at0, limbs5]
end Go.Con.Pol
namespace Go.Proofs.Ytoekopdogfnkhaa
open Go.RowKit Go.Con
theorem bigStored (w1 w2 : World) (Z : List Nat) (hl : Z.length = 5) (h : (w1.alloc (.cells #[.int .u64 0, .int .u64 0, .int .u64 0, .int .u64 0, .int .u64 0] 69)).setCells w1.heap.size 0 (Z.map u64v).toArray.toList = w2) :
    Big w2 w1.heap.size 69 Z ∧ Below w1.heap.size w1 w2 := by
  subst h
  exact ⟨storeBig (heapNew w1 _) (by rw [hl]; rfl), below_setCells (Nat.le_refl _) _ _ _ ((Below.refl _ _).alloc (Nat.le_refl _) _)⟩
set_option maxRecDepth 100000 in
set_option maxHeartbeats 2000000 in
theorem whole_any (x : Pol.L5) (w : World) (hx : ∀ j, Pol.at0 (limbs5 x) j ≤ 1152921504606846976) (hlow : Pol.Low (Pol.carry x)) :
    Calls Try.prog 39 #[.agg #[.int .u64 x.a0, .int .u64 x.a1, .int .u64 x.a2, .int .u64 x.a3, .int .u64 x.a4]] w
      fun e w' => e = .returned (.agg ((limbs5 (Pol.whole x)).map u64v).toArray) ∧ Below w.heap.size w w' := by
  obtain ⟨Z, hZ⟩ : ∃ Z, Z = limbs5 (Pol.carry x) := ⟨_, rfl⟩
  have hZl : Z.length = 5 := by rw [hZ]; rfl
  have hcl : Pol.fin (Pol.ck (limbs5 x) 5) = Z := by rw [hZ]; exact Pol.carry_list x
  have hZb : ∀ j, Pol.at0 Z j ≤ 67110912 := by rw [hZ]; exact Pol.low_bound hlow
  have hwl := Pol.whole_list x
  rw [← hZ] at hwl
  obtain ⟨z0, hz0⟩ : ∃ z, z = Pol.at0 Z 0 := ⟨_, rfl⟩
  have hz0b : z0 ≤ 67110912 := by rw [hz0]; exact hZb 0
  rw [← hz0] at hwl
  obtain ⟨Y, hY⟩ : ∃ Y, Y = Z.set 0 (z0 + 5) := ⟨_, rfl⟩
  rw [← hY] at hwl
  have hYl : Y.length = 5 := by rw [hY, List.length_set]; exact hZl
  have hYb := Pol.wk_bound Y hYl (fun j => by
    rw [hY, Pol.at_set _ _ _ _ (by omega)]
    have := hZb j
    split <;> omega)
  obtain ⟨R, hR⟩ : ∃ R, R = limbs5 (Pol.whole x) := ⟨_, rfl⟩
  rw [← hR] at hwl ⊢
  have HX0 := Lib.hid hx
  have HCL := Lib.hid hcl
  have HZL := Lib.hid hZl
  have HWL := Lib.hid hwl
  have HYE := Lib.hid hY
  have HYL := Lib.hid hYl
  have HYB := Lib.hid hYb
  have HZ0 := Lib.hid hz0
  obtain ⟨xs, hxs⟩ : ∃ xs, xs = limbs5 x := ⟨_, rfl⟩
  rw [← hxs] at HX0 HCL
  have hxb : ∀ w : World, Big (w.alloc (.cells #[.int .u64 x.a0, .int .u64 x.a1, .int .u64 x.a2, .int .u64 x.a3, .int .u64 x.a4] 69)) w.heap.size 69 xs := fun w => by rw [hxs]; exact heapNew w _
  have hxl : xs.length = 5 := by rw [hxs]; rfl
  have HXB := Lib.hid hxb
  have HXL := Lib.hid hxl
  clear hx hlow hZ hZl hcl hZb hwl hz0 hY hYl hYb hR hxs hxb hxl
  obtain ⟨x0, x1, x2, x3, x4⟩ := x
  dsimp only at HXB ⊢
  go_enter Try.func39, Try.ntmps39
  go_wp2_with fail
  have hb0 : Big ((w.alloc (.cells #[.int .u64 x0, .int .u64 x1, .int .u64 x2, .int .u64 x3, .int .u64 x4] 69)).alloc (.cells #[.int .u64 0, .int .u64 0, .int .u64 0, .int .u64 0, .int .u64 0] 69)) w.heap.size 69 xs := (heapOld _ _ _ (by simp)).trans (HXB.out w)
  refine (carry_any _ _ xs _ HXL.out HX0.out hb0).mono ?_
  rintro e w1 ⟨rfl, hw1, hk1⟩
  rw [HCL.out] at hw1
  have hr1 : Room w1 (w.heap.size + 1) 5 69 := Room.keep ⟨_, heapNew1 w _ _, rfl⟩ hk1 (by simp) (by omega)
  have hB1 : Below w.heap.size w w1 := (((Below.refl _ _).alloc (Nat.le_refl _) _).alloc (by simp) _).trans ((hk1.mono (B' := w.heap.size) (S' := fun _ => False) (by simp; omega) (fun k hk e => by omega)).below (fun _ _ h => h))
  have s1 : w.heap.size + 2 ≤ w1.heap.size := by have h := hk1.size; simp at h; omega
  have Z1 := Lib.hid hw1
  have R1 := Lib.hid hr1
  have B1 := Lib.hid hB1
  have hrg := range_of hw1
  have hst := fun (W W2 : World) (hW : (W.alloc (.cells #[.int .u64 0, .int .u64 0, .int .u64 0, .int .u64 0, .int .u64 0] 69)).setCells W.heap.size 0 (Z.map u64v).toArray.toList = W2) => bigStored W W2 Z HZL.out hW
  have HST := Lib.hid hst
  have hth : ∀ W : World, (W.alloc (.cells #[.int .u64 0, .int .u64 0, .int .u64 0, .int .u64 0, .int .u64 0] 69)).there W.heap.size 0 5 := fun W => there_of (heapNew W _) rfl
  have HTH := Lib.hid hth
  have hsz : (Z.map u64v).toArray.size = 5 := by simp [HZL.out]
  have SZ := Lib.hid hsz
  clear hw1 hk1 hr1 hB1 hb0 hst hth hsz
  go_wp2_with (first
    | (refine wpList_load_mid rfl 69 (.tmp 1) rfl w.heap.size 0 rfl (Z.map u64v) _ hrg Try.underlying69 rfl (by rw [List.length_map, HZL.out]; kernel_rfl) ?_)
    | (refine wpList_store_mid rfl 69 (.tmp 3) (.tmp 6) rfl w1.heap.size 0 (Z.map u64v).toArray rfl rfl (by rw [SZ.out]; exact HTH.out _) (by rw [SZ.out]; kernel_rfl) (all_oneCell_toArray (by intro v hv; obtain ⟨x, _, rfl⟩ := List.mem_map.1 hv; rfl)) ?_; generalize hW2 : World.setCells _ _ _ _ = w2; have P2 := Lib.hid (HST.out w1 w2 hW2); have c0 : w2.cell? ⟨w1.heap.size, 0, none⟩ = some (.int .u64 z0) := (by rw [HZ0.out]; exact P2.out.1.cell 0 (by rw [HZL.out]; decide)); have f0 := freeAt P2.out.1 0; clear hW2))
  have hy2 : Big (w2.setCell ⟨w1.heap.size, 0, none⟩ (.int .u64 ((z0 : Int) + 5))) w1.heap.size 69 Y := by
    rw [HYE.out, show ((z0 : Int) + 5) = ((z0 + 5 : Nat) : Int) by omega]
    exact P2.out.1.set 0 _
  have hz2 : Big (w2.setCell ⟨w1.heap.size, 0, none⟩ (.int .u64 ((z0 : Int) + 5))) w.heap.size 69 Z := ((Z1.out.stay P2.out.2).other _ _ _ (by omega))
  have hr2 : Room (w2.setCell ⟨w1.heap.size, 0, none⟩ (.int .u64 ((z0 : Int) + 5))) (w.heap.size + 1) 5 69 := by
    obtain ⟨cur, h1, h2⟩ := R1.out
    exact ⟨cur, (heapSet_ne _ _ (by omega)).trans ((P2.out.2.block _ (by omega)).trans h1), h2⟩
  have hb2 : Below w.heap.size w (w2.setCell ⟨w1.heap.size, 0, none⟩ (.int .u64 ((z0 : Int) + 5))) := (B1.out.trans (P2.out.2.mono (by omega))).setCell (by show w.heap.size ≤ w1.heap.size; omega) _
  obtain ⟨b, hbe⟩ : ∃ b, b = w1.heap.size := ⟨_, rfl⟩
  have hbl : w.heap.size + 1 < b := by omega
  rw [← hbe] at hy2 hz2 hr2 hb2 ⊢
  generalize hW3 : w2.setCell ⟨b, 0, none⟩ (.int .u64 ((z0 : Int) + 5)) = w3 at hy2 hz2 hr2 hb2 ⊢
  have Y3 := Lib.hid hy2
  have Z3 := Lib.hid hz2
  have R3 := Lib.hid hr2
  have B3 := Lib.hid hb2
  clear hy2 hz2 hr2 hb2 hW3 hbe c0 f0 hrg
  go_loopw [11] (fun i wr => ∃ k : Nat, k ≤ 4 ∧ i = .int .i64 k ∧ Big wr b 69 (Pol.wk Y k) ∧ Big wr w.heap.size 69 Z ∧ Room wr (w.heap.size + 1) 5 69 ∧ Below w.heap.size w wr) (fun i _ => 4 - (intOf i).toNat)
  case atStart => exact ⟨0, by omega, rfl, Y3.out, Z3.out, R3.out, B3.out⟩
  case round =>
    obtain ⟨k, hk, rfl, hy, hz, hr, hb⟩ := hrel
    have HYw := Lib.hid hy
    have HZw := Lib.hid hz
    have HRw := Lib.hid hr
    have HBw := Lib.hid hb
    obtain ⟨q, hq⟩ : ∃ q, q = Pol.wk Y k := ⟨_, rfl⟩
    have hql : q.length = 5 := by rw [hq, Pol.wk_length]; exact HYL.out
    have hqb : ∀ j, Pol.at0 q j ≤ 67111008 := fun j => by have := HYB.out k hk j; rw [hq]; omega
    have hqs : Pol.wk Y (k + 1) = Pol.wstep q k := by rw [hq]; rfl
    rw [← hq] at HYw
    have HQL := Lib.hid hql
    have HQS := Lib.hid hqs
    by_cases hlt : k < 4
    · obtain ⟨x, hx⟩ : ∃ x, x = Pol.at0 q k := ⟨_, rfl⟩
      obtain ⟨y, hye⟩ : ∃ y, y = Pol.at0 q (k + 1) := ⟨_, rfl⟩
      have hxb : x ≤ 67111008 := by rw [hx]; exact hqb k
      have hyb : y ≤ 67111008 := by rw [hye]; exact hqb (k + 1)
      have c1 := HYw.out.cell k (by omega)
      have c2 := HYw.out.cell (k + 1) (by omega)
      have f2 := freeAt HYw.out (k + 1)
      rw [show q.getD k 0 = x from hx.symm] at c1
      rw [show q.getD (k + 1) 0 = y from hye.symm] at c2
      have t2 : ∀ nq, Big ((wr.drewN nq).setCell ⟨b, k + 1, none⟩ (.int .u64 ((y : Int) + (x : Int) / 67108864))) b 69 (q.set (k + 1) (y + x / 67108864)) := fun nq => by
        rw [show ((y : Int) + (x : Int) / 67108864) = ((y + x / 67108864 : Nat) : Int) by omega]
        exact Big.set (w := wr.drewN nq) HYw.out (k + 1) _
      have T2 := Lib.hid t2
      have c3 : ∀ nq, ((wr.drewN nq).setCell ⟨b, k + 1, none⟩ (.int .u64 ((y : Int) + (x : Int) / 67108864))).cell? ⟨b, k, none⟩ = some (.int .u64 x) := fun nq => by
        rw [(t2 nq).cell k (by rw [List.length_set]; omega)]
        rw [hx]; simp [Pol.at0, List.getElem?_set, show ¬ (k + 1 = k) by omega]
      have f3 : ∀ nq, ((wr.drewN nq).setCell ⟨b, k + 1, none⟩ (.int .u64 ((y : Int) + (x : Int) / 67108864))).frozen? ⟨b, k, none⟩ = false := fun nq => freeAt (t2 nq) k
      have HX := Lib.hid hx
      have HYe := Lib.hid hye
      clear hy hz hr hb hq hql hqb hqs hx hye t2
      go_wp2
      refine region_quiet_tail 10 (by kernel_rfl) (by kernel_rfl) ?_
      simp only [List.take_succ_cons, List.take_zero, List.drop_succ_cons, List.drop_zero]
      repeat (go_big_quiet_step (fail))
      refine wpQuiet_nil ?_
      intro w9 hw9
      obtain ⟨nq, rfl⟩ := hw9
      go_wp2
      go_roundw
      case rel =>
        refine ⟨k + 1, by omega, by go_num, ?_, (Big.other (w := wr.drewN nq) HZw.out _ _ _ (by omega)).other _ _ _ (by omega), (HRw.out.drewN nq).set.set, ((below_drewN HBw.out nq).setCell (by show w.heap.size ≤ b; omega) _).setCell (by show w.heap.size ≤ b; omega) _⟩
        rw [HQS.out]
        unfold Pol.wstep
        dsimp only
        rw [low26 x (by omega), ← HX.out, ← HYe.out, Pol.at_set q (k + 1) k _ (by have := HQL.out; omega), if_neg (by omega), ← HX.out]
        exact (T2.out nq).set k _
      case measure => simp [intOf]; omega
    · have hk4 : k = 4 := by omega
      rw [hk4] at hq hqs
      obtain ⟨y4, hy4⟩ : ∃ y, y = Pol.at0 q 4 := ⟨_, rfl⟩
      have hyb : y4 ≤ 67111008 := by rw [hy4]; exact hqb 4
      have c1 := HYw.out.cell 4 (by omega)
      have f1 := freeAt HYw.out 4
      rw [show q.getD 4 0 = y4 from hy4.symm] at c1
      have hwl := HWL.out
      rw [← hq, ← hy4] at hwl
      have hthr : wr.there (w.heap.size + 1) 0 5 := by
        obtain ⟨cur, h1, h2⟩ := hr
        exact there_of h1 h2
      have HTHR := Lib.hid hthr
      by_cases h0 : y4 / 67108864 = 0
      · rw [if_pos h0] at hwl
        have hRl : Z = R := hwl
        have h0b : ((y4 : Int) / 67108864 == 0) = true := by rw [beq_iff_eq]; omega
        have hrz := range_of hz
        have HRE := Lib.hid hRl
        clear hy hz hr hb hq hql hqb hqs hy4 hwl hthr h0 hk4 hRl
        go_wp2_with (first
          | (refine wpList_load_mid rfl 69 (.tmp 1) rfl w.heap.size 0 rfl (Z.map u64v) _ hrz Try.underlying69 rfl (by rw [List.length_map, HZL.out]; kernel_rfl) ?_)
          | (refine wpList_store_mid rfl 69 (.tmp 2) (.tmp 34) rfl (w.heap.size + 1) 0 (Z.map u64v).toArray rfl rfl (by rw [SZ.out]; exact HTHR.out) (by rw [SZ.out]; kernel_rfl) (all_oneCell_toArray (by intro v hv; obtain ⟨x, _, rfl⟩ := List.mem_map.1 hv; rfl)) ?_))
        generalize hW9 : World.setCells _ _ _ _ = w9
        have hb9 : Below w.heap.size w w9 := by rw [← hW9]; exact below_setCells (by omega) _ _ _ HBw.out
        have hf9 : Big w9 (w.heap.size + 1) 69 Z := by
          obtain ⟨cur, h1, h2⟩ := HRw.out
          rw [← hW9]
          exact storeBig h1 (by rw [h2, HZL.out])
        have hl9 := run_loadVar_mid (P := Try.prog) w9 (w.heap.size + 1) 0 69 (Z.map u64v) _ (range_of hf9) Try.underlying69 rfl (by rw [List.length_map, HZL.out]; kernel_rfl)
        exact bodyPost_ret (v := .agg (Z.map u64v).toArray) (results_c Try.results39 rfl hl9) rfl ⟨by rw [HRE.out], hb9⟩
      · rw [if_neg h0] at hwl
        have h0b : ((y4 : Int) / 67108864 == 0) = false := by rw [beq_eq_false_iff_ne]; omega
        have hRl : R.length = 5 := by rw [← hwl, List.length_set]; exact hql
        have HRE := Lib.hid hwl
        have HRL := Lib.hid hRl
        have hbig : Big (wr.setCell ⟨b, 4, none⟩ (.int .u64 (bits .and .u64 (y4 : Int) 67108863))) b 69 R := by
          rw [low26 y4 (by omega), ← hwl]
          exact HYw.out.set 4 _
        have HBIG := Lib.hid hbig
        have hrz := range_of hbig
        have hthr2 : (wr.setCell ⟨b, 4, none⟩ (.int .u64 (bits .and .u64 (y4 : Int) 67108863))).there (w.heap.size + 1) 0 5 := by
          obtain ⟨cur, h1, h2⟩ := hr
          exact there_of ((heapSet_ne _ _ (by omega)).trans h1) h2
        have HTHR2 := Lib.hid hthr2
        have hsz : (R.map u64v).toArray.size = 5 := by simp [hRl]
        have SZR := Lib.hid hsz
        clear hy hz hr hb hq hql hqb hqs hy4 hwl hthr hthr2 h0 hk4 hRl hbig hsz
        go_wp2_with (first
          | (refine wpList_load_mid rfl 69 (.tmp 3) rfl b 0 rfl (R.map u64v) _ hrz Try.underlying69 rfl (by rw [List.length_map, HRL.out]; kernel_rfl) ?_)
          | (refine wpList_store_mid rfl 69 (.tmp 2) (.tmp 39) rfl (w.heap.size + 1) 0 (R.map u64v).toArray rfl rfl (by rw [SZR.out]; exact HTHR2.out) (by rw [SZR.out]; kernel_rfl) (all_oneCell_toArray (by intro v hv; obtain ⟨x, _, rfl⟩ := List.mem_map.1 hv; rfl)) ?_))
        generalize hW9 : World.setCells _ _ _ _ = w9
        have hb9 : Below w.heap.size w w9 := by rw [← hW9]; exact below_setCells (by omega) _ _ _ (HBw.out.setCell (by show w.heap.size ≤ b; omega) _)
        have hf9 : Big w9 (w.heap.size + 1) 69 R := by
          obtain ⟨cur, h1, h2⟩ := HRw.out
          rw [← hW9]
          exact storeBig ((heapSet_ne _ _ (by omega)).trans h1) (by rw [h2, HRL.out])
        have hl9 := run_loadVar_mid (P := Try.prog) w9 (w.heap.size + 1) 0 69 (R.map u64v) _ (range_of hf9) Try.underlying69 rfl (by rw [List.length_map, HRL.out]; kernel_rfl)
        exact bodyPost_ret (v := .agg (R.map u64v).toArray) (results_c Try.results39 rfl hl9) rfl ⟨rfl, hb9⟩
end Go.Proofs.Ytoekopdogfnkhaa
