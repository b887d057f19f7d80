/-
  The walk of conclavekeep.StableTorn: of a torn tape just the whole records count.
-/
import Derived.Test.YtdkbajdnckmckaaDoorMg12
set_option linter.unusedVariables false
set_option linter.unusedSimpArgs false
namespace Go.Proofs.YtdkbajdnckmckaaDoor
open Go.RowKit Go.Con
set_option maxRecDepth 100000 in
set_option maxHeartbeats 4000000 in
theorem walk_StableTorn (v : Value) (l : List Cmd) (u1 : Value) (cut : Int) (w : World) (hv : RdWishes w v l) (hu1 : IsInt u1 cut) (hk : Kn w) :
    Calls Tryd.prog 5 #[v, u1] w fun e w' => e = .returned (.bool true) ∧ Below w.heap.size w w' := by
  obtain ⟨rfl, hcu1, hcu2⟩ := hu1
  have hv0 := hv
  obtain ⟨ea, ec, rfl, hle, hcm, -, -⟩ := hv
  have HTAP := Lib.hid (taped_any _ l w hv0 hk)
  obtain ⟨n, hn⟩ : ∃ n, n = l.length := ⟨_, rfl⟩
  rw [← hn] at HTAP hle ⊢
  have HK := Lib.hid hk
  clear hv0 hk hn hcm
  go_enter Tryd.func5, Tryd.ntmps5
  go_upto_region 2 with (go_at_call 13; refine HTAP.out.mono ?_; rintro e w1 ⟨D, al, tv, av, rfl, ht, hb⟩; obtain ⟨ta, tc, rfl, _, _⟩ := ht.tv.rd.slice; obtain ⟨nd, hnd⟩ : ∃ k, k = D.length := ⟨_, rfl⟩; rw [← hnd] at ht ⊢; have HND := Lib.hid hnd; have HT := Lib.hid ht; have HB := Lib.hid hb; clear ht hb hnd)
  have hb2 : Below w.heap.size w (w1.alloc (.cells #[.slice ta nd tc, .int .i64 0] 27)) := bel_alloc HB.out
  have hx2 : (w1.alloc (.cells #[.slice ta nd tc, .int .i64 0] 27)).heap[w1.heap.size]? = some (.cells #[.slice ta nd tc, .int .i64 0] 27 (0, 0)) := heapNew _ _
  have B12 : Below w1.heap.size w1 (w1.alloc (.cells #[.slice ta nd tc, .int .i64 0] 27)) := bel_alloc (Below.refl _ _)
  have hal := HT.out.all.stay B12
  have htv := HT.out.tv.rd.stay B12
  obtain ⟨x, L, hxl, hal0, htap, hmap, -, -, -⟩ := HT.out.last
  have hne : al ≠ [] := fun h => by rw [h] at hal0; cases hal0
  obtain ⟨b0, off0, ac, hav', hac1, hac2, hbl, hcells⟩ := RdA_cells hal.own.row hne
  subst hav'
  obtain ⟨tb, htb⟩ : ∃ b, b = w1.heap.size := ⟨_, rfl⟩
  rw [← htb] at hx2 ⊢
  generalize hW : World.alloc _ _ = w2 at hb2 hx2 B12 hal htv hcells hbl ⊢
  have hndl : nd ≤ 760 := by have h1 := HT.out.len; have h2 := HND.out; have : min n 20 ≤ 20 := Nat.min_le_right _ _; omega
  have hpos : n = 0 ∨ 0 < nd := by have h1 := HT.out.pos0; have h2 := HND.out; omega
  obtain ⟨kk, hkk⟩ : ∃ kk : Nat, pick cut ((nd : Int) + 1) = (kk : Int) := ⟨(pick cut ((nd : Int) + 1)).toNat, by have := pick_nonneg cut ((nd : Int) + 1) (by omega); omega⟩
  have hkl : kk ≤ nd := by have := pick_lt cut ((nd : Int) + 1) (by omega); omega
  have HKK := Lib.hid hkk
  have HRD := Lib.hid (htv.pre3 kk (by rw [← HND.out]; exact hkl))
  obtain ⟨htc1, htc2⟩ := htv.capN nd HND.out.symm
  have htc3 : tc ≤ 9223372036854775807 := htc2
  -- what is recovered
  obtain ⟨R, hR⟩ : ∃ R, R = rcvAll Apr.zero (D.take kk) := ⟨_, rfl⟩
  have hRin : R.1 ∈ al.map (·.a) := by rw [hmap, hR]; exact htap.torn kk (by rw [← HND.out]; exact hkl)
  obtain ⟨rn, hrn⟩ : ∃ k, k = R.2 := ⟨_, rfl⟩
  have hrk : rn ≤ kk := by rw [hrn, hR]; refine Nat.le_trans (rcvAll_le _ _ _ (Nat.le_refl _)) ?_; simp; omega
  have hrf : kk = nd → rn = nd := by
    intro h
    rw [hrn, hR, h, HND.out, List.take_length, htap.full]
  have HREC := Lib.hid (fun w h hk => recover_any (.slice ta kk kk) (D.take kk) 0 w h (by decide) (Int.natCast_nonneg _) (by rw [List.length_take]; omega) hk)
  unfold RecPost at HREC
  rw [← hR, ← hrn] at HREC
  obtain ⟨ra, hra⟩ : ∃ a, a = R.1 := ⟨_, rfl⟩
  rw [← hra] at HREC hRin
  obtain ⟨⟨p1, p2⟩, RL⟩ := ra
  have RIN := Lib.hid hRin
  obtain ⟨na, hna⟩ : ∃ na, na = al.length := ⟨_, rfl⟩
  rw [← hna] at hac1 ⊢
  have HNA := Lib.hid hna
  have HCELLS := Lib.hid hcells
  have HAL := Lib.hid hal
  have HX2 := Lib.hid hx2
  have HB2 := Lib.hid hb2
  have HK2 := Lib.hid (HK.out.stay hb2)
  have hac3 : ac ≤ 9223372036854775807 := hac2
  have c0 := cellAt HX2.out 0 rfl
  have qc1 := cellAt HX2.out 1 rfl
  have hwn : IntKind.i64.wrap ((nd : Int) + 1) = (nd : Int) + 1 := IntWalk.i64_in _ (by omega)
  have hmp : (0 : Int) < (nd : Int) + 1 := by omega
  have HEQ := Lib.hid (show (rn = nd ∧ kk = nd) ∨ (rn < nd ∧ kk < nd) by rcases Nat.lt_or_ge kk nd with h | h; exact .inr ⟨by omega, h⟩; exact .inl ⟨hrf (by omega), by omega⟩)
  clear hW hb2 hx2 B12 hal htv hxl hal0 htap hmap hne hcells htb hkk htc2 hR hRin hrn hrf hra hna hac2 HT HTAP HB
  go_upto_region 3 with (go_at_call 8; refine (picked_toP _ _ _ _ hcu1 hcu2 hmp HKK).mono ?_; rintro e _ ⟨rfl, rfl⟩)
  have hb1 : (0 : Int) ≤ (kk : Int) := by omega
  have hb2 : (kk : Int) ≤ (tc : Int) := by omega
  have hb3 : kk ≤ tc := by omega
  go_upto_region 4 with (go_at_call 14; refine (HREC.out _ HRD.out HK2.out).mono ?_; rintro e w3 ⟨hb3, a1, n1, c1, rfl, ho3⟩; have B3 := Lib.hid hb3; have O3 := Lib.hid ho3; clear hb3 ho3)
  have hb4 : Below w2.heap.size w2 (w3.alloc (.cells #[.int .i64 p1, .int .i64 p2, .slice a1 n1 c1] 45)) := bel_alloc B3.out
  have hx4 : (w3.alloc (.cells #[.int .i64 p1, .int .i64 p2, .slice a1 n1 c1] 45)).heap[w3.heap.size]? = some (.cells #[.int .i64 p1, .int .i64 p2, .slice a1 n1 c1] 45 (0, 0)) := heapNew _ _
  have hv4 : Votes (w3.alloc (.cells #[.int .i64 p1, .int .i64 p2, .slice a1 n1 c1] 45)) (.slice a1 n1 c1) RL := O3.out.votes.stay (bel_alloc (Below.refl _ _))
  obtain ⟨rb, hrb⟩ : ∃ b, b = w3.heap.size := ⟨_, rfl⟩
  rw [← hrb] at hx4 ⊢
  generalize hW : World.alloc _ _ = w4 at hb4 hx4 hv4 ⊢
  have HX4 := Lib.hid hx4
  have HV4 := Lib.hid hv4
  have HB4 := Lib.hid hb4
  clear hW hb4 hx4 hv4 hrb O3 B3 HREC c0 qc1
  go_wp2_with fail
  go_loopw [12, 13] (fun fd i wr => ∃ q : Nat, q ≤ na ∧ i = .int .i64 q ∧ ∃ fb, fd = .bool fb ∧ Hid (Below w4.heap.size w4 wr ∧ ((⟨(p1, p2), RL⟩ : Apr) ∈ (al.take q).map (·.a) → fb = true))) (fun _ i _ => na - (intOf i).toNat)
  case atStart => exact ⟨0, by omega, rfl, false, rfl, Lib.hid ⟨Below.refl _ _, fun h => by simp at h⟩⟩
  case round =>
    obtain ⟨q, hqn, rfl, fb, rfl, HI⟩ := hrel
    have BR := Lib.hid HI.out.1
    have FB := Lib.hid HI.out.2
    clear HI
    by_cases hq : q < na
    · have hd1 : decide ((q : Int) < na) = true := by rw [decide_eq_true_eq]; omega
      have hd1n : decide (q < na) = true := by rw [decide_eq_true_eq]; omega
      have hq1 : (0 : Int) ≤ (q : Int) := by omega
      have hq2 : (q : Int) < (na : Int) := by omega
      cases fb with
      | true =>
        go_upto_region 8 with fail
        refine wp_region_below (by kernel_rfl) (by kernel_rfl) ?_
        repeat (go_big_quiet_step (fail))
        refine wpQuiet_nil ?_
        rintro _ ⟨n9, rfl⟩
        have NEW := Lib.hid (bel_trans BR.out n9.bel)
        go_wp2_with fail
        go_roundw
        case rel => exact ⟨q + 1, by omega, by go_num, true, rfl, Lib.hid ⟨NEW.out, fun _ => rfl⟩⟩
        case measure => simp [intOf]; omega
      | false =>
        have hql : q < al.length := by rw [← HNA.out]; exact hq
        obtain ⟨x, hx⟩ : ∃ x, x = al[q] := ⟨_, rfl⟩
        have hxq : al[q]? = some x := by rw [hx]; exact List.getElem?_eq_getElem hql
        have bwr := bel_trans HB4.out BR.out
        obtain ⟨y0, y1, y2⟩ := HCELLS.out q x hxq
        have hvx : Votes wr (.slice x.ad x.n x.c) x.a.l := (HAL.out.each x (List.mem_of_getElem? hxq)).vs.stay bwr
        have hvr : Votes wr (.slice a1 n1 c1) RL := HV4.out.stay BR.out
        obtain ⟨g0, g1, g2, g3, g4, g5⟩ := sfCells ((BR.out.block _ (lt_of_heap HX4.out)).trans HX4.out) (Nat.lt_of_lt_of_le hbl bwr.size) ((bwr.cell (p := ⟨b0, off0 + q * 3, none⟩) hbl).trans y0) ((bwr.cell (p := ⟨b0, off0 + q * 3 + 1, none⟩) hbl).trans y1) ((bwr.cell (p := ⟨b0, off0 + q * 3 + 2, none⟩) hbl).trans y2)
        obtain ⟨b, hb⟩ : ∃ b, b = decide ((⟨(p1, p2), RL⟩ : Apr) = x.a) := ⟨_, rfl⟩
        have HBB := Lib.hid hb
        have HSAME := Lib.hid (fun W (hW : Below wr.heap.size wr W) => sameAcc_bb x x a1 n1 c1 (p1, p2) RL b W (hvr.stay hW).1 (hvx.stay hW) HBB)
        have FN : Hid ((⟨(p1, p2), RL⟩ : Apr) ∈ (al.take (q + 1)).map (·.a) → b = true) := Lib.hid (fun h => by
          rw [List.take_add_one, hxq, List.map_append, List.mem_append] at h
          rcases h with h | h
          · exact absurd (FB.out h) (by decide)
          · simp at h
            rw [hb, decide_eq_true_eq]; exact h)
        obtain ⟨⟨⟨x1, x2⟩, XL⟩, xa, xn, xc⟩ := x
        dsimp only at HSAME g3 g4 g5
        clear hql hx hxq bwr y0 y1 y2 hvx hvr hb HBB FB
        go_upto_region 8 with fail
        refine wp_region_below (by kernel_rfl) (by kernel_rfl) ?_
        repeat (go_big_quiet_step ((go_at_call 15; exact calls_below (HSAME.out _ (BelW.bel _)))))
        refine wpQuiet_nil ?_
        rintro _ ⟨n9, rfl⟩
        have NEW := Lib.hid (bel_trans BR.out n9.bel)
        go_wp2_with fail
        go_roundw
        case rel => exact ⟨q + 1, by omega, by go_num, b, rfl, Lib.hid ⟨NEW.out, FN.out⟩⟩
        case measure => simp [intOf]; omega
    · have hd1 : decide ((q : Int) < na) = false := by rw [decide_eq_false_iff_not]; omega
      have hd1n : decide (q < na) = false := by rw [decide_eq_false_iff_not]; omega
      have hqe : q = na := by omega
      have hfb : fb = true := FB.out (by rw [hqe, HNA.out, List.take_length]; exact RIN.out)
      subst hfb
      have bwr := bel_trans HB4.out BR.out
      have c0 := cellAt ((bwr.block _ (lt_of_heap HX2.out)).trans HX2.out) 0 rfl
      have hcase : (n = 0) ∨ (((n : Int) == 0) = false ∧ decide ((0 : Int) < (nd : Int)) = true ∧ (n == 0) = false ∧ decide (0 < nd) = true ∧ ¬ n = 0 ∧ ¬ (n : Int) = 0 ∧ decide (n = 0) = false) := by
        by_cases h0 : n = 0
        · exact .inl h0
        · have h := hpos.resolve_left h0
          exact .inr ⟨by rw [beq_eq_false_iff_ne]; omega, by rw [decide_eq_true_eq]; omega, by rw [beq_eq_false_iff_ne]; exact h0, by rw [decide_eq_true_eq]; omega, h0, by omega, by rw [decide_eq_false_iff_not]; exact h0⟩
      have hle1 : decide ((rn : Int) ≤ (kk : Int)) = true := by rw [decide_eq_true_eq]; omega
      have hle2 : decide (rn ≤ kk) = true := by rw [decide_eq_true_eq]; omega
      have WIN := Lib.hid (bel_trans HB2.out bwr)
      clear bwr hpos
      have heq := HEQ.out
      rcases heq with ⟨e1, e2⟩ | ⟨e1, e2⟩
      · subst e1
        obtain rfl : kk = rn := e2
        clear HEQ
        rcases hcase with rfl | ⟨hn1, hn2, hn3, hn4, hn5, hn6, hn7⟩
        all_goals
          go_wp2_with fail
          go_ret
          exact ⟨rfl, WIN.out⟩
      · have f1 : ((rn : Int) == (nd : Int)) = false := by rw [beq_eq_false_iff_ne]; omega
        have f2 : ((kk : Int) == (nd : Int)) = false := by rw [beq_eq_false_iff_ne]; omega
        have f3 : ¬ rn = nd := by omega
        have f4 : ¬ kk = nd := by omega
        clear HEQ
        rcases hcase with rfl | ⟨hn1, hn2, hn3, hn4, hn5, hn6, hn7⟩
        all_goals
          go_wp2_with fail
          go_ret
          exact ⟨rfl, WIN.out⟩
end Go.Proofs.YtdkbajdnckmckaaDoor
