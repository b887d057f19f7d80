/-
  The walk of PickTurns.
-/
import Derived.Test.YtdkbajdnckmckaaTrn
set_option linter.unusedVariables false
set_option linter.unusedSimpArgs false
namespace Go.Proofs.Ytdkbajdnckmckaa
open Go.RowKit Go.Con
theorem picked_toP (n m q : Int) (w : World) (h1 : -9223372036854775808 ≤ n) (h2 : n ≤ 9223372036854775807) (h3 : 0 < m) (hq : Hid (pick n m = q)) :
    Calls Try.prog 10 #[.int .i64 n, .int .i64 m] w fun e w' => e = .returned (.int .i64 q) ∧ w = w' :=
  (picked_any n m w h1 h2 h3).mono fun e w' ⟨he, hw⟩ => ⟨by rw [he, hq.out], hw⟩
theorem Pick_to (v : Value) (ls : List (List Vot)) (s sl r n k cl sq nm vl : Int) (rb : Bool) (w : World) (hv : RdLs w v ls) (hs0 : 0 ≤ s) (hs1 : s < 40) (hok : ∀ l ∈ ls, ∀ x ∈ l, okV x = true) (hb : Hid (bestV s Vot.zero ls.flatten = ⟨sl, (r, n), ⟨k, cl, sq, nm, vl⟩⟩)) (hr : Hid (decide (0 < r) = rb)) :
    Calls Try.prog 11 #[v, .int .i64 s] w fun e w' => e = .returned (.tuple #[.agg #[.int .i64 k, .int .i64 cl, .int .i64 sq, .int .i64 nm, .int .i64 vl], .bool rb, .int .i64 0]) ∧ Below w.heap.size w w' := by
  have h := Pick_any v ls s w hv hs0 hs1 hok
  rw [hb.out] at h
  rw [← hr.out]
  exact h
theorem accCheck_to (r n c : Int) (v : Value) (l : List Vot) (w : World) (hv : RdV w v l) (h : Hid ((if okA (r, n) l then (0 : Int) else 5) = c)) :
    Calls Try.prog 12 #[.agg #[.int .i64 r, .int .i64 n, v]] w fun e w' => e = .returned (.int .i64 c) ∧ Below w.heap.size w w' := by
  rw [← h.out]; exact accCheck_any (r, n) v l w hv
theorem rdV_nil (w : World) : RdV w (.slice none 0 0) [] := ⟨none, 0, rfl, Nat.le_refl _, Nat.zero_le _, fun h => absurd rfl h⟩
set_option maxRecDepth 100000 in
set_option maxHeartbeats 8000000 in
theorem walk_PickTurns (v : Value) (l : List Cmd) (u : Value) (si : Int) (w : World) (hv : RdWishes w v l) (hu : IsInt u si) :
    Calls Try.prog 3 #[v, u] w fun e w' => e = .returned (.bool true) ∧ Below w.heap.size w w' := by
  obtain ⟨rfl, hu1, hu2⟩ := hu
  obtain ⟨ea, ec, rfl, hle, hcm, hwok, hcell⟩ := hv
  obtain ⟨n, hn⟩ : ∃ n, n = l.length := ⟨_, rfl⟩
  rw [← hn] at hle hcell ⊢
  have hcm2 : ec ≤ 9223372036854775807 := hcm
  have HWOK := Lib.hid hwok
  have HCELL := Lib.hid hcell
  have HN := Lib.hid hn
  obtain ⟨m, hm⟩ : ∃ m, m = min n 20 := ⟨_, rfl⟩
  have hmn : m ≤ n := by omega
  have hm20 : m ≤ 20 := by omega
  have HM := Lib.hid hm
  obtain ⟨s, hs⟩ : ∃ s, s = pick si 3 := ⟨_, rfl⟩
  have hs0 : 0 ≤ s := by rw [hs]; exact pick_nonneg si 3 (by omega)
  have hs3 : s < 3 := by rw [hs]; exact pick_lt si 3 (by omega)
  have HS := Lib.hid hs.symm
  clear hwok hcell hn hm hs
  go_enter Try.func3, Try.ntmps3
  go_wp2_with fail
  go_loopw [5, 6] (fun v5 i wr => ∃ q : Nat, q ≤ m ∧ i = .int .i64 q ∧ Hid (OwnV wr w.heap.size v5 (votesTo l q) ∧ Below w.heap.size w wr)) (fun _ i _ => m - (intOf i).toNat)
  case atStart => exact ⟨0, by omega, rfl, Lib.hid ⟨World.ownsRow_nil _ _ _ _, Below.refl _ _⟩⟩
  case round =>
    obtain ⟨q, hqm, rfl, HI⟩ := hrel
    by_cases h1 : q < m
    · have hd1 : decide ((q : Int) < n) = true := by rw [decide_eq_true_eq]; omega
      have hd1n : decide (q < n) = true := by rw [decide_eq_true_eq]; omega
      have hd2 : decide ((q : Int) < 20) = true := by rw [decide_eq_true_eq]; omega
      have hd2n : decide (q < 20) = true := by rw [decide_eq_true_eq]; omega
      have hql : q < l.length := by rw [← HN.out]; omega
      obtain ⟨eb, eoff, rfl, hc⟩ := HCELL.out (by intro h; rw [h] at hql; cases hql)
      obtain ⟨y, hy⟩ : ∃ y, y = l.getD q Cmd.zero := ⟨_, rfl⟩
      have hebl : eb < w.heap.size := by
        have h2 := hc q (by omega) 0 (by decide)
        exact World.block_lt_of_cell? w _ h2
      have hyok : WishOk y := HWOK.out y (by rw [hy, List.getD_eq_getElem?_getD, List.getElem?_eq_getElem hql]; exact List.getElem_mem _)
      have hcr : ∀ p, p < 5 → wr.cell? ⟨eb, eoff + (5 * q + p), none⟩ = (wishCells y)[p]? := fun p hp => by
        have h2 := hc q (by omega) p hp
        rw [← hy] at h2
        rw [← h2]
        have h3 : (wishCells y)[p]? = some ((wishCells y)[p]'hp) := List.getElem?_eq_getElem hp
        rw [h3] at h2
        exact World.cell?_of_block (w := w) (HI.out.2.block eb (World.block_lt_of_cell? w _ h2))
      obtain ⟨pk, pn, pp, ps, pv⟩ := y
      have x1 : wr.cell? ⟨eb, eoff + q * 5 + 1, none⟩ = some (.int .i64 pn) := by rw [show eoff + q * 5 + 1 = eoff + (5 * q + 1) by omega]; exact hcr 1 (by decide)
      have x3 : wr.cell? ⟨eb, eoff + q * 5 + 3, none⟩ = some (.int .i64 ps) := by rw [show eoff + q * 5 + 3 = eoff + (5 * q + 3) by omega]; exact hcr 3 (by decide)
      have x4 : wr.cell? ⟨eb, eoff + q * 5 + 4, none⟩ = some (.int .i64 pv) := by rw [show eoff + q * 5 + 4 = eoff + (5 * q + 4) by omega]; exact hcr 4 (by decide)
      obtain ⟨-, ⟨n1, n2⟩, -, ⟨s1, s2⟩, ⟨v1, v2⟩⟩ := hyok
      dsimp only at n1 n2 s1 s2 v1 v2
      obtain ⟨an, han⟩ : ∃ x, x = pick pn 5 := ⟨_, rfl⟩
      obtain ⟨asl, has⟩ : ∃ x, x = pick ps 3 := ⟨_, rfl⟩
      obtain ⟨av, hav⟩ : ∃ x, x = pick pv 50 := ⟨_, rfl⟩
      have hpv : plyVote q ⟨pk, pn, pp, ps, pv⟩ = ⟨asl, (1 + ((q : Int) * 7) % 20, an), ⟨2, 0, av, 0, 0⟩⟩ := by rw [han, has, hav]; rfl
      have hvs : votesTo l (q + 1) = votesTo l q ++ [⟨asl, (1 + ((q : Int) * 7) % 20, an), ⟨2, 0, av, 0, 0⟩⟩] := by rw [votesTo_succ, ← hy, hpv]
      have PAN := Lib.hid han.symm
      have PAS := Lib.hid has.symm
      have PAV := Lib.hid hav.symm
      obtain ⟨rd, hrd⟩ : ∃ r : Int, r = ((q : Int) * 7) % 20 := ⟨_, rfl⟩
      have hrd0 : 0 ≤ rd := by rw [hrd]; exact Int.emod_nonneg _ (by decide)
      have hrd1 : rd < 20 := by rw [hrd]; exact Int.emod_lt_of_pos _ (by decide)
      rw [← hrd] at hvs
      have HVS := Lib.hid hvs
      have hq20 : q < 20 := by omega
      have hqn : q < n := by omega
      clear hc hcr hy hpv han has hav hvs hql
      have ht : ((q : Int) * 7).tmod 20 = rd := by rw [hrd, Int.tmod_eq_emod_of_nonneg (by omega)]
      have hw7 : IntKind.i64.wrap ((q : Int) * 7) = (q : Int) * 7 := IntWalk.i64_in _ (by omega)
      have hw1 : IntKind.i64.wrap (1 + rd) = 1 + rd := IntWalk.i64_in _ (by omega)
      clear hrd
      have hbs := HI.out.2.size
      have hlo := Lib.hid (row_lt HI.out.1)
      have X1 := Lib.hid x1
      have X3 := Lib.hid x3
      have X4 := Lib.hid x4
      go_wp2_with fail
      go_region_held3 (fun w' => w'.cell? ⟨eb, eoff + q * 5 + 1, none⟩ = some (.int .i64 pn) ∧ w'.cell? ⟨eb, eoff + q * 5 + 3, none⟩ = some (.int .i64 ps) ∧ w'.cell? ⟨eb, eoff + q * 5 + 4, none⟩ = some (.int .i64 pv)) (first | exact S5 | go_keep) (first
        | (go_at_call 10; refine (picked_toP _ _ _ _ (by assumption) (by assumption) (by decide) (by assumption)).mono ?_; rintro e _ ⟨rfl, rfl⟩)
        | (refine step_apV rfl (.tmp 32) (.tmp 58) rfl w.heap.size _ (votesTo l q) ⟨asl, (1 + rd, an), ⟨2, 0, av, 0, 0⟩⟩ wr.heap.size rfl (HI.out.1.next _) rfl (newd1 _ _) (by rw [votesTo_length]; omega) (by simp; omega) ?_; intro v' w5 ho5 hg5 hat5; have hbk := hg5.block eb (by simp; omega) (fun e => by have h3 := (hlo.out _ e.symm).1; omega); have hc5 : ∀ o, w5.cell? ⟨eb, o, none⟩ = wr.cell? ⟨eb, o, none⟩ := fun o => World.cell?_of_block (w := wr) (hbk.trans (heapOld wr _ _ (by omega))); have S5 : w5.cell? ⟨eb, eoff + q * 5 + 1, none⟩ = some (.int .i64 pn) ∧ w5.cell? ⟨eb, eoff + q * 5 + 3, none⟩ = some (.int .i64 ps) ∧ w5.cell? ⟨eb, eoff + q * 5 + 4, none⟩ = some (.int .i64 pv) := ⟨(hc5 _).trans X1.out, (hc5 _).trans X3.out, (hc5 _).trans X4.out⟩; have INV : Hid (OwnV w5 w.heap.size v' (votesTo l (q + 1)) ∧ Below w.heap.size w w5) := Lib.hid ⟨by rw [HVS.out]; exact ho5, (((HI.out.2.alloc hbs _).drew).grown hg5 (by simp; omega) (fun k hk => (hlo.out k hk).1))⟩; clear ho5 hg5 hat5 hbk hc5))
      go_wp2_with fail
      go_roundw
      case rel => exact ⟨q + 1, by omega, by go_num, INV⟩
      case measure => simp [intOf]; omega
    · have hex : (decide (q < n) = false ∧ decide ((q : Int) < n) = false) ∨ (decide (q < n) = true ∧ decide ((q : Int) < n) = true ∧ decide (q < 20) = false ∧ decide ((q : Int) < 20) = false) := by
        have := HM.out
        simp only [decide_eq_true_eq, decide_eq_false_iff_not]
        omega
      have hqm2 : q = m := by omega
      obtain ⟨w1, rfl⟩ : ∃ x, x = wr := ⟨_, rfl⟩
      obtain ⟨V, hV⟩ : ∃ V, V = votesTo l q := ⟨_, rfl⟩
      rw [← hV] at HI
      have hVl : V.length = m := by rw [hV, votesTo_length, hqm2]
      have HVL := Lib.hid hVl
      have VOK := Lib.hid (show ∀ v ∈ V, okV v = true ∧ 1 ≤ v.bal.1 by rw [hV]; exact votesTo_ok l q)
      have VAP := Lib.hid (show ∀ u ∈ V, ∀ v ∈ V, u.bal = v.bal → u = v by rw [hV]; exact votesTo_apart l q (by omega))
      obtain ⟨va, vc, hu5, hvc, hvm, -⟩ := id HI.out.1.row
      subst hu5
      have RV := Lib.hid HI.out.1.row
      rw [hVl] at RV hvc ⊢
      have hvm2 : vc ≤ 9223372036854775807 := hvm
      have BW := Lib.hid HI.out.2
      clear hV hVl HI
      rcases hex with ⟨he1, he2⟩ | ⟨he1, he2, he3, he4⟩
      all_goals
        clear hqm2
        go_wp2_with fail
        have inv0 : Hid (∃ xs, TurnInv w1 w1 V 0 (.slice none 0 0) (.slice none 0 0) xs) := Lib.hid ⟨[], World.ownsRow_nil _ _ _ _, World.ownsRow_nil _ _ _ _, (fun p x h => by simp at h), (fun k h => by cases h), Below.refl _ _⟩
        go_loopw [7, 8, 9] (fun v7 v8 i wx => ∃ q : Nat, Hid (∃ xs, TurnInv w1 wx V q v7 v8 xs) ∧ ((∃ k : Nat, k + 1 + q = m ∧ i = .int .i64 k) ∨ (q = m ∧ i = .int .i64 (-1)))) (fun _ _ i _ => (intOf i + 1).toNat)
        case atStart =>
          refine ⟨0, inv0, ?_⟩
          rcases Nat.eq_zero_or_pos m with h | h
          · exact .inr ⟨h.symm, by rw [h]; rfl⟩
          · refine .inl ⟨m - 1, by omega, ?_⟩
            congr 1
            omega
        case round =>
          clear inv0
          obtain ⟨q2, HI, ⟨k, hkq, rfl⟩ | ⟨hq2, rfl⟩⟩ := hrel
          · have hkm : k < m := by omega
            have hk0 : decide (0 ≤ (k : Int)) = true := by rw [decide_eq_true_eq]; omega
            obtain ⟨xs, hinv⟩ := HI.out
            have HT := Lib.hid hinv
            have RVr := Lib.hid (RdRow.stay RV.out hinv.below)
            obtain ⟨vb, vo, rfl, hvb, hvc8⟩ := RVr.out.cells.2.2 k hkm
            obtain ⟨x, hx⟩ : ∃ x, x = V.getD k Vot.zero := ⟨_, rfl⟩
            rw [← hx] at hvc8
            have HX := Lib.hid (show x = V.getD (V.length - 1 - q2) Vot.zero by rw [hx, HVL.out, show m - 1 - q2 = k by omega])
            obtain ⟨sl, ⟨br, bn⟩, ⟨ck, cl, sq, nm, vl⟩⟩ := x
            obtain ⟨x0, x1, x2, x3, x4, x5, x6, x7⟩ := cellsV hvc8
            dsimp only at x0 x1 x2 x3 x4 x5 x6 x7
            have hbs := hinv.below.size
            have hvb1 : vb < w1.heap.size := by
              obtain ⟨b', o', e, h1, -⟩ := RV.out.cells.2.2 k hkm
              have e2 := Option.some.inj e
              injection e2 with e3
              omega
            have hl7 := Lib.hid (row_lt hinv.bk)
            have hq2m : q2 ≤ 20 := by omega
            have X8 := Lib.hid hvc8
            clear hvc8 hinv hx
            go_wp2_with (first
              | (at_builtin; refine apV rfl (.tmp 67) (.tmp 72) rfl w1.heap.size _ (revTo V q2) [⟨sl, (br, bn), ⟨ck, cl, sq, nm, vl⟩⟩] (some ⟨wr.heap.size, 0, none⟩) 1 1 rfl (World.ownsRow.alloc HT.out.bk _) rfl (newVr wr ⟨sl, (br, bn), ⟨ck, cl, sq, nm, vl⟩⟩) (fun h => by cases h) (by rw [revTo_length]; simp; omega) (by simp; omega) ?_; intro v7' w5 ho5 hg5 hat5; have O5 := Lib.hid ho5; have G5 := Lib.hid hg5; have A5 := Lib.hid hat5; have hs5 := hg5.size; have hbk : w5.heap[vb]? = wr.heap[vb]? := (hg5.block vb (by simp; omega) (fun e => by have h3 := (hl7.out _ e.symm).1; omega)).trans (heapOld wr _ _ (by omega)); have c5 : ∀ o, w5.cell? ⟨vb, o, none⟩ = wr.cell? ⟨vb, o, none⟩ := fun o => World.cell?_of_block (w := wr) hbk; have C5 := Lib.hid c5; obtain ⟨y0, y1, y2, y3, y4, y5, y6, y7⟩ := cellsV (fun p hp => (C5.out _).trans (X8.out p hp)); clear ho5 hg5 hat5 hbk c5)
              | (at_builtin; refine apL rfl (.tmp 74) (.tmp 80) rfl w1.heap.size _ q2 xs (.slice (some ⟨w5.heap.size, 0, none⟩) 1 1) (w5.heap.size + 1) rfl (World.ownsRow.alloc (World.ownsRow.alloc (World.ownsRow.kept (World.ownsRow.alloc HT.out.ls _) G5.out (by
                    rcases hv8 : Value.ownBlock _ with _ | k8
                    · exact .inl rfl
                    · exact .inr (fun e => HT.out.apart k8 e.symm hv8))) _) _) rfl (new2b _ _ _) rfl (by omega) (by simp at hs5 ⊢; omega) ?_; intro v8' w6 ho6 hg6 hat6; have INV : Hid (∃ xs, TurnInv w1 w6 V (q2 + 1) v7' v8' xs) := Lib.hid ⟨_, HT.out.more HX.out O5.out G5.out A5.out ho6 hg6 hat6⟩; clear ho6 hg6 hat6))
            refine ⟨⟨q2 + 1, INV, ?_⟩, ?_⟩
            · rcases Nat.eq_zero_or_pos k with h | h
              · exact .inr ⟨by omega, by rw [h]; rfl⟩
              · refine .inl ⟨k - 1, by omega, ?_⟩
                congr 1
                omega
            · simp [intOf]; try omega
          · have hk0 : decide (0 ≤ (-1 : Int)) = false := rfl
            obtain ⟨xs, hinv⟩ := HI.out
            rw [hq2] at hinv
            have HT := Lib.hid hinv
            have RVr := Lib.hid (RdRow.stay RV.out hinv.below)
            -- the three lists, and their best
            obtain ⟨R, hR⟩ : ∃ R, R = bestV s Vot.zero V := ⟨_, rfl⟩
            have hm7 : ∀ v, v ∈ revTo V m ↔ v ∈ V := by rw [← HVL.out]; exact revTo_mem V
            have hbestV := bestV_is s V (fun v hv => (VOK.out v hv).2)
            have hbestB := bestV_is s (revTo V m) (fun v hv => (VOK.out v ((hm7 v).1 hv)).2)
            have hsame : bestV s Vot.zero V = bestV s Vot.zero (revTo V m) := isBest_one hbestV hbestB (fun v => (hm7 v).symm) VAP.out
            obtain ⟨rb, hrb⟩ : ∃ b, b = decide (0 < R.bal.1) := ⟨_, rfl⟩
            have hany : V.any (fun v => v.slot == s) = rb := by
              rw [hrb, hR]
              rcases hbestV with ⟨h, h2⟩ | ⟨h, h2, h3⟩
              · rw [h]
                rw [show decide (0 < Vot.zero.bal.1) = false from rfl, List.any_eq_false]
                intro v hv
                simpa using h2 v hv
              · rw [decide_eq_true (by have := (VOK.out _ h).2; omega), List.any_eq_true]
                exact ⟨_, h, by simpa using h2⟩
            have ANY := Lib.hid hany
            have HB1 := Lib.hid (show bestV s Vot.zero [V].flatten = R by rw [hR]; simp)
            have HB2 := Lib.hid (show bestV s Vot.zero [revTo V m].flatten = R by rw [hR, hsame]; simp)
            have HB3 := Lib.hid (show bestV s Vot.zero ((revTo V m).map fun v => [v]).flatten = R by rw [hR, hsame, flatten_ones])
            have OK1 := Lib.hid (show ∀ l ∈ [V], ∀ x ∈ l, okV x = true from fun l hl x hx => by rw [List.mem_singleton.1 hl] at hx; exact (VOK.out x hx).1)
            have OK2 := Lib.hid (show ∀ l ∈ [revTo V m], ∀ x ∈ l, okV x = true from fun l hl x hx => by rw [List.mem_singleton.1 hl] at hx; exact (VOK.out x ((hm7 x).1 hx)).1)
            have OK3 := Lib.hid (show ∀ l ∈ (revTo V m).map (fun v => [v]), ∀ x ∈ l, okV x = true from fun l hl x hx => by
              obtain ⟨y, hy, rfl⟩ := List.mem_map.1 hl
              rw [List.mem_singleton.1 hx]
              exact (VOK.out y ((hm7 y).1 hy)).1)
            have HRB := Lib.hid hrb.symm
            clear hR hm7 hbestV hbestB hsame hrb hany hq2
            obtain ⟨rsl, ⟨rr, rn⟩, ⟨rk, rcl, rsq, rnm, rvl⟩⟩ := R
            dsimp only at HRB
            have RB7 := Lib.hid hinv.bk.row
            have RL8 := Lib.hid hinv.lists
            obtain ⟨ba, bc, hb7, hbl, hbm, -⟩ := id hinv.bk.row
            subst hb7
            obtain ⟨la, lc, hb8, hll, hlm, -⟩ := id hinv.lists
            subst hb8
            rw [revTo_length] at RB7
            rw [List.length_map, revTo_length] at RL8
            simp only [List.length_map, revTo_length]
            clear hbl hbm hll hlm hinv
            go_upto_region 15 with (first
              | (go_at_call 10; refine (picked_toP _ _ _ _ (by assumption) (by assumption) (by decide) (by assumption)).mono ?_; rintro e _ ⟨rfl, rfl⟩)
              | (go_at_call 11; refine (Pick_to _ [V] s rsl rr rn rk rcl rsq rnm rvl rb _ (newLs RVr.out) hs0 (by omega) OK1.out HB1 HRB).mono ?_; rintro e w7 ⟨rfl, hb7⟩; have B7 := Lib.hid hb7; clear hb7))
            generalize hW : World.alloc _ _ = w8
            have C8 := Lib.hid (show w8.heap[w7.heap.size]? = some (.cells #[.int .i64 rk, .int .i64 rcl, .int .i64 rsq, .int .i64 rnm, .int .i64 rvl] 30 (0, 0)) by rw [← hW]; exact heapNew _ _)
            have B8 := Lib.hid (show Below wr.heap.size wr w8 by
              have h := ((Below.refl wr.heap.size wr).alloc (Nat.le_refl _) _).trans (B7.out.mono (by simp))
              rw [← hW]; exact h.alloc h.size _)
            clear hW B7
            have RB := Lib.hid (RdRow.stay RB7.out B8.out)
            go_upto_region 16 with (go_at_call 11; refine (Pick_to _ [revTo V m] s rsl rr rn rk rcl rsq rnm rvl rb _ (newLs RB.out) hs0 (by omega) OK2.out HB2 HRB).mono ?_; rintro e w9 ⟨rfl, hb9⟩; have B9 := Lib.hid hb9; clear hb9)
            generalize hW : World.alloc _ _ = wA
            have b89 := Lib.hid (((Below.refl w8.heap.size w8).alloc (Nat.le_refl _) (.cells #[.slice ba m bc] 23)).trans (B9.out.mono (by simp)))
            have CA := Lib.hid (show wA.heap[w9.heap.size]? = some (.cells #[.int .i64 rk, .int .i64 rcl, .int .i64 rsq, .int .i64 rnm, .int .i64 rvl] 30 (0, 0)) by rw [← hW]; exact heapNew _ _)
            have BA := Lib.hid (show Below w8.heap.size w8 wA by rw [← hW]; exact b89.out.alloc b89.out.size _)
            clear hW B9 b89
            have BrA := Lib.hid (B8.out.trans (BA.out.mono B8.out.size))
            have RLA := Lib.hid (RL8.out.stay BrA.out)
            go_upto_region 17 with (go_at_call 11; refine (Pick_to _ ((revTo V m).map fun v => [v]) s rsl rr rn rk rcl rsq rnm rvl rb _ RLA.out hs0 (by omega) OK3.out HB3 HRB).mono ?_; rintro e wB ⟨rfl, hbB⟩; have BB := Lib.hid hbB; clear hbB)
            generalize hW : World.alloc _ _ = wC
            have CC := Lib.hid (show wC.heap[wB.heap.size]? = some (.cells #[.int .i64 rk, .int .i64 rcl, .int .i64 rsq, .int .i64 rnm, .int .i64 rvl] 30 (0, 0)) by rw [← hW]; exact heapNew _ _)
            have BC := Lib.hid (show Below wA.heap.size wA wC by rw [← hW]; exact BB.out.alloc BB.out.size _)
            clear hW BB
            have CA2 := Lib.hid ((BC.out.block _ (lt_of_heap CA.out)).trans CA.out)
            have C82 := Lib.hid ((BC.out.block _ (Nat.lt_of_lt_of_le (lt_of_heap C8.out) BA.out.size)).trans ((BA.out.block _ (lt_of_heap C8.out)).trans C8.out))
            have BrC := Lib.hid (BrA.out.trans (BC.out.mono BrA.out.size))
            have RVC := Lib.hid (RdRow.stay RVr.out BrC.out)
            have BWC := Lib.hid ((BW.out.trans (HT.out.below.mono BW.out.size)).trans (BrC.out.mono (Nat.le_trans BW.out.size HT.out.below.size)))
            clear RB7 RB RL8 RLA HT HI
            go_wp2_with fail
            go_loopw [20, 21] (fun f i wx => wx = wC ∧ ∃ p : Nat, p ≤ m ∧ i = .int .i64 p ∧ f = .bool ((V.take p).any (fun v => v.slot == s))) (fun _ i _ => m - (intOf i).toNat)
            case atStart => exact ⟨rfl, 0, by omega, rfl, rfl⟩
            case round =>
              obtain ⟨rfl, p, hpm, rfl, rfl⟩ := hrel
              obtain ⟨fl, hfl⟩ : ∃ b, b = (V.take p).any (fun v => v.slot == s) := ⟨_, rfl⟩
              rw [← hfl]
              by_cases hp1 : p < m
              · have hdp : decide ((p : Int) < m) = true := by rw [decide_eq_true_eq]; omega
                have hdpn : decide (p < m) = true := by rw [decide_eq_true_eq]; omega
                have hpl : p < V.length := by rw [HVL.out]; exact hp1
                obtain ⟨vb, vo, rfl, hvb, hvc8⟩ := RVC.out.cells.2.2 p hp1
                obtain ⟨x, hx⟩ : ∃ x, x = V.getD p Vot.zero := ⟨_, rfl⟩
                rw [← hx] at hvc8
                have hnext : (V.take (p + 1)).any (fun v => v.slot == s) = (fl || (x.slot == s)) := by
                  rw [List.take_add_one, List.getElem?_eq_getElem hpl, hx, List.getD_eq_getElem?_getD, List.getElem?_eq_getElem hpl, List.any_append, ← hfl]
                  simp
                obtain ⟨sl, ⟨br, bn⟩, ⟨ck, cl, sq, nm, vl⟩⟩ := x
                obtain ⟨x0, -, -, -, -, -, -, -⟩ := cellsV hvc8
                dsimp only at x0 hnext
                have HNX := Lib.hid hnext
                clear hvc8 hx hnext hfl hpl hvb
                cases fl
                · obtain ⟨t, ht⟩ : ∃ t, t = (sl == s) := ⟨_, rfl⟩
                  have hse : (sl == s) = t := ht.symm
                  have HSE := Lib.hid hse
                  clear ht
                  go_wp2_with fail
                  go_roundw
                  case rel => exact ⟨trivial, p + 1, by omega, by go_num, by rw [HNX.out, Bool.false_or, HSE.out]⟩
                  case measure => simp [intOf]; omega
                · go_wp2_with fail
                  go_roundw
                  case rel => exact ⟨trivial, p + 1, by omega, by go_num, by rw [HNX.out, Bool.true_or]⟩
                  case measure => simp [intOf]; omega
              · have hpm2 : p = m := by omega
                have hdp : decide ((p : Int) < m) = false := by rw [decide_eq_false_iff_not]; omega
                have hdpn : decide (p < m) = false := by rw [decide_eq_false_iff_not]; omega
                have hfr : fl = rb := by rw [hfl, hpm2, ← HVL.out, List.take_length]; exact ANY.out
                subst hfr
                clear hfl hpm2
                have a0 := cellAt C82.out 0 rfl
                have a1 := cellAt C82.out 1 rfl
                have a2 := cellAt C82.out 2 rfl
                have a3 := cellAt C82.out 3 rfl
                have a4 := cellAt C82.out 4 rfl
                have b0 := cellAt CA2.out 0 rfl
                have b1 := cellAt CA2.out 1 rfl
                have b2 := cellAt CA2.out 2 rfl
                have b3 := cellAt CA2.out 3 rfl
                have b4 := cellAt CA2.out 4 rfl
                have c0 := cellAt CC.out 0 rfl
                have c1 := cellAt CC.out 1 rfl
                have c2 := cellAt CC.out 2 rfl
                have c3 := cellAt CC.out 3 rfl
                have c4 := cellAt CC.out 4 rfl
                have H5 : Hid ((if okA (0, 1) [] then (0 : Int) else 5) = 5) := Lib.hid (by decide)
                go_wp2_with (go_at_call 12; refine (accCheck_to _ _ _ _ [] _ (rdV_nil _) H5).mono ?_; rintro e wD ⟨rfl, hbD⟩; have BD := Lib.hid hbD; clear hbD)
                go_ret
                exact ⟨rfl, BWC.out.trans (BD.out.mono BWC.out.size)⟩
end Go.Proofs.Ytdkbajdnckmckaa
