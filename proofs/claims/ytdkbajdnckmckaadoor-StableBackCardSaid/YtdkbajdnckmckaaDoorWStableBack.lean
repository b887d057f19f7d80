/-
  The walk of conclavekeep.StableBack: an acceptor is recovered as it was.
-/
import Derived.Test.YtdkbajdnckmckaaDoorMg12
set_option linter.unusedVariables false
set_option linter.unusedSimpArgs false
namespace Go.Proofs.YtdkbajdnckmckaaDoor
open Go.RowKit Go.Con
set_option maxRecDepth 100000 in
set_option maxHeartbeats 4000000 in
theorem walk_StableBack (v : Value) (l : List Cmd) (w : World) (hv : RdWishes w v l) (hk : Kn w) :
    Calls Tryd.prog 4 #[v] w fun e w' => e = .returned (.bool true) ∧ Below w.heap.size w w' := by
  have hv0 := hv
  obtain ⟨ea, ec, rfl, hle, hcm, -, -⟩ := hv
  have HTAP := Lib.hid (taped_any _ l w hv0 hk)
  obtain ⟨n, hn⟩ : ∃ n, n = l.length := ⟨_, rfl⟩
  rw [← hn] at HTAP hle ⊢
  have HK := Lib.hid hk
  clear hv0 hk hn hcm
  go_enter Tryd.func4, Tryd.ntmps4
  go_upto_region 2 with (go_at_call 13; refine HTAP.out.mono ?_; rintro e w1 ⟨D, al, tv, av, rfl, ht, hb⟩; obtain ⟨ta, tc, rfl, _, _⟩ := ht.tv.rd.slice; obtain ⟨nd, hnd⟩ : ∃ k, k = D.length := ⟨_, rfl⟩; rw [← hnd] at ht ⊢; have HND := Lib.hid hnd; have HT := Lib.hid ht; have HB := Lib.hid hb; clear ht hb hnd)
  have hb2 : Below w.heap.size w (w1.alloc (.cells #[.slice ta nd tc, .int .i64 0] 27)) := bel_alloc HB.out
  have hx2 : (w1.alloc (.cells #[.slice ta nd tc, .int .i64 0] 27)).heap[w1.heap.size]? = some (.cells #[.slice ta nd tc, .int .i64 0] 27 (0, 0)) := heapNew _ _
  have B12 : Below w1.heap.size w1 (w1.alloc (.cells #[.slice ta nd tc, .int .i64 0] 27)) := bel_alloc (Below.refl _ _)
  have hal := HT.out.all.stay B12
  have htv := HT.out.tv.rd.stay B12
  obtain ⟨x, L, hxl, hal0, htap, -, -, hxok, -⟩ := HT.out.last
  have hvts := (hal.each x (List.mem_of_getElem? hxl)).vs
  have hne : al ≠ [] := fun h => by rw [h] at hal0; cases hal0
  obtain ⟨b0, off0, ac, hav', hac1, hac2, hbl, hcells⟩ := RdA_cells hal.own.row hne
  subst hav'
  obtain ⟨tb, htb⟩ : ∃ b, b = w1.heap.size := ⟨_, rfl⟩
  rw [← htb] at hx2 ⊢
  generalize hW : World.alloc _ _ = w2 at hb2 hx2 B12 hal htv hvts hcells hbl ⊢
  have HLEN := HT.out.len
  have HPOS := HT.out.pos0
  have hnd' := HND.out
  have hndl : nd ≤ 760 := by have : min n 20 ≤ 20 := Nat.min_le_right _ _; omega
  have hpos : n = 0 ∨ 0 < nd := by have : min n 20 = 0 → n = 0 := fun h => by omega
                                   omega
  have B2 := Lib.hid hb2
  have X2 := Lib.hid hx2
  have HREC := Lib.hid (fun a b c => recover_tap htap ta nd tc 0 w2 hnd' a b c)
  obtain ⟨hq0, hq1, hq2⟩ := hcells _ _ hxl
  obtain ⟨na, hna⟩ : ∃ na, na = al.length := ⟨_, rfl⟩
  obtain ⟨z, hz⟩ : ∃ z, z = al.length - 1 := ⟨_, rfl⟩
  rw [← hz] at hq0 hq1 hq2
  rw [← hna] at hac1 ⊢
  have hzi : (na : Int) - 1 = (z : Int) := by omega
  have hzn : z < na := by omega
  obtain ⟨⟨⟨pr, pn⟩, VL⟩, xa, xn, xc⟩ := x
  dsimp only at hq0 hq1 hq2 hxok hvts HREC
  have VTS := Lib.hid hvts
  have TV := Lib.hid htv
  have HK2 := Lib.hid (HK.out.stay hb2)
  have hac3 : ac ≤ 9223372036854775807 := hac2
  have QQ := Lib.hid (show w2.cell? ⟨b0, off0 + z * 3, none⟩ = some (.int .i64 pr) ∧ w2.cell? ⟨b0, off0 + z * 3 + 1, none⟩ = some (.int .i64 pn) ∧ w2.cell? ⟨b0, off0 + z * 3 + 2, none⟩ = some (.slice xa xn xc) from ⟨hq0, hq1, hq2⟩)
  have qc0 := cellAt X2.out 0 rfl
  have qc1 := cellAt X2.out 1 rfl
  clear hW hx2 hb2 B12 hal htv hvts hcells hq0 hq1 hq2 hz hna htap hxl hal0 hne hac2 HLEN HPOS hnd' htb HT HTAP HB
  go_upto_region 3 with (go_at_call 14; refine (HREC.out TV.out (by decide) (Int.natCast_nonneg _) (by omega) HK2.out).mono ?_; rintro e w3 ⟨hb3, a1, n1, c1, rfl, ho3⟩; have B3 := Lib.hid hb3; have O3 := Lib.hid ho3; clear hb3 ho3)
  have hb4 : Below w2.heap.size w2 (w3.alloc (.cells #[.int .i64 pr, .int .i64 pn, .slice a1 n1 c1] 45)) := bel_alloc B3.out
  have hx4 : (w3.alloc (.cells #[.int .i64 pr, .int .i64 pn, .slice a1 n1 c1] 45)).heap[w3.heap.size]? = some (.cells #[.int .i64 pr, .int .i64 pn, .slice a1 n1 c1] 45 (0, 0)) := heapNew _ _
  have hv4 : Votes (w3.alloc (.cells #[.int .i64 pr, .int .i64 pn, .slice a1 n1 c1] 45)) (.slice a1 n1 c1) VL := O3.out.votes.stay (bel_alloc (Below.refl _ _))
  obtain ⟨rb, hrb⟩ : ∃ b, b = w3.heap.size := ⟨_, rfl⟩
  rw [← hrb] at hx4 ⊢
  generalize hW : World.alloc _ _ = w4 at hb4 hx4 hv4 ⊢
  have q4 := QQ.out
  have S0 : SBk w4 rb b0 (off0 + z * 3) tb pr pn pr pn (.slice a1 n1 c1) (.slice xa xn xc) (.slice ta nd tc) := ⟨cellAt hx4 0 rfl, cellAt hx4 1 rfl, cellAt hx4 2 rfl, (hb4.cell (p := ⟨b0, off0 + z * 3, none⟩) hbl).trans q4.1, (hb4.cell (p := ⟨b0, off0 + z * 3 + 1, none⟩) hbl).trans q4.2.1, (hb4.cell (p := ⟨b0, off0 + z * 3 + 2, none⟩) hbl).trans q4.2.2, cellAt ((hb4.block _ (lt_of_heap X2.out)).trans X2.out) 0 rfl, cellAt ((hb4.block _ (lt_of_heap X2.out)).trans X2.out) 1 rfl⟩
  have hl1 := lt_of_heap hx4
  have hl2 : b0 < w4.heap.size := Nat.lt_of_lt_of_le hbl hb4.size
  have hl3 : tb < w4.heap.size := Nat.lt_of_lt_of_le (lt_of_heap X2.out) hb4.size
  have VT4 := Lib.hid (VTS.out.stay hb4)
  have VR4 := Lib.hid hv4
  have B4 := Lib.hid (bel_trans B2.out hb4)
  have HSAME := Lib.hid (fun W (hW : Below w4.heap.size w4 W) => sameAcc_tt pr pn a1 xa n1 xn c1 xc VL W (VR4.out.stay hW).1 (VT4.out.stay hW).1)
  clear hW hb4 hx4 hv4 q4 QQ X2 qc0 qc1 O3 B3 VTS TV HK2 HREC hrb VT4 VR4 hxok
  have ST := Lib.hid S0
  have hz1 : (0 : Int) ≤ (z : Int) := by omega
  have hz2 : (z : Int) < (na : Int) := by omega
  have hz3 : ¬ ((na : Int) ≤ (z : Int)) := by omega
  have hwz : IntKind.i64.wrap ((na : Int) - 1) = (z : Int) := by rw [hzi]; exact IntWalk.i64_in _ (by omega)
  have hwz2 : IntKind.i64.wrap (z : Int) = (z : Int) := IntWalk.i64_in _ (by omega)
  clear S0
  have hcase : (n = 0) ∨ (((n : Int) == 0) = false ∧ decide ((0 : Int) < (nd : Int)) = true ∧ (n == 0) = false ∧ decide (0 < nd) = true ∧ ¬ n = 0 ∧ ¬ (n : Int) = 0 ∧ decide (n = 0) = false) := by
    by_cases h0 : n = 0
    · exact .inl h0
    · have h := hpos.resolve_left h0
      exact .inr ⟨by rw [beq_eq_false_iff_ne]; omega, by rw [decide_eq_true_eq]; omega, by rw [beq_eq_false_iff_ne]; exact h0, by rw [decide_eq_true_eq]; omega, h0, by omega, by rw [decide_eq_false_iff_not]; exact h0⟩
  clear hpos
  obtain ⟨g0, g1, g2, g3, g4, g5, g6, g7⟩ := SBk.all ST.out hl1 hl2 hl3
  rcases hcase with rfl | ⟨hn1, hn2, hn3, hn4, hn5, hn6, hn7⟩
  all_goals
    refine wp_region_below (by kernel_rfl) (by kernel_rfl) ?_
    repeat (go_big_quiet_step ((go_at_call 15; exact calls_below (HSAME.out _ (BelW.bel _)))))
    refine wpQuiet_nil ?_
    rintro _ ⟨n9, rfl⟩
    have B9 := n9.bel
    go_wp2_with fail
    go_ret
    exact ⟨rfl, bel_trans B4.out B9⟩
end Go.Proofs.YtdkbajdnckmckaaDoor
