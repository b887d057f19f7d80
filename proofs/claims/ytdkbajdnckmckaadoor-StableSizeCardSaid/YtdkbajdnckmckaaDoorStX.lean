/-
  The walks of stable.Promise, stable.Vote and stable.Sync of what may not be.
-/
import Derived.Test.YtdkbajdnckmckaaDoorStS
set_option linter.unusedVariables false
set_option linter.unusedSimpArgs false
namespace Go.Proofs.YtdkbajdnckmckaaDoor
open Go.RowKit Go.Con
set_option maxRecDepth 100000 in
set_option maxHeartbeats 2000000 in
theorem sPromise_bad (v : Value) (l : List UInt8) (s r q : Int) (w : World) (hv : Rd w v l) (h0 : 0 ≤ s) (h1 : s ≤ l.length) (h2 : l.length ≤ 100000) (hq : okB (r, q) = false) :
    Calls Tryd.prog 9 #[.agg #[v, .int .i64 s], .agg #[.int .i64 r, .int .i64 q]] w (TapePost w [] 0 2) := by
  obtain ⟨a, c, rfl, hc, hcm⟩ := id hv.slice
  obtain ⟨n, hn⟩ : ∃ n, n = l.length := ⟨_, rfl⟩
  have HOPEN := Lib.hid (fun w h => open_ok (.slice a l.length c) l s w h h0 h1 h2)
  have HBAD := Lib.hid (fun w => Promise_bad 0 0 r q (.slice none 0 0) [] w (votes_nil w) (by decide) hq (by decide))
  rw [← hn] at hv h1 h2 hc HOPEN ⊢
  have HV := Lib.hid hv
  have HN := Lib.hid hn
  have B0 := Lib.hid ((((Below.refl w.heap.size w).alloc (Nat.le_refl _) (.cells #[.slice a n c, .int .i64 s] 27)).alloc (by simp) (.cells #[.int .i64 r, .int .i64 q] 24)).alloc (by simp; omega) (.cells #[.slice none 0 0, .int .i64 0] 27))
  clear hv hn hc hcm hq
  go_enter Tryd.func9, Tryd.ntmps9
  go_upto_region 1 with fail
  generalize hW : World.alloc _ _ = w1 at B0 ⊢
  obtain ⟨X, Z, Y, _⟩ := alloc3T hW
  have hz1 : w1.heap.size = w.heap.size + 1 + 1 + 1 := by rw [← hW]; simp
  have HZ := Lib.hid hz1
  have c0 := cellAt X 0 rfl
  have c1 := cellAt X 1 rfl
  have HV1 := Lib.hid (HV.out.below B0.out HV.out.lt)
  have HY := Lib.hid Y
  have HZB := Lib.hid Z
  clear hW hz1 X Y Z
  go_upto_region 2 with (go_at_call 20; refine (HOPEN.out _ HV1.out).mono ?_; rintro e w2 ⟨v2, rfl, ho2, hb2⟩; obtain ⟨sa, sc, rfl, _, _⟩ := ho2.rd.sliceN n HN.out.symm; have B2 := Lib.hid hb2; clear ho2 hb2)
  have hb3 : Below w1.heap.size w1 (w2.alloc (.cells #[.slice sa n sc, .int .i64 s] 27)) := B2.out.alloc B2.out.size _
  generalize hW : w2.alloc _ = w3 at hb3 ⊢
  have z3 := (hb3.block _ (lt_of_heap HZB.out)).trans HZB.out
  have e0 := cellAt z3 0 rfl
  have e1 := cellAt z3 1 rfl
  have B3 := Lib.hid hb3
  clear hW hb3 z3 B2 c0 c1
  go_upto_region 5 with (go_at_call 16; refine (HBAD.out _).mono ?_; rintro e w4 ⟨rfl, hb4⟩; have B4 := Lib.hid hb4; clear hb4)
  have hb5 : Below w1.heap.size w1 (w4.alloc (.cells #[.int .i64 0, .int .i64 0, .slice none 0 0] 45)) := (B3.out.trans (B4.out.mono B3.out.size)).alloc (by have := B3.out.size; have := B4.out.size; omega) _
  obtain ⟨x5, hx5⟩ : ∃ b, b = w4.heap.size := ⟨_, rfl⟩
  rw [← hx5]
  generalize hW : w4.alloc _ = w5 at hb5 ⊢
  have B5 := Lib.hid hb5
  have y5 := (hb5.block _ (lt_of_heap HY.out)).trans HY.out
  have cy0 := cellAt y5 0 rfl
  have cy1 := cellAt y5 1 rfl
  have fy := freeAt y5
  have HY5 := Lib.hid y5
  clear hW hb5 hx5 y5 B3 B4 e0 e1
  go_wp2_with fail
  have z4 := heapSet (o := 1) (heapSet (o := 0) HY5.out (.slice none 0 0)) (.int .i64 0)
  have B4 := Lib.hid (show Below w.heap.size w ((w5.setCell ⟨w.heap.size + 1 + 1, 0, none⟩ (.slice none 0 0)).setCell ⟨w.heap.size + 1 + 1, 1, none⟩ (.int .i64 0)) from ((B0.out.trans (B5.out.mono B0.out.size)).setCell (by show w.heap.size ≤ w.heap.size + 1 + 1; omega) _).setCell (by show w.heap.size ≤ w.heap.size + 1 + 1; omega) _)
  generalize hW : World.setCell _ _ _ = wZ at z4 B4 ⊢
  have hl := run_loadVar_mid (P := Tryd.prog) wZ (w.heap.size + 1 + 1) 0 27 [.slice none 0 0, .int .i64 0] _ (range_of z4) Tryd.underlying27 rfl tapeSz
  exact bodyPost_ret (v := .tuple #[.agg #[.slice none 0 0, .int .i64 0], .int .i64 2]) (results_ct Tryd.results9 rfl hl) rfl ⟨_, rfl, Own.nil _ _, B4.out⟩
set_option maxRecDepth 100000 in
set_option maxHeartbeats 2000000 in
theorem sVote_bad (v : Value) (l : List UInt8) (s y0 y1 y2 y3 y4 y5 y6 y7 : Int) (w : World) (hv : Rd w v l) (h0 : 0 ≤ s) (h1 : s ≤ l.length) (h2 : l.length ≤ 100000) (hq : okV ⟨y0, (y1, y2), ⟨y3, y4, y5, y6, y7⟩⟩ = false) :
    Calls Tryd.prog 10 #[.agg #[v, .int .i64 s], .agg #[.int .i64 y0, .int .i64 y1, .int .i64 y2, .int .i64 y3, .int .i64 y4, .int .i64 y5, .int .i64 y6, .int .i64 y7]] w (TapePost w [] 0 2) := by
  obtain ⟨a, c, rfl, hc, hcm⟩ := id hv.slice
  obtain ⟨n, hn⟩ : ∃ n, n = l.length := ⟨_, rfl⟩
  have HOPEN := Lib.hid (fun w h => open_ok (.slice a l.length c) l s w h h0 h1 h2)
  have HBAD := Lib.hid (fun w => Accept_bad 0 0 y0 y1 y2 y3 y4 y5 y6 y7 (.slice none 0 0) [] w (votes_nil w) (by decide) hq (by decide))
  rw [← hn] at hv h1 h2 hc HOPEN ⊢
  have HV := Lib.hid hv
  have HN := Lib.hid hn
  have B0 := Lib.hid ((((Below.refl w.heap.size w).alloc (Nat.le_refl _) (.cells #[.slice a n c, .int .i64 s] 27)).alloc (by simp) (.cells #[.int .i64 y0, .int .i64 y1, .int .i64 y2, .int .i64 y3, .int .i64 y4, .int .i64 y5, .int .i64 y6, .int .i64 y7] 35)).alloc (by simp; omega) (.cells #[.slice none 0 0, .int .i64 0] 27))
  clear hv hn hc hcm hq
  go_enter Tryd.func10, Tryd.ntmps10
  go_upto_region 1 with fail
  generalize hW : World.alloc _ _ = w1 at B0 ⊢
  obtain ⟨X, Z, Y, _⟩ := alloc3T hW
  have hz1 : w1.heap.size = w.heap.size + 1 + 1 + 1 := by rw [← hW]; simp
  have HZ := Lib.hid hz1
  have c0 := cellAt X 0 rfl
  have c1 := cellAt X 1 rfl
  have HV1 := Lib.hid (HV.out.below B0.out HV.out.lt)
  have HY := Lib.hid Y
  have HZB := Lib.hid Z
  clear hW hz1 X Y Z
  go_upto_region 2 with (go_at_call 20; refine (HOPEN.out _ HV1.out).mono ?_; rintro e w2 ⟨v2, rfl, ho2, hb2⟩; obtain ⟨sa, sc, rfl, _, _⟩ := ho2.rd.sliceN n HN.out.symm; have B2 := Lib.hid hb2; clear ho2 hb2)
  have hb3 : Below w1.heap.size w1 (w2.alloc (.cells #[.slice sa n sc, .int .i64 s] 27)) := B2.out.alloc B2.out.size _
  generalize hW : w2.alloc _ = w3 at hb3 ⊢
  have z3 := (hb3.block _ (lt_of_heap HZB.out)).trans HZB.out
  have e0 := cellAt z3 0 rfl
  have e1 := cellAt z3 1 rfl
  have e2 := cellAt z3 2 rfl
  have e3 := cellAt z3 3 rfl
  have e4 := cellAt z3 4 rfl
  have e5 := cellAt z3 5 rfl
  have e6 := cellAt z3 6 rfl
  have e7 := cellAt z3 7 rfl
  have B3 := Lib.hid hb3
  clear hW hb3 z3 B2 c0 c1
  go_upto_region 5 with (go_at_call 23; refine (HBAD.out _).mono ?_; rintro e w4 ⟨rfl, hb4⟩; have B4 := Lib.hid hb4; clear hb4)
  have hb5 : Below w1.heap.size w1 (w4.alloc (.cells #[.int .i64 0, .int .i64 0, .slice none 0 0] 45)) := (B3.out.trans (B4.out.mono B3.out.size)).alloc (by have := B3.out.size; have := B4.out.size; omega) _
  obtain ⟨x5, hx5⟩ : ∃ b, b = w4.heap.size := ⟨_, rfl⟩
  rw [← hx5]
  generalize hW : w4.alloc _ = w5 at hb5 ⊢
  have B5 := Lib.hid hb5
  have y5 := (hb5.block _ (lt_of_heap HY.out)).trans HY.out
  have cy0 := cellAt y5 0 rfl
  have cy1 := cellAt y5 1 rfl
  have fy := freeAt y5
  have HY5 := Lib.hid y5
  clear hW hb5 hx5 y5 B3 B4 e0 e1 e2 e3 e4 e5 e6 e7
  go_wp2_with fail
  have z4 := heapSet (o := 1) (heapSet (o := 0) HY5.out (.slice none 0 0)) (.int .i64 0)
  have B4 := Lib.hid (show Below w.heap.size w ((w5.setCell ⟨w.heap.size + 1 + 1, 0, none⟩ (.slice none 0 0)).setCell ⟨w.heap.size + 1 + 1, 1, none⟩ (.int .i64 0)) from ((B0.out.trans (B5.out.mono B0.out.size)).setCell (by show w.heap.size ≤ w.heap.size + 1 + 1; omega) _).setCell (by show w.heap.size ≤ w.heap.size + 1 + 1; omega) _)
  generalize hW : World.setCell _ _ _ = wZ at z4 B4 ⊢
  have hl := run_loadVar_mid (P := Tryd.prog) wZ (w.heap.size + 1 + 1) 0 27 [.slice none 0 0, .int .i64 0] _ (range_of z4) Tryd.underlying27 rfl tapeSz
  exact bodyPost_ret (v := .tuple #[.agg #[.slice none 0 0, .int .i64 0], .int .i64 2]) (results_ct Tryd.results10 rfl hl) rfl ⟨_, rfl, Own.nil _ _, B4.out⟩
set_option maxRecDepth 100000 in
set_option maxHeartbeats 2000000 in
theorem open_over (s : Int) (w : World) (h1 : 0 < s) (h2 : s ≤ 1000) :
    Calls Tryd.prog 20 #[.agg #[.slice none 0 0, .int .i64 s]] w fun e w' => e = .returned (.tuple #[.agg #[.slice none 0 0, .int .i64 0], .bool false]) ∧ Below w.heap.size w w' := by
  have d1 : decide (s < 0) = false := by rw [decide_eq_false_iff_not]; omega
  have d2 : decide (0 < s) = true := by rw [decide_eq_true_eq]; omega
  go_enter Tryd.func20, Tryd.ntmps20
  go_upto_region 1 with fail
  generalize hW : World.alloc _ _ = w1
  obtain ⟨X, Y, B0, hz1⟩ := alloc2T hW
  have HB0 := Lib.hid B0
  have c0 := cellAt X 0 rfl
  have c1 := cellAt X 1 rfl
  have HY := Lib.hid Y
  have g0 := cellAt Y 0 rfl
  have g1 := cellAt Y 1 rfl
  have gf := freeAt Y
  clear hW hz1 X Y B0
  go_wp2_with fail
  have z5 := heapSet (o := 1) (heapSet (o := 0) HY.out (.slice none 0 0)) (.int .i64 0)
  have b5 : Below w.heap.size w ((w1.setCell ⟨w.heap.size + 1, 0, none⟩ (.slice none 0 0)).setCell ⟨w.heap.size + 1, 1, none⟩ (.int .i64 0)) := (HB0.out.setCell (by show w.heap.size ≤ w.heap.size + 1; omega) _).setCell (by show w.heap.size ≤ w.heap.size + 1; omega) _
  generalize hW : World.setCell _ _ _ = wZ at z5 b5 ⊢
  have hl := run_loadVar_mid (P := Tryd.prog) wZ (w.heap.size + 1) 0 27 [.slice none 0 0, .int .i64 0] _ (range_of z5) Tryd.underlying27 rfl tapeSz
  exact bodyPost_ret (v := .tuple #[.agg #[.slice none 0 0, .int .i64 0], .bool false]) (results_ct Tryd.results20 rfl hl) rfl ⟨rfl, b5⟩
set_option maxRecDepth 100000 in
set_option maxHeartbeats 2000000 in
theorem sSync_over (s : Int) (w : World) (h1 : 0 < s) (h2 : s ≤ 1000) :
    Calls Tryd.prog 11 #[.agg #[.slice none 0 0, .int .i64 s]] w (TapePost w [] 0 5) := by
  have HOPEN := Lib.hid (fun w => open_over s w h1 h2)
  go_enter Tryd.func11, Tryd.ntmps11
  go_upto_region 1 with fail
  generalize hW : World.alloc _ _ = w1
  obtain ⟨X, Y, B0, hz1⟩ := alloc2T hW
  have HB0 := Lib.hid B0
  have c0 := cellAt X 0 rfl
  have c1 := cellAt X 1 rfl
  have HY := Lib.hid Y
  clear hW hz1 X Y B0
  go_upto_region 2 with (go_at_call 20; refine (HOPEN.out _).mono ?_; rintro e w2 ⟨rfl, hb2⟩; have B2 := Lib.hid hb2; clear hb2)
  have hb3 : Below w1.heap.size w1 (w2.alloc (.cells #[.slice none 0 0, .int .i64 0] 27)) := B2.out.alloc B2.out.size _
  generalize hW : w2.alloc _ = w3 at hb3 ⊢
  have y3 := (hb3.block _ (lt_of_heap HY.out)).trans HY.out
  have HY3 := Lib.hid y3
  have B3 := Lib.hid hb3
  have g0 := cellAt y3 0 rfl
  have g1 := cellAt y3 1 rfl
  have gf := freeAt y3
  clear hW hb3 y3 c0 c1 B2
  go_wp2_with fail
  have z5 := heapSet (o := 1) (heapSet (o := 0) HY3.out (.slice none 0 0)) (.int .i64 0)
  have b5 : Below w.heap.size w ((w3.setCell ⟨w.heap.size + 1, 0, none⟩ (.slice none 0 0)).setCell ⟨w.heap.size + 1, 1, none⟩ (.int .i64 0)) := ((HB0.out.trans (B3.out.mono HB0.out.size)).setCell (by show w.heap.size ≤ w.heap.size + 1; omega) _).setCell (by show w.heap.size ≤ w.heap.size + 1; omega) _
  generalize hW : World.setCell _ _ _ = wZ at z5 b5 ⊢
  have hl := run_loadVar_mid (P := Tryd.prog) wZ (w.heap.size + 1) 0 27 [.slice none 0 0, .int .i64 0] _ (range_of z5) Tryd.underlying27 rfl tapeSz
  exact bodyPost_ret (v := .tuple #[.agg #[.slice none 0 0, .int .i64 0], .int .i64 5]) (results_ct Tryd.results11 rfl hl) rfl ⟨_, rfl, Own.nil _ _, b5⟩
end Go.Proofs.YtdkbajdnckmckaaDoor
