/-
  The walk of ActBare.
-/
import Derived.Test.YtcbmmkhbfookjaaLnK
set_option linter.unusedVariables false
set_option linter.unusedSimpArgs false
namespace Go.Con
open Go
theorem actOk_kinds {K N A P : Int} {d : List UInt8} (h : ActOk K N A P d) : (1 ≤ K ∧ K ≤ 9) ∧ 0 ≤ N ∧ N < 5 ∧ d.length ≤ 90 := by
  unfold ActOk at h
  rcases h with ⟨rfl, h⟩ | ⟨h, h1, h2, h3, h4, rfl⟩ | ⟨h, rfl, h1, h2, h3, rfl⟩ | ⟨rfl, rfl, h1, h2, rfl⟩ | ⟨rfl, h1, h2, h3, h4, h5, rfl⟩ <;> simp <;> omega
theorem code_a {K N A P : Int} {d : List UInt8} (h : ActOk K N A P d) : actCode K N A P d.length = 0 := by
  unfold ActOk at h
  rcases h with ⟨rfl, h1, h2, rfl, rfl, h3⟩ | ⟨rfl | rfl | rfl, h1, h2, rfl, rfl, rfl⟩ | ⟨rfl | rfl | rfl, rfl, h1, h2, rfl, rfl⟩ | ⟨rfl, rfl, rfl, rfl, rfl⟩ | ⟨rfl, h1, h2, rfl, h4, h5, rfl⟩ <;> simp [actCode, slotsOf, slotBad, zeros] <;> omega
theorem code_0 {K N A P : Int} {d : List UInt8} (h : ActOk K N A P d) : actCode K (N + 1) A P d.length = if K = 7 ∨ (4 ≤ K ∧ K ≤ 6) then 3 else if N + 1 < 5 then 0 else 2 := by
  unfold ActOk at h
  rcases h with ⟨rfl, h1, h2, rfl, rfl, h3⟩ | ⟨rfl | rfl | rfl, h1, h2, rfl, rfl, rfl⟩ | ⟨rfl | rfl | rfl, rfl, h1, h2, rfl, rfl⟩ | ⟨rfl, rfl, rfl, rfl, rfl⟩ | ⟨rfl, h1, h2, rfl, h4, h5, rfl⟩ <;> simp [actCode, slotsOf, slotBad, zeros] <;> (try split) <;> (try split) <;> omega
theorem code_1 {K N A P : Int} {d : List UInt8} (h : ActOk K N A P d) : actCode K N A 7 d.length = if K = 8 then 0 else 3 := by
  unfold ActOk at h
  rcases h with ⟨rfl, h1, h2, rfl, rfl, h3⟩ | ⟨rfl | rfl | rfl, h1, h2, rfl, rfl, rfl⟩ | ⟨rfl | rfl | rfl, rfl, h1, h2, rfl, rfl⟩ | ⟨rfl, rfl, rfl, rfl, rfl⟩ | ⟨rfl, h1, h2, rfl, h4, h5, rfl⟩ <;> simp [actCode, slotsOf, slotBad, zeros] <;> omega
theorem code_2 {K N A P : Int} {d : List UInt8} (h : ActOk K N A P d) : actCode K N 7 P d.length = if 4 ≤ K ∧ K ≤ 6 then 0 else 3 := by
  unfold ActOk at h
  rcases h with ⟨rfl, h1, h2, rfl, rfl, h3⟩ | ⟨rfl | rfl | rfl, h1, h2, rfl, rfl, rfl⟩ | ⟨rfl | rfl | rfl, rfl, h1, h2, rfl, rfl⟩ | ⟨rfl, rfl, rfl, rfl, rfl⟩ | ⟨rfl, h1, h2, rfl, h4, h5, rfl⟩ <;> simp [actCode, slotsOf, slotBad, zeros] <;> omega
theorem code_3 {K N A P : Int} {d : List UInt8} (h : ActOk K N A P d) : actCode K N A P 1 = if K = 1 then 0 else 3 := by
  unfold ActOk at h
  rcases h with ⟨rfl, h1, h2, rfl, rfl, h3⟩ | ⟨rfl | rfl | rfl, h1, h2, rfl, rfl, rfl⟩ | ⟨rfl | rfl | rfl, rfl, h1, h2, rfl, rfl⟩ | ⟨rfl, rfl, rfl, rfl, rfl⟩ | ⟨rfl, h1, h2, rfl, h4, h5, rfl⟩ <;> simp [actCode, slotsOf, slotBad, zeros] <;> omega
end Go.Con
namespace Go.Proofs.Ytcbmmkhbfookjaa
open Go.RowKit Go.Con
theorem LCheck_to (k n a p : Int) (dv : Value) (l : List UInt8) (c : Int) (w : World) (hk : 1 ≤ k ∧ k ≤ 9) (hd : Rd w dv l) (hc : Hid (actCode k n a p l.length = c)) :
    Calls Try.prog 6 #[.agg #[.int .i64 k, .int .i64 n, .int .i64 a, .int .i64 p, dv]] w fun e w' => e = .returned (.int .i64 c) ∧ Below w.heap.size w w' := by
  have h := LCheck_any k n a p dv l w hk.1 hk.2 hd
  rw [hc.out] at h
  exact h
/-- an act in a variable -/
def ActIn (w : World) (b : Nat) (K N A P : Int) (bv : Value) : Prop := w.heap[b]? = some (.cells #[.int .i64 K, .int .i64 N, .int .i64 A, .int .i64 P, bv] 26 (0, 0))
theorem ActIn.cells {w : World} {b : Nat} {K N A P : Int} {bv : Value} (h : ActIn w b K N A P bv) :
    w.cell? ⟨b, 0, none⟩ = some (.int .i64 K) ∧ w.cell? ⟨b, 1, none⟩ = some (.int .i64 N) ∧ w.cell? ⟨b, 2, none⟩ = some (.int .i64 A) ∧ w.cell? ⟨b, 3, none⟩ = some (.int .i64 P) ∧ w.cell? ⟨b, 4, none⟩ = some bv ∧ (∀ o, w.frozen? ⟨b, o, none⟩ = false) :=
  ⟨cellAt h 0 rfl, cellAt h 1 rfl, cellAt h 2 rfl, cellAt h 3 rfl, cellAt h 4 rfl, freeAt h⟩
theorem ActIn.stay {w w' : World} {b : Nat} {K N A P : Int} {bv : Value} (h : ActIn w b K N A P bv) (hb : Below w.heap.size w w') : ActIn w' b K N A P bv := (hb.block b (lt_of_heap h)).trans h
set_option maxRecDepth 100000 in
set_option maxHeartbeats 4000000 in
theorem walk_ActBare (v : Value) (x : FeatX) (u : Value) (wh : Int) (w : World) (hx : IsFeat w v x) (hu : IsInt u wh) :
    Calls Try.prog 3 #[v, u] w fun e w' => e = .returned (.bool true) ∧ Below w.heap.size w w' := by
  obtain ⟨rfl, hu1, hu2⟩ := hu
  have HX := Lib.hid hx
  obtain ⟨dv0, rfl, ⟨a1, a2⟩, ⟨b1, b2⟩, ⟨c1, c2⟩, hd⟩ := hx
  obtain ⟨da, dc, rfl, -, -⟩ := hd.slice
  obtain ⟨q, hq⟩ : ∃ q, q = pick wh 4 := ⟨_, rfl⟩
  have q0 := pick_nonneg wh 4 (by omega)
  have q1 := pick_lt wh 4 (by omega)
  rw [← hq] at q0 q1
  have PQ := Lib.hid hq.symm
  clear hq hd
  have hact := Lib.hid (fun W (hW : Below w.heap.size w W) => Act_any x _ W (by
    obtain ⟨dv, h1, h2, h3, h4, h5⟩ := HX.out
    exact ⟨dv, h1, h2, h3, h4, h5.stay hW⟩))
  go_enter Try.func3, Try.ntmps3
  go_upto_region 2 with (go_at_call 4; refine (hact.out _ ((Below.refl _ _).alloc (Nat.le_refl _) _)).mono ?_; rintro e w1 ⟨K, N, A, P, bv, d, rfl, hok, hrd, hb1⟩; have OK := Lib.hid hok; have RD1 := Lib.hid hrd; obtain ⟨sa, sc, rfl, -, -⟩ := hrd.slice; have B1 := Lib.hid hb1; clear hok hrd hb1)
  go_upto_region 3 with fail
  generalize hW : World.alloc _ _ = w2
  have IA : ActIn w2 w1.heap.size K N A P (.slice sa d.length sc) := by
    unfold ActIn; rw [← hW, heapOld _ _ _ (by simp)]; exact heapNew _ _
  have IB : ActIn w2 (w1.heap.size + 1) K N A P (.slice sa d.length sc) := by
    unfold ActIn; rw [← hW]
    have h := heapNew (w1.alloc (.cells #[.int .i64 K, .int .i64 N, .int .i64 A, .int .i64 P, .slice sa d.length sc] 26)) (.cells #[.int .i64 K, .int .i64 N, .int .i64 A, .int .i64 P, .slice sa d.length sc] 26)
    have e : (w1.alloc (.cells #[.int .i64 K, .int .i64 N, .int .i64 A, .int .i64 P, .slice sa d.length sc] 26)).heap.size = w1.heap.size + 1 := by simp
    rwa [e] at h
  have B2 := Lib.hid (show Below w1.heap.size w1 w2 by rw [← hW]; exact ((Below.refl _ _).alloc (Nat.le_refl _) _).alloc (by simp) _)
  have BW := Lib.hid (show Below w.heap.size w w1 from ((Below.refl _ _).alloc (Nat.le_refl _) _).trans (B1.out.mono (by simp)))
  have IA2 := Lib.hid IA
  have IB2 := Lib.hid IB
  have hS2 : w2.heap.size = w1.heap.size + 1 + 1 := by rw [← hW]; simp
  have HS2 := Lib.hid hS2
  have hb1 := BW.out.size
  clear hW IA IB hact HX a1 a2 b1 b2 c1 c2 B1 hS2
  obtain ⟨hK, hN0, hN1, hd90⟩ := actOk_kinds OK.out
  obtain ⟨n0, n1, n2, n3, n4, nf⟩ := IB2.out.cells
  have hqc : q = 0 ∨ q = 1 ∨ q = 2 ∨ q = 3 := by omega
  clear q0 q1
  rcases hqc with rfl | rfl | rfl | rfl
  · go_upto_region 7 with (go_at_call 5; refine (picked_toA _ _ _ _ (by assumption) (by assumption) (by decide) (by assumption)).mono ?_; rintro e _ ⟨rfl, rfl⟩)
    clear n0 n1 n2 n3 n4 nf
    generalize hW : World.setCell _ _ _ = w3
    have IB3 : ActIn w3 (w1.heap.size + 1) K (N + 1) A P (.slice sa d.length sc) := by rw [← hW]; exact heapSet IB2.out _
    have IA3 : ActIn w3 w1.heap.size K N A P (.slice sa d.length sc) := by rw [← hW]; exact (heapSet_ne _ _ (by omega)).trans IA2.out
    have B3 := Lib.hid (show Below w1.heap.size w1 w3 by rw [← hW]; exact B2.out.setCell (by show w1.heap.size ≤ w1.heap.size + 1; omega) _)
    clear hW
    have IA3h := Lib.hid IA3
    have IB3h := Lib.hid IB3
    obtain ⟨m0, m1, m2, m3, m4, mf⟩ := IB3.cells
    have C0 : Hid (actCode K (N + 1) A P d.length = _) := Lib.hid (code_0 OK.out)
    have CA : Hid (actCode K N A P d.length = 0) := Lib.hid (code_a OK.out)
    generalize hc0 : (if K = 7 ∨ (4 ≤ K ∧ K ≤ 6) then (3 : Int) else if N + 1 < 5 then 0 else 2) = c0 at C0
    have HC0 := Lib.hid hc0
    have R3 := Lib.hid (RD1.out.stay B3.out)
    clear hc0 IA3 IB3
    go_upto_region 8 with (go_at_call 6; refine (LCheck_to _ _ _ _ _ d _ _ hK R3.out C0).mono ?_; rintro e w4 ⟨rfl, hb4⟩; have B4 := Lib.hid hb4; clear hb4)
    clear m0 m1 m2 m3 m4 mf
    obtain ⟨y0, y1, y2, y3, y4, yf⟩ := (IA3h.out.stay B4.out).cells
    obtain ⟨z0, z1, z2, z3, z4, zf⟩ := (IB3h.out.stay B4.out).cells
    have R4 := Lib.hid (R3.out.stay B4.out)
    have hc : (c0 = 3 ∧ (((K == 7) = true) ∨ ((K == 7) = false ∧ decide (4 ≤ K) = true ∧ decide (K ≤ 6) = true))) ∨ (((K == 7) = false) ∧ ((decide (4 ≤ K) = false) ∨ (decide (4 ≤ K) = true ∧ decide (K ≤ 6) = false)) ∧ ((c0 = 0 ∧ decide (N + 1 < 5) = true) ∨ (c0 = 2 ∧ decide (N + 1 < 5) = false))) := by
      have h := HC0.out
      simp only [beq_iff_eq, beq_eq_false_iff_ne, ne_eq, decide_eq_true_eq, decide_eq_false_iff_not]
      split at h
      · omega
      · split at h <;> omega
    rcases hc with ⟨rfl, hA | ⟨hA, hB, hC⟩⟩ | ⟨hA, hB | ⟨hB, hC⟩, ⟨rfl, hD⟩ | ⟨rfl, hD⟩⟩
    all_goals
      go_wp2_with (go_at_call 6; refine (LCheck_to _ _ _ _ _ d _ _ hK R4.out CA).mono ?_; rintro e w5 ⟨rfl, hb5⟩; have B5 := Lib.hid hb5; clear hb5; obtain ⟨t0, t1, t2, t3, t4, tf⟩ := ((IB3h.out.stay B4.out).stay B5.out).cells)
      go_ret
      exact ⟨rfl, (BW.out.trans (B3.out.mono hb1)).trans ((B4.out.trans (B5.out.mono B4.out.size)).mono (Nat.le_trans hb1 B3.out.size))⟩
  · go_upto_region 13 with (go_at_call 5; refine (picked_toA _ _ _ _ (by assumption) (by assumption) (by decide) (by assumption)).mono ?_; rintro e _ ⟨rfl, rfl⟩)
    clear n0 n1 n2 n3 n4 nf
    generalize hW : World.setCell _ _ _ = w3
    have IB3 : ActIn w3 (w1.heap.size + 1) K N A 7 (.slice sa d.length sc) := by rw [← hW]; exact heapSet IB2.out _
    have IA3 : ActIn w3 w1.heap.size K N A P (.slice sa d.length sc) := by rw [← hW]; exact (heapSet_ne _ _ (by omega)).trans IA2.out
    have B3 := Lib.hid (show Below w1.heap.size w1 w3 by rw [← hW]; exact B2.out.setCell (by show w1.heap.size ≤ w1.heap.size + 1; omega) _)
    clear hW
    have IA3h := Lib.hid IA3
    have IB3h := Lib.hid IB3
    obtain ⟨m0, m1, m2, m3, m4, mf⟩ := IB3.cells
    have C0 : Hid (actCode K N A 7 d.length = _) := Lib.hid (code_1 OK.out)
    have CA : Hid (actCode K N A P d.length = 0) := Lib.hid (code_a OK.out)
    generalize hc0 : (if K = 8 then (0 : Int) else 3) = c0 at C0
    have HC0 := Lib.hid hc0
    have R3 := Lib.hid (RD1.out.stay B3.out)
    clear hc0 IA3 IB3
    go_upto_region 14 with (go_at_call 6; refine (LCheck_to _ _ _ _ _ d _ _ hK R3.out C0).mono ?_; rintro e w4 ⟨rfl, hb4⟩; have B4 := Lib.hid hb4; clear hb4)
    clear m0 m1 m2 m3 m4 mf
    obtain ⟨y0, y1, y2, y3, y4, yf⟩ := (IA3h.out.stay B4.out).cells
    obtain ⟨z0, z1, z2, z3, z4, zf⟩ := (IB3h.out.stay B4.out).cells
    have R4 := Lib.hid (R3.out.stay B4.out)
    have hc : (c0 = 0 ∧ (K == 8) = true) ∨ (c0 = 3 ∧ (K == 8) = false) := by
      have h := HC0.out
      simp only [beq_iff_eq, beq_eq_false_iff_ne, ne_eq, decide_eq_true_eq, decide_eq_false_iff_not]
      split at h <;> omega
    rcases hc with ⟨rfl, hA⟩ | ⟨rfl, hA⟩
    all_goals
      go_wp2_with (go_at_call 6; refine (LCheck_to _ _ _ _ _ d _ _ hK R4.out CA).mono ?_; rintro e w5 ⟨rfl, hb5⟩; have B5 := Lib.hid hb5; clear hb5; obtain ⟨t0, t1, t2, t3, t4, tf⟩ := ((IA3h.out.stay B4.out).stay B5.out).cells)
      go_ret
      exact ⟨rfl, (BW.out.trans (B3.out.mono hb1)).trans ((B4.out.trans (B5.out.mono B4.out.size)).mono (Nat.le_trans hb1 B3.out.size))⟩
  · go_upto_region 17 with (go_at_call 5; refine (picked_toA _ _ _ _ (by assumption) (by assumption) (by decide) (by assumption)).mono ?_; rintro e _ ⟨rfl, rfl⟩)
    clear n0 n1 n2 n3 n4 nf
    generalize hW : World.setCell _ _ _ = w3
    have IB3 : ActIn w3 (w1.heap.size + 1) K N 7 P (.slice sa d.length sc) := by rw [← hW]; exact heapSet IB2.out _
    have IA3 : ActIn w3 w1.heap.size K N A P (.slice sa d.length sc) := by rw [← hW]; exact (heapSet_ne _ _ (by omega)).trans IA2.out
    have B3 := Lib.hid (show Below w1.heap.size w1 w3 by rw [← hW]; exact B2.out.setCell (by show w1.heap.size ≤ w1.heap.size + 1; omega) _)
    clear hW
    have IA3h := Lib.hid IA3
    have IB3h := Lib.hid IB3
    obtain ⟨m0, m1, m2, m3, m4, mf⟩ := IB3.cells
    have C0 : Hid (actCode K N 7 P d.length = _) := Lib.hid (code_2 OK.out)
    have CA : Hid (actCode K N A P d.length = 0) := Lib.hid (code_a OK.out)
    generalize hc0 : (if 4 ≤ K ∧ K ≤ 6 then (0 : Int) else 3) = c0 at C0
    have HC0 := Lib.hid hc0
    have R3 := Lib.hid (RD1.out.stay B3.out)
    clear hc0 IA3 IB3
    go_upto_region 18 with (go_at_call 6; refine (LCheck_to _ _ _ _ _ d _ _ hK R3.out C0).mono ?_; rintro e w4 ⟨rfl, hb4⟩; have B4 := Lib.hid hb4; clear hb4)
    clear m0 m1 m2 m3 m4 mf
    obtain ⟨y0, y1, y2, y3, y4, yf⟩ := (IA3h.out.stay B4.out).cells
    obtain ⟨z0, z1, z2, z3, z4, zf⟩ := (IB3h.out.stay B4.out).cells
    have R4 := Lib.hid (R3.out.stay B4.out)
    have hc : (c0 = 0 ∧ decide (4 ≤ K) = true ∧ decide (K ≤ 6) = true) ∨ (c0 = 3 ∧ (decide (4 ≤ K) = false ∨ (decide (4 ≤ K) = true ∧ decide (K ≤ 6) = false))) := by
      have h := HC0.out
      simp only [beq_iff_eq, beq_eq_false_iff_ne, ne_eq, decide_eq_true_eq, decide_eq_false_iff_not]
      split at h <;> omega
    rcases hc with ⟨rfl, hA, hB⟩ | ⟨rfl, hA | ⟨hA, hB⟩⟩
    all_goals
      go_wp2_with (go_at_call 6; refine (LCheck_to _ _ _ _ _ d _ _ hK R4.out CA).mono ?_; rintro e w5 ⟨rfl, hb5⟩; have B5 := Lib.hid hb5; clear hb5; obtain ⟨t0, t1, t2, t3, t4, tf⟩ := ((IA3h.out.stay B4.out).stay B5.out).cells)
      go_ret
      exact ⟨rfl, (BW.out.trans (B3.out.mono hb1)).trans ((B4.out.trans (B5.out.mono B4.out.size)).mono (Nat.le_trans hb1 B3.out.size))⟩
  · have hlt : w1.heap.size + 1 < w2.heap.size := by have := HS2.out; omega
    go_upto_region 20 with (go_at_call 5; refine (picked_toA _ _ _ _ (by assumption) (by assumption) (by decide) (by assumption)).mono ?_; rintro e _ ⟨rfl, rfl⟩)
    clear n0 n1 n2 n3 n4 nf
    generalize hW : World.alloc _ _ = w3
    have hs2 := HS2.out
    have IB3 : ActIn w3 (w1.heap.size + 1) K N A P (.slice (some ⟨w2.heap.size, 0, none⟩) 1 1) := by
      unfold ActIn; rw [← hW, heapOld _ _ _ (by simpa using hlt)]; exact heapSet IB2.out _
    have IA3 : ActIn w3 w1.heap.size K N A P (.slice sa d.length sc) := by
      unfold ActIn; rw [← hW, heapOld _ _ _ (by simp; omega)]; exact (heapSet_ne _ _ (by omega)).trans IA2.out
    have B3 := Lib.hid (show Below w1.heap.size w1 w3 by rw [← hW]; exact (B2.out.setCell (by show w1.heap.size ≤ w1.heap.size + 1; omega) _).alloc (by simpa using B2.out.size) _)
    have ROW : Hid (Rd w3 (.slice (some ⟨w2.heap.size, 0, none⟩) 1 1) [1]) := Lib.hid (by
      rw [← hW]
      have h := newB (w2.setCell ⟨w1.heap.size + 1, 4, none⟩ (.slice (some ⟨w2.heap.size, 0, none⟩) 1 1)) 1 1 rfl
      have e : (w2.setCell ⟨w1.heap.size + 1, 4, none⟩ (.slice (some ⟨w2.heap.size, 0, none⟩) 1 1)).heap.size = w2.heap.size := by simp
      rw [e] at h
      exact h)
    clear hW hs2 hlt
    have IA3h := Lib.hid IA3
    have IB3h := Lib.hid IB3
    obtain ⟨m0, m1, m2, m3, m4, mf⟩ := IB3.cells
    have C0 : Hid (actCode K N A P ([1] : List UInt8).length = _) := Lib.hid (code_3 OK.out)
    have CA : Hid (actCode K N A P d.length = 0) := Lib.hid (code_a OK.out)
    generalize hc0 : (if K = 1 then (0 : Int) else 3) = c0 at C0
    have HC0 := Lib.hid hc0
    have R3 := Lib.hid (RD1.out.stay B3.out)
    clear hc0 IA3 IB3
    go_upto_region 21 with (go_at_call 6; refine (LCheck_to _ _ _ _ _ [1] _ _ hK ROW.out C0).mono ?_; rintro e w4 ⟨rfl, hb4⟩; have B4 := Lib.hid hb4; clear hb4)
    clear m0 m1 m2 m3 m4 mf
    obtain ⟨y0, y1, y2, y3, y4, yf⟩ := (IA3h.out.stay B4.out).cells
    obtain ⟨z0, z1, z2, z3, z4, zf⟩ := (IB3h.out.stay B4.out).cells
    have R4 := Lib.hid (R3.out.stay B4.out)
    have hc : (c0 = 0 ∧ (K == 1) = true) ∨ (c0 = 3 ∧ (K == 1) = false) := by
      have h := HC0.out
      simp only [beq_iff_eq, beq_eq_false_iff_ne, ne_eq, decide_eq_true_eq, decide_eq_false_iff_not]
      split at h <;> omega
    rcases hc with ⟨rfl, hA⟩ | ⟨rfl, hA⟩
    all_goals
      go_wp2_with (go_at_call 6; refine (LCheck_to _ _ _ _ _ d _ _ hK R4.out CA).mono ?_; rintro e w5 ⟨rfl, hb5⟩; have B5 := Lib.hid hb5; clear hb5; obtain ⟨t0, t1, t2, t3, t4, tf⟩ := ((IA3h.out.stay B4.out).stay B5.out).cells)
      go_ret
      exact ⟨rfl, (BW.out.trans (B3.out.mono hb1)).trans ((B4.out.trans (B5.out.mono B4.out.size)).mono (Nat.le_trans hb1 B3.out.size))⟩
end Go.Proofs.Ytcbmmkhbfookjaa
