/-
  The walk of conclavekeep.Act once more: its bytes are the call's own.
-/
import Derived.Test.YtcbmmkhbfookjaaDoorAct
set_option linter.unusedVariables false
set_option linter.unusedSimpArgs false
namespace Go.Proofs.YtcbmmkhbfookjaaDoor
open Go.RowKit Go.Con
theorem Own.ofHeapO {w w' : World} {base : Nat} {v : Value} {l : List UInt8} (h : Own w base v l) (hh : ∀ k, v.ownBlock = some k → w'.heap[k]? = w.heap[k]?) : Own w' base v l := by
  obtain ⟨hl, h2⟩ := h
  refine ⟨hl, ?_⟩
  rcases h2 with h2 | ⟨g, cap, cur, rfl, hb, hg, r⟩
  · exact .inl h2
  · exact .inr ⟨g, cap, cur, rfl, hb, by rw [hh g rfl]; exact hg, r⟩
theorem own_setO {w : World} {base b o : Nat} {v x : Value} {l : List UInt8} (h : Own w base v l) (hb : b < base) : Own (w.setCell ⟨b, o, none⟩ x) base v l := by
  refine Own.ofHeapO h (fun k hk => heapSet_ne _ _ ?_)
  obtain ⟨-, h2⟩ := h
  rcases h2 with ⟨rfl, hn⟩ | ⟨g, cap, cur, rfl, hg, r⟩
  · cases hk
  · injection hk with e; subst e; exact Nat.ne_of_gt (Nat.lt_of_lt_of_le hb hg)
set_option maxRecDepth 100000 in
set_option maxHeartbeats 2000000 in
theorem Act_own (x : FeatX) (v : Value) (w : World) (hx : IsFeat w v x) :
    Calls Tryd.prog 11 #[v] w fun e w' => ∃ K N A P bv d, e = .returned (.agg #[.int .i64 K, .int .i64 N, .int .i64 A, .int .i64 P, bv]) ∧ ActOk K N A P d ∧ Own w' w.heap.size bv d ∧ Below w.heap.size w w' := by
  obtain ⟨fk, fa, fb, l⟩ := x
  obtain ⟨dv, rfl, ⟨a1, a2⟩, ⟨b1, b2⟩, ⟨c1, c2⟩, hd⟩ := hx
  dsimp only at a1 a2 b1 b2 c1 c2 hd
  dsimp only
  obtain ⟨da, dc, rfl, hdc, hdm⟩ := hd.slice
  have HD := Lib.hid hd
  obtain ⟨lt, hlt⟩ : ∃ t, t = l.take 90 := ⟨_, rfl⟩
  have hl90 : lt.length ≤ 90 := by rw [hlt]; simp; omega
  have hs := fun (W : World) (h : Rd W (.slice da l.length dc) l) => some_any (.slice da l.length dc) l 90 W h (by decide)
  rw [← hlt] at hs
  have HS := Lib.hid hs
  clear hs hlt
  obtain ⟨q, hq⟩ : ∃ q, q = pick fk 9 := ⟨_, rfl⟩
  have q0 := pick_nonneg fk 9 (by omega)
  have q1 := pick_lt fk 9 (by omega)
  rw [← hq] at q0 q1
  have PQ := Lib.hid hq.symm
  obtain ⟨n, hn⟩ : ∃ n, n = pick fa 5 := ⟨_, rfl⟩
  have n0 := pick_nonneg fa 5 (by omega)
  have n1 := pick_lt fa 5 (by omega)
  rw [← hn] at n0 n1
  have PN := Lib.hid hn.symm
  obtain ⟨at', ha⟩ : ∃ n, n = pick fa 100 := ⟨_, rfl⟩
  have t0 := pick_nonneg fa 100 (by omega)
  have t1 := pick_lt fa 100 (by omega)
  rw [← ha] at t0 t1
  have PA := Lib.hid ha.symm
  obtain ⟨kp, hk⟩ : ∃ n, n = pick fb 100 := ⟨_, rfl⟩
  have p0 := pick_nonneg fb 100 (by omega)
  have p1 := pick_lt fb 100 (by omega)
  rw [← hk] at p0 p1
  have PK := Lib.hid hk.symm
  clear hq hn ha hk hd
  have hc : q = 0 ∨ q = 1 ∨ q = 2 ∨ q = 3 ∨ q = 4 ∨ q = 5 ∨ q = 6 ∨ q = 7 ∨ q = 8 := by omega
  clear q0 q1
  rcases hc with rfl | hc
  · go_enter Tryd.func11, Tryd.ntmps11
    go_upto_region 5 with (go_at_call 10; refine (picked_toA _ _ _ _ (by assumption) (by assumption) (by decide) (by assumption)).mono ?_; rintro e _ ⟨rfl, rfl⟩)
    generalize hW : World.alloc _ _ = w0
    have G := Lib.hid (alloc3A hW)
    have D0 := Lib.hid (HD.out.stay G.out.2.2.2.1)
    have y3 : w0.cell? ⟨w.heap.size, 3, none⟩ = some (.slice da l.length dc) := cellAt G.out.1 3 rfl
    clear hW
    go_upto_region 17 with (go_at_call 18; refine (HS.out _ D0.out).mono ?_; rintro e w1 ⟨v1, rfl, ho1, hb1⟩; have O1 := Lib.hid ho1; obtain ⟨sa, sc, rfl, -, -⟩ := ho1.rd.slice; have B1 := Lib.hid hb1; have z1 := (hb1.block _ (lt_of_heap G.out.2.2.1)).trans G.out.2.2.1; have x4 : w1.cell? ⟨w.heap.size + 1 + 1, 4, none⟩ = some (.slice none 0 0) := cellAt z1 4 rfl; have xf := freeAt z1; clear ho1 hb1)
    generalize hW : World.setCell _ _ _ = w2
    have z2 : w2.heap[w.heap.size + 1 + 1]? = some (.cells #[.int .i64 1, .int .i64 n, .int .i64 0, .int .i64 0, .slice sa lt.length sc] 32 (0, 0)) := by rw [← hW]; exact heapSet z1 _
    have z3 : w2.heap[w.heap.size + 1]? = some (.cells #[.int .i64 0, .int .i64 0, .int .i64 0, .int .i64 0, .slice none 0 0] 32 (0, 0)) := by
      rw [← hW, heapSet_ne _ _ (by omega)]
      exact (B1.out.block _ (lt_of_heap G.out.2.1)).trans G.out.2.1
    have B2 := Lib.hid (show Below w.heap.size w w2 by rw [← hW]; exact (G.out.2.2.2.1.trans (B1.out.mono G.out.2.2.2.1.size)).setCell (by show w.heap.size ≤ w.heap.size + 1 + 1; omega) _)
    have O2 := Lib.hid (show Own w2 w.heap.size (.slice sa lt.length sc) lt by rw [← hW]; exact (own_setO O1.out (by have := G.out.2.2.2.2; omega)).mono (by have := G.out.2.2.2.2; omega))
    clear hW z1 x4 xf
    have Z2 := Lib.hid z2
    have Z3 := Lib.hid z3
    have a0 : w2.cell? ⟨w.heap.size + 1 + 1, 0, none⟩ = some (.int .i64 1) := cellAt z2 0 rfl
    have a1 : w2.cell? ⟨w.heap.size + 1 + 1, 1, none⟩ = some (.int .i64 n) := cellAt z2 1 rfl
    have a2 : w2.cell? ⟨w.heap.size + 1 + 1, 2, none⟩ = some (.int .i64 0) := cellAt z2 2 rfl
    have a3 : w2.cell? ⟨w.heap.size + 1 + 1, 3, none⟩ = some (.int .i64 0) := cellAt z2 3 rfl
    have a4 : w2.cell? ⟨w.heap.size + 1 + 1, 4, none⟩ = some (.slice sa lt.length sc) := cellAt z2 4 rfl
    have c0 : w2.cell? ⟨w.heap.size + 1, 0, none⟩ = some (.int .i64 0) := cellAt z3 0 rfl
    have c1 : w2.cell? ⟨w.heap.size + 1, 1, none⟩ = some (.int .i64 0) := cellAt z3 1 rfl
    have c2 : w2.cell? ⟨w.heap.size + 1, 2, none⟩ = some (.int .i64 0) := cellAt z3 2 rfl
    have c3 : w2.cell? ⟨w.heap.size + 1, 3, none⟩ = some (.int .i64 0) := cellAt z3 3 rfl
    have c4 : w2.cell? ⟨w.heap.size + 1, 4, none⟩ = some (.slice none 0 0) := cellAt z3 4 rfl
    have cf := freeAt z3
    clear z2 z3
    go_wp2_with fail
    generalize hW : World.setCell _ _ _ = w3
    have z4 : w3.heap[w.heap.size + 1]? = some (.cells #[.int .i64 1, .int .i64 n, .int .i64 0, .int .i64 0, .slice sa lt.length sc] 32 (0, 0)) := by
      rw [← hW]; exact heapSet (heapSet (heapSet (heapSet (heapSet Z3.out _) _) _) _) _
    have hb3 : Below w.heap.size w w3 := by
      rw [← hW]
      have h : w.heap.size ≤ w.heap.size + 1 := by omega
      exact ((((B2.out.setCell h _).setCell h _).setCell h _).setCell h _).setCell h _
    have hr3 : Own w3 w.heap.size (.slice sa lt.length sc) lt := by
      refine Own.ofHeapO O2.out (fun k hk => ?_)
      have hne : k ≠ w.heap.size + 1 := by
        obtain ⟨-, h2⟩ := O1.out
        have hs := G.out.2.2.2.2
        rcases h2 with ⟨h3, hn⟩ | ⟨g, cap, cur, h3, hg, r⟩
        · injection h3 with h4; subst h4; cases hk
        · injection h3 with h4; subst h4; injection hk with h5
          have h6 : g = k := h5
          omega
      rw [← hW, heapSet_ne _ _ hne, heapSet_ne _ _ hne, heapSet_ne _ _ hne, heapSet_ne _ _ hne, heapSet_ne _ _ hne]
    clear hW c0 c1 c2 c3 c4 a0 a1 a2 a3 a4
    have a0 : w3.cell? ⟨w.heap.size + 1, 0, none⟩ = some (.int .i64 1) := cellAt z4 0 rfl
    have a1 : w3.cell? ⟨w.heap.size + 1, 1, none⟩ = some (.int .i64 n) := cellAt z4 1 rfl
    have a2 : w3.cell? ⟨w.heap.size + 1, 2, none⟩ = some (.int .i64 0) := cellAt z4 2 rfl
    have a3 : w3.cell? ⟨w.heap.size + 1, 3, none⟩ = some (.int .i64 0) := cellAt z4 3 rfl
    have a4 : w3.cell? ⟨w.heap.size + 1, 4, none⟩ = some (.slice sa lt.length sc) := cellAt z4 4 rfl
    refine bodyPost_ret (v := .agg #[.int .i64 1, .int .i64 n, .int .i64 0, .int .i64 0, .slice sa lt.length sc]) ?_ rfl ⟨1, n, 0, 0, .slice sa lt.length sc, lt, rfl, ?_, hr3, hb3⟩
    · simp [results, Tryd.results11, go_sem, a0, a1, a2, a3, a4]
    · unfold ActOk; simp; omega
  · rcases hc with rfl | rfl | rfl | rfl | rfl | rfl | rfl | rfl
    · go_enter Tryd.func11, Tryd.ntmps11
      go_wp2_with (go_at_call 10; refine (picked_toA _ _ _ _ (by assumption) (by assumption) (by decide) (by assumption)).mono ?_; rintro e _ ⟨rfl, rfl⟩)
      refine bodyPost_ret (v := .agg #[.int .i64 2, .int .i64 n, .int .i64 0, .int .i64 0, .slice none 0 0]) ?_ rfl ⟨2, n, 0, 0, .slice none 0 0, [], rfl, ?_, Own.nil _ _, ?_⟩
      · simp [results, Tryd.results11, go_sem]
      · unfold ActOk; simp; try omega
      · exact (((Below.refl _ _).alloc (Nat.le_refl _) _).alloc (by simp) _).alloc (by simp; omega) _
    · go_enter Tryd.func11, Tryd.ntmps11
      go_wp2_with (go_at_call 10; refine (picked_toA _ _ _ _ (by assumption) (by assumption) (by decide) (by assumption)).mono ?_; rintro e _ ⟨rfl, rfl⟩)
      refine bodyPost_ret (v := .agg #[.int .i64 3, .int .i64 n, .int .i64 0, .int .i64 0, .slice none 0 0]) ?_ rfl ⟨3, n, 0, 0, .slice none 0 0, [], rfl, ?_, Own.nil _ _, ?_⟩
      · simp [results, Tryd.results11, go_sem]
      · unfold ActOk; simp; try omega
      · exact (((Below.refl _ _).alloc (Nat.le_refl _) _).alloc (by simp) _).alloc (by simp; omega) _
    · go_enter Tryd.func11, Tryd.ntmps11
      go_wp2_with (go_at_call 10; refine (picked_toA _ _ _ _ (by assumption) (by assumption) (by decide) (by assumption)).mono ?_; rintro e _ ⟨rfl, rfl⟩)
      refine bodyPost_ret (v := .agg #[.int .i64 4, .int .i64 0, .int .i64 at', .int .i64 0, .slice none 0 0]) ?_ rfl ⟨4, 0, at', 0, .slice none 0 0, [], rfl, ?_, Own.nil _ _, ?_⟩
      · simp [results, Tryd.results11, go_sem]
      · unfold ActOk; simp; try omega
      · exact (((Below.refl _ _).alloc (Nat.le_refl _) _).alloc (by simp) _).alloc (by simp; omega) _
    · go_enter Tryd.func11, Tryd.ntmps11
      go_wp2_with (go_at_call 10; refine (picked_toA _ _ _ _ (by assumption) (by assumption) (by decide) (by assumption)).mono ?_; rintro e _ ⟨rfl, rfl⟩)
      refine bodyPost_ret (v := .agg #[.int .i64 5, .int .i64 0, .int .i64 at', .int .i64 0, .slice none 0 0]) ?_ rfl ⟨5, 0, at', 0, .slice none 0 0, [], rfl, ?_, Own.nil _ _, ?_⟩
      · simp [results, Tryd.results11, go_sem]
      · unfold ActOk; simp; try omega
      · exact (((Below.refl _ _).alloc (Nat.le_refl _) _).alloc (by simp) _).alloc (by simp; omega) _
    · go_enter Tryd.func11, Tryd.ntmps11
      go_wp2_with (go_at_call 10; refine (picked_toA _ _ _ _ (by assumption) (by assumption) (by decide) (by assumption)).mono ?_; rintro e _ ⟨rfl, rfl⟩)
      refine bodyPost_ret (v := .agg #[.int .i64 6, .int .i64 0, .int .i64 at', .int .i64 0, .slice none 0 0]) ?_ rfl ⟨6, 0, at', 0, .slice none 0 0, [], rfl, ?_, Own.nil _ _, ?_⟩
      · simp [results, Tryd.results11, go_sem]
      · unfold ActOk; simp; try omega
      · exact (((Below.refl _ _).alloc (Nat.le_refl _) _).alloc (by simp) _).alloc (by simp; omega) _
    · go_enter Tryd.func11, Tryd.ntmps11
      go_wp2_with (go_at_call 10; refine (picked_toA _ _ _ _ (by assumption) (by assumption) (by decide) (by assumption)).mono ?_; rintro e _ ⟨rfl, rfl⟩)
      refine bodyPost_ret (v := .agg #[.int .i64 7, .int .i64 0, .int .i64 0, .int .i64 0, .slice none 0 0]) ?_ rfl ⟨7, 0, 0, 0, .slice none 0 0, [], rfl, ?_, Own.nil _ _, ?_⟩
      · simp [results, Tryd.results11, go_sem]
      · unfold ActOk; simp; try omega
      · exact (((Below.refl _ _).alloc (Nat.le_refl _) _).alloc (by simp) _).alloc (by simp; omega) _
    · go_enter Tryd.func11, Tryd.ntmps11
      go_wp2_with (go_at_call 10; refine (picked_toA _ _ _ _ (by assumption) (by assumption) (by decide) (by assumption)).mono ?_; rintro e _ ⟨rfl, rfl⟩)
      refine bodyPost_ret (v := .agg #[.int .i64 8, .int .i64 n, .int .i64 0, .int .i64 kp, .slice none 0 0]) ?_ rfl ⟨8, n, 0, kp, .slice none 0 0, [], rfl, ?_, Own.nil _ _, ?_⟩
      · simp [results, Tryd.results11, go_sem]
      · unfold ActOk; simp; try omega
      · exact (((Below.refl _ _).alloc (Nat.le_refl _) _).alloc (by simp) _).alloc (by simp; omega) _
    · go_enter Tryd.func11, Tryd.ntmps11
      go_wp2_with (go_at_call 10; refine (picked_toA _ _ _ _ (by assumption) (by assumption) (by decide) (by assumption)).mono ?_; rintro e _ ⟨rfl, rfl⟩)
      refine bodyPost_ret (v := .agg #[.int .i64 9, .int .i64 n, .int .i64 0, .int .i64 0, .slice none 0 0]) ?_ rfl ⟨9, n, 0, 0, .slice none 0 0, [], rfl, ?_, Own.nil _ _, ?_⟩
      · simp [results, Tryd.results11, go_sem]
      · unfold ActOk; simp; try omega
      · exact (((Below.refl _ _).alloc (Nat.le_refl _) _).alloc (by simp) _).alloc (by simp; omega) _
end Go.Proofs.YtcbmmkhbfookjaaDoor
