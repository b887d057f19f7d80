/-
  The walk of conclavekeep.StableAgain: a tape that was repaired needs no repair, and a crash takes nothing that was synced.
-/
import Derived.Test.YtdkbajdnckmckaaDoorMg12
import Derived.Test.YtdkbajdnckmckaaDoorMg2
import Derived.Test.YtdkbajdnckmckaaDoorMg3
import Derived.Deep.RegionLaw
set_option linter.unusedVariables false
set_option linter.unusedSimpArgs false
namespace Go.Proofs.YtdkbajdnckmckaaDoor
open Go.RowKit Go.Con

theorem step_callB {P : Program} {ops : Array Oper} {o : Oper} {a : Act} {w : World} {K : Act → World → Prop} {Q : Exit → Act → World → Prop} {E : Prop} (hg : o.guard = none) (f : FuncId) (args : Array Value) (he : (execOp a.eval o).run P w = .ok (.enter f args) w)
    (h : Calls P f args w fun e w' => ∃ v, e = .returned v ∧ K (a.put o.dst v) w') : if Region.wanted o (yielded ops a.tmps) = true then Oper.wp P o a w K Q else E := by
  have hw : Region.wanted o (yielded ops a.tmps) = true := by simp [Region.wanted, hg]
  rw [if_pos hw]
  unfold Oper.wp
  rw [he, Oper.upon_enter]
  refine h.mono ?_
  rintro e w' ⟨v, rfl, hk⟩
  exact hk
theorem Own.ne {w : World} {base b : Nat} {v : Value} {l : List UInt8} {cs : Array Value} {t : TypeId} {f : Nat × Nat} (h : Own w base v l) (hx : w.heap[b]? = some (.cells cs t f)) (ht : t ≠ 5) : ∀ k, v.ownBlock = some k → k ≠ b := by
  intro k hk hkb
  obtain ⟨_, h2⟩ := h
  rcases h2 with ⟨rfl, _⟩ | ⟨g, cap, cur, rfl, hg, hh, _⟩
  · cases hk
  · injection hk with hk
    subst hk
    subst hkb
    rw [hx] at hh
    injection hh with hh
    injection hh with _ h3 _
    exact ht h3
theorem Rd.neZ {w : World} {b s : Nat} {v v0 : Value} {l : List UInt8} (h : Rd w v l) {sa : Option Addr} {sn sc : Nat} {z : Int} {t : TypeId} {f : Nat × Nat} (hx : w.heap[b]? = some (.cells #[.slice sa sn sc, .int .i64 z] t f)) (hl : l ≠ []) : ∀ k, v.ownBlock = some k → k ≠ b := by
  intro k hk hkb
  subst hkb
  obtain ⟨a, c, rfl, h1, h2, h3, h4⟩ := h
  obtain ⟨b, off, rfl, hc⟩ := h4 hl
  injection hk with hk
  subst hk
  have hlen : 0 < l.length := List.length_pos_iff.2 hl
  have h0 := hc 0 hlen
  rcases Nat.lt_or_ge off 2 with ho | ho
  · have ho2 : off = 0 ∨ off = 1 := by omega
    rcases ho2 with rfl | rfl
    · rw [Nat.add_zero, cellAt hx 0 rfl] at h0; injection h0 with h0; cases h0
    · rw [Nat.add_zero, cellAt hx 1 rfl] at h0; injection h0 with h0; cases h0
  · have hn : w.cell? ⟨b, off + 0, none⟩ = none := by
      unfold World.cell?
      simp [hx]
      omega
    rw [hn] at h0; cases h0
/-- what the tape's walk asks of Repair, Sync, Crash and Recover -/
theorem again_all (T : List UInt8) (mk : Int) (hT : T.length ≤ 800) (h0 : 0 ≤ mk) (h1 : mk < 50) : ∃ (G : List UInt8) (k : Nat), G.length = k ∧ k ≤ 800 ∧
    (∀ v w, Rd w v T → Kn w → Calls Tryd.prog 18 #[.agg #[v, .int .i64 0]] w (TapePost w G 0 0)) ∧
    (∀ v w, Rd w v G → Kn w → Calls Tryd.prog 18 #[.agg #[v, .int .i64 0]] w (TapePost w G 0 0)) ∧
    (∀ v w, Rd w v G → Calls Tryd.prog 11 #[.agg #[v, .int .i64 0]] w (TapePost w G k 0)) ∧
    (∀ v w, Rd w v G → Calls Tryd.prog 17 #[.agg #[v, .int .i64 k], .int .i64 mk] w (TapeR w G k 0)) ∧
    (∀ v w, Rd w v G → Kn w → Calls Tryd.prog 14 #[.agg #[v, .int .i64 0]] w fun e w' => Below w.heap.size w w' ∧ ∃ x y a1 n1 c1, e = .returned (.tuple #[.agg #[.int .i64 x, .int .i64 y, .slice a1 n1 c1], .int .i64 k, .int .i64 0])) ∧
    (∀ D L a J, Tap Apr.zero D L a → T = D ++ J → D.length ≤ k) := by
  have hle := rcvAll_le T.length Apr.zero T (Nat.le_refl _)
  have hid := rcvAll_idem T.length Apr.zero T (Nat.le_refl _)
  obtain ⟨k, hk⟩ : ∃ k, k = (rcvAll Apr.zero T).2 := ⟨_, rfl⟩
  rw [← hk] at hle hid
  obtain ⟨G, hG⟩ : ∃ G, G = T.take k := ⟨_, rfl⟩
  have hl : G.length = k := by rw [hG, List.length_take]; omega
  rw [← hG] at hid
  have h2 : (rcvAll Apr.zero G).2 = k := by rw [hid, hk]
  have hGG : G.take (rcvAll Apr.zero G).2 = G := by rw [h2, ← hl, List.take_length]
  refine ⟨G, k, hl, by omega, fun v w hv hkn => ?_, fun v w hv hkn => ?_, fun v w hv => ?_, fun v w hv => ?_, fun v w hv hkn => ?_, fun D L a J ht hJ => ?_⟩
  · have h := repair_any v T 0 0 w hv (by decide) (Int.natCast_nonneg _) (by omega) hkn (by omega)
    rw [← hk, ← hG] at h
    exact h
  · have h := repair_any v G 0 0 w hv (by decide) (Int.natCast_nonneg _) (by omega) hkn (by omega)
    rw [hGG] at h
    exact h
  · have h := sSync_ok v G 0 w hv (by decide) (Int.natCast_nonneg _) (by omega)
    rw [hl] at h
    exact h
  · have h := sCrash_ok v G k mk k w hv (Int.natCast_nonneg _) (by omega) (by omega) h0 (by omega) (by omega)
    rw [show G.take k = G by rw [← hl, List.take_length]] at h
    exact h
  · refine (recover_any v G 0 w hv (by decide) (Int.natCast_nonneg _) (by omega) hkn).mono ?_
    rintro e w' ⟨hb, a1, n1, c1, rfl, -⟩
    exact ⟨hb, _, _, _, _, _, by rw [h2]⟩
  · have h := rcvAll_app D.length Apr.zero D J (Nat.le_refl _) (by rw [ht.full])
    rw [← hJ] at h
    rw [hk, h]
    exact Nat.le_add_right _ _
abbrev SC (w : World) (b : Nat) (v : Value) (s : Int) : Prop := w.cell? ⟨b, 0, none⟩ = some v ∧ w.cell? ⟨b, 1, none⟩ = some (.int .i64 s)
theorem SC.stay {w w' : World} {b : Nat} {v : Value} {s : Int} (h : SC w b v s) (h1 : b < w.heap.size) (hb : Below w.heap.size w w') : SC w' b v s :=
  ⟨(hb.cell (p := ⟨b, 0, none⟩) h1).trans h.1, (hb.cell (p := ⟨b, 1, none⟩) h1).trans h.2⟩
theorem SC.set {w : World} {b rb : Nat} {v v0 v1 : Value} {s : Int} (h1 : b ≠ rb) (h : SC w b v s) : SC ((w.setCell ⟨rb, 0, none⟩ v0).setCell ⟨rb, 1, none⟩ v1) b v s := keep2 h1 h
theorem SC.alloc {w : World} {b : Nat} {v : Value} {s : Int} (h : SC w b v s) (h1 : b < w.heap.size) (o : Obj) : SC (w.alloc o) b v s := h.stay h1 ((Below.refl _ _).alloc (Nat.le_refl _) o)
theorem SC.drew {w : World} {b : Nat} {v : Value} {s : Int} (h : SC w b v s) : SC w.drew b v s := h
set_option maxRecDepth 100000 in
set_option maxHeartbeats 8000000 in
theorem walk_StableAgain (vl : Value) (l : List Cmd) (vjunk : Value) (junk : List UInt8) (vkeep : Value) (keep : Int) (w : World) (hl : RdWishes w vl l) (hjunk : Rd w vjunk junk) (hkeep : IsInt vkeep keep) (hk : Kn w) :
    Calls Tryd.prog 7 #[vl, vjunk, vkeep] w fun e w' => e = .returned (.bool true) ∧ Below w.heap.size w w' := by
  obtain ⟨ajunk, cjunk, rfl, hlcjunk, hcmjunk⟩ := hjunk.slice
  have R_junk := Lib.hid hjunk
  clear hjunk
  obtain ⟨rfl, hkeep1, hkeep2⟩ := hkeep
  have HK := Lib.hid hk
  clear hk
  have HB0 := Lib.hid (Below.refl w.heap.size w)
  have s0 : w.heap.size ≤ w.heap.size := Nat.le_refl _
  have hv0 := hl
  obtain ⟨ea, ec, rfl, hle, hcm, -, -⟩ := hl
  have HTAP := Lib.hid (taped_any _ l w hv0 HK.out)
  clear hv0 hcm
  obtain ⟨mk, hmk⟩ : ∃ x, x = pick keep 50 := ⟨_, rfl⟩
  have hpmk := fun w => picked_any keep 50 w hkeep1 hkeep2 (by decide)
  have hmkl : 0 ≤ mk := by rw [hmk]; exact pick_nonneg _ _ (by decide)
  have hmku : mk < 50 := by rw [hmk]; exact pick_lt _ _ (by decide)
  rw [← hmk] at hpmk
  have HPmk := Lib.hid hpmk
  clear hmk hpmk
  obtain ⟨Dj, hDj⟩ : ∃ D, D = junk.take 40 := ⟨_, rfl⟩
  have hDlj : Dj.length ≤ 40 := by rw [hDj]; simp; omega
  have hsj := fun v w (h : Rd w v junk) => some_any v junk 40 w h (by decide)
  rw [← hDj] at hsj
  have HSj := Lib.hid hsj
  have DLj := Lib.hid hDlj
  have HDj := Lib.hid hDj
  clear hDj hDlj hsj
  go_enter Tryd.func7, Tryd.ntmps7
  go_upto_region 2 with (go_at_call 13; refine HTAP.out.mono ?_; rintro e w1 ⟨D, al, tv, av, rfl, ht, hbz⟩; obtain ⟨ta, tc, rfl, _, _⟩ := ht.tv.rd.slice; obtain ⟨aal, acal, rfl, _, _, _⟩ := id ht.all.own.row; obtain ⟨nd, hnd⟩ : ∃ k, k = D.length := ⟨_, rfl⟩; obtain ⟨na, hna⟩ : ∃ k, k = al.length := ⟨_, rfl⟩; rw [← hnd] at ht ⊢; rw [← hna] at ht ⊢; have HND := Lib.hid hnd; have HNA := Lib.hid hna; have HT := Lib.hid ht; clear ht hnd hna)
  have T1 := Lib.hid hbz
  replace R_junk := Lib.hid (R_junk.out.stay T1.out)
  have HB1 := Lib.hid (HB0.out.trans (T1.out.mono s0))
  have s1 := HB1.out.size
  clear hbz HTAP
  have hndl : nd ≤ 760 := by have h1 := HT.out.len; have h2 := HND.out; have : min l.length 20 ≤ 20 := Nat.min_le_right _ _; omega
  have hb2 : Below w1.heap.size w1 (w1.alloc (.cells #[.slice ta nd tc, .int .i64 0] 27)) := (Below.refl _ _).alloc (Nat.le_refl _) _
  have hx2 : (w1.alloc (.cells #[.slice ta nd tc, .int .i64 0] 27)).heap[w1.heap.size]? = some (.cells #[.slice ta nd tc, .int .i64 0] 27 (0, 0)) := heapNew w1 _
  generalize hW2 : w1.alloc (.cells #[.slice ta nd tc, .int .i64 0] 27) = w2 at hb2 hx2 ⊢
  clear hW2
  have T2 := Lib.hid hb2
  replace R_junk := Lib.hid (R_junk.out.stay T2.out)
  have HB2 := Lib.hid (HB1.out.trans (T2.out.mono s1))
  have s2 := HB2.out.size
  have X_t := Lib.hid hx2
  clear hb2 hx2
  have OTV := Lib.hid (HT.out.tv.ofHeapK (fun k hk => T2.out.block k (HT.out.tv.lt k hk).2))
  have hne := OTV.out.ne X_t.out (by decide)
  have HNE := Lib.hid hne
  clear hne
  have hlt := lt_of_heap X_t.out
  have hD2 : (D ++ Dj).length ≤ 800 := by have := DLj.out; have := HND.out; simp; omega
  have HD2 := Lib.hid hD2
  clear hD2
  obtain ⟨N2, hN2⟩ : ∃ k, k = (D ++ Dj).length := ⟨_, rfl⟩
  have HN2 := Lib.hid hN2
  have hN2l : N2 ≤ 800 := by rw [hN2]; exact HD2.out
  clear hN2
  have c_t_0 := cellAt X_t.out 0 rfl
  have d_t_0 : ∀ o, (w2.alloc o).cell? ⟨w1.heap.size, 0, none⟩ = some (.slice ta nd tc) := fun o => (((Below.refl w2.heap.size w2).alloc (Nat.le_refl _) o).cell (p := ⟨w1.heap.size, 0, none⟩) (lt_of_heap X_t.out)).trans (cellAt X_t.out 0 rfl)
  have c_t_1 := cellAt X_t.out 1 rfl
  have d_t_1 : ∀ o, (w2.alloc o).cell? ⟨w1.heap.size, 1, none⟩ = some (.int .i64 0) := fun o => (((Below.refl w2.heap.size w2).alloc (Nat.le_refl _) o).cell (p := ⟨w1.heap.size, 1, none⟩) (lt_of_heap X_t.out)).trans (cellAt X_t.out 1 rfl)
  have qf := freeAt X_t.out
  go_region_law (first
    | (refine step_callB rfl 19 #[.slice ajunk junk.length cjunk, .int .i64 40] (by simp [go_sem]) ((HSj.out _ w2.drew (show Rd w2.drew _ _ from R_junk.out.drewN 1)).mono ?_); rintro e y3 ⟨vj, rfl, hoj, hb3⟩; have hb4 : Below w2.heap.size w2 y3 := (show Below w2.heap.size w2 w2.drew from below_drewN (Below.refl _ _) 1).trans hb3; have x4 := (hb4.block _ hlt).trans X_t.out; have e0 := cellAt x4 0 rfl; have e1 := cellAt x4 1 rfl; have ef := freeAt x4; have X4 := Lib.hid x4; have B4 := Lib.hid hb4; have OJ := Lib.hid hoj.rd; have OT4 := Lib.hid (OTV.out.ofHeapK (w' := y3) (fun k hk => hb4.block k (OTV.out.lt k hk).2)); clear hoj hb3 hb4 x4; refine ⟨_, rfl, ?_⟩)
    | (refine step_apB rfl (.tmp 28) (.tmp 30) rfl w.heap.size _ _ D Dj rfl OT4.out rfl OJ.out (by have := HD2.out; rw [List.length_append] at this; omega) (by have := B4.out.size; have := HB2.out.size; omega) ?_; intro v5 y5 ho5 hg5; obtain ⟨ja, jc, rfl, _, _⟩ := ho5.rd.sliceN N2 HN2.out.symm; have O5 := Lib.hid ho5; have G5 := Lib.hid hg5; have x5 := (hg5.block (w1.heap.size) (Nat.lt_of_lt_of_le hlt B4.out.size) (fun h => HNE.out _ h.symm rfl)).trans X4.out; have f0 := cellAt x5 0 rfl; have f1 := cellAt x5 1 rfl; have ff := freeAt x5; have X5 := Lib.hid x5; clear ho5 hg5 x5))
  all_goals
    have hx3 : (y5.setCell ⟨w1.heap.size, 0, none⟩ (.slice ja N2 jc)).heap[w1.heap.size]? = some (.cells #[.slice ja N2 jc, .int .i64 0] 27 (0, 0)) := heapSet (o := 0) X5.out (.slice ja N2 jc)
    have hs1 : w.heap.size ≤ w1.heap.size := HB1.out.size
    have hb3 : Below w.heap.size w (y5.setCell ⟨w1.heap.size, 0, none⟩ (.slice ja N2 jc)) := ((bel_trans HB2.out B4.out).grown G5.out (by have := B4.out.size; have := HB2.out.size; omega) (fun k hk => (OTV.out.lt k hk).1)).setCell hs1 _
    have hne5 := O5.out.ne X5.out (by decide)
    have hr3 : Rd (y5.setCell ⟨w1.heap.size, 0, none⟩ (.slice ja N2 jc)) (.slice ja N2 jc) (D ++ Dj) := O5.out.rd.ofHeapS (fun k hk _ => heapSet_ne 0 _ (hne5 k hk))
    generalize hW3 : World.setCell _ _ _ = w3 at hx3 hb3 hr3 ⊢
    clear hW3 e0 e1 ef f0 f1 ff qf c_t_0 d_t_0 c_t_1 d_t_1 hne5 X5 O5 G5 OT4 OJ X4 B4 OTV HNE R_junk T2
    have X_t := Lib.hid hx3
    have R_t := Lib.hid hr3
    have HB3 := Lib.hid hb3
    have s3 := HB3.out.size
    clear hx3 hb3 hr3
    obtain ⟨G, k, hGl, hk8, hrep1, hrep2, hsyn, hcra, hrcv, htp⟩ := again_all (D ++ Dj) mk HD2.out hmkl hmku
    have HKL := Lib.hid hGl
    have HREP1 := Lib.hid hrep1
    have HREP2 := Lib.hid hrep2
    have HSYN := Lib.hid hsyn
    have HCRA := Lib.hid hcra
    have HRCV := Lib.hid hrcv
    have hpos : na = 1 ∨ 0 < k := by
      obtain ⟨L, a, h1, -, -⟩ := HT.out.tap
      have h2 := htp D L a Dj h1 rfl
      have h3 := HT.out.one
      have h4 := HNA.out
      omega
    clear hGl hrep1 hrep2 hsyn hcra hrcv htp HT HND HN2 HD2 HNA
    have c_t_0 := cellAt X_t.out 0 rfl
    have d_t_0 : ∀ o, (w3.alloc o).cell? ⟨w1.heap.size, 0, none⟩ = some (.slice ja N2 jc) := fun o => (((Below.refl w3.heap.size w3).alloc (Nat.le_refl _) o).cell (p := ⟨w1.heap.size, 0, none⟩) (lt_of_heap X_t.out)).trans (cellAt X_t.out 0 rfl)
    have c_t_1 := cellAt X_t.out 1 rfl
    have d_t_1 : ∀ o, (w3.alloc o).cell? ⟨w1.heap.size, 1, none⟩ = some (.int .i64 0) := fun o => (((Below.refl w3.heap.size w3).alloc (Nat.le_refl _) o).cell (p := ⟨w1.heap.size, 1, none⟩) (lt_of_heap X_t.out)).trans (cellAt X_t.out 1 rfl)
    go_upto_region 4 with (go_at_call 18; refine (HREP1.out _ _ R_t.out (HK.out.stay HB3.out)).mono ?_; rintro e w4 ⟨vra, rfl, hora, hb4⟩; obtain ⟨ara, cra, rfl, _, _⟩ := hora.rd.sliceN k HKL.out; have hbz := hb4; have hrz := hora.rd; clear hb4 hora)
    have T4 := Lib.hid hbz
    replace R_t := Lib.hid (R_t.out.stay T4.out)
    replace X_t := Lib.hid ((T4.out.block _ (lt_of_heap X_t.out)).trans X_t.out)
    clear c_t_0 d_t_0 c_t_1 d_t_1
    have HB4 := Lib.hid (HB3.out.trans (T4.out.mono s3))
    have s4 := HB4.out.size
    have R_ra := Lib.hid hrz
    clear hbz hrz
    have hb5 : Below w4.heap.size w4 (w4.alloc (.cells #[.slice ara k cra, .int .i64 0] 27)) := (Below.refl _ _).alloc (Nat.le_refl _) _
    have hx5 : (w4.alloc (.cells #[.slice ara k cra, .int .i64 0] 27)).heap[w4.heap.size]? = some (.cells #[.slice ara k cra, .int .i64 0] 27 (0, 0)) := heapNew w4 _
    generalize hW5 : w4.alloc (.cells #[.slice ara k cra, .int .i64 0] 27) = w5 at hb5 hx5 ⊢
    clear hW5
    have T5 := Lib.hid hb5
    replace R_t := Lib.hid (R_t.out.stay T5.out)
    replace R_ra := Lib.hid (R_ra.out.stay T5.out)
    replace X_t := Lib.hid ((T5.out.block _ (lt_of_heap X_t.out)).trans X_t.out)
    have HB5 := Lib.hid (HB4.out.trans (T5.out.mono s4))
    have s5 := HB5.out.size
    have X_ra := Lib.hid hx5
    clear hb5 hx5
    clear X_t
    clear R_t
    have c_ra_0 := cellAt X_ra.out 0 rfl
    have d_ra_0 : ∀ o, (w5.alloc o).cell? ⟨w4.heap.size, 0, none⟩ = some (.slice ara k cra) := fun o => (((Below.refl w5.heap.size w5).alloc (Nat.le_refl _) o).cell (p := ⟨w4.heap.size, 0, none⟩) (lt_of_heap X_ra.out)).trans (cellAt X_ra.out 0 rfl)
    have c_ra_1 := cellAt X_ra.out 1 rfl
    have d_ra_1 : ∀ o, (w5.alloc o).cell? ⟨w4.heap.size, 1, none⟩ = some (.int .i64 0) := fun o => (((Below.refl w5.heap.size w5).alloc (Nat.le_refl _) o).cell (p := ⟨w4.heap.size, 1, none⟩) (lt_of_heap X_ra.out)).trans (cellAt X_ra.out 1 rfl)
    go_upto_region 5 with (go_at_call 18; refine (HREP2.out _ _ R_ra.out (HK.out.stay HB5.out)).mono ?_; rintro e w6 ⟨vrb, rfl, horb, hb6⟩; obtain ⟨arb, crb, rfl, _, _⟩ := horb.rd.sliceN k HKL.out; have hbz := hb6; have hrz := horb.rd; clear hb6 horb)
    have T6 := Lib.hid hbz
    replace R_ra := Lib.hid (R_ra.out.stay T6.out)
    replace X_ra := Lib.hid ((T6.out.block _ (lt_of_heap X_ra.out)).trans X_ra.out)
    clear c_ra_0 d_ra_0 c_ra_1 d_ra_1
    have HB6 := Lib.hid (HB5.out.trans (T6.out.mono s5))
    have s6 := HB6.out.size
    have R_rb := Lib.hid hrz
    clear hbz hrz
    have hb7 : Below w6.heap.size w6 (w6.alloc (.cells #[.slice arb k crb, .int .i64 0] 27)) := (Below.refl _ _).alloc (Nat.le_refl _) _
    have hx7 : (w6.alloc (.cells #[.slice arb k crb, .int .i64 0] 27)).heap[w6.heap.size]? = some (.cells #[.slice arb k crb, .int .i64 0] 27 (0, 0)) := heapNew w6 _
    generalize hW7 : w6.alloc (.cells #[.slice arb k crb, .int .i64 0] 27) = w7 at hb7 hx7 ⊢
    clear hW7
    have T7 := Lib.hid hb7
    replace R_ra := Lib.hid (R_ra.out.stay T7.out)
    replace R_rb := Lib.hid (R_rb.out.stay T7.out)
    replace X_ra := Lib.hid ((T7.out.block _ (lt_of_heap X_ra.out)).trans X_ra.out)
    have HB7 := Lib.hid (HB6.out.trans (T7.out.mono s6))
    have s7 := HB7.out.size
    have X_rb := Lib.hid hx7
    clear hb7 hx7
    have c_ra_0 := cellAt X_ra.out 0 rfl
    have d_ra_0 : ∀ o, (w7.alloc o).cell? ⟨w4.heap.size, 0, none⟩ = some (.slice ara k cra) := fun o => (((Below.refl w7.heap.size w7).alloc (Nat.le_refl _) o).cell (p := ⟨w4.heap.size, 0, none⟩) (lt_of_heap X_ra.out)).trans (cellAt X_ra.out 0 rfl)
    have c_ra_1 := cellAt X_ra.out 1 rfl
    have d_ra_1 : ∀ o, (w7.alloc o).cell? ⟨w4.heap.size, 1, none⟩ = some (.int .i64 0) := fun o => (((Below.refl w7.heap.size w7).alloc (Nat.le_refl _) o).cell (p := ⟨w4.heap.size, 1, none⟩) (lt_of_heap X_ra.out)).trans (cellAt X_ra.out 1 rfl)
    go_upto_region 6 with (go_at_call 11; refine (HSYN.out _ _ R_ra.out).mono ?_; rintro e w8 ⟨vrs, rfl, hors, hb8⟩; obtain ⟨ars, crs, rfl, _, _⟩ := hors.rd.sliceN k HKL.out; have hbz := hb8; have hrz := hors.rd; clear hb8 hors)
    have T8 := Lib.hid hbz
    replace R_ra := Lib.hid (R_ra.out.stay T8.out)
    replace R_rb := Lib.hid (R_rb.out.stay T8.out)
    replace X_ra := Lib.hid ((T8.out.block _ (lt_of_heap X_ra.out)).trans X_ra.out)
    replace X_rb := Lib.hid ((T8.out.block _ (lt_of_heap X_rb.out)).trans X_rb.out)
    clear c_ra_0 d_ra_0 c_ra_1 d_ra_1
    have HB8 := Lib.hid (HB7.out.trans (T8.out.mono s7))
    have s8 := HB8.out.size
    have R_rs := Lib.hid hrz
    clear hbz hrz
    have hb9 : Below w8.heap.size w8 (w8.alloc (.cells #[.slice ars k crs, .int .i64 k] 27)) := (Below.refl _ _).alloc (Nat.le_refl _) _
    have hx9 : (w8.alloc (.cells #[.slice ars k crs, .int .i64 k] 27)).heap[w8.heap.size]? = some (.cells #[.slice ars k crs, .int .i64 k] 27 (0, 0)) := heapNew w8 _
    generalize hW9 : w8.alloc (.cells #[.slice ars k crs, .int .i64 k] 27) = w9 at hb9 hx9 ⊢
    clear hW9
    have T9 := Lib.hid hb9
    replace R_ra := Lib.hid (R_ra.out.stay T9.out)
    replace R_rb := Lib.hid (R_rb.out.stay T9.out)
    replace R_rs := Lib.hid (R_rs.out.stay T9.out)
    replace X_ra := Lib.hid ((T9.out.block _ (lt_of_heap X_ra.out)).trans X_ra.out)
    replace X_rb := Lib.hid ((T9.out.block _ (lt_of_heap X_rb.out)).trans X_rb.out)
    have HB9 := Lib.hid (HB8.out.trans (T9.out.mono s8))
    have s9 := HB9.out.size
    have X_rs := Lib.hid hx9
    clear hb9 hx9
    have hls := lt_of_heap X_rs.out
    have S0 : SC w9 w8.heap.size (.slice ars k crs) k := ⟨cellAt X_rs.out 0 rfl, cellAt X_rs.out 1 rfl⟩
    obtain ⟨k0, k1⟩ := id S0
    have SX : SC w9.drew w8.heap.size (.slice ars k crs) k := S0
    have HA := Lib.hid (show Below w9.heap.size w9 (w9.alloc (.cells #[.slice none 0 0, .int .i64 0] 27)).drew from below_drewN ((Below.refl _ _).alloc (Nat.le_refl _) _) 1)
    have HB := Lib.hid (show Below w9.heap.size w9 w9.drew from below_drewN (Below.refl _ _) 1)
    have HXA := Lib.hid (show (w9.alloc (.cells #[.slice none 0 0, .int .i64 0] 27)).drew.heap[w9.heap.size]? = some (.cells #[.slice none 0 0, .int .i64 0] 27 (0, 0)) from heapNew _ _)
    have NE1 : w8.heap.size ≠ w9.heap.size := by omega
    go_region_held3 (fun w' => w'.cell? ⟨w8.heap.size, 0, none⟩ = some (.slice ars k crs) ∧ w'.cell? ⟨w8.heap.size, 1, none⟩ = some (.int .i64 k)) (first | with_reducible exact SX | with_reducible exact SC.drew (S0.alloc hls _) | with_reducible exact S2 | with_reducible exact S2.alloc hv1 _ | with_reducible exact S2.set NE1) (first
      | (go_at_call 8; with_reducible refine (HPmk.out _).mono ?_; rintro e _ ⟨rfl, rfl⟩)
      | (go_at_call 17; (with_reducible refine (HCRA.out _ _ (R_rs.out.stay HA.out)).mono ?_); rintro e v2 ⟨vu, rfl, hou, hb2⟩; obtain ⟨ua, uc, rfl, _, _⟩ := hou.sliceN k HKL.out; have hb6 : Below w9.heap.size w9 v2 := HA.out.trans (hb2.mono HA.out.size); have S2 := S0.stay hls hb6; have hv1 := Nat.lt_of_lt_of_le hls hb6.size; have OU := Lib.hid hou; have B6 := Lib.hid hb6; have hza := (hb2.block _ (lt_of_heap HXA.out)).trans HXA.out; have za0 := cellAt hza 0 rfl; have za1 := cellAt hza 1 rfl; have zaf := freeAt hza; have ZA := Lib.hid hza; clear hou hb2 hb6 hza)
      | (go_at_call 17; (with_reducible refine (HCRA.out _ _ (R_rs.out.stay HB.out)).mono ?_); rintro e v2 ⟨vu, rfl, hou, hb2⟩; obtain ⟨ua, uc, rfl, _, _⟩ := hou.sliceN k HKL.out; have hb6 : Below w9.heap.size w9 v2 := HB.out.trans (hb2.mono HB.out.size); have S2 := S0.stay hls hb6; have hv1 := Nat.lt_of_lt_of_le hls hb6.size; have OU := Lib.hid hou; have B6 := Lib.hid hb6; clear hou hb2 hb6))
    all_goals
      first
      | (have zz := ZA.out; have hx : ((v2.setCell ⟨w9.heap.size, 0, none⟩ (.slice ua k uc)).setCell ⟨w9.heap.size, 1, none⟩ (.int .i64 k)).heap[w9.heap.size]? = some (.cells #[.slice ua k uc, .int .i64 k] 27 (0, 0)) := heapSet (o := 1) (heapSet (o := 0) zz _) _; have hbn : Below w9.heap.size w9 ((v2.setCell ⟨w9.heap.size, 0, none⟩ (.slice ua k uc)).setCell ⟨w9.heap.size, 1, none⟩ (.int .i64 k)) := (B6.out.setCell (Nat.le_refl _) _).setCell (Nat.le_refl _) _; have hu : Rd ((v2.setCell ⟨w9.heap.size, 0, none⟩ (.slice ua k uc)).setCell ⟨w9.heap.size, 1, none⟩ (.int .i64 k)) (.slice ua k uc) G := OU.out.ofHeapS (fun j hj hne => by have h1 := OU.out.neZ (s := 0) (v0 := .int .i64 0) zz hne j hj; exact (heapSet_ne 1 _ h1).trans (heapSet_ne 0 _ h1)); generalize hW : World.setCell _ _ _ = w10 at hx hbn hu ⊢; obtain ⟨q, hq⟩ : ∃ b, b = w9.heap.size := ⟨_, rfl⟩; rw [← hq] at hx ⊢; clear zz hW hq ZA za0 za1 zaf S2 hv1 OU B6)
      | (have hx : (v2.alloc (.cells #[.slice ua k uc, .int .i64 k] 27)).heap[v2.heap.size]? = some (.cells #[.slice ua k uc, .int .i64 k] 27 (0, 0)) := heapNew _ _; have hbn : Below w9.heap.size w9 (v2.alloc (.cells #[.slice ua k uc, .int .i64 k] 27)) := B6.out.alloc B6.out.size _; have hu : Rd (v2.alloc (.cells #[.slice ua k uc, .int .i64 k] 27)) (.slice ua k uc) G := OU.out.alloc _; generalize hW : World.alloc _ _ = w10 at hx hbn hu ⊢; obtain ⟨q, hq⟩ : ∃ b, b = v2.heap.size := ⟨_, rfl⟩; rw [← hq] at hx ⊢; clear hW hq S2 hv1 OU B6)
      clear k0 k1 S0 SX HA HB HXA hls NE1
      have T10 := Lib.hid hbn
      replace R_ra := Lib.hid (R_ra.out.stay T10.out)
      replace R_rb := Lib.hid (R_rb.out.stay T10.out)
      replace R_rs := Lib.hid (R_rs.out.stay T10.out)
      replace X_ra := Lib.hid ((T10.out.block _ (lt_of_heap X_ra.out)).trans X_ra.out)
      replace X_rb := Lib.hid ((T10.out.block _ (lt_of_heap X_rb.out)).trans X_rb.out)
      replace X_rs := Lib.hid ((T10.out.block _ (lt_of_heap X_rs.out)).trans X_rs.out)
      have HB10 := Lib.hid (HB9.out.trans (T10.out.mono s9))
      have s10 := HB10.out.size
      have X_u := Lib.hid hx
      have R_u := Lib.hid hu
      clear hbn hx hu
      have c_ra_0 := cellAt X_ra.out 0 rfl
      have d_ra_0 : ∀ o, (w10.alloc o).cell? ⟨w4.heap.size, 0, none⟩ = some (.slice ara k cra) := fun o => (((Below.refl w10.heap.size w10).alloc (Nat.le_refl _) o).cell (p := ⟨w4.heap.size, 0, none⟩) (lt_of_heap X_ra.out)).trans (cellAt X_ra.out 0 rfl)
      have c_ra_1 := cellAt X_ra.out 1 rfl
      have d_ra_1 : ∀ o, (w10.alloc o).cell? ⟨w4.heap.size, 1, none⟩ = some (.int .i64 0) := fun o => (((Below.refl w10.heap.size w10).alloc (Nat.le_refl _) o).cell (p := ⟨w4.heap.size, 1, none⟩) (lt_of_heap X_ra.out)).trans (cellAt X_ra.out 1 rfl)
      go_upto_region 8 with (go_at_call 14; refine (HRCV.out _ _ R_ra.out (HK.out.stay HB10.out)).mono ?_; rintro e w11 ⟨hb11, p1, p2, a1, n1, c1, rfl⟩; have hbz := hb11; clear hb11)
      have T11 := Lib.hid hbz
      replace R_ra := Lib.hid (R_ra.out.stay T11.out)
      replace R_rb := Lib.hid (R_rb.out.stay T11.out)
      replace R_rs := Lib.hid (R_rs.out.stay T11.out)
      replace R_u := Lib.hid (R_u.out.stay T11.out)
      replace X_ra := Lib.hid ((T11.out.block _ (lt_of_heap X_ra.out)).trans X_ra.out)
      replace X_rb := Lib.hid ((T11.out.block _ (lt_of_heap X_rb.out)).trans X_rb.out)
      replace X_rs := Lib.hid ((T11.out.block _ (lt_of_heap X_rs.out)).trans X_rs.out)
      replace X_u := Lib.hid ((T11.out.block _ (lt_of_heap X_u.out)).trans X_u.out)
      clear c_ra_0 d_ra_0 c_ra_1 d_ra_1
      have HB11 := Lib.hid (HB10.out.trans (T11.out.mono s10))
      have s11 := HB11.out.size
      clear hbz
      have hb12 : Below w11.heap.size w11 (w11.alloc (.cells #[.int .i64 p1, .int .i64 p2, .slice a1 n1 c1] 45)) := (Below.refl _ _).alloc (Nat.le_refl _) _
      have hx12 : (w11.alloc (.cells #[.int .i64 p1, .int .i64 p2, .slice a1 n1 c1] 45)).heap[w11.heap.size]? = some (.cells #[.int .i64 p1, .int .i64 p2, .slice a1 n1 c1] 45 (0, 0)) := heapNew w11 _
      generalize hW12 : w11.alloc (.cells #[.int .i64 p1, .int .i64 p2, .slice a1 n1 c1] 45) = w12 at hb12 hx12 ⊢
      clear hW12
      have T12 := Lib.hid hb12
      replace R_ra := Lib.hid (R_ra.out.stay T12.out)
      replace R_rb := Lib.hid (R_rb.out.stay T12.out)
      replace R_rs := Lib.hid (R_rs.out.stay T12.out)
      replace R_u := Lib.hid (R_u.out.stay T12.out)
      replace X_ra := Lib.hid ((T12.out.block _ (lt_of_heap X_ra.out)).trans X_ra.out)
      replace X_rb := Lib.hid ((T12.out.block _ (lt_of_heap X_rb.out)).trans X_rb.out)
      replace X_rs := Lib.hid ((T12.out.block _ (lt_of_heap X_rs.out)).trans X_rs.out)
      replace X_u := Lib.hid ((T12.out.block _ (lt_of_heap X_u.out)).trans X_u.out)
      have HB12 := Lib.hid (HB11.out.trans (T12.out.mono s11))
      have s12 := HB12.out.size
      have X_rv := Lib.hid hx12
      clear hb12 hx12
      have c_ra_0 := cellAt X_ra.out 0 rfl
      have d_ra_0 : ∀ o, (w12.alloc o).cell? ⟨w4.heap.size, 0, none⟩ = some (.slice ara k cra) := fun o => (((Below.refl w12.heap.size w12).alloc (Nat.le_refl _) o).cell (p := ⟨w4.heap.size, 0, none⟩) (lt_of_heap X_ra.out)).trans (cellAt X_ra.out 0 rfl)
      have c_ra_1 := cellAt X_ra.out 1 rfl
      have d_ra_1 : ∀ o, (w12.alloc o).cell? ⟨w4.heap.size, 1, none⟩ = some (.int .i64 0) := fun o => (((Below.refl w12.heap.size w12).alloc (Nat.le_refl _) o).cell (p := ⟨w4.heap.size, 1, none⟩) (lt_of_heap X_ra.out)).trans (cellAt X_ra.out 1 rfl)
      have c_rb_0 := cellAt X_rb.out 0 rfl
      have d_rb_0 : ∀ o, (w12.alloc o).cell? ⟨w6.heap.size, 0, none⟩ = some (.slice arb k crb) := fun o => (((Below.refl w12.heap.size w12).alloc (Nat.le_refl _) o).cell (p := ⟨w6.heap.size, 0, none⟩) (lt_of_heap X_rb.out)).trans (cellAt X_rb.out 0 rfl)
      have c_rb_1 := cellAt X_rb.out 1 rfl
      have d_rb_1 : ∀ o, (w12.alloc o).cell? ⟨w6.heap.size, 1, none⟩ = some (.int .i64 0) := fun o => (((Below.refl w12.heap.size w12).alloc (Nat.le_refl _) o).cell (p := ⟨w6.heap.size, 1, none⟩) (lt_of_heap X_rb.out)).trans (cellAt X_rb.out 1 rfl)
      have c_u_0 := cellAt X_u.out 0 rfl
      have d_u_0 : ∀ o, (w12.alloc o).cell? ⟨q, 0, none⟩ = some (.slice ua k uc) := fun o => (((Below.refl w12.heap.size w12).alloc (Nat.le_refl _) o).cell (p := ⟨q, 0, none⟩) (lt_of_heap X_u.out)).trans (cellAt X_u.out 0 rfl)
      have c_u_1 := cellAt X_u.out 1 rfl
      have d_u_1 : ∀ o, (w12.alloc o).cell? ⟨q, 1, none⟩ = some (.int .i64 k) := fun o => (((Below.refl w12.heap.size w12).alloc (Nat.le_refl _) o).cell (p := ⟨q, 1, none⟩) (lt_of_heap X_u.out)).trans (cellAt X_u.out 1 rfl)
      have hcase : (na = 1) ∨ (((na : Int) == 1) = false ∧ decide ((0 : Int) < (k : Int)) = true ∧ (na == 1) = false ∧ decide (0 < k) = true ∧ ¬ na = 1 ∧ ¬ (na : Int) = 1 ∧ decide (na = 1) = false) := by
        by_cases h0 : na = 1
        · exact .inl h0
        · have h := hpos.resolve_left h0
          exact .inr ⟨by rw [beq_eq_false_iff_ne]; omega, by rw [decide_eq_true_eq]; omega, by rw [beq_eq_false_iff_ne]; exact h0, by rw [decide_eq_true_eq]; omega, h0, by omega, by rw [decide_eq_false_iff_not]; exact h0⟩
      clear hpos
      rcases hcase with rfl | ⟨hn1, hn2, hn3, hn4, hn5, hn6, hn7⟩
      all_goals
        go_wp2_with (go_at_call 12; refine (same_true _ _ G G _ ?h1 ?h2 rfl).mono ?_; (case h1 => exact R_ra.out); (case h2 => first | (with_reducible exact R_rb.out) | (with_reducible exact R_u.out)); rintro e _ ⟨rfl, rfl⟩)
        go_ret
        exact ⟨rfl, HB12.out⟩

end Go.Proofs.YtdkbajdnckmckaaDoor
