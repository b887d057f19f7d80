/-
  Texts put together: MaR, MaS, MaT.
-/
import Derived.Test.YtdkbajdnckmckaaMg13
set_option linter.unusedVariables false
set_option linter.unusedSimpArgs false
namespace Go.Proofs.Ytdkbajdnckmckaa
open Go.RowKit Go.Con
set_option maxRecDepth 100000 in
set_option maxHeartbeats 8000000 in
theorem play_asked (base : Nat) {w : World} {g : Nat} {M : Mat} {ad : Nat → Option Addr} {c pb : Nat → Nat} {nd : Nat → Int} {S : Nat → PxS Cmd} (h : MatW w g M ad c pb) (hi : MInv M nd S) (hg : base ≤ g) (hR : M.rounds ≤ 1000) (hpb : ∀ k B, k < 3 → M.bid k = some B → base ≤ pb k)
    (pk pn pp ps pv : Int) (hw : WishOk ⟨pk, pn, pp, ps, pv⟩) (n k s : Nat) (hn : Hid (pick pn 5 = n)) (hk : Hid (pick pp 3 = k)) (hs : Hid (pick ps 3 = s)) (hc6 : 6 ≤ pick pk 12) {B : Bid} (hB : M.bid k = some B) (hm : 5 < 2 * (B.lists 5).length) {x : Cmd} (hx : B.what s = some x) :
    Calls Try.prog 19 #[.pointer (some ⟨g, 0, none⟩), .agg #[.int .i64 pk, .int .i64 pn, .int .i64 pp, .int .i64 ps, .int .i64 pv]] w fun e w' => e = .returned (.tuple #[]) ∧ PlS base w w' g (M.rounds + 1) := by
  obtain ⟨⟨k1, k2⟩, ⟨n1, n2⟩, ⟨p1, p2⟩, ⟨s1, s2⟩, ⟨v1, v2⟩⟩ := hw
  dsimp only at k1 k2 n1 n2 p1 p2 s1 s2 v1 v2
  have hn5 : n < 5 := by have h1 := pick_lt pn 5 (by omega); rw [hn.out] at h1; omega
  have hk3 : k < 3 := by have h1 := pick_lt pp 3 (by omega); rw [hk.out] at h1; omega
  have hs3 : s < 3 := by have h1 := pick_lt ps 3 (by omega); rw [hs.out] at h1; omega
  obtain ⟨kd, hkd⟩ : ∃ x, x = pick pk 12 := ⟨_, rfl⟩
  have HKD := Lib.hid hkd.symm
  rw [← hkd] at hc6
  clear hkd
  have HPB := Lib.hid hpb
  have HIN := Lib.hid hi
  have hgl := h.blk.lt
  have hpn := h.ne hk3 hB
  have hbl := (h.bid k B hk3 hB).blk.lt
  have OKB := MInv.okb hi hR hk3 hB
  have OKA := hi.fit n hn5
  have LEN := MInv.len hi hn5
  have HM := Lib.hid h
  have HB := Lib.hid hB
  have HCN := Lib.hid (h.bid k B hk3 hB)
  obtain ⟨t, ht⟩ : ∃ t, t = (B.lists 5).length := ⟨_, rfl⟩
  have ht5 : t ≤ 5 := by rw [ht]; unfold Bid.lists; exact Nat.le_trans (List.length_filterMap_le ..) (by simp)
  have HT := Lib.hid ht
  have HWX := Lib.hid hx
  obtain ⟨⟨br, bn⟩, bt, bw⟩ := B
  obtain ⟨⟨⟨pr, pm⟩, L⟩, hX⟩ : ∃ x, M.node n = x := ⟨_, rfl⟩
  have HX := Lib.hid hX
  have OWN := h.own n hn5
  rw [hX] at OKA LEN OWN
  dsimp only at OKB LEN OWN
  have OKA : okA (pr, pm) L = true := OKA
  have HOKB := Lib.hid OKB
  have HOKA := Lib.hid OKA
  have HLEN := Lib.hid LEN
  have HPL := Lib.hid (h.ply hn5 hk3 hX hB)
  obtain ⟨b, hb⟩ : ∃ b, b = pb k := ⟨_, rfl⟩
  rw [← hb] at HPL hpn hbl HCN
  obtain ⟨na, hna⟩ : ∃ x, x = ad n := ⟨_, rfl⟩
  obtain ⟨nc, hnc⟩ : ∃ x, x = c n := ⟨_, rfl⟩
  obtain ⟨m, hm0⟩ : ∃ x, x = L.length := ⟨_, rfl⟩
  rw [← hna, ← hnc, ← hm0] at HPL OWN
  have HML := Lib.hid hm0
  have HVT := Lib.hid OWN.votes
  have HBK := Lib.hid hb
  have HNA := Lib.hid hna
  have HNC := Lib.hid hnc
  clear h hi hpb hX hB OKB OKA LEN OWN hna hnc hb hm0 ht
  go_enter Try.func19, Try.ntmps19
  go_upto_region 1 with fail
  generalize hW : World.alloc _ _ = wA
  have T3 := Lib.hid (show wA.heap[w.heap.size]? = some (.cells #[.int .i64 pk, .int .i64 pn, .int .i64 pp, .int .i64 ps, .int .i64 pv] 26 (0, 0)) by rw [← hW]; exact heapNew _ _)
  have BA := Lib.hid (show Below w.heap.size w wA by rw [← hW]; exact (Below.refl _ _).alloc (Nat.le_refl _) _)
  clear hW
  have x0 := cellAt T3.out 0 rfl
  have x1 := cellAt T3.out 1 rfl
  have x2 := cellAt T3.out 2 rfl
  have x3 := cellAt T3.out 3 rfl
  have x4 := cellAt T3.out 4 rfl
  have MA := Lib.hid (HM.out.stay BA.out)
  have hpt : wA.cell? ⟨g, 15 + k, none⟩ = some (.pointer (some ⟨b, 0, none⟩)) := by
    have h1 := MA.out.ptr k hk3
    rw [HB.out, ← HBK.out] at h1
    exact h1
  have e0 : (kd == 0) = false := by rw [beq_eq_false_iff_ne]; omega
  have e6 : decide (kd < 6) = false := by rw [decide_eq_false_iff_not]; omega
  have hw2 : IntKind.i64.wrap (2 * (t : Int)) = 2 * (t : Int) := IntWalk.i64_in _ (by omega)
  have hbA := BA.out.size
  have hglA : g < wA.heap.size := by omega
  have hblA : b < wA.heap.size := by omega
  have hn50 : (0 : Int) ≤ n := by omega
  have hn51 : (n : Int) < 5 := by omega
  have hs30 : (0 : Int) ≤ s := by omega
  have hs31 : (s : Int) < 3 := by omega
  have HCA := Lib.hid (show BidW wA b ⟨(br, bn), bt, bw⟩ by rw [HBK.out]; exact MA.out.bid k _ hk3 HB.out)
  have HCNT : Hid (Calls Try.prog 28 #[.pointer (some ⟨b, 0, none⟩)] wA fun e w' => e = .returned (.int .i64 t) ∧ wA = w') := Lib.hid (by
    have h1 := count_any b _ wA HCA.out
    rw [← HT.out] at h1
    exact h1.mono fun e w' h2 => ⟨h2.1, h2.2.symm⟩)
  have VT := Lib.hid (HVT.out.stay BA.out)
  have hm' := HT.out
  have e2 : decide (2 * (t : Int) ≤ 5) = false := by rw [decide_eq_false_iff_not]; omega
  have as0 : wA.cell? ⟨b, 12 + s, none⟩ = some (.bool true) := by
    have h1 := HCA.out.asked s hs3
    rw [show (Bid.what ⟨(br, bn), bt, bw⟩) s = some x from hx] at h1
    exact h1
  clear hx hm' hm HT
  obtain ⟨c0, c1, c2, c3, c4⟩ := x
  have VA : Hid (VoteAt base w wA g b n k s M M ad c pb nd S pr pm br bn L na m nc bt bw c0 c1 c2 c3 c4) := Lib.hid ⟨MA.out, HIN.out, HX.out, HB.out, HWX.out, rfl, HPB.out, BA.out.mono (by omega), HNA.out, HNC.out, HML.out, HBK.out⟩
  go_upto_region 13 with (first | (go_at_call 10; refine (picked_toP _ _ _ _ (by assumption) (by assumption) (by decide) (by assumption)).mono ?_; rintro e _ ⟨rfl, rfl⟩) | (go_at_call 28; refine HCNT.out.mono ?_; rintro e _ ⟨rfl, rfl⟩))
  clear x0 x1 x2 x3 x4 hpt e0 e6 e2 as0 T3
  have hglT : g < wA.heap.size := by omega
  have hblT : b < wA.heap.size := by omega
  have PT := Lib.hid (VA.out.ply hn5 hk3 hs3)
  have y0 := PT.out.ply.y0
  have y1 := PT.out.ply.y1
  have y2 := PT.out.ply.y2
  have z0 := PT.out.ply.z0
  have z1 := PT.out.ply.z1
  have u0 := PT.out.w0
  have u1 := PT.out.w1
  have u2 := PT.out.w2
  have u3 := PT.out.w3
  have u4 := PT.out.w4
  have hnA : ¬ (wA.heap.size = g) := by omega
  have hnA' : ¬ (g = wA.heap.size) := by omega
  have hnB : ¬ (wA.heap.size = b) := by omega
  have hnB' : ¬ (b = wA.heap.size) := by omega
  have hgT : base ≤ wA.heap.size := by omega
  by_cases hlow : cmpB (br, bn) (pr, pm) < 0
  · have HC := Lib.hid (VA.out.low hR hn5 hk3 hs3 hlow)
    clear hlow
    refine' cutTo (fun key => _) _
    rotate_left 1
    · skip
      go_region_held3 (fun w' => w'.cell? ⟨g, n * 3, none⟩ = some (.int .i64 pr) ∧ w'.cell? ⟨g, n * 3 + 1, none⟩ = some (.int .i64 pm) ∧ w'.cell? ⟨g, n * 3 + 2, none⟩ = some (.slice na m nc) ∧ w'.cell? ⟨b, 0, none⟩ = some (.int .i64 br) ∧ w'.cell? ⟨b, 1, none⟩ = some (.int .i64 bn) ∧ w'.cell? ⟨b, 15 + s * 5, none⟩ = some (.int .i64 c0) ∧ w'.cell? ⟨b, 15 + s * 5 + 1, none⟩ = some (.int .i64 c1) ∧ w'.cell? ⟨b, 15 + s * 5 + 2, none⟩ = some (.int .i64 c2) ∧ w'.cell? ⟨b, 15 + s * 5 + 3, none⟩ = some (.int .i64 c3) ∧ w'.cell? ⟨b, 15 + s * 5 + 4, none⟩ = some (.int .i64 c4)) (first | exact SS | go_keep)
        (first | (go_at_call 15; refine (HC.out _ (by first | exact (Below.refl _ _).drew | exact ((Below.refl _ _).alloc (Nat.le_refl _) _).drew)).mono ?_; rintro e w3 ⟨rfl, hb3⟩; have B3 := Lib.hid (show Below wA.heap.size wA w3 by first | exact (Below.refl wA.heap.size wA).drew.trans hb3 | exact ((Below.refl wA.heap.size wA).alloc (Nat.le_refl _) _).drew.trans (hb3.mono (by simp))); (first | (have nz : w3.heap[wA.heap.size]? = some (.cells #[.int .i64 0, .int .i64 0, .slice none 0 0] 39 (0, 0)) := (hb3.block wA.heap.size (by simp)).trans (heapNew wA _); have NZ := Lib.hid nz; have n0 := cellAt nz 0 rfl; have n1 := cellAt nz 1 rfl; have n2 := cellAt nz 2 rfl; have nf := freeAt nz; clear nz) | skip); have SS := (PT.out.stay B3.out hglT hblT).cells; clear hb3))
      · skip
        have hb7 := B3.out.alloc B3.out.size (.cells #[.int .i64 0, .int .i64 0, .slice none 0 0] 39)
        generalize w3.alloc (.cells #[.int .i64 0, .int .i64 0, .slice none 0 0] 39) = w7 at hb7 ⊢
        generalize w3.heap.size = tb
        try clear SS
        try (rename_i hS; clear hS)
        revert hb7
        revert w7 tb
        exact key.out
      · skip
        have hb7 := ((B3.out.setCell (p := ⟨wA.heap.size, 0, none⟩) (Nat.le_refl _) (.int .i64 0)).setCell (p := ⟨wA.heap.size, 1, none⟩) (Nat.le_refl _) (.int .i64 0)).setCell (p := ⟨wA.heap.size, 2, none⟩) (Nat.le_refl _) (.slice none 0 0)
        obtain ⟨w7, hW⟩ : ∃ w7, w7 = ((w3.setCell ⟨wA.heap.size, 0, none⟩ (.int .i64 0)).setCell ⟨wA.heap.size, 1, none⟩ (.int .i64 0)).setCell ⟨wA.heap.size, 2, none⟩ (.slice none 0 0) := ⟨_, rfl⟩
        rw [← hW] at hb7 ⊢
        clear hW NZ
        obtain ⟨tb, htb⟩ : ∃ t, t = wA.heap.size := ⟨_, rfl⟩
        rw [← htb]
        clear htb
        try clear SS
        try (rename_i hS; clear hS)
        revert hb7
        revert w7 tb
        exact key.out
    · intro w7 tb hb7
      have FIN := Lib.hid (VA.out.same hb7 hgT)
      clear hb7
      go_wp2_with fail
      exact bodyPost_ret (v := .tuple #[]) (by simp [results, Try.results19, go_sem]) rfl ⟨rfl, FIN.out⟩
  · have LOW := Lib.hid (Int.not_lt.1 hlow)
    have HC := Lib.hid (VA.out.high hR hn5 hk3 hs3 (Int.not_lt.1 hlow))
    clear hlow
    refine' cutTo (fun key => _) _
    rotate_left 1
    · skip
      go_region_held3 (fun w' => w'.cell? ⟨g, n * 3, none⟩ = some (.int .i64 pr) ∧ w'.cell? ⟨g, n * 3 + 1, none⟩ = some (.int .i64 pm) ∧ w'.cell? ⟨g, n * 3 + 2, none⟩ = some (.slice na m nc) ∧ w'.cell? ⟨b, 0, none⟩ = some (.int .i64 br) ∧ w'.cell? ⟨b, 1, none⟩ = some (.int .i64 bn) ∧ w'.cell? ⟨b, 15 + s * 5, none⟩ = some (.int .i64 c0) ∧ w'.cell? ⟨b, 15 + s * 5 + 1, none⟩ = some (.int .i64 c1) ∧ w'.cell? ⟨b, 15 + s * 5 + 2, none⟩ = some (.int .i64 c2) ∧ w'.cell? ⟨b, 15 + s * 5 + 3, none⟩ = some (.int .i64 c3) ∧ w'.cell? ⟨b, 15 + s * 5 + 4, none⟩ = some (.int .i64 c4)) (first | exact SS | go_keep)
        (first | (go_at_call 15; refine (HC.out _ (by first | exact (Below.refl _ _).drew | exact ((Below.refl _ _).alloc (Nat.le_refl _) _).drew)).mono ?_; rintro e w3 ⟨a1, q1, m1, hm1, rfl, ho1, hb3⟩; have O1 := Lib.hid ho1; have B3 := Lib.hid (show Below wA.heap.size wA w3 by first | exact (Below.refl wA.heap.size wA).drew.trans hb3 | exact ((Below.refl wA.heap.size wA).alloc (Nat.le_refl _) _).drew.trans (hb3.mono (by simp))); (first | (have nz : w3.heap[wA.heap.size]? = some (.cells #[.int .i64 0, .int .i64 0, .slice none 0 0] 39 (0, 0)) := (hb3.block wA.heap.size (by simp)).trans (heapNew wA _); have NZ := Lib.hid nz; have n0 := cellAt nz 0 rfl; have n1 := cellAt nz 1 rfl; have n2 := cellAt nz 2 rfl; have nf := freeAt nz; clear nz) | skip); have SS := (PT.out.stay B3.out hglT hblT).cells; clear hb3 ho1))
      · skip
        have o1 := ownV_move (base' := 0) (w' := w3.alloc (.cells #[.int .i64 br, .int .i64 bn, .slice a1 m1 q1] 39)) O1.out (Nat.le_refl _) (fun q _ hq => heapOld _ _ _ hq)
        have T7 := heapNew w3 (.cells #[.int .i64 br, .int .i64 bn, .slice a1 m1 q1] 39)
        have hb7 := B3.out.alloc B3.out.size (.cells #[.int .i64 br, .int .i64 bn, .slice a1 m1 q1] 39)
        generalize w3.alloc (.cells #[.int .i64 br, .int .i64 bn, .slice a1 m1 q1] 39) = w7 at T7 o1 hb7 ⊢
        generalize w3.heap.size = tb at T7 ⊢
        clear O1
        try clear SS
        try (rename_i hS; clear hS)
        have HH := And.intro o1 (And.intro hb7 (And.intro T7 hm1))
        clear o1 hb7 T7 hm1
        revert HH
        revert w7 tb a1 q1 m1
        exact key.out
      · skip
        have T7 : (((w3.setCell ⟨wA.heap.size, 0, none⟩ (.int .i64 br)).setCell ⟨wA.heap.size, 1, none⟩ (.int .i64 bn)).setCell ⟨wA.heap.size, 2, none⟩ (.slice a1 m1 q1)).heap[wA.heap.size]? = some (.cells #[.int .i64 br, .int .i64 bn, .slice a1 m1 q1] 39 (0, 0)) := heapSet (o := 2) (heapSet (o := 1) (heapSet (o := 0) NZ.out _) _) _
        have o1 := OwnV.setCells (show OwnV w3 0 (.slice a1 m1 q1) _ from O1.out) (t := 39) ⟨_, NZ.out, rfl⟩ typ_acc 0 [.int .i64 br, .int .i64 bn, .slice a1 m1 q1]
        have hb7 := ((B3.out.setCell (p := ⟨wA.heap.size, 0, none⟩) (Nat.le_refl _) (.int .i64 br)).setCell (p := ⟨wA.heap.size, 1, none⟩) (Nat.le_refl _) (.int .i64 bn)).setCell (p := ⟨wA.heap.size, 2, none⟩) (Nat.le_refl _) (.slice a1 m1 q1)
        obtain ⟨w7, hW⟩ : ∃ w7, w7 = ((w3.setCell ⟨wA.heap.size, 0, none⟩ (.int .i64 br)).setCell ⟨wA.heap.size, 1, none⟩ (.int .i64 bn)).setCell ⟨wA.heap.size, 2, none⟩ (.slice a1 m1 q1) := ⟨_, rfl⟩
        change OwnV (((w3.setCell ⟨wA.heap.size, 0, none⟩ (.int .i64 br)).setCell ⟨wA.heap.size, 1, none⟩ (.int .i64 bn)).setCell ⟨wA.heap.size, 2, none⟩ (.slice a1 m1 q1)) 0 _ _ at o1
        rw [← hW] at T7 o1 hb7 ⊢
        generalize wA.heap.size = tb at T7 ⊢
        clear hW NZ O1
        try clear SS
        try (rename_i hS; clear hS)
        have HH := And.intro o1 (And.intro hb7 (And.intro T7 hm1))
        clear o1 hb7 T7 hm1
        revert HH
        revert w7 tb a1 q1 m1
        exact key.out
    · rintro a1 q1 m1 w7 tb ⟨o1, hb7, T7, hm1⟩
      have MW := Lib.hid (VA.out.mat.stay hb7)
      have HT7 := Lib.hid T7
      have HO1 := Lib.hid o1
      have HB7 := Lib.hid hb7
      have PT7 := Lib.hid (PT.out.stay hb7 hglT hblT)
      have hntg : ¬ (tb = g) := fun e => by
        obtain ⟨cs, q1, q2⟩ := MW.out.blk
        rw [← e, HT7.out] at q1
        injection (Option.some.inj q1) with q3 q4
        exact typ_acc2.1 q4
      have hntb : ¬ (tb = b) := fun e => by
        obtain ⟨cs, q1, q2⟩ := (MW.out.bid k _ hk3 VA.out.bid).blk
        rw [← VA.out.b, ← e, HT7.out] at q1
        injection (Option.some.inj q1) with q3 q4
        exact typ_acc2.2 q4
      have hntg' : ¬ (g = tb) := fun e => hntg e.symm
      have hntb' : ¬ (b = tb) := fun e => hntb e.symm
      clear y0 y1 y2 z0 z1 u0 u1 u2 u3 u4 T7 o1 hb7
      have z0 := PT7.out.ply.z0
      have z1 := PT7.out.ply.z1
      have t0 := cellAt HT7.out 0 rfl
      have t1 := cellAt HT7.out 1 rfl
      have hfi := MW.out.fine
      have hf := MW.out.blk.free
      go_upto_region 15 with fail
      refine region_quiet_tail 20 (by kernel_rfl) (by kernel_rfl) ?_
      simp only [List.take_succ_cons, List.take_zero, List.drop_succ_cons, List.drop_zero]
      repeat (go_big_quiet_step (fail))
      refine wpQuiet_nil ?_
      intro w9 hw9
      obtain ⟨nq, rfl⟩ := hw9
      go_upto_region 16 with fail
      obtain ⟨w8, hW⟩ : ∃ w8, w8 = (w7.drewN nq).setCell ⟨g, 37, none⟩ (.bool true) := ⟨_, rfl⟩
      rw [← hW]
      have M8 := Lib.hid (show MatW w8 g _ ad c pb by rw [hW]; exact (MW.out.drewN nq).setFine)
      have T8 := Lib.hid (show w8.heap[tb]? = some (.cells #[.int .i64 br, .int .i64 bn, .slice a1 m1 q1] 39 (0, 0)) by rw [hW]; exact (heapSet_ne _ _ hntg).trans HT7.out)
      have O81 := Lib.hid (show OwnV w8 0 (.slice a1 m1 q1) _ by rw [hW]; exact OwnV.setCells (w := w7.drewN nq) (ownV_move HO1.out (Nat.le_refl _) (fun _ _ _ => rfl)) MW.out.blk typ_ne.2.1 37 [.bool true])
      have B8 := Lib.hid (show Below base w w8 by rw [hW]; exact (below_drewN (VA.out.below.trans (HB7.out.mono hgT)) nq).setCell hg _)
      clear hW z0 z1 t0 t1 hfi hf
      have t0 := cellAt T8.out 0 rfl
      have t1 := cellAt T8.out 1 rfl
      have t2 := cellAt T8.out 2 rfl
      have hf := M8.out.blk.free
      obtain ⟨v0, q0⟩ := M8.out.blk.cell (j := n * 3) (by omega)
      obtain ⟨v1, q1'⟩ := M8.out.blk.cell (j := n * 3 + 1) (by omega)
      obtain ⟨v2, q2⟩ := M8.out.blk.cell (j := n * 3 + 2) (by omega)
      refine region_quiet_tail 6 (by kernel_rfl) (by kernel_rfl) ?_
      simp only [List.take_succ_cons, List.take_zero, List.drop_succ_cons, List.drop_zero]
      repeat (go_big_quiet_step (fail))
      refine wpQuiet_nil ?_
      intro w9 hw9
      obtain ⟨nq9, rfl⟩ := hw9
      go_upto_region 27 with fail
      have hd := VA.out.done hR hg hn5 hk3 hs3 LOW.out M8.out B8.out hm1.out O81.out nq9
      obtain ⟨w9, hW⟩ : ∃ w9, w9 = (((w8.drewN nq9).setCell ⟨g, n * 3, none⟩ (.int .i64 br)).setCell ⟨g, n * 3 + 1, none⟩ (.int .i64 bn)).setCell ⟨g, n * 3 + 2, none⟩ (.slice a1 m1 q1) := ⟨_, rfl⟩
      rw [← hW]
      have hW2 : (w8.drewN nq9).setCells g (n * 3) [.int .i64 br, .int .i64 bn, .slice a1 m1 q1] = w9 := hW.symm
      rw [hW2] at hd
      obtain ⟨d1, ⟨S9, d2⟩, d3⟩ := hd
      have M9 := Lib.hid d1
      have I9 := Lib.hid d2
      have B9 := Lib.hid d3
      have HR9 := Lib.hid (show (M.vote n s ⟨(br, bn), bt, bw⟩ ⟨c0, c1, c2, c3, c4⟩).rounds ≤ M.rounds + 1 from Nat.le_trans (Nat.le_of_eq VA.out.rounds) (Nat.le_succ _))
      clear hW hW2 t0 t1 t2 hf q0 q1' q2 d1 d2 d3
      go_wp2_with (go_at_call 30; refine (look_any base M9.out I9.out hg).mono ?_; rintro e w5 ⟨rfl, hlk⟩; have FIN : Hid (PlS base w w5 g (M.rounds + 1)) := Lib.hid (by obtain ⟨M', hl⟩ := hlk; exact hl.pls B9.out HR9.out VA.out.ptr); clear hlk)
      exact bodyPost_end (v := .tuple #[]) (by simp [results, Try.results19, go_sem]) rfl ⟨rfl, FIN.out⟩
end Go.Proofs.Ytdkbajdnckmckaa

set_option linter.unusedVariables false
set_option linter.unusedSimpArgs false
namespace Go.Proofs.Ytdkbajdnckmckaa
open Go.RowKit Go.Con
set_option maxRecDepth 100000 in
set_option maxHeartbeats 8000000 in
theorem play_was (base : Nat) {w : World} {g : Nat} {M : Mat} {ad : Nat → Option Addr} {c pb : Nat → Nat} {nd : Nat → Int} {S : Nat → PxS Cmd} (h : MatW w g M ad c pb) (hi : MInv M nd S) (hg : base ≤ g) (hR : M.rounds ≤ 1000) (hpb : ∀ k B, k < 3 → M.bid k = some B → base ≤ pb k)
    (pk pn pp ps pv : Int) (hw : WishOk ⟨pk, pn, pp, ps, pv⟩) (n k s : Nat) (hn : Hid (pick pn 5 = n)) (hk : Hid (pick pp 3 = k)) (hs : Hid (pick ps 3 = s)) (hc6 : 6 ≤ pick pk 12) {B : Bid} (hB : M.bid k = some B) (hm : 5 < 2 * (B.lists 5).length) (hx : B.what s = none) (hwas : 0 < (bestV s Vot.zero (B.lists 5).flatten).bal.1) :
    Calls Try.prog 19 #[.pointer (some ⟨g, 0, none⟩), .agg #[.int .i64 pk, .int .i64 pn, .int .i64 pp, .int .i64 ps, .int .i64 pv]] w fun e w' => e = .returned (.tuple #[]) ∧ PlS base w w' g (M.rounds + 1) := by
  obtain ⟨⟨k1, k2⟩, ⟨n1, n2⟩, ⟨p1, p2⟩, ⟨s1, s2⟩, ⟨v1, v2⟩⟩ := hw
  dsimp only at k1 k2 n1 n2 p1 p2 s1 s2 v1 v2
  have hn5 : n < 5 := by have h1 := pick_lt pn 5 (by omega); rw [hn.out] at h1; omega
  have hk3 : k < 3 := by have h1 := pick_lt pp 3 (by omega); rw [hk.out] at h1; omega
  have hs3 : s < 3 := by have h1 := pick_lt ps 3 (by omega); rw [hs.out] at h1; omega
  obtain ⟨kd, hkd⟩ : ∃ x, x = pick pk 12 := ⟨_, rfl⟩
  have HKD := Lib.hid hkd.symm
  rw [← hkd] at hc6
  clear hkd
  have HPB := Lib.hid hpb
  have HIN := Lib.hid hi
  have hgl := h.blk.lt
  have hpn := h.ne hk3 hB
  have hbl := (h.bid k B hk3 hB).blk.lt
  have OKB := MInv.okb hi hR hk3 hB
  have OKA := hi.fit n hn5
  have LEN := MInv.len hi hn5
  have HM := Lib.hid h
  have HB := Lib.hid hB
  have HCN := Lib.hid (h.bid k B hk3 hB)
  obtain ⟨t, ht⟩ : ∃ t, t = (B.lists 5).length := ⟨_, rfl⟩
  have ht5 : t ≤ 5 := by rw [ht]; unfold Bid.lists; exact Nat.le_trans (List.length_filterMap_le ..) (by simp)
  have HT := Lib.hid ht
  have HLOK := Lib.hid (hi.lists_ok hk3 hB)
  obtain ⟨ls, hls⟩ : ∃ ls, ls = B.lists 5 := ⟨_, rfl⟩
  have HLSB := Lib.hid hls
  obtain ⟨R, hR0⟩ : ∃ R, R = bestV s Vot.zero (B.lists 5).flatten := ⟨_, rfl⟩
  have HASK : Hid (∀ c0, checkC c0 = 0 → ∃ S', MInv (M.ask k s B (if 0 < R.bal.1 then R.what else c0)) nd S') := Lib.hid fun c0 h0 => hi.pick hk3 hs3 hB hx hm hR0 h0
  have HBV := Lib.hid (show bestV s Vot.zero ls.flatten = R by rw [hls]; exact hR0.symm)
  have HWN := Lib.hid hx
  rw [← hR0] at hwas
  have HWAS := Lib.hid hwas
  rw [← hls] at HLOK
  clear hR0 hwas hls
  obtain ⟨sl, ⟨rr, rn⟩, ⟨c0, c1, c2, c3, c4⟩⟩ := R
  obtain ⟨⟨br, bn⟩, bt, bw⟩ := B
  obtain ⟨⟨⟨pr, pm⟩, L⟩, hX⟩ : ∃ x, M.node n = x := ⟨_, rfl⟩
  have HX := Lib.hid hX
  have OWN := h.own n hn5
  rw [hX] at OKA LEN OWN
  dsimp only at OKB LEN OWN
  have OKA : okA (pr, pm) L = true := OKA
  have HOKB := Lib.hid OKB
  have HOKA := Lib.hid OKA
  have HLEN := Lib.hid LEN
  have HPL := Lib.hid (h.ply hn5 hk3 hX hB)
  obtain ⟨b, hb⟩ : ∃ b, b = pb k := ⟨_, rfl⟩
  rw [← hb] at HPL hpn hbl HCN
  obtain ⟨na, hna⟩ : ∃ x, x = ad n := ⟨_, rfl⟩
  obtain ⟨nc, hnc⟩ : ∃ x, x = c n := ⟨_, rfl⟩
  obtain ⟨m, hm0⟩ : ∃ x, x = L.length := ⟨_, rfl⟩
  rw [← hna, ← hnc, ← hm0] at HPL OWN
  have HML := Lib.hid hm0
  have HVT := Lib.hid OWN.votes
  have HBK := Lib.hid hb
  have HNA := Lib.hid hna
  have HNC := Lib.hid hnc
  clear h hi hpb hX hB OKB OKA LEN OWN hna hnc hb hm0 ht
  go_enter Try.func19, Try.ntmps19
  go_upto_region 1 with fail
  generalize hW : World.alloc _ _ = wA
  have T3 := Lib.hid (show wA.heap[w.heap.size]? = some (.cells #[.int .i64 pk, .int .i64 pn, .int .i64 pp, .int .i64 ps, .int .i64 pv] 26 (0, 0)) by rw [← hW]; exact heapNew _ _)
  have BA := Lib.hid (show Below w.heap.size w wA by rw [← hW]; exact (Below.refl _ _).alloc (Nat.le_refl _) _)
  clear hW
  have x0 := cellAt T3.out 0 rfl
  have x1 := cellAt T3.out 1 rfl
  have x2 := cellAt T3.out 2 rfl
  have x3 := cellAt T3.out 3 rfl
  have x4 := cellAt T3.out 4 rfl
  have MA := Lib.hid (HM.out.stay BA.out)
  have hpt : wA.cell? ⟨g, 15 + k, none⟩ = some (.pointer (some ⟨b, 0, none⟩)) := by
    have h1 := MA.out.ptr k hk3
    rw [HB.out, ← HBK.out] at h1
    exact h1
  have e0 : (kd == 0) = false := by rw [beq_eq_false_iff_ne]; omega
  have e6 : decide (kd < 6) = false := by rw [decide_eq_false_iff_not]; omega
  have hw2 : IntKind.i64.wrap (2 * (t : Int)) = 2 * (t : Int) := IntWalk.i64_in _ (by omega)
  have hbA := BA.out.size
  have hglA : g < wA.heap.size := by omega
  have hblA : b < wA.heap.size := by omega
  have hn50 : (0 : Int) ≤ n := by omega
  have hn51 : (n : Int) < 5 := by omega
  have hs30 : (0 : Int) ≤ s := by omega
  have hs31 : (s : Int) < 3 := by omega
  have HCA := Lib.hid (show BidW wA b ⟨(br, bn), bt, bw⟩ by rw [HBK.out]; exact MA.out.bid k _ hk3 HB.out)
  have HCNT : Hid (Calls Try.prog 28 #[.pointer (some ⟨b, 0, none⟩)] wA fun e w' => e = .returned (.int .i64 t) ∧ wA = w') := Lib.hid (by
    have h1 := count_any b _ wA HCA.out
    rw [← HT.out] at h1
    exact h1.mono fun e w' h2 => ⟨h2.1, h2.2.symm⟩)
  have VT := Lib.hid (HVT.out.stay BA.out)
  have hm' := HT.out
  have e2 : decide (2 * (t : Int) ≤ 5) = false := by rw [decide_eq_false_iff_not]; omega
  have as0 : wA.cell? ⟨b, 12 + s, none⟩ = some (.bool false) := by
    have h1 := HCA.out.asked s hs3
    rw [show (Bid.what ⟨(br, bn), bt, bw⟩) s = none from hx] at h1
    exact h1
  have HRB : Hid (decide (0 < rr) = true) := Lib.hid (by have h1 := HWAS.out; simp only [decide_eq_true_eq, decide_eq_false_iff_not]; exact h1)
  have HLS : Hid (Calls Try.prog 29 #[.pointer (some ⟨b, 0, none⟩)] wA fun e w' => ∃ a c, e = .returned (.slice a t c) ∧ RdLs w' (.slice a t c) ls ∧ Below wA.heap.size wA w') := Lib.hid (by
    have h1 := lists_any b _ wA HCA.out
    rw [← HT.out, ← HLSB.out] at h1
    exact h1)
  clear hx hm' hm
  go_upto_region 8 with (first
    | (go_at_call 10; refine (picked_toP _ _ _ _ (by assumption) (by assumption) (by decide) (by assumption)).mono ?_; rintro e _ ⟨rfl, rfl⟩)
    | (go_at_call 28; refine HCNT.out.mono ?_; rintro e _ ⟨rfl, rfl⟩)
    | (go_at_call 29; refine HLS.out.mono ?_; rintro e w1 ⟨la, lc, rfl, hl1, hb1⟩; have L1 := Lib.hid hl1; have B1 := Lib.hid hb1; clear hl1 hb1)
    | (go_at_call 11; refine (PickR _ _ _ sl rr rn c0 c1 c2 c3 c4 true _ L1.out (by omega) (by omega) HLOK.out HBV.out HRB).mono ?_; rintro e w2 ⟨rfl, hb2⟩; have B2 := Lib.hid hb2; clear hb2))
  generalize hW : World.alloc _ _ = wB
  have TB := Lib.hid (show wB.heap[w2.heap.size]? = some (.cells #[.int .i64 c0, .int .i64 c1, .int .i64 c2, .int .i64 c3, .int .i64 c4] 30 (0, 0)) by rw [← hW]; exact heapNew _ _)
  have BB := Lib.hid (show Below wA.heap.size wA wB by rw [← hW]; exact (B1.out.trans (B2.out.mono B1.out.size)).alloc (Nat.le_trans B1.out.size B2.out.size) _)
  have htbA : wA.heap.size ≤ w2.heap.size := Nat.le_trans B1.out.size B2.out.size
  obtain ⟨tb, htb⟩ : ∃ tb, tb = w2.heap.size := ⟨_, rfl⟩
  rw [← htb] at TB htbA ⊢
  clear hW htb x0 x1 x2 x3 x4 hpt e0 e6 e2 as0
  have MB := Lib.hid (MA.out.stay BB.out)
  have BBW := Lib.hid (show Below base w wB from (BA.out.mono (by omega)).trans (BB.out.mono (by omega)))
  have hsB := BB.out.size
  have hfi := MB.out.fine
  have hf := MB.out.blk.free
  go_upto_region 11 with fail
  obtain ⟨wC, hW⟩ : ∃ wC, wC = wB.setCell ⟨g, 37, none⟩ (.bool true) := ⟨_, rfl⟩
  rw [← hW]
  have hntg : ¬ (tb = g) := by omega
  have hntb : ¬ (tb = b) := by omega
  have hntb' : ¬ (b = tb) := by omega
  have MC := Lib.hid (show MatW wC g M ad c pb by rw [hW]; exact MB.out.setFine)
  have TC := Lib.hid (show wC.heap[tb]? = some (.cells #[.int .i64 c0, .int .i64 c1, .int .i64 c2, .int .i64 c3, .int .i64 c4] 30 (0, 0)) by rw [hW]; exact (heapSet_ne _ _ hntg).trans TB.out)
  have BC := Lib.hid (show Below base w wC by rw [hW]; exact BBW.out.setCell hg _)
  have hsC : wC.heap.size = wB.heap.size := by rw [hW]; simp [World.setCell]
  clear hW hfi hf
  have HBC := Lib.hid (show BidW wC b ⟨(br, bn), bt, bw⟩ by rw [HBK.out]; exact MC.out.bid k _ hk3 HB.out)
  have hf := HBC.out.blk.free
  obtain ⟨v0, q0⟩ := HBC.out.blk.cell (j := 12 + s) (by omega)
  go_upto_region 12 with fail
  obtain ⟨wD, hW⟩ : ∃ wD, wD = wC.setCell ⟨b, 12 + s, none⟩ (.bool true) := ⟨_, rfl⟩
  rw [← hW]
  have hWD := Lib.hid (show wD = wC.setCells b (12 + s) [.bool true] from hW)
  have KD := Lib.hid (show Blk wD b 77 30 by rw [hWD.out]; exact HBC.out.blk.set _ _ _)
  have TD := Lib.hid (show wD.heap[tb]? = some (.cells #[.int .i64 c0, .int .i64 c1, .int .i64 c2, .int .i64 c3, .int .i64 c4] 30 (0, 0)) by rw [hW]; exact (heapSet_ne _ _ hntb).trans TC.out)
  clear hW hf q0
  have hf := KD.out.free
  have t0 := cellAt TD.out 0 rfl
  have t1 := cellAt TD.out 1 rfl
  have t2 := cellAt TD.out 2 rfl
  have t3 := cellAt TD.out 3 rfl
  have t4 := cellAt TD.out 4 rfl
  obtain ⟨v0, q0⟩ := KD.out.cell (j := 15 + s * 5) (by omega)
  obtain ⟨v1, q1⟩ := KD.out.cell (j := 15 + s * 5 + 1) (by omega)
  obtain ⟨v2, q2⟩ := KD.out.cell (j := 15 + s * 5 + 2) (by omega)
  obtain ⟨v3, q3⟩ := KD.out.cell (j := 15 + s * 5 + 3) (by omega)
  obtain ⟨v4, q4⟩ := KD.out.cell (j := 15 + s * 5 + 4) (by omega)
  refine region_quiet_tail 6 (by kernel_rfl) (by kernel_rfl) ?_
  simp only [List.take_succ_cons, List.take_zero, List.drop_succ_cons, List.drop_zero]
  repeat (go_big_quiet_step (fail))
  refine wpQuiet_nil ?_
  intro w9 hw9
  obtain ⟨nq7, rfl⟩ := hw9
  go_upto_region 13 with fail
  obtain ⟨wE, hW⟩ : ∃ wE, wE = (((((wD.drewN nq7).setCell ⟨b, 15 + s * 5, none⟩ (.int .i64 c0)).setCell ⟨b, 15 + s * 5 + 1, none⟩ (.int .i64 c1)).setCell ⟨b, 15 + s * 5 + 2, none⟩ (.int .i64 c2)).setCell ⟨b, 15 + s * 5 + 3, none⟩ (.int .i64 c3)).setCell ⟨b, 15 + s * 5 + 4, none⟩ (.int .i64 c4) := ⟨_, rfl⟩
  rw [← hW]
  have hWE : wE = ((wC.setCells (pb k) (12 + s) [.bool true]).setCells (pb k) (15 + s * 5) (wishCells ⟨c0, c1, c2, c3, c4⟩)).drewN nq7 := by
    rw [← setCells_drewN, ← HBK.out, ← hWD.out]; exact hW
  have hsE : wA.heap.size ≤ wE.heap.size := by
    have e : wE.heap.size = wC.heap.size := by rw [hWE]; show (World.setCells _ _ _ _).heap.size = _; rw [setCells_size, setCells_size]
    omega
  have ME := Lib.hid (show MatW wE g (M.ask k s ⟨(br, bn), bt, bw⟩ ⟨c0, c1, c2, c3, c4⟩) ad c pb by
    have hbd := MC.out.bid k _ hk3 HB.out
    have h1 := MC.out.setBid (w' := (wC.setCells (pb k) (12 + s) [.bool true]).setCells (pb k) (15 + s * 5) (wishCells ⟨c0, c1, c2, c3, c4⟩)) hk3 HB.out (B' := { bal := (br, bn), told := bt, what := put1 bw s (some ⟨c0, c1, c2, c3, c4⟩) }) (fun q hq => by rw [setCells_heap_ne hq, setCells_heap_ne hq])
      (hbd.setWhat hs3 ⟨c0, c1, c2, c3, c4⟩) (fun v l h2 => (h2.setCells hbd.blk typ_ne.1 _ _).setCells (hbd.blk.set _ _ _) typ_ne.1 _ _)
    rw [hWE]
    exact h1.drewN nq7)
  have BE := Lib.hid (show Below base w wE by
    have hpk : base ≤ pb k := HPB.out k _ hk3 HB.out
    rw [hWE]; exact below_drewN (Below.setCellsM hpk _ _ (Below.setCellsM hpk _ _ BC.out)) nq7)
  have hask := HASK.out Cmd.zero (by decide)
  rw [if_pos (show 0 < (Vot.mk sl (rr, rn) ⟨c0, c1, c2, c3, c4⟩).bal.1 from HWAS.out)] at hask
  obtain ⟨SE, hI⟩ := hask
  have IE := Lib.hid hI
  clear hW hWE hf t0 t1 t2 t3 t4 q0 q1 q2 q3 q4 hI KD TD TC HBC hWD MC BC TB BB BBW MB hsC hsB
  have VA : Hid (VoteAt base w wE g b n k s M (M.ask k s ⟨(br, bn), bt, bw⟩ ⟨c0, c1, c2, c3, c4⟩) ad c pb nd SE pr pm br bn L na m nc bt (put1 bw s (some ⟨c0, c1, c2, c3, c4⟩)) c0 c1 c2 c3 c4) := Lib.hid ⟨ME.out, IE.out, HX.out, put1_same _ _ _, put1_same _ _ _, rfl, Bid.keepR M HB.out hk3 HPB.out, BE.out, HNA.out, HNC.out, HML.out, HBK.out⟩
  clear ME IE BE HASK HBV HLS HLOK HWN HT T3
  have hglT : g < wE.heap.size := by omega
  have hblT : b < wE.heap.size := by omega
  have PT := Lib.hid (VA.out.ply hn5 hk3 hs3)
  have y0 := PT.out.ply.y0
  have y1 := PT.out.ply.y1
  have y2 := PT.out.ply.y2
  have z0 := PT.out.ply.z0
  have z1 := PT.out.ply.z1
  have u0 := PT.out.w0
  have u1 := PT.out.w1
  have u2 := PT.out.w2
  have u3 := PT.out.w3
  have u4 := PT.out.w4
  have hnA : ¬ (wE.heap.size = g) := by omega
  have hnA' : ¬ (g = wE.heap.size) := by omega
  have hnB : ¬ (wE.heap.size = b) := by omega
  have hnB' : ¬ (b = wE.heap.size) := by omega
  have hgT : base ≤ wE.heap.size := by omega
  by_cases hlow : cmpB (br, bn) (pr, pm) < 0
  · have HC := Lib.hid (VA.out.low hR hn5 hk3 hs3 hlow)
    clear hlow
    refine' cutTo (fun key => _) _
    rotate_left 1
    · skip
      go_region_held3 (fun w' => w'.cell? ⟨g, n * 3, none⟩ = some (.int .i64 pr) ∧ w'.cell? ⟨g, n * 3 + 1, none⟩ = some (.int .i64 pm) ∧ w'.cell? ⟨g, n * 3 + 2, none⟩ = some (.slice na m nc) ∧ w'.cell? ⟨b, 0, none⟩ = some (.int .i64 br) ∧ w'.cell? ⟨b, 1, none⟩ = some (.int .i64 bn) ∧ w'.cell? ⟨b, 15 + s * 5, none⟩ = some (.int .i64 c0) ∧ w'.cell? ⟨b, 15 + s * 5 + 1, none⟩ = some (.int .i64 c1) ∧ w'.cell? ⟨b, 15 + s * 5 + 2, none⟩ = some (.int .i64 c2) ∧ w'.cell? ⟨b, 15 + s * 5 + 3, none⟩ = some (.int .i64 c3) ∧ w'.cell? ⟨b, 15 + s * 5 + 4, none⟩ = some (.int .i64 c4)) (first | exact SS | go_keep)
        (first | (go_at_call 15; refine (HC.out _ (by first | exact (Below.refl _ _).drew | exact ((Below.refl _ _).alloc (Nat.le_refl _) _).drew)).mono ?_; rintro e w3 ⟨rfl, hb3⟩; have B3 := Lib.hid (show Below wE.heap.size wE w3 by first | exact (Below.refl wE.heap.size wE).drew.trans hb3 | exact ((Below.refl wE.heap.size wE).alloc (Nat.le_refl _) _).drew.trans (hb3.mono (by simp))); (first | (have nz : w3.heap[wE.heap.size]? = some (.cells #[.int .i64 0, .int .i64 0, .slice none 0 0] 39 (0, 0)) := (hb3.block wE.heap.size (by simp)).trans (heapNew wE _); have NZ := Lib.hid nz; have n0 := cellAt nz 0 rfl; have n1 := cellAt nz 1 rfl; have n2 := cellAt nz 2 rfl; have nf := freeAt nz; clear nz) | skip); have SS := (PT.out.stay B3.out hglT hblT).cells; clear hb3))
      · skip
        have hb7 := B3.out.alloc B3.out.size (.cells #[.int .i64 0, .int .i64 0, .slice none 0 0] 39)
        generalize w3.alloc (.cells #[.int .i64 0, .int .i64 0, .slice none 0 0] 39) = w7 at hb7 ⊢
        generalize w3.heap.size = tb
        try clear SS
        try (rename_i hS; clear hS)
        revert hb7
        revert w7 tb
        exact key.out
      · skip
        have hb7 := ((B3.out.setCell (p := ⟨wE.heap.size, 0, none⟩) (Nat.le_refl _) (.int .i64 0)).setCell (p := ⟨wE.heap.size, 1, none⟩) (Nat.le_refl _) (.int .i64 0)).setCell (p := ⟨wE.heap.size, 2, none⟩) (Nat.le_refl _) (.slice none 0 0)
        obtain ⟨w7, hW⟩ : ∃ w7, w7 = ((w3.setCell ⟨wE.heap.size, 0, none⟩ (.int .i64 0)).setCell ⟨wE.heap.size, 1, none⟩ (.int .i64 0)).setCell ⟨wE.heap.size, 2, none⟩ (.slice none 0 0) := ⟨_, rfl⟩
        rw [← hW] at hb7 ⊢
        clear hW NZ
        obtain ⟨tb, htb⟩ : ∃ t, t = wE.heap.size := ⟨_, rfl⟩
        rw [← htb]
        clear htb
        try clear SS
        try (rename_i hS; clear hS)
        revert hb7
        revert w7 tb
        exact key.out
    · intro w7 tb hb7
      have FIN := Lib.hid (VA.out.same hb7 hgT)
      clear hb7
      go_wp2_with fail
      exact bodyPost_ret (v := .tuple #[]) (by simp [results, Try.results19, go_sem]) rfl ⟨rfl, FIN.out⟩
  · have LOW := Lib.hid (Int.not_lt.1 hlow)
    have HC := Lib.hid (VA.out.high hR hn5 hk3 hs3 (Int.not_lt.1 hlow))
    clear hlow
    refine' cutTo (fun key => _) _
    rotate_left 1
    · skip
      go_region_held3 (fun w' => w'.cell? ⟨g, n * 3, none⟩ = some (.int .i64 pr) ∧ w'.cell? ⟨g, n * 3 + 1, none⟩ = some (.int .i64 pm) ∧ w'.cell? ⟨g, n * 3 + 2, none⟩ = some (.slice na m nc) ∧ w'.cell? ⟨b, 0, none⟩ = some (.int .i64 br) ∧ w'.cell? ⟨b, 1, none⟩ = some (.int .i64 bn) ∧ w'.cell? ⟨b, 15 + s * 5, none⟩ = some (.int .i64 c0) ∧ w'.cell? ⟨b, 15 + s * 5 + 1, none⟩ = some (.int .i64 c1) ∧ w'.cell? ⟨b, 15 + s * 5 + 2, none⟩ = some (.int .i64 c2) ∧ w'.cell? ⟨b, 15 + s * 5 + 3, none⟩ = some (.int .i64 c3) ∧ w'.cell? ⟨b, 15 + s * 5 + 4, none⟩ = some (.int .i64 c4)) (first | exact SS | go_keep)
        (first | (go_at_call 15; refine (HC.out _ (by first | exact (Below.refl _ _).drew | exact ((Below.refl _ _).alloc (Nat.le_refl _) _).drew)).mono ?_; rintro e w3 ⟨a1, q1, m1, hm1, rfl, ho1, hb3⟩; have O1 := Lib.hid ho1; have B3 := Lib.hid (show Below wE.heap.size wE w3 by first | exact (Below.refl wE.heap.size wE).drew.trans hb3 | exact ((Below.refl wE.heap.size wE).alloc (Nat.le_refl _) _).drew.trans (hb3.mono (by simp))); (first | (have nz : w3.heap[wE.heap.size]? = some (.cells #[.int .i64 0, .int .i64 0, .slice none 0 0] 39 (0, 0)) := (hb3.block wE.heap.size (by simp)).trans (heapNew wE _); have NZ := Lib.hid nz; have n0 := cellAt nz 0 rfl; have n1 := cellAt nz 1 rfl; have n2 := cellAt nz 2 rfl; have nf := freeAt nz; clear nz) | skip); have SS := (PT.out.stay B3.out hglT hblT).cells; clear hb3 ho1))
      · skip
        have o1 := ownV_move (base' := 0) (w' := w3.alloc (.cells #[.int .i64 br, .int .i64 bn, .slice a1 m1 q1] 39)) O1.out (Nat.le_refl _) (fun q _ hq => heapOld _ _ _ hq)
        have T7 := heapNew w3 (.cells #[.int .i64 br, .int .i64 bn, .slice a1 m1 q1] 39)
        have hb7 := B3.out.alloc B3.out.size (.cells #[.int .i64 br, .int .i64 bn, .slice a1 m1 q1] 39)
        generalize w3.alloc (.cells #[.int .i64 br, .int .i64 bn, .slice a1 m1 q1] 39) = w7 at T7 o1 hb7 ⊢
        generalize w3.heap.size = tb at T7 ⊢
        clear O1
        try clear SS
        try (rename_i hS; clear hS)
        have HH := And.intro o1 (And.intro hb7 (And.intro T7 hm1))
        clear o1 hb7 T7 hm1
        revert HH
        revert w7 tb a1 q1 m1
        exact key.out
      · skip
        have T7 : (((w3.setCell ⟨wE.heap.size, 0, none⟩ (.int .i64 br)).setCell ⟨wE.heap.size, 1, none⟩ (.int .i64 bn)).setCell ⟨wE.heap.size, 2, none⟩ (.slice a1 m1 q1)).heap[wE.heap.size]? = some (.cells #[.int .i64 br, .int .i64 bn, .slice a1 m1 q1] 39 (0, 0)) := heapSet (o := 2) (heapSet (o := 1) (heapSet (o := 0) NZ.out _) _) _
        have o1 := OwnV.setCells (show OwnV w3 0 (.slice a1 m1 q1) _ from O1.out) (t := 39) ⟨_, NZ.out, rfl⟩ typ_acc 0 [.int .i64 br, .int .i64 bn, .slice a1 m1 q1]
        have hb7 := ((B3.out.setCell (p := ⟨wE.heap.size, 0, none⟩) (Nat.le_refl _) (.int .i64 br)).setCell (p := ⟨wE.heap.size, 1, none⟩) (Nat.le_refl _) (.int .i64 bn)).setCell (p := ⟨wE.heap.size, 2, none⟩) (Nat.le_refl _) (.slice a1 m1 q1)
        obtain ⟨w7, hW⟩ : ∃ w7, w7 = ((w3.setCell ⟨wE.heap.size, 0, none⟩ (.int .i64 br)).setCell ⟨wE.heap.size, 1, none⟩ (.int .i64 bn)).setCell ⟨wE.heap.size, 2, none⟩ (.slice a1 m1 q1) := ⟨_, rfl⟩
        change OwnV (((w3.setCell ⟨wE.heap.size, 0, none⟩ (.int .i64 br)).setCell ⟨wE.heap.size, 1, none⟩ (.int .i64 bn)).setCell ⟨wE.heap.size, 2, none⟩ (.slice a1 m1 q1)) 0 _ _ at o1
        rw [← hW] at T7 o1 hb7 ⊢
        generalize wE.heap.size = tb at T7 ⊢
        clear hW NZ O1
        try clear SS
        try (rename_i hS; clear hS)
        have HH := And.intro o1 (And.intro hb7 (And.intro T7 hm1))
        clear o1 hb7 T7 hm1
        revert HH
        revert w7 tb a1 q1 m1
        exact key.out
    · rintro a1 q1 m1 w7 tb ⟨o1, hb7, T7, hm1⟩
      have MW := Lib.hid (VA.out.mat.stay hb7)
      have HT7 := Lib.hid T7
      have HO1 := Lib.hid o1
      have HB7 := Lib.hid hb7
      have PT7 := Lib.hid (PT.out.stay hb7 hglT hblT)
      have hntg : ¬ (tb = g) := fun e => by
        obtain ⟨cs, q1, q2⟩ := MW.out.blk
        rw [← e, HT7.out] at q1
        injection (Option.some.inj q1) with q3 q4
        exact typ_acc2.1 q4
      have hntb : ¬ (tb = b) := fun e => by
        obtain ⟨cs, q1, q2⟩ := (MW.out.bid k _ hk3 VA.out.bid).blk
        rw [← VA.out.b, ← e, HT7.out] at q1
        injection (Option.some.inj q1) with q3 q4
        exact typ_acc2.2 q4
      have hntg' : ¬ (g = tb) := fun e => hntg e.symm
      have hntb' : ¬ (b = tb) := fun e => hntb e.symm
      clear y0 y1 y2 z0 z1 u0 u1 u2 u3 u4 T7 o1 hb7
      have z0 := PT7.out.ply.z0
      have z1 := PT7.out.ply.z1
      have t0 := cellAt HT7.out 0 rfl
      have t1 := cellAt HT7.out 1 rfl
      have hfi := MW.out.fine
      have hf := MW.out.blk.free
      go_upto_region 15 with fail
      refine region_quiet_tail 20 (by kernel_rfl) (by kernel_rfl) ?_
      simp only [List.take_succ_cons, List.take_zero, List.drop_succ_cons, List.drop_zero]
      repeat (go_big_quiet_step (fail))
      refine wpQuiet_nil ?_
      intro w9 hw9
      obtain ⟨nq, rfl⟩ := hw9
      go_upto_region 16 with fail
      obtain ⟨w8, hW⟩ : ∃ w8, w8 = (w7.drewN nq).setCell ⟨g, 37, none⟩ (.bool true) := ⟨_, rfl⟩
      rw [← hW]
      have M8 := Lib.hid (show MatW w8 g _ ad c pb by rw [hW]; exact (MW.out.drewN nq).setFine)
      have T8 := Lib.hid (show w8.heap[tb]? = some (.cells #[.int .i64 br, .int .i64 bn, .slice a1 m1 q1] 39 (0, 0)) by rw [hW]; exact (heapSet_ne _ _ hntg).trans HT7.out)
      have O81 := Lib.hid (show OwnV w8 0 (.slice a1 m1 q1) _ by rw [hW]; exact OwnV.setCells (w := w7.drewN nq) (ownV_move HO1.out (Nat.le_refl _) (fun _ _ _ => rfl)) MW.out.blk typ_ne.2.1 37 [.bool true])
      have B8 := Lib.hid (show Below base w w8 by rw [hW]; exact (below_drewN (VA.out.below.trans (HB7.out.mono hgT)) nq).setCell hg _)
      clear hW z0 z1 t0 t1 hfi hf
      have t0 := cellAt T8.out 0 rfl
      have t1 := cellAt T8.out 1 rfl
      have t2 := cellAt T8.out 2 rfl
      have hf := M8.out.blk.free
      obtain ⟨v0, q0⟩ := M8.out.blk.cell (j := n * 3) (by omega)
      obtain ⟨v1, q1'⟩ := M8.out.blk.cell (j := n * 3 + 1) (by omega)
      obtain ⟨v2, q2⟩ := M8.out.blk.cell (j := n * 3 + 2) (by omega)
      refine region_quiet_tail 6 (by kernel_rfl) (by kernel_rfl) ?_
      simp only [List.take_succ_cons, List.take_zero, List.drop_succ_cons, List.drop_zero]
      repeat (go_big_quiet_step (fail))
      refine wpQuiet_nil ?_
      intro w9 hw9
      obtain ⟨nq9, rfl⟩ := hw9
      go_upto_region 27 with fail
      have hd := VA.out.done hR hg hn5 hk3 hs3 LOW.out M8.out B8.out hm1.out O81.out nq9
      obtain ⟨w9, hW⟩ : ∃ w9, w9 = (((w8.drewN nq9).setCell ⟨g, n * 3, none⟩ (.int .i64 br)).setCell ⟨g, n * 3 + 1, none⟩ (.int .i64 bn)).setCell ⟨g, n * 3 + 2, none⟩ (.slice a1 m1 q1) := ⟨_, rfl⟩
      rw [← hW]
      have hW2 : (w8.drewN nq9).setCells g (n * 3) [.int .i64 br, .int .i64 bn, .slice a1 m1 q1] = w9 := hW.symm
      rw [hW2] at hd
      obtain ⟨d1, ⟨S9, d2⟩, d3⟩ := hd
      have M9 := Lib.hid d1
      have I9 := Lib.hid d2
      have B9 := Lib.hid d3
      have HR9 := Lib.hid (show ((M.ask k s ⟨(br, bn), bt, bw⟩ ⟨c0, c1, c2, c3, c4⟩).vote n s ⟨(br, bn), bt, (put1 bw s (some ⟨c0, c1, c2, c3, c4⟩))⟩ ⟨c0, c1, c2, c3, c4⟩).rounds ≤ M.rounds + 1 from Nat.le_trans (Nat.le_of_eq VA.out.rounds) (Nat.le_succ _))
      clear hW hW2 t0 t1 t2 hf q0 q1' q2 d1 d2 d3
      go_wp2_with (go_at_call 30; refine (look_any base M9.out I9.out hg).mono ?_; rintro e w5 ⟨rfl, hlk⟩; have FIN : Hid (PlS base w w5 g (M.rounds + 1)) := Lib.hid (by obtain ⟨M', hl⟩ := hlk; exact hl.pls B9.out HR9.out VA.out.ptr); clear hlk)
      exact bodyPost_end (v := .tuple #[]) (by simp [results, Try.results19, go_sem]) rfl ⟨rfl, FIN.out⟩
end Go.Proofs.Ytdkbajdnckmckaa

set_option linter.unusedVariables false
set_option linter.unusedSimpArgs false
namespace Go.Proofs.Ytdkbajdnckmckaa
open Go.RowKit Go.Con
set_option maxRecDepth 100000 in
set_option maxHeartbeats 8000000 in
theorem play_new (base : Nat) {w : World} {g : Nat} {M : Mat} {ad : Nat → Option Addr} {c pb : Nat → Nat} {nd : Nat → Int} {S : Nat → PxS Cmd} (h : MatW w g M ad c pb) (hi : MInv M nd S) (hg : base ≤ g) (hR : M.rounds ≤ 1000) (hpb : ∀ k B, k < 3 → M.bid k = some B → base ≤ pb k)
    (pk pn pp ps pv : Int) (hw : WishOk ⟨pk, pn, pp, ps, pv⟩) (n k s : Nat) (hn : Hid (pick pn 5 = n)) (hk : Hid (pick pp 3 = k)) (hs : Hid (pick ps 3 = s)) (hc6 : 6 ≤ pick pk 12) {B : Bid} (hB : M.bid k = some B) (hm : 5 < 2 * (B.lists 5).length) (hx : B.what s = none) (hwas : ¬ 0 < (bestV s Vot.zero (B.lists 5).flatten).bal.1) :
    Calls Try.prog 19 #[.pointer (some ⟨g, 0, none⟩), .agg #[.int .i64 pk, .int .i64 pn, .int .i64 pp, .int .i64 ps, .int .i64 pv]] w fun e w' => e = .returned (.tuple #[]) ∧ PlS base w w' g (M.rounds + 1) := by
  obtain ⟨⟨k1, k2⟩, ⟨n1, n2⟩, ⟨p1, p2⟩, ⟨s1, s2⟩, ⟨v1, v2⟩⟩ := hw
  dsimp only at k1 k2 n1 n2 p1 p2 s1 s2 v1 v2
  have hn5 : n < 5 := by have h1 := pick_lt pn 5 (by omega); rw [hn.out] at h1; omega
  have hk3 : k < 3 := by have h1 := pick_lt pp 3 (by omega); rw [hk.out] at h1; omega
  have hs3 : s < 3 := by have h1 := pick_lt ps 3 (by omega); rw [hs.out] at h1; omega
  obtain ⟨kd, hkd⟩ : ∃ x, x = pick pk 12 := ⟨_, rfl⟩
  have HKD := Lib.hid hkd.symm
  rw [← hkd] at hc6
  clear hkd
  have HPB := Lib.hid hpb
  have HIN := Lib.hid hi
  have hgl := h.blk.lt
  have hpn := h.ne hk3 hB
  have hbl := (h.bid k B hk3 hB).blk.lt
  have OKB := MInv.okb hi hR hk3 hB
  have OKA := hi.fit n hn5
  have LEN := MInv.len hi hn5
  have HM := Lib.hid h
  have HB := Lib.hid hB
  have HCN := Lib.hid (h.bid k B hk3 hB)
  obtain ⟨t, ht⟩ : ∃ t, t = (B.lists 5).length := ⟨_, rfl⟩
  have ht5 : t ≤ 5 := by rw [ht]; unfold Bid.lists; exact Nat.le_trans (List.length_filterMap_le ..) (by simp)
  have HT := Lib.hid ht
  have HLOK := Lib.hid (hi.lists_ok hk3 hB)
  obtain ⟨ls, hls⟩ : ∃ ls, ls = B.lists 5 := ⟨_, rfl⟩
  have HLSB := Lib.hid hls
  obtain ⟨R, hR0⟩ : ∃ R, R = bestV s Vot.zero (B.lists 5).flatten := ⟨_, rfl⟩
  have HASK : Hid (∀ c0, checkC c0 = 0 → ∃ S', MInv (M.ask k s B (if 0 < R.bal.1 then R.what else c0)) nd S') := Lib.hid fun c0 h0 => hi.pick hk3 hs3 hB hx hm hR0 h0
  have HBV := Lib.hid (show bestV s Vot.zero ls.flatten = R by rw [hls]; exact hR0.symm)
  have HWN := Lib.hid hx
  rw [← hR0] at hwas
  have HWAS := Lib.hid (Int.not_lt.1 hwas)
  rw [← hls] at HLOK
  clear hR0 hwas hls
  obtain ⟨sl, ⟨rr, rn⟩, ⟨d0, d1, d2, d3, d4⟩⟩ := R
  obtain ⟨⟨br, bn⟩, bt, bw⟩ := B
  obtain ⟨⟨⟨pr, pm⟩, L⟩, hX⟩ : ∃ x, M.node n = x := ⟨_, rfl⟩
  have HX := Lib.hid hX
  have OWN := h.own n hn5
  rw [hX] at OKA LEN OWN
  dsimp only at OKB LEN OWN
  have OKA : okA (pr, pm) L = true := OKA
  have HOKB := Lib.hid OKB
  have HOKA := Lib.hid OKA
  have HLEN := Lib.hid LEN
  have HPL := Lib.hid (h.ply hn5 hk3 hX hB)
  obtain ⟨b, hb⟩ : ∃ b, b = pb k := ⟨_, rfl⟩
  rw [← hb] at HPL hpn hbl HCN
  obtain ⟨na, hna⟩ : ∃ x, x = ad n := ⟨_, rfl⟩
  obtain ⟨nc, hnc⟩ : ∃ x, x = c n := ⟨_, rfl⟩
  obtain ⟨m, hm0⟩ : ∃ x, x = L.length := ⟨_, rfl⟩
  rw [← hna, ← hnc, ← hm0] at HPL OWN
  have HML := Lib.hid hm0
  have HVT := Lib.hid OWN.votes
  have HBK := Lib.hid hb
  have HNA := Lib.hid hna
  have HNC := Lib.hid hnc
  clear h hi hpb hX hB OKB OKA LEN OWN hna hnc hb hm0 ht
  go_enter Try.func19, Try.ntmps19
  go_upto_region 1 with fail
  generalize hW : World.alloc _ _ = wA
  have T3 := Lib.hid (show wA.heap[w.heap.size]? = some (.cells #[.int .i64 pk, .int .i64 pn, .int .i64 pp, .int .i64 ps, .int .i64 pv] 26 (0, 0)) by rw [← hW]; exact heapNew _ _)
  have BA := Lib.hid (show Below w.heap.size w wA by rw [← hW]; exact (Below.refl _ _).alloc (Nat.le_refl _) _)
  clear hW
  have x0 := cellAt T3.out 0 rfl
  have x1 := cellAt T3.out 1 rfl
  have x2 := cellAt T3.out 2 rfl
  have x3 := cellAt T3.out 3 rfl
  have x4 := cellAt T3.out 4 rfl
  have MA := Lib.hid (HM.out.stay BA.out)
  have hpt : wA.cell? ⟨g, 15 + k, none⟩ = some (.pointer (some ⟨b, 0, none⟩)) := by
    have h1 := MA.out.ptr k hk3
    rw [HB.out, ← HBK.out] at h1
    exact h1
  have e0 : (kd == 0) = false := by rw [beq_eq_false_iff_ne]; omega
  have e6 : decide (kd < 6) = false := by rw [decide_eq_false_iff_not]; omega
  have hw2 : IntKind.i64.wrap (2 * (t : Int)) = 2 * (t : Int) := IntWalk.i64_in _ (by omega)
  have hbA := BA.out.size
  have hglA : g < wA.heap.size := by omega
  have hblA : b < wA.heap.size := by omega
  have hn50 : (0 : Int) ≤ n := by omega
  have hn51 : (n : Int) < 5 := by omega
  have hs30 : (0 : Int) ≤ s := by omega
  have hs31 : (s : Int) < 3 := by omega
  have HCA := Lib.hid (show BidW wA b ⟨(br, bn), bt, bw⟩ by rw [HBK.out]; exact MA.out.bid k _ hk3 HB.out)
  have HCNT : Hid (Calls Try.prog 28 #[.pointer (some ⟨b, 0, none⟩)] wA fun e w' => e = .returned (.int .i64 t) ∧ wA = w') := Lib.hid (by
    have h1 := count_any b _ wA HCA.out
    rw [← HT.out] at h1
    exact h1.mono fun e w' h2 => ⟨h2.1, h2.2.symm⟩)
  have VT := Lib.hid (HVT.out.stay BA.out)
  have hm' := HT.out
  have e2 : decide (2 * (t : Int) ≤ 5) = false := by rw [decide_eq_false_iff_not]; omega
  have as0 : wA.cell? ⟨b, 12 + s, none⟩ = some (.bool false) := by
    have h1 := HCA.out.asked s hs3
    rw [show (Bid.what ⟨(br, bn), bt, bw⟩) s = none from hx] at h1
    exact h1
  have HRB : Hid (decide (0 < rr) = false) := Lib.hid (by have h1 := HWAS.out; simp only [decide_eq_true_eq, decide_eq_false_iff_not]; exact Int.not_lt.2 h1)
  have HLS : Hid (Calls Try.prog 29 #[.pointer (some ⟨b, 0, none⟩)] wA fun e w' => ∃ a c, e = .returned (.slice a t c) ∧ RdLs w' (.slice a t c) ls ∧ Below wA.heap.size wA w') := Lib.hid (by
    have h1 := lists_any b _ wA HCA.out
    rw [← HT.out, ← HLSB.out] at h1
    exact h1)
  clear hx hm' hm
  go_upto_region 8 with (first
    | (go_at_call 10; refine (picked_toP _ _ _ _ (by assumption) (by assumption) (by decide) (by assumption)).mono ?_; rintro e _ ⟨rfl, rfl⟩)
    | (go_at_call 28; refine HCNT.out.mono ?_; rintro e _ ⟨rfl, rfl⟩)
    | (go_at_call 29; refine HLS.out.mono ?_; rintro e w1 ⟨la, lc, rfl, hl1, hb1⟩; have L1 := Lib.hid hl1; have B1 := Lib.hid hb1; clear hl1 hb1)
    | (go_at_call 11; refine (PickR _ _ _ sl rr rn d0 d1 d2 d3 d4 false _ L1.out (by omega) (by omega) HLOK.out HBV.out HRB).mono ?_; rintro e w2 ⟨rfl, hb2⟩; have B2 := Lib.hid hb2; clear hb2))
  generalize hW : World.alloc _ _ = wB
  have TB := Lib.hid (show wB.heap[w2.heap.size]? = some (.cells #[.int .i64 d0, .int .i64 d1, .int .i64 d2, .int .i64 d3, .int .i64 d4] 30 (0, 0)) by rw [← hW]; exact heapNew _ _)
  have BB := Lib.hid (show Below wA.heap.size wA wB by rw [← hW]; exact (B1.out.trans (B2.out.mono B1.out.size)).alloc (Nat.le_trans B1.out.size B2.out.size) _)
  have htbA : wA.heap.size ≤ w2.heap.size := Nat.le_trans B1.out.size B2.out.size
  obtain ⟨tb, htb⟩ : ∃ tb, tb = w2.heap.size := ⟨_, rfl⟩
  rw [← htb] at TB htbA ⊢
  clear hW htb x0 x1 x2 x3 x4 hpt e0 e6 e2 as0
  have M0 := Lib.hid (MA.out.stay BB.out)
  have hs0 := BB.out.size
  have T3B := Lib.hid ((BB.out.block _ (show w.heap.size < wA.heap.size from lt_of_heap T3.out)).trans T3.out)
  obtain ⟨a, ha⟩ : ∃ a, a = pick pv 100 := ⟨_, rfl⟩
  have ha0 : 0 ≤ a := by rw [ha]; exact pick_nonneg pv 100 (by omega)
  have ha1 : a < 100 := by rw [ha]; exact pick_lt pv 100 (by omega)
  have HPV := Lib.hid ha.symm
  clear ha
  have x4 := cellAt T3B.out 4 rfl
  have hrd := M0.out.rnd
  have q0 := cellAt TB.out 0 rfl
  have q1 := cellAt TB.out 1 rfl
  have q2 := cellAt TB.out 2 rfl
  have q3 := cellAt TB.out 3 rfl
  have q4 := cellAt TB.out 4 rfl
  have hf := freeAt TB.out
  go_upto_region 9 with fail
  refine region_quiet_tail 8 (by kernel_rfl) (by kernel_rfl) ?_
  simp only [List.take_succ_cons, List.take_zero, List.drop_succ_cons, List.drop_zero]
  repeat (go_big_quiet_step ((go_at_call 10; refine quiet_P (picked_toP _ _ _ _ (by assumption) (by assumption) (by decide) (by assumption)) ⟨_, rfl⟩)))
  refine wpQuiet_nil ?_
  intro w9 hw9
  obtain ⟨nq8, rfl⟩ := hw9
  go_upto_region 10 with fail
  obtain ⟨w0, hW⟩ : ∃ w0, w0 = (((((wB.drewN nq8).setCell ⟨tb, 0, none⟩ (.int .i64 1)).setCell ⟨tb, 1, none⟩ (.int .i64 0)).setCell ⟨tb, 2, none⟩ (.int .i64 M.rounds)).setCell ⟨tb, 3, none⟩ (.int .i64 0)).setCell ⟨tb, 4, none⟩ (.int .i64 a) := ⟨_, rfl⟩
  rw [← hW]
  have TC := Lib.hid (show w0.heap[tb]? = some (.cells #[.int .i64 1, .int .i64 0, .int .i64 M.rounds, .int .i64 0, .int .i64 a] 30 (0, 0)) by rw [hW]; exact heapSet (o := 4) (heapSet (o := 3) (heapSet (o := 2) (heapSet (o := 1) (heapSet (o := 0) (show (wB.drewN nq8).heap[tb]? = _ from TB.out) _) _) _) _) _)
  have BC := Lib.hid (show Below wA.heap.size wA w0 by rw [hW]; exact (((((below_drewN BB.out nq8).setCell htbA _).setCell htbA _).setCell htbA _).setCell htbA _).setCell htbA _)
  clear hW x4 hrd q0 q1 q2 q3 q4 hf TB BB M0 hs0
  obtain ⟨wB, hwB⟩ : ∃ x, x = w0 := ⟨_, rfl⟩
  rw [← hwB] at TC BC ⊢
  clear hwB
  have TB := Lib.hid TC.out
  have BB := Lib.hid BC.out
  clear TC BC
  have MB := Lib.hid (MA.out.stay BB.out)
  have BBW := Lib.hid (show Below base w wB from (BA.out.mono (by omega)).trans (BB.out.mono (by omega)))
  have hsB := BB.out.size
  obtain ⟨c2, hc2⟩ : ∃ c2 : Int, c2 = M.rounds := ⟨_, rfl⟩
  rw [← hc2] at TB
  have HC2 := Lib.hid hc2
  clear hc2
  have hfi := MB.out.fine
  have hf := MB.out.blk.free
  go_upto_region 11 with fail
  obtain ⟨wC, hW⟩ : ∃ wC, wC = wB.setCell ⟨g, 37, none⟩ (.bool true) := ⟨_, rfl⟩
  rw [← hW]
  have hntg : ¬ (tb = g) := by omega
  have hntb : ¬ (tb = b) := by omega
  have hntb' : ¬ (b = tb) := by omega
  have MC := Lib.hid (show MatW wC g M ad c pb by rw [hW]; exact MB.out.setFine)
  have TC := Lib.hid (show wC.heap[tb]? = some (.cells #[.int .i64 1, .int .i64 0, .int .i64 c2, .int .i64 0, .int .i64 a] 30 (0, 0)) by rw [hW]; exact (heapSet_ne _ _ hntg).trans TB.out)
  have BC := Lib.hid (show Below base w wC by rw [hW]; exact BBW.out.setCell hg _)
  have hsC : wC.heap.size = wB.heap.size := by rw [hW]; simp [World.setCell]
  clear hW hfi hf
  have HBC := Lib.hid (show BidW wC b ⟨(br, bn), bt, bw⟩ by rw [HBK.out]; exact MC.out.bid k _ hk3 HB.out)
  have hf := HBC.out.blk.free
  obtain ⟨v0, q0⟩ := HBC.out.blk.cell (j := 12 + s) (by omega)
  go_upto_region 12 with fail
  obtain ⟨wD, hW⟩ : ∃ wD, wD = wC.setCell ⟨b, 12 + s, none⟩ (.bool true) := ⟨_, rfl⟩
  rw [← hW]
  have hWD := Lib.hid (show wD = wC.setCells b (12 + s) [.bool true] from hW)
  have KD := Lib.hid (show Blk wD b 77 30 by rw [hWD.out]; exact HBC.out.blk.set _ _ _)
  have TD := Lib.hid (show wD.heap[tb]? = some (.cells #[.int .i64 1, .int .i64 0, .int .i64 c2, .int .i64 0, .int .i64 a] 30 (0, 0)) by rw [hW]; exact (heapSet_ne _ _ hntb).trans TC.out)
  clear hW hf q0
  have hf := KD.out.free
  have t0 := cellAt TD.out 0 rfl
  have t1 := cellAt TD.out 1 rfl
  have t2 := cellAt TD.out 2 rfl
  have t3 := cellAt TD.out 3 rfl
  have t4 := cellAt TD.out 4 rfl
  obtain ⟨v0, q0⟩ := KD.out.cell (j := 15 + s * 5) (by omega)
  obtain ⟨v1, q1⟩ := KD.out.cell (j := 15 + s * 5 + 1) (by omega)
  obtain ⟨v2, q2⟩ := KD.out.cell (j := 15 + s * 5 + 2) (by omega)
  obtain ⟨v3, q3⟩ := KD.out.cell (j := 15 + s * 5 + 3) (by omega)
  obtain ⟨v4, q4⟩ := KD.out.cell (j := 15 + s * 5 + 4) (by omega)
  refine region_quiet_tail 6 (by kernel_rfl) (by kernel_rfl) ?_
  simp only [List.take_succ_cons, List.take_zero, List.drop_succ_cons, List.drop_zero]
  repeat (go_big_quiet_step (fail))
  refine wpQuiet_nil ?_
  intro w9 hw9
  obtain ⟨nq7, rfl⟩ := hw9
  go_upto_region 13 with fail
  obtain ⟨wE, hW⟩ : ∃ wE, wE = (((((wD.drewN nq7).setCell ⟨b, 15 + s * 5, none⟩ (.int .i64 1)).setCell ⟨b, 15 + s * 5 + 1, none⟩ (.int .i64 0)).setCell ⟨b, 15 + s * 5 + 2, none⟩ (.int .i64 c2)).setCell ⟨b, 15 + s * 5 + 3, none⟩ (.int .i64 0)).setCell ⟨b, 15 + s * 5 + 4, none⟩ (.int .i64 a) := ⟨_, rfl⟩
  rw [← hW]
  have hWE : wE = ((wC.setCells (pb k) (12 + s) [.bool true]).setCells (pb k) (15 + s * 5) (wishCells ⟨1, 0, c2, 0, a⟩)).drewN nq7 := by
    rw [← setCells_drewN, ← HBK.out, ← hWD.out]; exact hW
  have hsE : wA.heap.size ≤ wE.heap.size := by
    have e : wE.heap.size = wC.heap.size := by rw [hWE]; show (World.setCells _ _ _ _).heap.size = _; rw [setCells_size, setCells_size]
    omega
  have ME := Lib.hid (show MatW wE g (M.ask k s ⟨(br, bn), bt, bw⟩ ⟨1, 0, c2, 0, a⟩) ad c pb by
    have hbd := MC.out.bid k _ hk3 HB.out
    have h1 := MC.out.setBid (w' := (wC.setCells (pb k) (12 + s) [.bool true]).setCells (pb k) (15 + s * 5) (wishCells ⟨1, 0, c2, 0, a⟩)) hk3 HB.out (B' := { bal := (br, bn), told := bt, what := put1 bw s (some ⟨1, 0, c2, 0, a⟩) }) (fun q hq => by rw [setCells_heap_ne hq, setCells_heap_ne hq])
      (hbd.setWhat hs3 ⟨1, 0, c2, 0, a⟩) (fun v l h2 => (h2.setCells hbd.blk typ_ne.1 _ _).setCells (hbd.blk.set _ _ _) typ_ne.1 _ _)
    rw [hWE]
    exact h1.drewN nq7)
  have BE := Lib.hid (show Below base w wE by
    have hpk : base ≤ pb k := HPB.out k _ hk3 HB.out
    rw [hWE]; exact below_drewN (Below.setCellsM hpk _ _ (Below.setCellsM hpk _ _ BC.out)) nq7)
  have hask := HASK.out ⟨1, 0, c2, 0, a⟩ (checkC_new (by have := HC2.out; omega) (by have := HC2.out; omega) ha0 (by omega))
  rw [if_neg (show ¬ 0 < (Vot.mk sl (rr, rn) ⟨d0, d1, d2, d3, d4⟩).bal.1 from Int.not_lt.2 HWAS.out)] at hask
  obtain ⟨SE, hI⟩ := hask
  have IE := Lib.hid hI
  clear hW hWE hf t0 t1 t2 t3 t4 q0 q1 q2 q3 q4 hI KD TD TC HBC hWD MC BC TB BB BBW MB hsC hsB
  obtain ⟨c0, hc0⟩ : ∃ x : Int, x = 1 := ⟨_, rfl⟩
  obtain ⟨c1, hc1⟩ : ∃ x : Int, x = 0 := ⟨_, rfl⟩
  obtain ⟨c3, hc3⟩ : ∃ x : Int, x = 0 := ⟨_, rfl⟩
  obtain ⟨c4, hc4⟩ : ∃ x : Int, x = a := ⟨_, rfl⟩
  have eC : (⟨1, 0, c2, 0, a⟩ : Cmd) = ⟨c0, c1, c2, c3, c4⟩ := by rw [hc0, hc1, hc3, hc4]
  rw [eC] at ME IE
  clear hc0 hc1 hc3 hc4 eC
  have VA : Hid (VoteAt base w wE g b n k s M (M.ask k s ⟨(br, bn), bt, bw⟩ ⟨c0, c1, c2, c3, c4⟩) ad c pb nd SE pr pm br bn L na m nc bt (put1 bw s (some ⟨c0, c1, c2, c3, c4⟩)) c0 c1 c2 c3 c4) := Lib.hid ⟨ME.out, IE.out, HX.out, put1_same _ _ _, put1_same _ _ _, rfl, Bid.keepR M HB.out hk3 HPB.out, BE.out, HNA.out, HNC.out, HML.out, HBK.out⟩
  clear ME IE BE HASK HBV HLS HLOK HWN HT T3
  have hglT : g < wE.heap.size := by omega
  have hblT : b < wE.heap.size := by omega
  have PT := Lib.hid (VA.out.ply hn5 hk3 hs3)
  have y0 := PT.out.ply.y0
  have y1 := PT.out.ply.y1
  have y2 := PT.out.ply.y2
  have z0 := PT.out.ply.z0
  have z1 := PT.out.ply.z1
  have u0 := PT.out.w0
  have u1 := PT.out.w1
  have u2 := PT.out.w2
  have u3 := PT.out.w3
  have u4 := PT.out.w4
  have hnA : ¬ (wE.heap.size = g) := by omega
  have hnA' : ¬ (g = wE.heap.size) := by omega
  have hnB : ¬ (wE.heap.size = b) := by omega
  have hnB' : ¬ (b = wE.heap.size) := by omega
  have hgT : base ≤ wE.heap.size := by omega
  by_cases hlow : cmpB (br, bn) (pr, pm) < 0
  · have HC := Lib.hid (VA.out.low hR hn5 hk3 hs3 hlow)
    clear hlow
    refine' cutTo (fun key => _) _
    rotate_left 1
    · skip
      go_region_held3 (fun w' => w'.cell? ⟨g, n * 3, none⟩ = some (.int .i64 pr) ∧ w'.cell? ⟨g, n * 3 + 1, none⟩ = some (.int .i64 pm) ∧ w'.cell? ⟨g, n * 3 + 2, none⟩ = some (.slice na m nc) ∧ w'.cell? ⟨b, 0, none⟩ = some (.int .i64 br) ∧ w'.cell? ⟨b, 1, none⟩ = some (.int .i64 bn) ∧ w'.cell? ⟨b, 15 + s * 5, none⟩ = some (.int .i64 c0) ∧ w'.cell? ⟨b, 15 + s * 5 + 1, none⟩ = some (.int .i64 c1) ∧ w'.cell? ⟨b, 15 + s * 5 + 2, none⟩ = some (.int .i64 c2) ∧ w'.cell? ⟨b, 15 + s * 5 + 3, none⟩ = some (.int .i64 c3) ∧ w'.cell? ⟨b, 15 + s * 5 + 4, none⟩ = some (.int .i64 c4)) (first | exact SS | go_keep)
        (first | (go_at_call 15; refine (HC.out _ (by first | exact (Below.refl _ _).drew | exact ((Below.refl _ _).alloc (Nat.le_refl _) _).drew)).mono ?_; rintro e w3 ⟨rfl, hb3⟩; have B3 := Lib.hid (show Below wE.heap.size wE w3 by first | exact (Below.refl wE.heap.size wE).drew.trans hb3 | exact ((Below.refl wE.heap.size wE).alloc (Nat.le_refl _) _).drew.trans (hb3.mono (by simp))); (first | (have nz : w3.heap[wE.heap.size]? = some (.cells #[.int .i64 0, .int .i64 0, .slice none 0 0] 39 (0, 0)) := (hb3.block wE.heap.size (by simp)).trans (heapNew wE _); have NZ := Lib.hid nz; have n0 := cellAt nz 0 rfl; have n1 := cellAt nz 1 rfl; have n2 := cellAt nz 2 rfl; have nf := freeAt nz; clear nz) | skip); have SS := (PT.out.stay B3.out hglT hblT).cells; clear hb3))
      · skip
        have hb7 := B3.out.alloc B3.out.size (.cells #[.int .i64 0, .int .i64 0, .slice none 0 0] 39)
        generalize w3.alloc (.cells #[.int .i64 0, .int .i64 0, .slice none 0 0] 39) = w7 at hb7 ⊢
        generalize w3.heap.size = tb
        try clear SS
        try (rename_i hS; clear hS)
        revert hb7
        revert w7 tb
        exact key.out
      · skip
        have hb7 := ((B3.out.setCell (p := ⟨wE.heap.size, 0, none⟩) (Nat.le_refl _) (.int .i64 0)).setCell (p := ⟨wE.heap.size, 1, none⟩) (Nat.le_refl _) (.int .i64 0)).setCell (p := ⟨wE.heap.size, 2, none⟩) (Nat.le_refl _) (.slice none 0 0)
        obtain ⟨w7, hW⟩ : ∃ w7, w7 = ((w3.setCell ⟨wE.heap.size, 0, none⟩ (.int .i64 0)).setCell ⟨wE.heap.size, 1, none⟩ (.int .i64 0)).setCell ⟨wE.heap.size, 2, none⟩ (.slice none 0 0) := ⟨_, rfl⟩
        rw [← hW] at hb7 ⊢
        clear hW NZ
        obtain ⟨tb, htb⟩ : ∃ t, t = wE.heap.size := ⟨_, rfl⟩
        rw [← htb]
        clear htb
        try clear SS
        try (rename_i hS; clear hS)
        revert hb7
        revert w7 tb
        exact key.out
    · intro w7 tb hb7
      have FIN := Lib.hid (VA.out.same hb7 hgT)
      clear hb7
      go_wp2_with fail
      exact bodyPost_ret (v := .tuple #[]) (by simp [results, Try.results19, go_sem]) rfl ⟨rfl, FIN.out⟩
  · have LOW := Lib.hid (Int.not_lt.1 hlow)
    have HC := Lib.hid (VA.out.high hR hn5 hk3 hs3 (Int.not_lt.1 hlow))
    clear hlow
    refine' cutTo (fun key => _) _
    rotate_left 1
    · skip
      go_region_held3 (fun w' => w'.cell? ⟨g, n * 3, none⟩ = some (.int .i64 pr) ∧ w'.cell? ⟨g, n * 3 + 1, none⟩ = some (.int .i64 pm) ∧ w'.cell? ⟨g, n * 3 + 2, none⟩ = some (.slice na m nc) ∧ w'.cell? ⟨b, 0, none⟩ = some (.int .i64 br) ∧ w'.cell? ⟨b, 1, none⟩ = some (.int .i64 bn) ∧ w'.cell? ⟨b, 15 + s * 5, none⟩ = some (.int .i64 c0) ∧ w'.cell? ⟨b, 15 + s * 5 + 1, none⟩ = some (.int .i64 c1) ∧ w'.cell? ⟨b, 15 + s * 5 + 2, none⟩ = some (.int .i64 c2) ∧ w'.cell? ⟨b, 15 + s * 5 + 3, none⟩ = some (.int .i64 c3) ∧ w'.cell? ⟨b, 15 + s * 5 + 4, none⟩ = some (.int .i64 c4)) (first | exact SS | go_keep)
        (first | (go_at_call 15; refine (HC.out _ (by first | exact (Below.refl _ _).drew | exact ((Below.refl _ _).alloc (Nat.le_refl _) _).drew)).mono ?_; rintro e w3 ⟨a1, q1, m1, hm1, rfl, ho1, hb3⟩; have O1 := Lib.hid ho1; have B3 := Lib.hid (show Below wE.heap.size wE w3 by first | exact (Below.refl wE.heap.size wE).drew.trans hb3 | exact ((Below.refl wE.heap.size wE).alloc (Nat.le_refl _) _).drew.trans (hb3.mono (by simp))); (first | (have nz : w3.heap[wE.heap.size]? = some (.cells #[.int .i64 0, .int .i64 0, .slice none 0 0] 39 (0, 0)) := (hb3.block wE.heap.size (by simp)).trans (heapNew wE _); have NZ := Lib.hid nz; have n0 := cellAt nz 0 rfl; have n1 := cellAt nz 1 rfl; have n2 := cellAt nz 2 rfl; have nf := freeAt nz; clear nz) | skip); have SS := (PT.out.stay B3.out hglT hblT).cells; clear hb3 ho1))
      · skip
        have o1 := ownV_move (base' := 0) (w' := w3.alloc (.cells #[.int .i64 br, .int .i64 bn, .slice a1 m1 q1] 39)) O1.out (Nat.le_refl _) (fun q _ hq => heapOld _ _ _ hq)
        have T7 := heapNew w3 (.cells #[.int .i64 br, .int .i64 bn, .slice a1 m1 q1] 39)
        have hb7 := B3.out.alloc B3.out.size (.cells #[.int .i64 br, .int .i64 bn, .slice a1 m1 q1] 39)
        generalize w3.alloc (.cells #[.int .i64 br, .int .i64 bn, .slice a1 m1 q1] 39) = w7 at T7 o1 hb7 ⊢
        generalize w3.heap.size = tb at T7 ⊢
        clear O1
        try clear SS
        try (rename_i hS; clear hS)
        have HH := And.intro o1 (And.intro hb7 (And.intro T7 hm1))
        clear o1 hb7 T7 hm1
        revert HH
        revert w7 tb a1 q1 m1
        exact key.out
      · skip
        have T7 : (((w3.setCell ⟨wE.heap.size, 0, none⟩ (.int .i64 br)).setCell ⟨wE.heap.size, 1, none⟩ (.int .i64 bn)).setCell ⟨wE.heap.size, 2, none⟩ (.slice a1 m1 q1)).heap[wE.heap.size]? = some (.cells #[.int .i64 br, .int .i64 bn, .slice a1 m1 q1] 39 (0, 0)) := heapSet (o := 2) (heapSet (o := 1) (heapSet (o := 0) NZ.out _) _) _
        have o1 := OwnV.setCells (show OwnV w3 0 (.slice a1 m1 q1) _ from O1.out) (t := 39) ⟨_, NZ.out, rfl⟩ typ_acc 0 [.int .i64 br, .int .i64 bn, .slice a1 m1 q1]
        have hb7 := ((B3.out.setCell (p := ⟨wE.heap.size, 0, none⟩) (Nat.le_refl _) (.int .i64 br)).setCell (p := ⟨wE.heap.size, 1, none⟩) (Nat.le_refl _) (.int .i64 bn)).setCell (p := ⟨wE.heap.size, 2, none⟩) (Nat.le_refl _) (.slice a1 m1 q1)
        obtain ⟨w7, hW⟩ : ∃ w7, w7 = ((w3.setCell ⟨wE.heap.size, 0, none⟩ (.int .i64 br)).setCell ⟨wE.heap.size, 1, none⟩ (.int .i64 bn)).setCell ⟨wE.heap.size, 2, none⟩ (.slice a1 m1 q1) := ⟨_, rfl⟩
        change OwnV (((w3.setCell ⟨wE.heap.size, 0, none⟩ (.int .i64 br)).setCell ⟨wE.heap.size, 1, none⟩ (.int .i64 bn)).setCell ⟨wE.heap.size, 2, none⟩ (.slice a1 m1 q1)) 0 _ _ at o1
        rw [← hW] at T7 o1 hb7 ⊢
        generalize wE.heap.size = tb at T7 ⊢
        clear hW NZ O1
        try clear SS
        try (rename_i hS; clear hS)
        have HH := And.intro o1 (And.intro hb7 (And.intro T7 hm1))
        clear o1 hb7 T7 hm1
        revert HH
        revert w7 tb a1 q1 m1
        exact key.out
    · rintro a1 q1 m1 w7 tb ⟨o1, hb7, T7, hm1⟩
      have MW := Lib.hid (VA.out.mat.stay hb7)
      have HT7 := Lib.hid T7
      have HO1 := Lib.hid o1
      have HB7 := Lib.hid hb7
      have PT7 := Lib.hid (PT.out.stay hb7 hglT hblT)
      have hntg : ¬ (tb = g) := fun e => by
        obtain ⟨cs, q1, q2⟩ := MW.out.blk
        rw [← e, HT7.out] at q1
        injection (Option.some.inj q1) with q3 q4
        exact typ_acc2.1 q4
      have hntb : ¬ (tb = b) := fun e => by
        obtain ⟨cs, q1, q2⟩ := (MW.out.bid k _ hk3 VA.out.bid).blk
        rw [← VA.out.b, ← e, HT7.out] at q1
        injection (Option.some.inj q1) with q3 q4
        exact typ_acc2.2 q4
      have hntg' : ¬ (g = tb) := fun e => hntg e.symm
      have hntb' : ¬ (b = tb) := fun e => hntb e.symm
      clear y0 y1 y2 z0 z1 u0 u1 u2 u3 u4 T7 o1 hb7
      have z0 := PT7.out.ply.z0
      have z1 := PT7.out.ply.z1
      have t0 := cellAt HT7.out 0 rfl
      have t1 := cellAt HT7.out 1 rfl
      have hfi := MW.out.fine
      have hf := MW.out.blk.free
      go_upto_region 15 with fail
      refine region_quiet_tail 20 (by kernel_rfl) (by kernel_rfl) ?_
      simp only [List.take_succ_cons, List.take_zero, List.drop_succ_cons, List.drop_zero]
      repeat (go_big_quiet_step (fail))
      refine wpQuiet_nil ?_
      intro w9 hw9
      obtain ⟨nq, rfl⟩ := hw9
      go_upto_region 16 with fail
      obtain ⟨w8, hW⟩ : ∃ w8, w8 = (w7.drewN nq).setCell ⟨g, 37, none⟩ (.bool true) := ⟨_, rfl⟩
      rw [← hW]
      have M8 := Lib.hid (show MatW w8 g _ ad c pb by rw [hW]; exact (MW.out.drewN nq).setFine)
      have T8 := Lib.hid (show w8.heap[tb]? = some (.cells #[.int .i64 br, .int .i64 bn, .slice a1 m1 q1] 39 (0, 0)) by rw [hW]; exact (heapSet_ne _ _ hntg).trans HT7.out)
      have O81 := Lib.hid (show OwnV w8 0 (.slice a1 m1 q1) _ by rw [hW]; exact OwnV.setCells (w := w7.drewN nq) (ownV_move HO1.out (Nat.le_refl _) (fun _ _ _ => rfl)) MW.out.blk typ_ne.2.1 37 [.bool true])
      have B8 := Lib.hid (show Below base w w8 by rw [hW]; exact (below_drewN (VA.out.below.trans (HB7.out.mono hgT)) nq).setCell hg _)
      clear hW z0 z1 t0 t1 hfi hf
      have t0 := cellAt T8.out 0 rfl
      have t1 := cellAt T8.out 1 rfl
      have t2 := cellAt T8.out 2 rfl
      have hf := M8.out.blk.free
      obtain ⟨v0, q0⟩ := M8.out.blk.cell (j := n * 3) (by omega)
      obtain ⟨v1, q1'⟩ := M8.out.blk.cell (j := n * 3 + 1) (by omega)
      obtain ⟨v2, q2⟩ := M8.out.blk.cell (j := n * 3 + 2) (by omega)
      refine region_quiet_tail 6 (by kernel_rfl) (by kernel_rfl) ?_
      simp only [List.take_succ_cons, List.take_zero, List.drop_succ_cons, List.drop_zero]
      repeat (go_big_quiet_step (fail))
      refine wpQuiet_nil ?_
      intro w9 hw9
      obtain ⟨nq9, rfl⟩ := hw9
      go_upto_region 27 with fail
      have hd := VA.out.done hR hg hn5 hk3 hs3 LOW.out M8.out B8.out hm1.out O81.out nq9
      obtain ⟨w9, hW⟩ : ∃ w9, w9 = (((w8.drewN nq9).setCell ⟨g, n * 3, none⟩ (.int .i64 br)).setCell ⟨g, n * 3 + 1, none⟩ (.int .i64 bn)).setCell ⟨g, n * 3 + 2, none⟩ (.slice a1 m1 q1) := ⟨_, rfl⟩
      rw [← hW]
      have hW2 : (w8.drewN nq9).setCells g (n * 3) [.int .i64 br, .int .i64 bn, .slice a1 m1 q1] = w9 := hW.symm
      rw [hW2] at hd
      obtain ⟨d1, ⟨S9, d2⟩, d3⟩ := hd
      have M9 := Lib.hid d1
      have I9 := Lib.hid d2
      have B9 := Lib.hid d3
      have HR9 := Lib.hid (show ((M.ask k s ⟨(br, bn), bt, bw⟩ ⟨c0, c1, c2, c3, c4⟩).vote n s ⟨(br, bn), bt, (put1 bw s (some ⟨c0, c1, c2, c3, c4⟩))⟩ ⟨c0, c1, c2, c3, c4⟩).rounds ≤ M.rounds + 1 from Nat.le_trans (Nat.le_of_eq VA.out.rounds) (Nat.le_succ _))
      clear hW hW2 t0 t1 t2 hf q0 q1' q2 d1 d2 d3
      go_wp2_with (go_at_call 30; refine (look_any base M9.out I9.out hg).mono ?_; rintro e w5 ⟨rfl, hlk⟩; have FIN : Hid (PlS base w w5 g (M.rounds + 1)) := Lib.hid (by obtain ⟨M', hl⟩ := hlk; exact hl.pls B9.out HR9.out VA.out.ptr); clear hlk)
      exact bodyPost_end (v := .tuple #[]) (by simp [results, Try.results19, go_sem]) rfl ⟨rfl, FIN.out⟩
end Go.Proofs.Ytdkbajdnckmckaa
