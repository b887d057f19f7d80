/-
  Texts put together: Apl, ShaSame, RcP, RcQ, Rcv.
-/
import Derived.Test.YtdkbajdnckmckaaDoorMg9
import Derived.Test.YtdkbajdnckmckaaDoorMg1
import Derived.Test.YtdkbajdnckmckaaDoorMg5
set_option linter.unusedVariables false
set_option linter.unusedSimpArgs false
namespace Go.Proofs.YtdkbajdnckmckaaDoor
open Go.RowKit Go.Con
theorem bel_drew {w0 w : World} (h : Below w0.heap.size w0 w) : Below w0.heap.size w0 w.drew := below_drewN h 1
theorem bel_trans {w0 W w : World} (h : Below w0.heap.size w0 W) (h2 : Below W.heap.size W w) : Below w0.heap.size w0 w := h.trans (h2.mono h.size)
theorem bel_alloc {w0 w : World} {o : Obj} (h : Below w0.heap.size w0 w) : Below w0.heap.size w0 (w.alloc o) := h.alloc h.size o
/-- what 'apply' gives -/
def AplPost (w : World) (a : Apr) (b : List UInt8) (e : Ending) (w' : World) : Prop :=
  Below w.heap.size w w' ∧ ∃ x y a1 n1 c1 t, e = .returned (.tuple #[.agg #[.int .i64 x, .int .i64 y, .slice a1 n1 c1], .bool t]) ∧ ((applyB a b = none ∧ t = false) ∨ (∃ m, applyB a b = some ⟨(x, y), m⟩ ∧ t = true ∧ OwnV w' w.heap.size (.slice a1 n1 c1) m))
/-- the acceptor's cells -/
abbrev SA (w : World) (tb : Nat) (pr pn : Int) (v : Value) : Prop := w.cell? ⟨tb, 0, none⟩ = some (.int .i64 pr) ∧ w.cell? ⟨tb, 1, none⟩ = some (.int .i64 pn) ∧ w.cell? ⟨tb, 2, none⟩ = some v
theorem SA.stay {w w' : World} {tb : Nat} {pr pn : Int} {v : Value} (h : SA w tb pr pn v) (h1 : tb < w.heap.size) (hb : Below w.heap.size w w') : SA w' tb pr pn v :=
  ⟨(hb.cell (p := ⟨tb, 0, none⟩) h1).trans h.1, (hb.cell (p := ⟨tb, 1, none⟩) h1).trans h.2.1, (hb.cell (p := ⟨tb, 2, none⟩) h1).trans h.2.2⟩
theorem SA.alloc {w : World} {tb : Nat} {pr pn : Int} {v : Value} (h : SA w tb pr pn v) (h1 : tb < w.heap.size) (o : Obj) : SA (w.alloc o) tb pr pn v := h.stay h1 ((Below.refl _ _).alloc (Nat.le_refl _) o)
theorem SA.set {w : World} {tb rb : Nat} {pr pn : Int} {v v0 v1 v2 : Value} (h1 : tb ≠ rb) (h : SA w tb pr pn v) : SA (((w.setCell ⟨rb, 0, none⟩ v0).setCell ⟨rb, 1, none⟩ v1).setCell ⟨rb, 2, none⟩ v2) tb pr pn v := by
  have e : (((w.setCell ⟨rb, 0, none⟩ v0).setCell ⟨rb, 1, none⟩ v1).setCell ⟨rb, 2, none⟩ v2).heap[tb]? = w.heap[tb]? := (heapSet_ne 2 v2 h1).trans ((heapSet_ne 1 v1 h1).trans (heapSet_ne 0 v0 h1))
  exact ⟨(World.cell?_of_block (w := w) e).trans h.1, (World.cell?_of_block (w := w) e).trans h.2.1, (World.cell?_of_block (w := w) e).trans h.2.2⟩
theorem accSz : (Tryd.prog.info? 45).map (fun x => x.size) = some 3 := by kernel_rfl
theorem getAt {b off n c : Nat} {l : List UInt8} {w0 : World} (h : Rd w0 (.slice (some ⟨b, off, none⟩) n c) l) (hn : l.length = n) (k m : Nat) (hk : k < n) (hm : m = n - k) (h4 : 4 ≤ m) :
    ∀ W, Below w0.heap.size w0 W → Calls Tryd.prog 43 #[.slice (some ⟨b, off + k, none⟩) m (c - k)] W fun e w' => e = .returned (.int .i64 (getN (l.drop k) : Int)) ∧ ∃ m, w' = W.drewN m :=
  fun W hb => get_any b (off + k) m (c - k) (l.drop k) W ((h.stay hb).tail k m hk hm) (by simp; omega) h4
set_option maxRecDepth 100000 in
set_option maxHeartbeats 4000000 in
theorem apply_pro (a : Apr) (v vb : Value) (b : List UInt8) (w : World) (hv : Votes w v a.l) (hok : a.ok = true) (hb : Rd w vb b) (hn : b.length = 9) (hx : b.getD 0 0 = 1) :
    Calls Tryd.prog 28 #[.agg #[.int .i64 a.p.1, .int .i64 a.p.2, v], vb] w (AplPost w a b) := by
  obtain ⟨⟨pr, pn⟩, l⟩ := a
  obtain ⟨ea, ec, rfl, hle, hcm, -⟩ := id hv.1
  obtain ⟨bb, bo, bc, rfl, hbc, hbcm⟩ := hb.shapeN 9 hn (by decide)
  have hbc9 : bc ≤ 9223372036854775807 := hbcm
  have hbcx : bc ≠ 1 ∧ bc ≠ 5 := by omega
  obtain ⟨hbc1, hbc5⟩ := hbcx
  obtain ⟨el, hel⟩ : ∃ n, n = l.length := ⟨_, rfl⟩
  rw [← hel] at hv ⊢
  have HV := Lib.hid hv
  have HB := Lib.hid hb
  have HN := Lib.hid hn
  have HOK := Lib.hid hok
  have HX := Lib.hid hx
  clear hv hb hn hok hle hcm hbcm hel hx
  have HAP0 := Lib.hid (show applyB ⟨(pr, pn), l⟩ b = proA ⟨(pr, pn), l⟩ (bodPro b) by rw [applyB, if_pos ⟨HN.out, HX.out⟩])
  go_enter Tryd.func28, Tryd.ntmps28
  go_upto_region 1 with fail
  generalize hW : World.alloc _ _ = w1
  obtain ⟨X, Y, B0, hz1⟩ := alloc2T hW
  have HB0 := Lib.hid B0
  have HZ := Lib.hid hz1
  have HXB := Lib.hid X
  have HYB := Lib.hid Y
  have HB1 := Lib.hid (HB.out.stay B0)
  have HV1 := Lib.hid (HV.out.stay B0)
  have x0 : w1.cell? ⟨bb, bo, none⟩ = some (.int .u8 1) := by
    have h := HB1.out.cellR 0 (by rw [HN.out]; decide)
    rw [HX.out] at h
    exact h
  clear hW hz1 X Y B0
  go_upto_region 2 with fail
  clear x0
  have hl1 := lt_of_heap HXB.out
  have S1 : SA w1 w.heap.size pr pn (.slice ea el ec) := ⟨cellAt HXB.out 0 rfl, cellAt HXB.out 1 rfl, cellAt HXB.out 2 rfl⟩
  have ST := Lib.hid S1
  obtain ⟨k0, k1, k2⟩ := id S1
  have HG1 := Lib.hid (getAt HB1.out HN.out 1 8 (by decide) rfl (by decide))
  have HG5 := Lib.hid (getAt HB1.out HN.out 5 4 (by decide) rfl (by decide))
  obtain ⟨g1, hg1⟩ : ∃ g : Int, g = getN (b.drop 1) := ⟨_, rfl⟩
  obtain ⟨g5, hg5⟩ : ∃ g : Int, g = getN (b.drop 5) := ⟨_, rfl⟩
  rw [← hg1] at HG1
  rw [← hg5] at HG5
  have HAP := Lib.hid (show applyB ⟨(pr, pn), l⟩ b = proA ⟨(pr, pn), l⟩ (g1, g5) by rw [HAP0.out, bodPro, hg1, hg5])
  have HYX := HYB
  have HZX := HZ
  have BX1 := Lib.hid (Below.refl w1.heap.size w1)
  clear hg1 hg5
  have HPRO := Lib.hid (fun W (hW : Below w1.heap.size w1 W) => Promise_all ⟨(pr, pn), l⟩ g1 g5 (.slice ea el ec) W (HV1.out.stay hW) HOK.out)
  have NE1 : w.heap.size ≠ w1.heap.size := by omega
  clear S1
  go_region_held3 (fun w' => w'.cell? ⟨w.heap.size, 0, none⟩ = some (.int .i64 pr) ∧ w'.cell? ⟨w.heap.size, 1, none⟩ = some (.int .i64 pn) ∧ w'.cell? ⟨w.heap.size, 2, none⟩ = some (.slice ea el ec)) (first | with_reducible exact S2 | with_reducible exact S2.alloc hv1 _ | (refine SA.stay ST.out hl1 ?_; (repeat (first | exact Below.refl _ _ | with_reducible refine bel_drew ?_ | with_reducible refine below_drewN ?_ _ | with_reducible refine bel_alloc ?_)); done) | with_reducible exact S2.set NE1) (first
    | (go_at_call 43; with_reducible refine (HG1.out _ ?hb).mono ?_; (case hb => (repeat (first | exact Below.refl _ _ | with_reducible refine bel_drew ?_ | with_reducible refine below_drewN ?_ _ | with_reducible refine bel_alloc ?_))); rintro e _ ⟨rfl, nq, rfl⟩)
    | (go_at_call 43; with_reducible refine (HG5.out _ ?hb).mono ?_; (case hb => (repeat (first | exact Below.refl _ _ | with_reducible refine bel_drew ?_ | with_reducible refine below_drewN ?_ _ | with_reducible refine bel_alloc ?_))); rintro e _ ⟨rfl, nq, rfl⟩)
    | (go_at_call 16; (with_reducible refine (HPRO.out _ ?hb).mono ?_); (case hb => (repeat (first | exact Below.refl _ _ | with_reducible refine bel_drew ?_ | with_reducible refine below_drewN ?_ _ | with_reducible refine bel_alloc ?_))); rintro e v2 ⟨hbW, xx, yy, a1, n1, c1, v9, cc, rfl, hcase⟩; have hb6 : Below w1.heap.size w1 v2 := (by (refine bel_trans ?_ hbW; (repeat (first | exact Below.refl _ _ | with_reducible refine bel_drew ?_ | with_reducible refine below_drewN ?_ _ | with_reducible refine bel_alloc ?_)))); have S2 := SA.stay ST.out hl1 hb6; have hv1 := Nat.lt_of_lt_of_le hl1 hb6.size; have B6 := Lib.hid hb6; first | (have hza : v2.heap[w1.heap.size]? = some (.cells #[.int .i64 0, .int .i64 0, .slice none 0 0] 45 (0, 0)) := (hbW.block _ (by show _ < (World.alloc w1 _).heap.size; simp)).trans (heapNew w1 _); have HCA := Lib.hid (show ∀ w', (∀ k, k ≠ w1.heap.size → w'.heap[k]? = v2.heap[k]?) → ((proA ⟨(pr, pn), l⟩ (g1, g5) = none ∧ cc ≠ 0) ∨ (proA ⟨(pr, pn), l⟩ (g1, g5) = some ⟨(xx, yy), l⟩ ∧ cc = 0 ∧ OwnV w' w1.heap.size (.slice a1 n1 c1) l)) from fun w' hw => hcase.imp_right (fun ⟨h1, h2, h3⟩ => ⟨h1, h2, ownV_move h3 (by show w1.heap.size ≤ (World.alloc w1 _).heap.size; simp) (fun k hk _ => hw k (by have h9 : (World.alloc w1 _).heap.size ≤ k := hk; simp at h9; omega))⟩)); have za0 := cellAt hza 0 rfl; have za1 := cellAt hza 1 rfl; have za2 := cellAt hza 2 rfl; have zaf := freeAt hza; have ZA := Lib.hid hza; clear hza hbW hb6 hcase) | (have HCB := Lib.hid (show ∀ w', Below v2.heap.size v2 w' → ((proA ⟨(pr, pn), l⟩ (g1, g5) = none ∧ cc ≠ 0) ∨ (proA ⟨(pr, pn), l⟩ (g1, g5) = some ⟨(xx, yy), l⟩ ∧ cc = 0 ∧ OwnV w' w1.heap.size (.slice a1 n1 c1) l)) from fun w' hw => hcase.imp_right (fun ⟨h1, h2, h3⟩ => ⟨h1, h2, ownV_move h3 (show w1.heap.size ≤ w1.heap.size from Nat.le_refl _) (fun k _ hk => hw.block k hk)⟩)); clear hbW hb6 hcase)))
  all_goals
    first
    | (have zz := ZA.out; have hx : (((v2.setCell ⟨w1.heap.size, 0, none⟩ (.int .i64 xx)).setCell ⟨w1.heap.size, 1, none⟩ (.int .i64 yy)).setCell ⟨w1.heap.size, 2, none⟩ (.slice a1 n1 c1)).heap[w1.heap.size]? = some (.cells #[.int .i64 xx, .int .i64 yy, .slice a1 n1 c1] 45 (0, 0)) := heapSet (o := 2) (heapSet (o := 1) (heapSet (o := 0) zz _) _) _; have hbn : Below w1.heap.size w1 (((v2.setCell ⟨w1.heap.size, 0, none⟩ (.int .i64 xx)).setCell ⟨w1.heap.size, 1, none⟩ (.int .i64 yy)).setCell ⟨w1.heap.size, 2, none⟩ (.slice a1 n1 c1)) := ((B6.out.setCell (Nat.le_refl _) _).setCell (Nat.le_refl _) _).setCell (Nat.le_refl _) _; have hu := HCA.out (((v2.setCell ⟨w1.heap.size, 0, none⟩ (.int .i64 xx)).setCell ⟨w1.heap.size, 1, none⟩ (.int .i64 yy)).setCell ⟨w1.heap.size, 2, none⟩ (.slice a1 n1 c1)) (fun k hk => (heapSet_ne 2 _ hk).trans ((heapSet_ne 1 _ hk).trans (heapSet_ne 0 _ hk))); generalize hW : World.setCell _ _ _ = w3 at hx hbn hu ⊢; obtain ⟨q, hq⟩ : ∃ b, b = w1.heap.size := ⟨_, rfl⟩; have hqz : w1.heap.size ≤ q := Nat.le_of_eq hq.symm; rw [← hq] at hx ⊢; clear zz hW hq ZA za0 za1 za2 zaf S2 hv1 B6 HCA)
    | (have hx : (v2.alloc (.cells #[.int .i64 xx, .int .i64 yy, .slice a1 n1 c1] 45)).heap[v2.heap.size]? = some (.cells #[.int .i64 xx, .int .i64 yy, .slice a1 n1 c1] 45 (0, 0)) := heapNew _ _; have hbn : Below w1.heap.size w1 (v2.alloc (.cells #[.int .i64 xx, .int .i64 yy, .slice a1 n1 c1] 45)) := B6.out.alloc B6.out.size _; have hu := HCB.out (v2.alloc (.cells #[.int .i64 xx, .int .i64 yy, .slice a1 n1 c1] 45)) ((Below.refl _ _).alloc (Nat.le_refl _) _); have hqz0 : w1.heap.size ≤ v2.heap.size := B6.out.size; generalize hW : World.alloc _ _ = w3 at hx hbn hu ⊢; obtain ⟨q, hq⟩ : ∃ b, b = v2.heap.size := ⟨_, rfl⟩; rw [← hq] at hx hqz0 ⊢; have hqz := hqz0; clear hW hq S2 hv1 B6 HCB hqz0)
    clear k0 k1 k2
    have e0 := cellAt hx 0 rfl
    have e1 := cellAt hx 1 rfl
    have e2 := cellAt hx 2 rfl
    have y3 := (hbn.block _ (lt_of_heap HYX.out)).trans HYX.out
    have ya0 := cellAt y3 0 rfl
    have ya1 := cellAt y3 1 rfl
    have ya2 := cellAt y3 2 rfl
    have gf := freeAt y3
    have HY3 := Lib.hid y3
    have B3 := Lib.hid hbn
    have BX3 := Lib.hid (bel_trans BX1.out hbn)
    have HU := Lib.hid hu
    have hne1 : ¬ (w.heap.size + 1 = q) := by have := HZX.out; omega
    have hne2 : ¬ (q = w.heap.size + 1) := by omega
    have HBZ := Lib.hid (lt_of_heap HYX.out)
    clear hx y3 hbn hu
    rcases HU.out with ⟨hn, hc⟩ | ⟨hs, hc, hv⟩
    · have hcc : (cc == 0) = false := by rw [beq_eq_false_iff_ne]; exact hc
      go_wp2_with fail
      have z5 := heapSet (o := 2) (heapSet (o := 1) (heapSet (o := 0) HY3.out (.int .i64 xx)) (.int .i64 yy)) (.slice a1 n1 c1)
      have hle2 : w.heap.size ≤ w.heap.size + 1 := by omega
      have b5 : Below w.heap.size w (((w3.setCell ⟨w.heap.size + 1, 0, none⟩ (.int .i64 xx)).setCell ⟨w.heap.size + 1, 1, none⟩ (.int .i64 yy)).setCell ⟨w.heap.size + 1, 2, none⟩ (.slice a1 n1 c1)) := (((HB0.out.trans (BX3.out.mono HB0.out.size)).setCell hle2 _).setCell hle2 _).setCell hle2 _
      generalize hW : World.setCell _ _ _ = wZ at z5 b5 ⊢
      have hl := run_loadVar_mid (P := Tryd.prog) wZ (w.heap.size + 1) 0 45 [.int .i64 xx, .int .i64 yy, .slice a1 n1 c1] _ (range_of z5) Tryd.underlying45 rfl accSz
      exact bodyPost_ret (v := .tuple #[.agg #[.int .i64 xx, .int .i64 yy, .slice a1 n1 c1], .bool false]) (results_ct Tryd.results28 rfl hl) rfl ⟨b5, _, _, _, _, _, _, rfl, .inl ⟨HAP.out.trans hn, rfl⟩⟩
    · subst hc
      have HVV := Lib.hid hv
      clear hv
      go_wp2_with fail
      have z5 := heapSet (o := 2) (heapSet (o := 1) (heapSet (o := 0) HY3.out (.int .i64 xx)) (.int .i64 yy)) (.slice a1 n1 c1)
      have hle2 : w.heap.size ≤ w.heap.size + 1 := by omega
      have b5 : Below w.heap.size w (((w3.setCell ⟨w.heap.size + 1, 0, none⟩ (.int .i64 xx)).setCell ⟨w.heap.size + 1, 1, none⟩ (.int .i64 yy)).setCell ⟨w.heap.size + 1, 2, none⟩ (.slice a1 n1 c1)) := (((HB0.out.trans (BX3.out.mono HB0.out.size)).setCell hle2 _).setCell hle2 _).setCell hle2 _
      have r5 : OwnV (((w3.setCell ⟨w.heap.size + 1, 0, none⟩ (.int .i64 xx)).setCell ⟨w.heap.size + 1, 1, none⟩ (.int .i64 yy)).setCell ⟨w.heap.size + 1, 2, none⟩ (.slice a1 n1 c1)) w.heap.size (.slice a1 n1 c1) l := (ownV_move HVV.out (by have := HB0.out.size; have := BX1.out.size; omega) (fun k hk _ => (heapSet_ne 2 _ (by have := HBZ.out; omega)).trans ((heapSet_ne 1 _ (by have := HBZ.out; omega)).trans (heapSet_ne 0 _ (by have := HBZ.out; omega)))))
      generalize hW : World.setCell _ _ _ = wZ at z5 b5 r5 ⊢
      have hl := run_loadVar_mid (P := Tryd.prog) wZ (w.heap.size + 1) 0 45 [.int .i64 xx, .int .i64 yy, .slice a1 n1 c1] _ (range_of z5) Tryd.underlying45 rfl accSz
      exact bodyPost_ret (v := .tuple #[.agg #[.int .i64 xx, .int .i64 yy, .slice a1 n1 c1], .bool true]) (results_ct Tryd.results28 rfl hl) rfl ⟨b5, _, _, _, _, _, _, rfl, .inr ⟨l, HAP.out.trans hs, rfl, r5⟩⟩
abbrev SB (w : World) (tb db : Nat) (pr pn : Int) (v : Value) (d0 d1 d2 d3 d4 : Int) : Prop := w.cell? ⟨tb, 0, none⟩ = some (.int .i64 pr) ∧ w.cell? ⟨tb, 1, none⟩ = some (.int .i64 pn) ∧ w.cell? ⟨tb, 2, none⟩ = some v ∧ w.cell? ⟨db, 0, none⟩ = some (.int .i64 d0) ∧ w.cell? ⟨db, 1, none⟩ = some (.int .i64 d1) ∧ w.cell? ⟨db, 2, none⟩ = some (.int .i64 d2) ∧ w.cell? ⟨db, 3, none⟩ = some (.int .i64 d3) ∧ w.cell? ⟨db, 4, none⟩ = some (.int .i64 d4)
theorem SB.ofBlocks {w w' : World} {tb db : Nat} {pr pn : Int} {v : Value} {d0 d1 d2 d3 d4 : Int} (h : SB w tb db pr pn v d0 d1 d2 d3 d4) (h1 : w'.heap[tb]? = w.heap[tb]?) (h2 : w'.heap[db]? = w.heap[db]?) : SB w' tb db pr pn v d0 d1 d2 d3 d4 := by
  obtain ⟨a0, a1, a2, b0, b1, b2, b3, b4⟩ := h
  exact ⟨(World.cell?_of_block (w := w) h1).trans a0, (World.cell?_of_block (w := w) h1).trans a1, (World.cell?_of_block (w := w) h1).trans a2, (World.cell?_of_block (w := w) h2).trans b0, (World.cell?_of_block (w := w) h2).trans b1, (World.cell?_of_block (w := w) h2).trans b2, (World.cell?_of_block (w := w) h2).trans b3, (World.cell?_of_block (w := w) h2).trans b4⟩
theorem SB.stay {w w' : World} {tb db : Nat} {pr pn : Int} {v : Value} {d0 d1 d2 d3 d4 : Int} (h : SB w tb db pr pn v d0 d1 d2 d3 d4) (h1 : tb < w.heap.size) (h2 : db < w.heap.size) (hb : Below w.heap.size w w') : SB w' tb db pr pn v d0 d1 d2 d3 d4 := h.ofBlocks (hb.block _ h1) (hb.block _ h2)
theorem SB.alloc {w : World} {tb db : Nat} {pr pn : Int} {v : Value} {d0 d1 d2 d3 d4 : Int} (h : SB w tb db pr pn v d0 d1 d2 d3 d4) (h1 : tb < w.heap.size) (h2 : db < w.heap.size) (o : Obj) : SB (w.alloc o) tb db pr pn v d0 d1 d2 d3 d4 := h.stay h1 h2 ((Below.refl _ _).alloc (Nat.le_refl _) o)
theorem SB.set {w : World} {tb db rb : Nat} {pr pn : Int} {v v0 v1 v2 : Value} {d0 d1 d2 d3 d4 : Int} (h1 : tb ≠ rb) (h2 : db ≠ rb) (h : SB w tb db pr pn v d0 d1 d2 d3 d4) : SB (((w.setCell ⟨rb, 0, none⟩ v0).setCell ⟨rb, 1, none⟩ v1).setCell ⟨rb, 2, none⟩ v2) tb db pr pn v d0 d1 d2 d3 d4 :=
  h.ofBlocks ((heapSet_ne 2 v2 h1).trans ((heapSet_ne 1 v1 h1).trans (heapSet_ne 0 v0 h1))) ((heapSet_ne 2 v2 h2).trans ((heapSet_ne 1 v1 h2).trans (heapSet_ne 0 v0 h2)))
set_option maxRecDepth 100000 in
set_option maxHeartbeats 4000000 in
theorem apply_vot (a : Apr) (v vb : Value) (b : List UInt8) (w : World) (hv : Votes w v a.l) (hok : a.ok = true) (hb : Rd w vb b) (hn : b.length = 33) (hx : b.getD 0 0 = 2) :
    Calls Tryd.prog 28 #[.agg #[.int .i64 a.p.1, .int .i64 a.p.2, v], vb] w (AplPost w a b) := by
  obtain ⟨⟨pr, pn⟩, l⟩ := a
  obtain ⟨ea, ec, rfl, hle, hcm, -⟩ := id hv.1
  obtain ⟨bb, bo, bc, rfl, hbc, hbcm⟩ := hb.shapeN 33 hn (by decide)
  have hbc9 : bc ≤ 9223372036854775807 := hbcm
  have hbcx : bc ≠ 1 ∧ bc ≠ 5 ∧ bc ≠ 9 ∧ bc ≠ 13 := by omega
  obtain ⟨hbc1, hbc5, hbc99, hbc13⟩ := hbcx
  obtain ⟨el, hel⟩ : ∃ n, n = l.length := ⟨_, rfl⟩
  rw [← hel] at hv ⊢
  have HV := Lib.hid hv
  have HB := Lib.hid hb
  have HN := Lib.hid hn
  have HOK := Lib.hid hok
  have HX := Lib.hid hx
  clear hv hb hn hok hle hcm hbcm hel hx
  have HAP0 := Lib.hid (show applyB ⟨(pr, pn), l⟩ b = (if (decC (b.drop 13)).2 = 0 then votA ⟨(pr, pn), l⟩ (bodVot b) else none) by rw [applyB, if_neg (by rw [HN.out]; rintro ⟨h, -⟩; cases h), if_pos ⟨HN.out, HX.out⟩])
  obtain ⟨⟨⟨d0, d1, d2, d3, d4⟩, dE⟩, hD⟩ : ∃ D, D = decC (b.drop 13) := ⟨_, rfl⟩
  have HDV := Lib.hid (show (decC (b.drop 13)).1 = ⟨d0, d1, d2, d3, d4⟩ by rw [← hD])
  have HDE := Lib.hid (show (decC (b.drop 13)).2 = dE by rw [← hD])
  clear hD
  go_enter Tryd.func28, Tryd.ntmps28
  go_upto_region 1 with fail
  generalize hW : World.alloc _ _ = w1
  obtain ⟨X, Y, B0, hz1⟩ := alloc2T hW
  have HB0 := Lib.hid B0
  have HZ := Lib.hid hz1
  have HXB := Lib.hid X
  have HYB := Lib.hid Y
  have HB1 := Lib.hid (HB.out.stay B0)
  have HV1 := Lib.hid (HV.out.stay B0)
  have x0 : w1.cell? ⟨bb, bo, none⟩ = some (.int .u8 2) := by
    have h := HB1.out.cellR 0 (by rw [HN.out]; decide)
    rw [HX.out] at h
    exact h
  clear hW hz1 X Y B0
  go_upto_region 5 with fail
  have HDEC := Lib.hid (show Calls Tryd.prog 44 #[.slice (some ⟨bb, bo + 13, none⟩) 20 (bc - 13)] w1 fun e w' => e = .returned (.tuple #[.agg #[.int .i64 d0, .int .i64 d1, .int .i64 d2, .int .i64 d3, .int .i64 d4], .int .i64 dE]) ∧ Below w1.heap.size w1 w' by
    have h := Decode_any _ _ _ (HB1.out.tail 13 20 (by decide) rfl)
    rw [HDV.out, HDE.out] at h
    exact h)
  clear x0
  go_upto_region 6 with (go_at_call 44; refine HDEC.out.mono ?_; rintro e wd ⟨rfl, hbd⟩; have BD := Lib.hid hbd; clear hbd)
  have hb2 : Below w1.heap.size w1 (wd.alloc (.cells #[.int .i64 d0, .int .i64 d1, .int .i64 d2, .int .i64 d3, .int .i64 d4] 33)) := BD.out.alloc BD.out.size _
  have x2 : (wd.alloc (.cells #[.int .i64 d0, .int .i64 d1, .int .i64 d2, .int .i64 d3, .int .i64 d4] 33)).heap[wd.heap.size]? = some (.cells #[.int .i64 d0, .int .i64 d1, .int .i64 d2, .int .i64 d3, .int .i64 d4] 33 (0, 0)) := heapNew _ _
  obtain ⟨db, hdb⟩ : ∃ b, b = wd.heap.size := ⟨_, rfl⟩
  rw [← hdb] at x2 ⊢
  generalize hW : wd.alloc _ = w2 at hb2 x2 ⊢
  clear hW BD HDEC
  have t2 := (hb2.block _ (lt_of_heap HXB.out)).trans HXB.out
  have y2 := (hb2.block _ (lt_of_heap HYB.out)).trans HYB.out
  have HYX := Lib.hid y2
  have HT2 := Lib.hid t2
  have BX1 := Lib.hid hb2
  have HX2 := Lib.hid x2
  have HB2 := Lib.hid (HB1.out.stay hb2)
  have HV2 := Lib.hid (HV1.out.stay hb2)
  clear hdb hb2 x2 y2 t2
  by_cases hE : dE = 0
  · subst hE
    go_upto_region 8 with fail
    have hl1 := lt_of_heap HT2.out
    have hl2 := lt_of_heap HX2.out
    have S1 : SB w2 w.heap.size db pr pn (.slice ea el ec) d0 d1 d2 d3 d4 := ⟨cellAt HT2.out 0 rfl, cellAt HT2.out 1 rfl, cellAt HT2.out 2 rfl, cellAt HX2.out 0 rfl, cellAt HX2.out 1 rfl, cellAt HX2.out 2 rfl, cellAt HX2.out 3 rfl, cellAt HX2.out 4 rfl⟩
    have ST := Lib.hid S1
    obtain ⟨k0, k1, k2, k3, k4, k5, k6, k7⟩ := id S1
    have HG1 := Lib.hid (getAt HB2.out HN.out 1 32 (by decide) rfl (by decide))
    have HG5 := Lib.hid (getAt HB2.out HN.out 5 28 (by decide) rfl (by decide))
    have HG9 := Lib.hid (getAt HB2.out HN.out 9 24 (by decide) rfl (by decide))
    obtain ⟨g1, hg1⟩ : ∃ g : Int, g = getN (b.drop 1) := ⟨_, rfl⟩
    obtain ⟨g5, hg5⟩ : ∃ g : Int, g = getN (b.drop 5) := ⟨_, rfl⟩
    obtain ⟨g9, hg9⟩ : ∃ g : Int, g = getN (b.drop 9) := ⟨_, rfl⟩
    rw [← hg1] at HG1
    rw [← hg5] at HG5
    rw [← hg9] at HG9
    have HAP := Lib.hid (show applyB ⟨(pr, pn), l⟩ b = votA ⟨(pr, pn), l⟩ ⟨g1, (g5, g9), ⟨d0, d1, d2, d3, d4⟩⟩ by rw [HAP0.out, if_pos HDE.out, bodVot, hg1, hg5, hg9, HDV.out])
    clear hg1 hg5 hg9
    have HPRO := Lib.hid (fun W (hW : Below w2.heap.size w2 W) => Accept_all ⟨(pr, pn), l⟩ g1 g5 g9 d0 d1 d2 d3 d4 (.slice ea el ec) W (HV2.out.stay hW) HOK.out)
    have NE1 : w.heap.size ≠ w2.heap.size := by omega
    have NE2 : db ≠ w2.heap.size := by omega
    clear S1
    go_region_held3 (fun w' => w'.cell? ⟨w.heap.size, 0, none⟩ = some (.int .i64 pr) ∧ w'.cell? ⟨w.heap.size, 1, none⟩ = some (.int .i64 pn) ∧ w'.cell? ⟨w.heap.size, 2, none⟩ = some (.slice ea el ec) ∧ w'.cell? ⟨db, 0, none⟩ = some (.int .i64 d0) ∧ w'.cell? ⟨db, 1, none⟩ = some (.int .i64 d1) ∧ w'.cell? ⟨db, 2, none⟩ = some (.int .i64 d2) ∧ w'.cell? ⟨db, 3, none⟩ = some (.int .i64 d3) ∧ w'.cell? ⟨db, 4, none⟩ = some (.int .i64 d4)) (first | with_reducible exact S2 | with_reducible exact S2.alloc hv1 hv2 _ | (refine SB.stay ST.out hl1 hl2 ?_; (repeat (first | exact Below.refl _ _ | with_reducible refine bel_drew ?_ | with_reducible refine below_drewN ?_ _ | with_reducible refine bel_alloc ?_)); done) | with_reducible exact S2.set NE1 NE2) (first
      | (go_at_call 43; with_reducible refine (HG1.out _ ?hb).mono ?_; (case hb => (repeat (first | exact Below.refl _ _ | with_reducible refine bel_drew ?_ | with_reducible refine below_drewN ?_ _ | with_reducible refine bel_alloc ?_))); rintro e _ ⟨rfl, nq, rfl⟩)
      | (go_at_call 43; with_reducible refine (HG5.out _ ?hb).mono ?_; (case hb => (repeat (first | exact Below.refl _ _ | with_reducible refine bel_drew ?_ | with_reducible refine below_drewN ?_ _ | with_reducible refine bel_alloc ?_))); rintro e _ ⟨rfl, nq, rfl⟩)
      | (go_at_call 43; with_reducible refine (HG9.out _ ?hb).mono ?_; (case hb => (repeat (first | exact Below.refl _ _ | with_reducible refine bel_drew ?_ | with_reducible refine below_drewN ?_ _ | with_reducible refine bel_alloc ?_))); rintro e _ ⟨rfl, nq, rfl⟩)
      | (go_at_call 23; (with_reducible refine (HPRO.out _ ?hb).mono ?_); (case hb => (repeat (first | exact Below.refl _ _ | with_reducible refine bel_drew ?_ | with_reducible refine below_drewN ?_ _ | with_reducible refine bel_alloc ?_))); rintro e v2 ⟨hbW, xx, yy, a1, n1, c1, cc, rfl, hcase⟩; have hb6 : Below w2.heap.size w2 v2 := (by (refine bel_trans ?_ hbW; (repeat (first | exact Below.refl _ _ | with_reducible refine bel_drew ?_ | with_reducible refine below_drewN ?_ _ | with_reducible refine bel_alloc ?_)))); have S2 := SB.stay ST.out hl1 hl2 hb6; have hv1 := Nat.lt_of_lt_of_le hl1 hb6.size; have hv2 := Nat.lt_of_lt_of_le hl2 hb6.size; have B6 := Lib.hid hb6; first | (have hza : v2.heap[w2.heap.size]? = some (.cells #[.int .i64 0, .int .i64 0, .slice none 0 0] 45 (0, 0)) := (hbW.block _ (by show _ < (World.alloc w2 _).heap.size; simp)).trans (heapNew w2 _); have HCA := Lib.hid (show ∀ w', (∀ k, k ≠ w2.heap.size → w'.heap[k]? = v2.heap[k]?) → ((votA ⟨(pr, pn), l⟩ ⟨g1, (g5, g9), ⟨d0, d1, d2, d3, d4⟩⟩ = none ∧ cc ≠ 0) ∨ (∃ m, votA ⟨(pr, pn), l⟩ ⟨g1, (g5, g9), ⟨d0, d1, d2, d3, d4⟩⟩ = some ⟨(xx, yy), m⟩ ∧ cc = 0 ∧ OwnV w' w2.heap.size (.slice a1 n1 c1) m)) from fun w' hw => hcase.imp_right (fun ⟨m, h1, h2, h3⟩ => ⟨m, h1, h2, ownV_move h3 (by show w2.heap.size ≤ (World.alloc w2 _).heap.size; simp) (fun k hk _ => hw k (by have h9 : (World.alloc w2 _).heap.size ≤ k := hk; simp at h9; omega))⟩)); have za0 := cellAt hza 0 rfl; have za1 := cellAt hza 1 rfl; have za2 := cellAt hza 2 rfl; have zaf := freeAt hza; have ZA := Lib.hid hza; clear hza hbW hb6 hcase) | (have HCB := Lib.hid (show ∀ w', Below v2.heap.size v2 w' → ((votA ⟨(pr, pn), l⟩ ⟨g1, (g5, g9), ⟨d0, d1, d2, d3, d4⟩⟩ = none ∧ cc ≠ 0) ∨ (∃ m, votA ⟨(pr, pn), l⟩ ⟨g1, (g5, g9), ⟨d0, d1, d2, d3, d4⟩⟩ = some ⟨(xx, yy), m⟩ ∧ cc = 0 ∧ OwnV w' w2.heap.size (.slice a1 n1 c1) m)) from fun w' hw => hcase.imp_right (fun ⟨m, h1, h2, h3⟩ => ⟨m, h1, h2, ownV_move h3 (show w2.heap.size ≤ w2.heap.size from Nat.le_refl _) (fun k _ hk => hw.block k hk)⟩)); clear hbW hb6 hcase)))
    all_goals
      first
      | (have zz := ZA.out; have hx : (((v2.setCell ⟨w2.heap.size, 0, none⟩ (.int .i64 xx)).setCell ⟨w2.heap.size, 1, none⟩ (.int .i64 yy)).setCell ⟨w2.heap.size, 2, none⟩ (.slice a1 n1 c1)).heap[w2.heap.size]? = some (.cells #[.int .i64 xx, .int .i64 yy, .slice a1 n1 c1] 45 (0, 0)) := heapSet (o := 2) (heapSet (o := 1) (heapSet (o := 0) zz _) _) _; have hbn : Below w2.heap.size w2 (((v2.setCell ⟨w2.heap.size, 0, none⟩ (.int .i64 xx)).setCell ⟨w2.heap.size, 1, none⟩ (.int .i64 yy)).setCell ⟨w2.heap.size, 2, none⟩ (.slice a1 n1 c1)) := ((B6.out.setCell (Nat.le_refl _) _).setCell (Nat.le_refl _) _).setCell (Nat.le_refl _) _; have hu := HCA.out (((v2.setCell ⟨w2.heap.size, 0, none⟩ (.int .i64 xx)).setCell ⟨w2.heap.size, 1, none⟩ (.int .i64 yy)).setCell ⟨w2.heap.size, 2, none⟩ (.slice a1 n1 c1)) (fun k hk => (heapSet_ne 2 _ hk).trans ((heapSet_ne 1 _ hk).trans (heapSet_ne 0 _ hk))); generalize hW : World.setCell _ _ _ = w3 at hx hbn hu ⊢; obtain ⟨q, hq⟩ : ∃ b, b = w2.heap.size := ⟨_, rfl⟩; have hqz : w2.heap.size ≤ q := Nat.le_of_eq hq.symm; rw [← hq] at hx ⊢; clear zz hW hq ZA za0 za1 za2 zaf S2 hv1 hv2 B6 HCA)
      | (have hx : (v2.alloc (.cells #[.int .i64 xx, .int .i64 yy, .slice a1 n1 c1] 45)).heap[v2.heap.size]? = some (.cells #[.int .i64 xx, .int .i64 yy, .slice a1 n1 c1] 45 (0, 0)) := heapNew _ _; have hbn : Below w2.heap.size w2 (v2.alloc (.cells #[.int .i64 xx, .int .i64 yy, .slice a1 n1 c1] 45)) := B6.out.alloc B6.out.size _; have hu := HCB.out (v2.alloc (.cells #[.int .i64 xx, .int .i64 yy, .slice a1 n1 c1] 45)) ((Below.refl _ _).alloc (Nat.le_refl _) _); have hqz0 : w2.heap.size ≤ v2.heap.size := B6.out.size; generalize hW : World.alloc _ _ = w3 at hx hbn hu ⊢; obtain ⟨q, hq⟩ : ∃ b, b = v2.heap.size := ⟨_, rfl⟩; rw [← hq] at hx hqz0 ⊢; have hqz := hqz0; clear hW hq S2 hv1 hv2 B6 HCB hqz0)
      clear k0 k1 k2 k3 k4 k5 k6 k7
      have e0 := cellAt hx 0 rfl
      have e1 := cellAt hx 1 rfl
      have e2 := cellAt hx 2 rfl
      have y3 := (hbn.block _ (lt_of_heap HYX.out)).trans HYX.out
      have ya0 := cellAt y3 0 rfl
      have ya1 := cellAt y3 1 rfl
      have ya2 := cellAt y3 2 rfl
      have gf := freeAt y3
      have HY3 := Lib.hid y3
      have B3 := Lib.hid hbn
      have BX3 := Lib.hid (bel_trans BX1.out hbn)
      have HU := Lib.hid hu
      have hne1 : ¬ (w.heap.size + 1 = q) := by have := lt_of_heap HYX.out; omega
      have hne2 : ¬ (q = w.heap.size + 1) := by omega
      have HBZ := Lib.hid (lt_of_heap HYX.out)
      clear hx y3 hbn hu
      rcases HU.out with ⟨hn, hc⟩ | ⟨m, hs, hc, hv⟩
      · have hcc : (cc == 0) = false := by rw [beq_eq_false_iff_ne]; exact hc
        go_wp2_with fail
        have z5 := heapSet (o := 2) (heapSet (o := 1) (heapSet (o := 0) HY3.out (.int .i64 xx)) (.int .i64 yy)) (.slice a1 n1 c1)
        have hle2 : w.heap.size ≤ w.heap.size + 1 := by omega
        have b5 : Below w.heap.size w (((w3.setCell ⟨w.heap.size + 1, 0, none⟩ (.int .i64 xx)).setCell ⟨w.heap.size + 1, 1, none⟩ (.int .i64 yy)).setCell ⟨w.heap.size + 1, 2, none⟩ (.slice a1 n1 c1)) := (((HB0.out.trans (BX3.out.mono HB0.out.size)).setCell hle2 _).setCell hle2 _).setCell hle2 _
        generalize hW : World.setCell _ _ _ = wZ at z5 b5 ⊢
        have hl := run_loadVar_mid (P := Tryd.prog) wZ (w.heap.size + 1) 0 45 [.int .i64 xx, .int .i64 yy, .slice a1 n1 c1] _ (range_of z5) Tryd.underlying45 rfl accSz
        exact bodyPost_ret (v := .tuple #[.agg #[.int .i64 xx, .int .i64 yy, .slice a1 n1 c1], .bool false]) (results_ct Tryd.results28 rfl hl) rfl ⟨b5, _, _, _, _, _, _, rfl, .inl ⟨HAP.out.trans hn, rfl⟩⟩
      · subst hc
        have HVV := Lib.hid hv
        clear hv
        go_wp2_with fail
        have z5 := heapSet (o := 2) (heapSet (o := 1) (heapSet (o := 0) HY3.out (.int .i64 xx)) (.int .i64 yy)) (.slice a1 n1 c1)
        have hle2 : w.heap.size ≤ w.heap.size + 1 := by omega
        have b5 : Below w.heap.size w (((w3.setCell ⟨w.heap.size + 1, 0, none⟩ (.int .i64 xx)).setCell ⟨w.heap.size + 1, 1, none⟩ (.int .i64 yy)).setCell ⟨w.heap.size + 1, 2, none⟩ (.slice a1 n1 c1)) := (((HB0.out.trans (BX3.out.mono HB0.out.size)).setCell hle2 _).setCell hle2 _).setCell hle2 _
        have r5 : OwnV (((w3.setCell ⟨w.heap.size + 1, 0, none⟩ (.int .i64 xx)).setCell ⟨w.heap.size + 1, 1, none⟩ (.int .i64 yy)).setCell ⟨w.heap.size + 1, 2, none⟩ (.slice a1 n1 c1)) w.heap.size (.slice a1 n1 c1) m := (ownV_move HVV.out (by have := HB0.out.size; have := BX1.out.size; omega) (fun k hk _ => (heapSet_ne 2 _ (by have := HBZ.out; omega)).trans ((heapSet_ne 1 _ (by have := HBZ.out; omega)).trans (heapSet_ne 0 _ (by have := HBZ.out; omega)))))
        generalize hW : World.setCell _ _ _ = wZ at z5 b5 r5 ⊢
        have hl := run_loadVar_mid (P := Tryd.prog) wZ (w.heap.size + 1) 0 45 [.int .i64 xx, .int .i64 yy, .slice a1 n1 c1] _ (range_of z5) Tryd.underlying45 rfl accSz
        exact bodyPost_ret (v := .tuple #[.agg #[.int .i64 xx, .int .i64 yy, .slice a1 n1 c1], .bool true]) (results_ct Tryd.results28 rfl hl) rfl ⟨b5, _, _, _, _, _, _, rfl, .inr ⟨m, HAP.out.trans hs, rfl, r5⟩⟩
  · have hEE : (dE != 0) = true := by rw [bne_iff_ne]; exact hE
    have ta0 := cellAt HT2.out 0 rfl
    have ta1 := cellAt HT2.out 1 rfl
    have ta2 := cellAt HT2.out 2 rfl
    have ya0 := cellAt HYX.out 0 rfl
    have ya1 := cellAt HYX.out 1 rfl
    have ya2 := cellAt HYX.out 2 rfl
    have gf := freeAt HYX.out
    go_wp2_with fail
    have z5 := heapSet (o := 2) (heapSet (o := 1) (heapSet (o := 0) HYX.out (.int .i64 pr)) (.int .i64 pn)) (.slice ea el ec)
    have hle2 : w.heap.size ≤ w.heap.size + 1 := by omega
    have b5 : Below w.heap.size w (((w2.setCell ⟨w.heap.size + 1, 0, none⟩ (.int .i64 pr)).setCell ⟨w.heap.size + 1, 1, none⟩ (.int .i64 pn)).setCell ⟨w.heap.size + 1, 2, none⟩ (.slice ea el ec)) := (((HB0.out.trans (BX1.out.mono HB0.out.size)).setCell hle2 _).setCell hle2 _).setCell hle2 _
    generalize hW : World.setCell _ _ _ = wZ at z5 b5 ⊢
    have hl := run_loadVar_mid (P := Tryd.prog) wZ (w.heap.size + 1) 0 45 [.int .i64 pr, .int .i64 pn, .slice ea el ec] _ (range_of z5) Tryd.underlying45 rfl accSz
    exact bodyPost_ret (v := .tuple #[.agg #[.int .i64 pr, .int .i64 pn, .slice ea el ec], .bool false]) (results_ct Tryd.results28 rfl hl) rfl ⟨b5, _, _, _, _, _, _, rfl, .inl ⟨by rw [HAP0.out, if_neg (by rw [HDE.out]; exact hE)], rfl⟩⟩
set_option maxRecDepth 100000 in
set_option maxHeartbeats 4000000 in
theorem apply_non9 (a : Apr) (v vb : Value) (b : List UInt8) (w : World) (hv : Votes w v a.l) (hok : a.ok = true) (hb : Rd w vb b) (hn : b.length = 9) (hx : b.getD 0 0 ≠ 1) :
    Calls Tryd.prog 28 #[.agg #[.int .i64 a.p.1, .int .i64 a.p.2, v], vb] w (AplPost w a b) := by
  obtain ⟨⟨pr, pn⟩, l⟩ := a
  obtain ⟨ea, ec, rfl, hle, hcm, -⟩ := id hv.1
  obtain ⟨bb, bo, bc, rfl, hbc, hbcm⟩ := hb.shapeN 9 hn (by decide)
  have hbc9 : bc ≤ 9223372036854775807 := hbcm
  have hbcx : bc ≠ 1 ∧ bc ≠ 5 := by omega
  obtain ⟨hbc1, hbc5⟩ := hbcx
  obtain ⟨el, hel⟩ : ∃ n, n = l.length := ⟨_, rfl⟩
  rw [← hel] at hv ⊢
  have HV := Lib.hid hv
  have HB := Lib.hid hb
  have HN := Lib.hid hn
  have HOK := Lib.hid hok
  have HX := Lib.hid hx
  clear hv hb hn hok hle hcm hbcm hel hx
  have HAP := Lib.hid (show applyB ⟨(pr, pn), l⟩ b = none by rw [applyB, if_neg (fun h => HX.out h.2), if_neg (fun h => by have := HN.out; have := h.1; omega)])
  go_enter Tryd.func28, Tryd.ntmps28
  go_upto_region 1 with fail
  generalize hW : World.alloc _ _ = w1
  obtain ⟨X, Y, B0, hz1⟩ := alloc2T hW
  have HB0 := Lib.hid B0
  have HZ := Lib.hid hz1
  have HXB := Lib.hid X
  have HYB := Lib.hid Y
  have HB1 := Lib.hid (HB.out.stay B0)
  have HV1 := Lib.hid (HV.out.stay B0)
  obtain ⟨x, hxx⟩ : ∃ x, x = b.getD 0 0 := ⟨_, rfl⟩
  have x0 : w1.cell? ⟨bb, bo, none⟩ = some (.int .u8 (x.toNat : Int)) := by
    have h := HB1.out.cellR 0 (by rw [HN.out]; decide)
    rw [← hxx] at h
    exact h
  have hxf : ((x.toNat : Int) == 1) = false := by
    rw [beq_eq_false_iff_ne]
    intro h
    exact HX.out (by rw [← hxx]; exact UInt8.toNat_inj.1 (by show x.toNat = 1; omega))
  clear hxx
  clear hW hz1 X Y B0
  have BX1 := Lib.hid (Below.refl w1.heap.size w1)
  have ta0 := cellAt HXB.out 0 rfl
  have ta1 := cellAt HXB.out 1 rfl
  have ta2 := cellAt HXB.out 2 rfl
  have ya0 := cellAt HYB.out 0 rfl
  have ya1 := cellAt HYB.out 1 rfl
  have ya2 := cellAt HYB.out 2 rfl
  have gf := freeAt HYB.out
  go_wp2_with fail
  have z5 := heapSet (o := 2) (heapSet (o := 1) (heapSet (o := 0) HYB.out (.int .i64 pr)) (.int .i64 pn)) (.slice ea el ec)
  have hle2 : w.heap.size ≤ w.heap.size + 1 := by omega
  have b5 : Below w.heap.size w (((w1.setCell ⟨w.heap.size + 1, 0, none⟩ (.int .i64 pr)).setCell ⟨w.heap.size + 1, 1, none⟩ (.int .i64 pn)).setCell ⟨w.heap.size + 1, 2, none⟩ (.slice ea el ec)) := (((HB0.out.trans (BX1.out.mono HB0.out.size)).setCell hle2 _).setCell hle2 _).setCell hle2 _
  generalize hW : World.setCell _ _ _ = wZ at z5 b5 ⊢
  have hl := run_loadVar_mid (P := Tryd.prog) wZ (w.heap.size + 1) 0 45 [.int .i64 pr, .int .i64 pn, .slice ea el ec] _ (range_of z5) Tryd.underlying45 rfl accSz
  exact bodyPost_ret (v := .tuple #[.agg #[.int .i64 pr, .int .i64 pn, .slice ea el ec], .bool false]) (results_ct Tryd.results28 rfl hl) rfl ⟨b5, _, _, _, _, _, _, rfl, .inl ⟨HAP.out, rfl⟩⟩
set_option maxRecDepth 100000 in
set_option maxHeartbeats 4000000 in
theorem apply_non33 (a : Apr) (v vb : Value) (b : List UInt8) (w : World) (hv : Votes w v a.l) (hok : a.ok = true) (hb : Rd w vb b) (hn : b.length = 33) (hx : b.getD 0 0 ≠ 2) :
    Calls Tryd.prog 28 #[.agg #[.int .i64 a.p.1, .int .i64 a.p.2, v], vb] w (AplPost w a b) := by
  obtain ⟨⟨pr, pn⟩, l⟩ := a
  obtain ⟨ea, ec, rfl, hle, hcm, -⟩ := id hv.1
  obtain ⟨bb, bo, bc, rfl, hbc, hbcm⟩ := hb.shapeN 33 hn (by decide)
  have hbc9 : bc ≤ 9223372036854775807 := hbcm
  have hbcx : bc ≠ 1 ∧ bc ≠ 5 ∧ bc ≠ 9 ∧ bc ≠ 13 := by omega
  obtain ⟨hbc1, hbc5, hbc99, hbc13⟩ := hbcx
  obtain ⟨el, hel⟩ : ∃ n, n = l.length := ⟨_, rfl⟩
  rw [← hel] at hv ⊢
  have HV := Lib.hid hv
  have HB := Lib.hid hb
  have HN := Lib.hid hn
  have HOK := Lib.hid hok
  have HX := Lib.hid hx
  clear hv hb hn hok hle hcm hbcm hel hx
  have HAP := Lib.hid (show applyB ⟨(pr, pn), l⟩ b = none by rw [applyB, if_neg (fun h => by have := HN.out; have := h.1; omega), if_neg (fun h => HX.out h.2)])
  go_enter Tryd.func28, Tryd.ntmps28
  go_upto_region 1 with fail
  generalize hW : World.alloc _ _ = w1
  obtain ⟨X, Y, B0, hz1⟩ := alloc2T hW
  have HB0 := Lib.hid B0
  have HZ := Lib.hid hz1
  have HXB := Lib.hid X
  have HYB := Lib.hid Y
  have HB1 := Lib.hid (HB.out.stay B0)
  have HV1 := Lib.hid (HV.out.stay B0)
  obtain ⟨x, hxx⟩ : ∃ x, x = b.getD 0 0 := ⟨_, rfl⟩
  have x0 : w1.cell? ⟨bb, bo, none⟩ = some (.int .u8 (x.toNat : Int)) := by
    have h := HB1.out.cellR 0 (by rw [HN.out]; decide)
    rw [← hxx] at h
    exact h
  have hxf : ((x.toNat : Int) == 2) = false := by
    rw [beq_eq_false_iff_ne]
    intro h
    exact HX.out (by rw [← hxx]; exact UInt8.toNat_inj.1 (by show x.toNat = 2; omega))
  clear hxx
  clear hW hz1 X Y B0
  have BX1 := Lib.hid (Below.refl w1.heap.size w1)
  have ta0 := cellAt HXB.out 0 rfl
  have ta1 := cellAt HXB.out 1 rfl
  have ta2 := cellAt HXB.out 2 rfl
  have ya0 := cellAt HYB.out 0 rfl
  have ya1 := cellAt HYB.out 1 rfl
  have ya2 := cellAt HYB.out 2 rfl
  have gf := freeAt HYB.out
  go_wp2_with fail
  have z5 := heapSet (o := 2) (heapSet (o := 1) (heapSet (o := 0) HYB.out (.int .i64 pr)) (.int .i64 pn)) (.slice ea el ec)
  have hle2 : w.heap.size ≤ w.heap.size + 1 := by omega
  have b5 : Below w.heap.size w (((w1.setCell ⟨w.heap.size + 1, 0, none⟩ (.int .i64 pr)).setCell ⟨w.heap.size + 1, 1, none⟩ (.int .i64 pn)).setCell ⟨w.heap.size + 1, 2, none⟩ (.slice ea el ec)) := (((HB0.out.trans (BX1.out.mono HB0.out.size)).setCell hle2 _).setCell hle2 _).setCell hle2 _
  generalize hW : World.setCell _ _ _ = wZ at z5 b5 ⊢
  have hl := run_loadVar_mid (P := Tryd.prog) wZ (w.heap.size + 1) 0 45 [.int .i64 pr, .int .i64 pn, .slice ea el ec] _ (range_of z5) Tryd.underlying45 rfl accSz
  exact bodyPost_ret (v := .tuple #[.agg #[.int .i64 pr, .int .i64 pn, .slice ea el ec], .bool false]) (results_ct Tryd.results28 rfl hl) rfl ⟨b5, _, _, _, _, _, _, rfl, .inl ⟨HAP.out, rfl⟩⟩
set_option maxRecDepth 100000 in
set_option maxHeartbeats 4000000 in
theorem apply_non (a : Apr) (v vb : Value) (b : List UInt8) (w : World) (hv : Votes w v a.l) (hok : a.ok = true) (hb : Rd w vb b) (hn9 : b.length ≠ 9) (hn33 : b.length ≠ 33) :
    Calls Tryd.prog 28 #[.agg #[.int .i64 a.p.1, .int .i64 a.p.2, v], vb] w (AplPost w a b) := by
  obtain ⟨⟨pr, pn⟩, l⟩ := a
  obtain ⟨ea, ec, rfl, hle, hcm, -⟩ := id hv.1
  obtain ⟨ab, cb, rfl, -, -⟩ := id hb.slice
  obtain ⟨n, hnn⟩ : ∃ n, n = b.length := ⟨_, rfl⟩
  have HAP := Lib.hid (show applyB ⟨(pr, pn), l⟩ b = none by rw [applyB, if_neg (fun h => hn9 h.1), if_neg (fun h => hn33 h.1)])
  rw [← hnn] at hb hn9 hn33 ⊢
  have e9 : ((n : Int) == 9) = false := by rw [beq_eq_false_iff_ne]; omega
  have e33 : ((n : Int) == 33) = false := by rw [beq_eq_false_iff_ne]; omega
  obtain ⟨el, hel⟩ : ∃ n, n = l.length := ⟨_, rfl⟩
  rw [← hel] at hv ⊢
  have HV := Lib.hid hv
  clear hv hb hok hle hcm hel hn9 hn33 hnn
  go_enter Tryd.func28, Tryd.ntmps28
  go_upto_region 1 with fail
  generalize hW : World.alloc _ _ = w1
  obtain ⟨X, Y, B0, hz1⟩ := alloc2T hW
  have HB0 := Lib.hid B0
  have HZ := Lib.hid hz1
  have HXB := Lib.hid X
  have HYB := Lib.hid Y
  have HV1 := Lib.hid (HV.out.stay B0)
  clear hW hz1 X Y B0
  have BX1 := Lib.hid (Below.refl w1.heap.size w1)
  have ta0 := cellAt HXB.out 0 rfl
  have ta1 := cellAt HXB.out 1 rfl
  have ta2 := cellAt HXB.out 2 rfl
  have ya0 := cellAt HYB.out 0 rfl
  have ya1 := cellAt HYB.out 1 rfl
  have ya2 := cellAt HYB.out 2 rfl
  have gf := freeAt HYB.out
  go_wp2_with fail
  have z5 := heapSet (o := 2) (heapSet (o := 1) (heapSet (o := 0) HYB.out (.int .i64 pr)) (.int .i64 pn)) (.slice ea el ec)
  have hle2 : w.heap.size ≤ w.heap.size + 1 := by omega
  have b5 : Below w.heap.size w (((w1.setCell ⟨w.heap.size + 1, 0, none⟩ (.int .i64 pr)).setCell ⟨w.heap.size + 1, 1, none⟩ (.int .i64 pn)).setCell ⟨w.heap.size + 1, 2, none⟩ (.slice ea el ec)) := (((HB0.out.trans (BX1.out.mono HB0.out.size)).setCell hle2 _).setCell hle2 _).setCell hle2 _
  generalize hW : World.setCell _ _ _ = wZ at z5 b5 ⊢
  have hl := run_loadVar_mid (P := Tryd.prog) wZ (w.heap.size + 1) 0 45 [.int .i64 pr, .int .i64 pn, .slice ea el ec] _ (range_of z5) Tryd.underlying45 rfl accSz
  exact bodyPost_ret (v := .tuple #[.agg #[.int .i64 pr, .int .i64 pn, .slice ea el ec], .bool false]) (results_ct Tryd.results28 rfl hl) rfl ⟨b5, _, _, _, _, _, _, rfl, .inl ⟨HAP.out, rfl⟩⟩
theorem apply_any (a : Apr) (v vb : Value) (b : List UInt8) (w : World) (hv : Votes w v a.l) (hok : a.ok = true) (hb : Rd w vb b) :
    Calls Tryd.prog 28 #[.agg #[.int .i64 a.p.1, .int .i64 a.p.2, v], vb] w (AplPost w a b) := by
  by_cases h9 : b.length = 9
  · by_cases h1 : b.getD 0 0 = 1
    · exact apply_pro a v vb b w hv hok hb h9 h1
    · exact apply_non9 a v vb b w hv hok hb h9 h1
  · by_cases h33 : b.length = 33
    · by_cases h2 : b.getD 0 0 = 2
      · exact apply_vot a v vb b w hv hok hb h33 h2
      · exact apply_non33 a v vb b w hv hok hb h33 h2
    · exact apply_non a v vb b w hv hok hb h9 h33
end Go.Proofs.YtdkbajdnckmckaaDoor

set_option linter.unusedVariables false
set_option linter.unusedSimpArgs false
namespace Go.Proofs.YtdkbajdnckmckaaDoor
open Go.RowKit Go.Con

theorem orZero (q : Int) (a b : UInt8) (x : UInt8) (h : q = x.toNat) : bits .or .u8 q (bits .xor .u8 (a.toNat : Int) (b.toNat : Int)) = ((x ||| (a ^^^ b)).toNat : Int) := by
  rw [h, u8_xorF, u8_orF]
theorem orIff (x a b : UInt8) : (x ||| (a ^^^ b)) = 0 ↔ x = 0 ∧ a = b := by
  rw [← UInt8.toBitVec_inj, ← UInt8.toBitVec_inj, ← UInt8.toBitVec_inj]
  simp only [UInt8.toBitVec_or, UInt8.toBitVec_xor, UInt8.toBitVec_ofNat]
  rw [BitVec.or_eq_zero_iff]
  constructor
  · rintro ⟨h1, h2⟩; exact ⟨h1, BitVec.xor_eq_zero_iff.1 h2⟩
  · rintro ⟨h1, h2⟩; exact ⟨h1, BitVec.xor_eq_zero_iff.2 h2⟩

set_option maxHeartbeats 400000 in
theorem shaSame_ne (n m c d : Nat) (a b : Option Addr) (w : World) (hne : ((n : Int) != (m : Int)) = true) :
    Calls Tryd.prog 27 #[.slice a n c, .slice b m d] w fun e w' => e = .returned (.bool false) ∧ ∃ k, w' = w.drewN k := by
  go_enter Tryd.func27, Tryd.ntmps27
  go_wp2
  go_ret
  exact ⟨rfl, 0, rfl⟩

set_option maxHeartbeats 400000 in
theorem shaSame_nil (c d : Nat) (a b : Option Addr) (w : World) :
    Calls Tryd.prog 27 #[.slice a 0 c, .slice b 0 d] w fun e w' => e = .returned (.bool true) ∧ ∃ k, w' = w.drewN k := by
  go_enter Tryd.func27, Tryd.ntmps27
  go_wp2
  refine wp_loop_rounds 1 ?_
  rw [rounds_succ]
  go_wp2
  go_ret
  exact ⟨rfl, 0, rfl⟩

set_option maxHeartbeats 400000 in
theorem shaSame_eq (x y : List UInt8) (n c d b1 o1 b2 o2 : Nat) (w : World) (hm : n ≤ 9223372036854775807) (hx : x.length = n) (hy : y.length = n)
    (h1 : ∀ i, i < n → w.cell? ⟨b1, o1 + i, none⟩ = some (u8v (x.getD i 0))) (h2 : ∀ i, i < n → w.cell? ⟨b2, o2 + i, none⟩ = some (u8v (y.getD i 0))) :
    Calls Tryd.prog 27 #[.slice (some ⟨b1, o1, none⟩) n c, .slice (some ⟨b2, o2, none⟩) n d] w fun e w' => e = .returned (.bool (x == y)) ∧ ∃ k, w' = w.drewN k := by
  have H1 := Lib.hid h1
  have H2 := Lib.hid h2
  have Hx := Lib.hid hx
  have Hy := Lib.hid hy
  clear h1 h2 hx hy
  go_enter Tryd.func27, Tryd.ntmps27
  go_wp2
  go_loopw [5, 14] (fun q j wr => ∃ k : Nat, ∃ z : UInt8, ∃ nd, k ≤ n ∧ j = .int .i64 k ∧ q = .int .u8 z.toNat ∧ (z = 0 ↔ x.take k = y.take k) ∧ wr = w.drewN nd) (fun _ j _ => n - (intOf j).toNat)
  case atStart => exact ⟨0, 0, 0, Nat.zero_le _, rfl, rfl, by simp, rfl⟩
  case round =>
    obtain ⟨k, z, nd, hk, rfl, rfl, hq, rfl⟩ := hrel
    have HQ := Lib.hid hq
    clear hq
    by_cases hlt : k < n
    · obtain ⟨xk, hxk⟩ : ∃ t, t = x.getD k 0 := ⟨_, rfl⟩
      obtain ⟨yk, hyk⟩ : ∃ t, t = y.getD k 0 := ⟨_, rfl⟩
      have c1 : w.cell? ⟨b1, o1 + k, none⟩ = some (.int .u8 xk.toNat) := by rw [hxk]; exact H1.out k hlt
      have c2 : w.cell? ⟨b2, o2 + k, none⟩ = some (.int .u8 yk.toNat) := by rw [hyk]; exact H2.out k hlt
      have HX := Lib.hid hxk
      have HY := Lib.hid hyk
      clear hxk hyk
      go_wp2
      go_quiet (fail)
      go_wp2
      go_roundw
      case rel =>
        refine ⟨k + 1, z ||| (xk ^^^ yk), _, by omega, by go_num, by rw [orZero _ _ _ z rfl], ?_, rfl⟩
        rw [orIff, HQ.out]
        have hx1 : k < x.length := by rw [Hx.out]; exact hlt
        have hy1 : k < y.length := by rw [Hy.out]; exact hlt
        rw [List.take_succ_eq_append_getElem hx1, List.take_succ_eq_append_getElem hy1, HX.out, HY.out]
        constructor
        · rintro ⟨e1, e2⟩
          have : x[k] = y[k] := by simpa [hx1, hy1] using e2
          rw [e1, this]
        · intro e
          have := List.append_inj e (by simp; omega)
          refine ⟨this.1, ?_⟩
          have h := this.2
          simpa [hx1, hy1] using h
      case measure => simp [intOf]; omega
    · have hz : ((z.toNat : Int) == 0) = (x == y) := by
        have hkn : k = n := by omega
        have h := HQ.out
        rw [hkn, List.take_of_length_le (by rw [Hx.out]; omega), List.take_of_length_le (by rw [Hy.out]; omega)] at h
        rw [Bool.eq_iff_iff, beq_iff_eq, beq_iff_eq, ← h]
        constructor
        · intro e; apply UInt8.toNat_inj.1; simpa using e
        · intro e; rw [e]; rfl
      have HZ := Lib.hid hz
      clear hz
      go_wp2
      go_ret
      exact ⟨by rw [← HZ.out]; rfl, _, rfl⟩

theorem shaSame_any (a b : Value) (x y : List UInt8) (w : World) (ha : Rd w a x) (hb : Rd w b y) :
    Calls Tryd.prog 27 #[a, b] w fun e w' => e = .returned (.bool (x == y)) ∧ ∃ k, w' = w.drewN k := by
  obtain ⟨p, c, rfl, h1, h2, h0, h3⟩ := ha
  obtain ⟨q, d, rfl, k1, k2, k0, k3⟩ := hb
  by_cases hne : x.length = y.length
  · by_cases hx : x = []
    · subst hx
      have hy : y = [] := List.eq_nil_of_length_eq_zero (by simpa using hne.symm)
      subst hy
      exact shaSame_nil c d p q w
    · obtain ⟨b1, o1, rfl, hc1⟩ := h3 hx
      obtain ⟨b2, o2, rfl, hc2⟩ := k3 (by intro h; subst h; exact hx (List.eq_nil_of_length_eq_zero (by simpa using hne)))
      rw [← hne] at hc2 ⊢
      exact shaSame_eq x y x.length c d b1 o1 b2 o2 w (Nat.le_trans h1 h2) rfl hne.symm hc1 hc2
  · have : (x == y) = false := by
      rw [beq_eq_false_iff_ne]; intro h; exact hne (by rw [h])
    rw [this]
    exact shaSame_ne _ _ _ _ _ _ w (by rw [bne_iff_ne]; omega)

theorem shaSame_true (a b : Value) (x y : List UInt8) (w : World) (ha : Rd w a x) (hb : Rd w b y) (h : x = y) :
    Calls Tryd.prog 27 #[a, b] w fun e w' => e = .returned (.bool true) ∧ ∃ k, w' = w.drewN k :=
  (shaSame_any a b x y w ha hb).mono fun e w' ⟨he, hw⟩ => ⟨by rw [he, h]; simp, hw⟩
theorem shaSame_false (a b : Value) (x y : List UInt8) (w : World) (ha : Rd w a x) (hb : Rd w b y) (h : x ≠ y) :
    Calls Tryd.prog 27 #[a, b] w fun e w' => e = .returned (.bool false) ∧ ∃ k, w' = w.drewN k :=
  (shaSame_any a b x y w ha hb).mono fun e w' ⟨he, hw⟩ => ⟨by rw [he, beq_eq_false_iff_ne.2 h], hw⟩

end Go.Proofs.YtdkbajdnckmckaaDoor

set_option linter.unusedVariables false
set_option linter.unusedSimpArgs false
namespace Go.Proofs.YtdkbajdnckmckaaDoor
open Go.RowKit Go.Con
/-- a whole record at the beginning: the acceptor behind it, and its length -/
def rstep (a : Apr) (d : List UInt8) : Option (Apr × Nat) :=
  if d.length = 0 then none
  else if d.length < 1 + (d.getD 0 0).toNat + 4 then none
  else if (Sha.sum (d.take (1 + (d.getD 0 0).toNat))).take 4 = (d.drop (1 + (d.getD 0 0).toNat)).take 4 then
    (applyB a ((d.drop 1).take (d.getD 0 0).toNat)).map fun c => (c, 1 + (d.getD 0 0).toNat + 4)
  else none
def rcv : Nat → Apr → List UInt8 → Apr × Nat
  | 0, a, _ => (a, 0)
  | f + 1, a, d => match rstep a d with
    | none => (a, 0)
    | some (c, k) => ((rcv f c (d.drop k)).1, k + (rcv f c (d.drop k)).2)
theorem rstep_pos {a c : Apr} {d : List UInt8} {k : Nat} (h : rstep a d = some (c, k)) : 5 ≤ k ∧ k ≤ d.length := by
  unfold rstep at h
  split at h
  · cases h
  · split at h
    · cases h
    · split at h
      · rename_i h1 h2 h3
        obtain ⟨x, hx, hy⟩ := Option.map_eq_some_iff.1 h
        injection hy with _ hy
        subst hy
        omega
      · cases h
theorem rcv_none {f : Nat} {a : Apr} {d : List UInt8} (h : rstep a d = none) : rcv f a d = (a, 0) := by
  cases f with
  | zero => rfl
  | succ f => rw [rcv, h]
theorem rcv_some {f : Nat} {a c : Apr} {d : List UInt8} {k : Nat} (h : rstep a d = some (c, k)) : rcv (f + 1) a d = ((rcv f c (d.drop k)).1, k + (rcv f c (d.drop k)).2) := by
  rw [rcv, h]
theorem rstep_ok {a c : Apr} {d : List UInt8} {k : Nat} (ha : a.ok = true) (h : rstep a d = some (c, k)) : c.ok = true := by
  unfold rstep at h
  split at h
  · cases h
  · split at h
    · cases h
    · split at h
      · obtain ⟨x, hx, hy⟩ := Option.map_eq_some_iff.1 h
        injection hy with hy _
        subst hy
        exact applyB_ok ha hx
      · cases h
/-- enough fuel is enough -/
theorem rcv_fuel : ∀ (f : Nat) (a : Apr) (d : List UInt8) (g : Nat), d.length ≤ f → d.length ≤ g → rcv f a d = rcv g a d
  | 0, a, d, g, h, _ => by
    have h0 : rstep a d = none := by rw [rstep, if_pos (by omega)]
    rw [rcv_none h0, rcv_none h0]
  | f + 1, a, d, 0, _, h => by
    have h0 : rstep a d = none := by rw [rstep, if_pos (by omega)]
    rw [rcv_none h0, rcv_none h0]
  | f + 1, a, d, g + 1, h1, h2 => by
    cases hr : rstep a d with
    | none => rw [rcv_none hr, rcv_none hr]
    | some ck =>
      obtain ⟨c, k⟩ := ck
      have := rstep_pos hr
      rw [rcv_some hr, rcv_some hr, rcv_fuel f c (d.drop k) g (by simp; omega) (by simp; omega)]
/-- all that is whole -/
def rcvAll (a : Apr) (d : List UInt8) : Apr × Nat := rcv d.length a d
theorem rcvAll_none {a : Apr} {d : List UInt8} (h : rstep a d = none) : rcvAll a d = (a, 0) := rcv_none h
theorem rcvAll_some {a c : Apr} {d : List UInt8} {k : Nat} (h : rstep a d = some (c, k)) : rcvAll a d = ((rcvAll c (d.drop k)).1, k + (rcvAll c (d.drop k)).2) := by
  have hp := rstep_pos h
  obtain ⟨f, hf⟩ : ∃ f, d.length = f + 1 := ⟨d.length - 1, by omega⟩
  rw [rcvAll, hf, rcv_some h, rcvAll, rcv_fuel f c (d.drop k) (d.drop k).length (by simp; omega) (Nat.le_refl _)]
theorem rcvAll_le : ∀ (m : Nat) (a : Apr) (d : List UInt8), d.length ≤ m → (rcvAll a d).2 ≤ d.length
  | m, a, d, hm => by
    cases hr : rstep a d with
    | none => rw [rcvAll_none hr]; exact Nat.zero_le _
    | some ck =>
      obtain ⟨c, k⟩ := ck
      have hp := rstep_pos hr
      rw [rcvAll_some hr]
      cases m with
      | zero => omega
      | succ m =>
        have h := rcvAll_le m c (d.drop k) (by simp; omega)
        simp only [List.length_drop] at h
        show k + (rcvAll c (d.drop k)).2 ≤ d.length
        omega
theorem rcvAll_ok : ∀ (m : Nat) (a : Apr) (d : List UInt8), d.length ≤ m → a.ok = true → (rcvAll a d).1.ok = true
  | m, a, d, hm, ha => by
    cases hr : rstep a d with
    | none => rw [rcvAll_none hr]; exact ha
    | some ck =>
      obtain ⟨c, k⟩ := ck
      have hp := rstep_pos hr
      rw [rcvAll_some hr]
      cases m with
      | zero => omega
      | succ m => exact rcvAll_ok m c (d.drop k) (by simp; omega) (rstep_ok ha hr)
end Go.Proofs.YtdkbajdnckmckaaDoor

set_option linter.unusedVariables false
set_option linter.unusedSimpArgs false
namespace Go.Con
open Go
theorem fourN_back (n : Nat) (h : n < 4294967296) : (UInt8.ofNat (n / 16777216)).toNat * 16777216 + (UInt8.ofNat (n / 65536)).toNat * 65536 + (UInt8.ofNat (n / 256)).toNat * 256 + (UInt8.ofNat n).toNat = n := by
  rw [UInt8.toNat_ofNat', UInt8.toNat_ofNat', UInt8.toNat_ofNat', UInt8.toNat_ofNat']
  omega
end Go.Con
namespace Go.Proofs.YtdkbajdnckmckaaDoor
open Go.RowKit Go.Con
theorem getN_four (z : Int) (l : List UInt8) (h0 : 0 ≤ z) (h1 : z < 4294967296) : ((getN (fourB z.toNat ++ l) : Nat) : Int) = z := by
  have h := fourN_back z.toNat (by omega)
  show (((UInt8.ofNat (z.toNat / 16777216)).toNat * 16777216 + (UInt8.ofNat (z.toNat / 65536)).toNat * 65536 + (UInt8.ofNat (z.toNat / 256)).toNat * 256 + (UInt8.ofNat z.toNat).toNat : Nat) : Int) = z
  rw [h]; omega
theorem dec_four (c : Cmd) : encC c = fourB c.kind.toNat ++ (fourB c.client.toNat ++ (fourB c.seq.toNat ++ (fourB c.name.toNat ++ (fourB c.value.toNat ++ [])))) := by
  simp [encC, encK, Cmd.fld]
theorem decAt_get (l : List UInt8) (k : Nat) : decAt l k = ((getN (l.drop (4 * k)) : Nat) : Int) := by
  unfold decAt getN
  simp [List.getD_eq_getElem?_getD, List.getElem?_drop]
theorem dec_back (c : Cmd) (hc : checkC c = 0) : decC (encC c) = (c, 0) := by
  have hf := fld_nonneg c hc
  have e : decRaw (encC c) = c := by
    unfold decRaw
    rw [dec_four]
    have f := fun k => hf k
    have f0 : 0 ≤ c.kind ∧ c.kind ≤ 1073741824 := f 0
    have f1 : 0 ≤ c.client ∧ c.client ≤ 1073741824 := f 1
    have f2 : 0 ≤ c.seq ∧ c.seq ≤ 1073741824 := f 2
    have f3 : 0 ≤ c.name ∧ c.name ≤ 1073741824 := f 3
    have f4 : 0 ≤ c.value ∧ c.value ≤ 1073741824 := f 4
    have d : ∀ (n : Nat) (l : List UInt8) (k : Nat), (fourB n ++ l).drop (k + 4) = l.drop k := fun n l k => by rw [Nat.add_comm, ← List.drop_drop]; rfl
    rw [decAt_get, decAt_get, decAt_get, decAt_get, decAt_get]
    simp only [Nat.reduceMul, List.drop_zero]
    rw [getN_four _ _ f0.1 (by omega), show (4 : Nat) = 0 + 4 from rfl, d, List.drop_zero, getN_four _ _ f1.1 (by omega)]
    rw [show (8 : Nat) = 0 + 4 + 4 from rfl, d, d, List.drop_zero, getN_four _ _ f2.1 (by omega)]
    rw [show (12 : Nat) = 0 + 4 + 4 + 4 from rfl, d, d, d, List.drop_zero, getN_four _ _ f3.1 (by omega)]
    rw [show (16 : Nat) = 0 + 4 + 4 + 4 + 4 from rfl, d, d, d, d, List.drop_zero, getN_four _ _ f4.1 (by omega)]
  have hl : (encC c).length = 20 := encC_len c
  rw [decC, if_neg (by rw [hl]; decide), e, if_neg (by rw [hc]; decide)]
theorem applyB_pro (a : Apr) {b : Int × Int} (h : okB b = true) : applyB a (Tp.proB b.1 b.2) = proA a b := by
  have hb : (1 ≤ b.1 ∧ b.1 ≤ 65536) ∧ (0 ≤ b.2 ∧ b.2 < 5) := by simp [okB] at h; omega
  rw [applyB, if_pos ⟨proB_len _ _, rfl⟩]
  have e1 : (Tp.proB b.1 b.2).drop 1 = fourB b.1.toNat ++ (fourB b.2.toNat ++ []) := by simp [Tp.proB, flatB]
  have e2 : (Tp.proB b.1 b.2).drop 5 = fourB b.2.toNat ++ [] := by
    rw [show (5 : Nat) = 1 + 4 from rfl, ← List.drop_drop, e1]; rfl
  have e : bodPro (Tp.proB b.1 b.2) = b := by
    rw [bodPro, e1, e2, getN_four _ _ (by omega) (by omega), getN_four _ _ (by omega) (by omega)]
  rw [e]
theorem applyB_vot (a : Apr) {y : Vot} (h : okV y = true) : applyB a (Tp.voB y.slot y.bal.1 y.bal.2 y.what.kind y.what.client y.what.seq y.what.name y.what.value) = votA a y := by
  obtain ⟨h1, h2, h3, h4⟩ := okV_parts h
  have hb : (1 ≤ y.bal.1 ∧ y.bal.1 ≤ 65536) ∧ (0 ≤ y.bal.2 ∧ y.bal.2 < 5) := by simp [okB] at h3; omega
  obtain ⟨B, hB⟩ : ∃ B, B = Tp.voB y.slot y.bal.1 y.bal.2 y.what.kind y.what.client y.what.seq y.what.name y.what.value := ⟨_, rfl⟩
  rw [← hB]
  have e1 : B.drop 1 = fourB y.slot.toNat ++ (fourB y.bal.1.toNat ++ (fourB y.bal.2.toNat ++ encC y.what)) := by rw [hB]; simp [Tp.voB, flatB]
  have e2 : B.drop 5 = fourB y.bal.1.toNat ++ (fourB y.bal.2.toNat ++ encC y.what) := by
    rw [show (5 : Nat) = 1 + 4 from rfl, ← List.drop_drop, e1]; rfl
  have e3 : B.drop 9 = fourB y.bal.2.toNat ++ encC y.what := by
    rw [show (9 : Nat) = 5 + 4 from rfl, ← List.drop_drop, e2]; rfl
  have e4 : B.drop 13 = encC y.what := by
    rw [show (13 : Nat) = 9 + 4 from rfl, ← List.drop_drop, e3]; rfl
  have hl : B.length = 33 := by rw [hB]; exact voB_len _ _ _ _ _ _ _ _
  have h0 : B.getD 0 0 = 2 := by rw [hB]; rfl
  have e : bodVot B = y := by
    rw [bodVot, e1, e2, e3, e4, getN_four _ _ (by omega) (by omega), getN_four _ _ (by omega) (by omega), getN_four _ _ (by omega) (by omega), dec_back _ h4]
  rw [applyB, if_neg (by rw [hl]; omega), if_pos ⟨hl, h0⟩, e4, dec_back _ h4, if_pos rfl, e]
theorem rstep_nil (a : Apr) : rstep a [] = none := by
  unfold rstep
  simp
theorem rstep_frame {a c : Apr} {b : List UInt8} (rest : List UInt8) (hb : b.length ≤ 200) (hc : applyB a b = some c) : rstep a (Tp.frame b ++ rest) = some (c, b.length + 5) := by
  have hn : (UInt8.ofNat b.length).toNat = b.length := by rw [UInt8.toNat_ofNat']; omega
  have hs : ((Sha.sum (Tp.head b)).take 4).length = 4 := by rw [List.length_take, Sha.sum_length]; rfl
  have hh : (Tp.head b).length = 1 + b.length := by rw [Tp.head, List.length_cons]; omega
  have ed : Tp.frame b ++ rest = Tp.head b ++ ((Sha.sum (Tp.head b)).take 4 ++ rest) := by rw [Tp.frame, List.append_assoc]
  have e0 : (Tp.frame b ++ rest).getD 0 0 = UInt8.ofNat b.length := rfl
  have hl : (Tp.frame b ++ rest).length = 1 + b.length + 4 + rest.length := by rw [ed, List.length_append, List.length_append, hh, hs]; omega
  rw [rstep, if_neg (by omega), e0, hn, if_neg (by omega), ed, List.take_left' hh, List.drop_left' hh, List.take_left' hs, if_pos rfl]
  have e1 : ((Tp.head b ++ ((Sha.sum (Tp.head b)).take 4 ++ rest)).drop 1).take b.length = b := by
    show (b ++ ((Sha.sum (Tp.head b)).take 4 ++ rest)).take b.length = b
    exact List.take_left' rfl
  rw [e1, hc]
  show some (c, 1 + b.length + 4) = _
  congr 2; omega
theorem frame_len (b : List UInt8) : (Tp.frame b).length = b.length + 5 := by
  rw [Tp.frame, List.length_append, List.length_take, Sha.sum_length, Tp.head, List.length_cons]; omega
theorem rstep_short {a : Apr} {b : List UInt8} {k : Nat} (hb : b.length ≤ 200) (hk : k < b.length + 5) : rstep a ((Tp.frame b).take k) = none := by
  have hn : (UInt8.ofNat b.length).toNat = b.length := by rw [UInt8.toNat_ofNat']; omega
  have hl : ((Tp.frame b).take k).length = k := by rw [List.length_take, frame_len]; omega
  rcases Nat.eq_zero_or_pos k with rfl | hp
  · rw [rstep, if_pos hl]
  · have e0 : ((Tp.frame b).take k).getD 0 0 = UInt8.ofNat b.length := by
      obtain ⟨j, rfl⟩ : ∃ j, k = j + 1 := ⟨k - 1, by omega⟩
      rfl
    rw [rstep, if_neg (by omega), e0, hn, if_pos (by omega)]
/-- what a step sees is the record alone -/
theorem rstep_pre {a c : Apr} {d d2 : List UInt8} {k : Nat} (h : rstep a d = some (c, k)) (he : d2.take k = d.take k) (hk : k ≤ d2.length) : rstep a d2 = some (c, k) := by
  have hp := rstep_pos h
  have g0 : d2.getD 0 0 = d.getD 0 0 := by
    have e1 : ∀ l : List UInt8, l.getD 0 0 = (l.take k).getD 0 0 := fun l => by
      simp only [List.getD_eq_getElem?_getD, List.getElem?_take]
      rw [if_pos (by omega)]
    rw [e1 d2, e1 d, he]
  unfold rstep at h ⊢
  rw [g0]
  split at h
  · cases h
  · split at h
    · cases h
    · split at h
      · rename_i h1 h2 h3
        obtain ⟨x, hx, hy⟩ := Option.map_eq_some_iff.1 h
        injection hy with hy1 hy2
        subst hy1
        have t1 : ∀ l : List UInt8, l.take (1 + (d.getD 0 0).toNat) = (l.take k).take (1 + (d.getD 0 0).toNat) := fun l => by rw [List.take_take]; congr 1; omega
        have t2 : ∀ l : List UInt8, (l.drop (1 + (d.getD 0 0).toNat)).take 4 = (l.take k).drop (1 + (d.getD 0 0).toNat) := fun l => by rw [List.drop_take]; congr 1; omega
        have t3 : ∀ l : List UInt8, (l.drop 1).take (d.getD 0 0).toNat = ((l.take k).drop 1).take (d.getD 0 0).toNat := fun l => by rw [List.drop_take, List.take_take]; congr 1; omega
        rw [if_neg (by omega), if_neg (by omega), if_pos (by rw [t1 d2, t2 d2, he, ← t1, ← t2]; exact h3), t3 d2, he, ← t3, hx, ← hy2]
        rfl
      · cases h
/-- what was recovered whole, and something behind it -/
theorem rcvAll_app : ∀ (m : Nat) (a : Apr) (d rest : List UInt8), d.length ≤ m → (rcvAll a d).2 = d.length → rcvAll a (d ++ rest) = ((rcvAll (rcvAll a d).1 rest).1, d.length + (rcvAll (rcvAll a d).1 rest).2)
  | m, a, d, rest, hm, hf => by
    cases hr : rstep a d with
    | none =>
      rw [rcvAll_none hr] at hf ⊢
      have : d = [] := List.length_eq_zero_iff.1 hf.symm
      subst this
      simp
    | some ck =>
      obtain ⟨c, k⟩ := ck
      have hp := rstep_pos hr
      have hr2 : rstep a (d ++ rest) = some (c, k) := rstep_pre hr (List.take_append_of_le_length hp.2) (by rw [List.length_append]; omega)
      rw [rcvAll_some hr] at hf ⊢
      rw [rcvAll_some hr2, List.drop_append_of_le_length hp.2]
      cases m with
      | zero => omega
      | succ m =>
        have hf' : k + (rcvAll c (d.drop k)).2 = d.length := hf
        have hd : (d.drop k).length = d.length - k := List.length_drop
        have h := rcvAll_app m c (d.drop k) rest (by omega) (by omega)
        rw [h]
        refine Prod.ext rfl ?_
        show k + ((d.drop k).length + (rcvAll (rcvAll c (d.drop k)).1 rest).2) = d.length + (rcvAll (rcvAll c (d.drop k)).1 rest).2
        omega
/-- recovered again -/
theorem rcvAll_idem : ∀ (m : Nat) (a : Apr) (d : List UInt8), d.length ≤ m → rcvAll a (d.take (rcvAll a d).2) = rcvAll a d
  | m, a, d, hm => by
    cases hr : rstep a d with
    | none =>
      rw [rcvAll_none hr]
      exact rcvAll_none (by rw [List.take_zero]; exact rstep_nil _)
    | some ck =>
      obtain ⟨c, k⟩ := ck
      have hp := rstep_pos hr
      cases m with
      | zero => omega
      | succ m =>
        have hle := rcvAll_le m c (d.drop k) (by simp; omega)
        have h := rcvAll_idem m c (d.drop k) (by simp; omega)
        rw [List.length_drop] at hle
        rw [rcvAll_some hr]
        have hr2 : rstep a (d.take (k + (rcvAll c (d.drop k)).2)) = some (c, k) := rstep_pre hr (by rw [List.take_take]; congr 1; omega) (by rw [List.length_take]; omega)
        show rcvAll a (d.take (k + (rcvAll c (d.drop k)).2)) = _
        rw [rcvAll_some hr2]
        have e : (d.take (k + (rcvAll c (d.drop k)).2)).drop k = (d.drop k).take (rcvAll c (d.drop k)).2 := by rw [List.drop_take]; congr 1; omega
        rw [e, h]
/-- a tape that was written, the acceptors on the way, the last of them -/
inductive Tap (a0 : Apr) : List UInt8 → List Apr → Apr → Prop
  | zero : Tap a0 [] [] a0
  | add {D : List UInt8} {l : List Apr} {a c : Apr} {b : List UInt8} : Tap a0 D l a → b.length ≤ 200 → applyB a b = some c → Tap a0 (D ++ Tp.frame b) (l ++ [a]) c
theorem Tap.full {a0 a : Apr} {D : List UInt8} {l : List Apr} (h : Tap a0 D l a) : rcvAll a0 D = (a, D.length) := by
  induction h with
  | zero => exact rcvAll_none (rstep_nil _)
  | @add D l a c b _ hb hc ih =>
    have h1 := rstep_frame [] hb hc
    rw [List.append_nil] at h1
    have h2 : rcvAll c ((Tp.frame b).drop (b.length + 5)) = (c, 0) := rcvAll_none (by rw [List.drop_of_length_le (by rw [frame_len]; omega)]; exact rstep_nil _)
    rw [rcvAll_app D.length a0 D _ (Nat.le_refl _) (by rw [ih]), ih, rcvAll_some h1, h2]
    simp [frame_len]
theorem Tap.torn {a0 a : Apr} {D : List UInt8} {l : List Apr} (h : Tap a0 D l a) : ∀ k, k ≤ D.length → (rcvAll a0 (D.take k)).1 ∈ l ++ [a] := by
  induction h with
  | zero =>
    intro k _
    rw [List.take_nil, rcvAll_none (rstep_nil _)]
    simp
  | @add D l a c b ht hb hc ih =>
    intro k hk
    rw [List.length_append, frame_len] at hk
    by_cases h1 : k ≤ D.length
    · rw [List.take_append_of_le_length h1]
      exact List.mem_append_left _ (ih k h1)
    · have e : (D ++ Tp.frame b).take k = D ++ (Tp.frame b).take (k - D.length) := by
        rw [List.take_append, List.take_of_length_le (by omega)]
      rw [e, rcvAll_app D.length a0 D _ (Nat.le_refl _) (by rw [ht.full]), ht.full]
      show (rcvAll a _).1 ∈ _
      by_cases h2 : k - D.length < b.length + 5
      · rw [rcvAll_none (rstep_short hb h2)]
        simp
      · rw [List.take_of_length_le (by rw [frame_len]; omega)]
        have h1 := rstep_frame [] hb hc
        rw [List.append_nil] at h1
        have h2 : rcvAll c ((Tp.frame b).drop (b.length + 5)) = (c, 0) := rcvAll_none (by rw [List.drop_of_length_le (by rw [frame_len]; omega)]; exact rstep_nil _)
        rw [rcvAll_some h1, h2]
        simp
theorem Tap.ok {a0 a : Apr} {D : List UInt8} {l : List Apr} (h : Tap a0 D l a) (h0 : a0.ok = true) : a.ok = true ∧ ∀ c ∈ l, c.ok = true := by
  induction h with
  | zero => exact ⟨h0, fun c hc => by cases hc⟩
  | @add D l a c b ht hb hc ih => exact ⟨applyB_ok ih.1 hc, fun x hx => (List.mem_append.1 hx).elim (ih.2 x) fun hx => (List.mem_singleton.1 hx) ▸ ih.1⟩
end Go.Proofs.YtdkbajdnckmckaaDoor

set_option linter.unusedVariables false
set_option linter.unusedSimpArgs false
namespace Go.Proofs.YtdkbajdnckmckaaDoor
open Go.RowKit Go.Con
/-- what 'Recover' gives -/
def RecPost (w : World) (D : List UInt8) (e : Ending) (w' : World) : Prop :=
  Below w.heap.size w w' ∧ ∃ a1 n1 c1, e = .returned (.tuple #[.agg #[.int .i64 (rcvAll Apr.zero D).1.p.1, .int .i64 (rcvAll Apr.zero D).1.p.2, .slice a1 n1 c1], .int .i64 ((rcvAll Apr.zero D).2 : Nat), .int .i64 0]) ∧ OwnV w' w.heap.size (.slice a1 n1 c1) (rcvAll Apr.zero D).1.l
theorem results_ctt {P : Program} {fn : Func} {tmps : Array Value} {w : World} {a b c : Nat} {t : TypeId} {ad : Addr} {v : Value} (hr : fn.results = #[.cell a t, .tmp b, .tmp c]) (ht : tmps.getD a undef = .pointer (some ad))
    (hl : (loadVar t ad).run P w = .ok v w) : (results fn tmps).run P w = .ok (.tuple #[v, tmps.getD b undef, tmps.getD c undef]) w := by
  unfold results
  rw [hr]
  simp only [Array.getD_eq_getD_getElem?] at ht
  generalize loadVar = L at hl ⊢
  simp [ht, hl, go_sem]
theorem quiet_d {P : Program} {f : FuncId} {args : Array Value} {w : World} {n : Nat} {v : Value}
    (h : Calls P f args (w.drewN n) fun e w' => e = .returned v ∧ ∃ m, w' = (w.drewN n).drewN m) : Calls P f args (w.drewN n) fun e w'' => e = .returned v ∧ ∃ m, w'' = w.drewN m :=
  h.mono fun _ _ ⟨he, m, hm⟩ => ⟨he, n + m, by rw [hm, World.drewN_drewN]⟩
structure RcInv (w wr : World) (xb ab : Nat) (sa : Option Addr) (n sc : Nat) (s : Int) (D : List UInt8) (a : Apr) (a1 : Option Addr) (n1 c1 : Nat) : Prop where
  below : Below w.heap.size w wr
  y : wr.heap[w.heap.size + 1]? = some (.cells #[.int .i64 0, .int .i64 0, .slice none 0 0] 45 (0, 0))
  x : wr.heap[xb]? = some (.cells #[.slice sa n sc, .int .i64 s] 27 (0, 0))
  c : wr.heap[ab]? = some (.cells #[.int .i64 a.p.1, .int .i64 a.p.2, .slice a1 n1 c1] 45 (0, 0))
  rd : Rd wr (.slice sa n sc) D
  rdl : ∀ k, (Value.slice sa n sc).ownBlock = some k → k < ab
  vs : OwnV wr (ab + 1) (.slice a1 n1 c1) a.l
  ok : a.ok = true
  xl : w.heap.size + 1 < xb
  al : xb < ab
theorem RcInv.stay {w wr w' : World} {xb ab : Nat} {sa : Option Addr} {n sc : Nat} {s : Int} {D : List UInt8} {a : Apr} {a1 : Option Addr} {n1 c1 : Nat} (h : RcInv w wr xb ab sa n sc s D a a1 n1 c1) (hb : Below wr.heap.size wr w') : RcInv w w' xb ab sa n sc s D a a1 n1 c1 :=
  ⟨bel_trans h.below hb, (hb.block _ (lt_of_heap h.y)).trans h.y, (hb.block _ (lt_of_heap h.x)).trans h.x, (hb.block _ (lt_of_heap h.c)).trans h.c, h.rd.stay hb, h.rdl, ownV_move h.vs (Nat.le_refl _) (fun k _ hk => hb.block k hk), h.ok, h.xl, h.al⟩
/-- the next acceptor is put in -/
theorem RcInv.put {w wr : World} {xb ab : Nat} {sa : Option Addr} {n sc : Nat} {s : Int} {D : List UInt8} {a c : Apr} {a1 a2 : Option Addr} {n1 c1 n2 c2 : Nat} (h : RcInv w wr xb ab sa n sc s D a a1 n1 c1) (hv : OwnV wr (ab + 1) (.slice a2 n2 c2) c.l) (hok : c.ok = true) :
    RcInv w (((wr.setCell ⟨ab, 0, none⟩ (.int .i64 c.p.1)).setCell ⟨ab, 1, none⟩ (.int .i64 c.p.2)).setCell ⟨ab, 2, none⟩ (.slice a2 n2 c2)) xb ab sa n sc s D c a2 n2 c2 := by
  have e : ∀ b, b ≠ ab → (((wr.setCell ⟨ab, 0, none⟩ (.int .i64 c.p.1)).setCell ⟨ab, 1, none⟩ (.int .i64 c.p.2)).setCell ⟨ab, 2, none⟩ (.slice a2 n2 c2)).heap[b]? = wr.heap[b]? := fun b hb => (heapSet_ne 2 _ hb).trans ((heapSet_ne 1 _ hb).trans (heapSet_ne 0 _ hb))
  have hx := h.xl
  have ha := h.al
  have hle : w.heap.size ≤ ab := by omega
  exact ⟨((h.below.setCell hle _).setCell hle _).setCell hle _, (e _ (by omega)).trans h.y, (e _ (by omega)).trans h.x, heapSet (o := 2) (heapSet (o := 1) (heapSet (o := 0) h.c _) _) _,
    h.rd.ofHeapS (fun k hk _ => e k (by have := h.rdl k hk; omega)), h.rdl, ownV_move hv (Nat.le_refl _) (fun k hk _ => e k (by omega)), hok, hx, ha⟩
/-- the end of it: the acceptor is put into the result -/
theorem RcInv.out {w wr : World} {xb ab : Nat} {sa : Option Addr} {n sc : Nat} {s : Int} {D : List UInt8} {a : Apr} {a1 : Option Addr} {n1 c1 : Nat} (h : RcInv w wr xb ab sa n sc s D a a1 n1 c1) :
    Below w.heap.size w (((wr.setCell ⟨w.heap.size + 1, 0, none⟩ (.int .i64 a.p.1)).setCell ⟨w.heap.size + 1, 1, none⟩ (.int .i64 a.p.2)).setCell ⟨w.heap.size + 1, 2, none⟩ (.slice a1 n1 c1)) ∧
    (((wr.setCell ⟨w.heap.size + 1, 0, none⟩ (.int .i64 a.p.1)).setCell ⟨w.heap.size + 1, 1, none⟩ (.int .i64 a.p.2)).setCell ⟨w.heap.size + 1, 2, none⟩ (.slice a1 n1 c1)).heap[w.heap.size + 1]? = some (.cells #[.int .i64 a.p.1, .int .i64 a.p.2, .slice a1 n1 c1] 45 (0, 0)) ∧
    OwnV (((wr.setCell ⟨w.heap.size + 1, 0, none⟩ (.int .i64 a.p.1)).setCell ⟨w.heap.size + 1, 1, none⟩ (.int .i64 a.p.2)).setCell ⟨w.heap.size + 1, 2, none⟩ (.slice a1 n1 c1)) w.heap.size (.slice a1 n1 c1) a.l := by
  have hle : w.heap.size ≤ w.heap.size + 1 := by omega
  have hx := h.xl
  have ha := h.al
  exact ⟨((h.below.setCell hle _).setCell hle _).setCell hle _, heapSet (o := 2) (heapSet (o := 1) (heapSet (o := 0) h.y _) _) _, ownV_move h.vs (by omega) (fun k hk _ => (heapSet_ne 2 _ (by omega)).trans ((heapSet_ne 1 _ (by omega)).trans (heapSet_ne 0 _ (by omega))))⟩
set_option maxRecDepth 100000 in
set_option maxHeartbeats 4000000 in
theorem recover_any (v : Value) (D : List UInt8) (s : Int) (w : World) (hv : Rd w v D) (h0 : 0 ≤ s) (h1 : s ≤ D.length) (h2 : D.length ≤ 100000) (hk : Kn w) :
    Calls Tryd.prog 14 #[.agg #[v, .int .i64 s]] w (RecPost w D) := by
  obtain ⟨va, vc, rfl, hc, hcm⟩ := id hv.slice
  obtain ⟨n, hn⟩ : ∃ n, n = D.length := ⟨_, rfl⟩
  have HOPEN := Lib.hid (fun w h => open_ok (.slice va D.length vc) D s w h h0 h1 h2)
  rw [← hn] at hv h1 h2 hc HOPEN ⊢
  have HV := Lib.hid hv
  have HN := Lib.hid hn
  have HK := Lib.hid hk
  clear hv hn hc hcm hk
  go_enter Tryd.func14, Tryd.ntmps14
  go_upto_region 1 with fail
  generalize hW : World.alloc _ _ = w1
  obtain ⟨X, Y, B0, hz1⟩ := alloc2T hW
  have HB0 := Lib.hid B0
  have c0 := cellAt X 0 rfl
  have c1 := cellAt X 1 rfl
  have HV1 := Lib.hid (HV.out.below B0 HV.out.lt)
  have HZ := Lib.hid hz1
  have HY := Lib.hid Y
  clear hW hz1 X Y B0
  go_upto_region 2 with (go_at_call 20; refine (HOPEN.out _ HV1.out).mono ?_; rintro e w2 ⟨v2, rfl, ho2, hb2⟩; obtain ⟨sa, sc, rfl, _, _⟩ := ho2.rd.sliceN n HN.out.symm; have B2 := Lib.hid hb2; have O2 := Lib.hid ho2; clear ho2 hb2)
  have hb3 : Below w1.heap.size w1 (w2.alloc (.cells #[.slice sa n sc, .int .i64 s] 27)) := B2.out.alloc B2.out.size _
  have x3 : (w2.alloc (.cells #[.slice sa n sc, .int .i64 s] 27)).heap[w2.heap.size]? = some (.cells #[.slice sa n sc, .int .i64 s] 27) := heapNew _ _
  have o3 : Own (w2.alloc (.cells #[.slice sa n sc, .int .i64 s] 27)) w1.heap.size (.slice sa n sc) D := O2.out.alloc _
  have hlt : ∀ k, (Value.slice sa n sc).ownBlock = some k → k < w2.heap.size := fun k hk => (O2.out.lt k hk).2
  have hg1 : w1.heap.size ≤ w2.heap.size := B2.out.size
  obtain ⟨xb, hq⟩ : ∃ b, b = w2.heap.size := ⟨_, rfl⟩
  rw [← hq] at x3 hlt hg1 ⊢
  generalize hW : w2.alloc _ = w3 at hb3 x3 o3 ⊢
  have y3 := (hb3.block _ (lt_of_heap HY.out)).trans HY.out
  have HX := Lib.hid x3
  have HY3 := Lib.hid y3
  have B3 := Lib.hid hb3
  have O3 := Lib.hid o3
  have HLT := Lib.hid hlt
  clear hW hb3 x3 y3 o3 hlt c0 c1 B2 O2 hq
  go_wp2_with fail
  have INV0 := Lib.hid (show RcInv w (w3.alloc (.cells #[.int .i64 0, .int .i64 0, .slice none 0 0] 45)) xb w3.heap.size sa n sc s D Apr.zero none 0 0 from
    ⟨bel_alloc (bel_trans HB0.out B3.out), (heapOld _ _ _ (lt_of_heap HY3.out)).trans HY3.out, (heapOld _ _ _ (lt_of_heap HX.out)).trans HX.out, heapNew _ _, O3.out.rd.alloc _, fun k hk => by have := HLT.out k hk; have := lt_of_heap HX.out; omega, World.ownsRow_nil _ _ _ _, by decide, by have := HZ.out; omega, lt_of_heap HX.out⟩)
  have HK4 := Lib.hid (HK.out.stay INV0.out.below)
  obtain ⟨ab, hab⟩ : ∃ b, b = w3.heap.size := ⟨_, rfl⟩
  rw [← hab] at INV0 ⊢
  generalize hW : World.alloc _ _ = w4 at INV0 HK4 ⊢
  clear hW hab HX HY3 B3 O3 HLT HV1 HY HZ HB0 HOPEN
  go_loopw [8, 9, 10, 11, 12, 13, 14] (fun at' _ _ _ _ _ _ wr => ∃ t : Nat, t ≤ n ∧ at' = .int .i64 t ∧ Hid (∃ a a1 n1 c1, RcInv w wr xb ab sa n sc s D a a1 n1 c1 ∧ rcvAll Apr.zero D = ((rcvAll a (D.drop t)).1, t + (rcvAll a (D.drop t)).2))) (fun at' _ _ _ _ _ _ _ => n - (intOf at').toNat)
  case atStart => exact ⟨0, by omega, rfl, Lib.hid ⟨_, _, _, _, INV0.out, by simp⟩⟩
  case round =>
    clear INV0
    obtain ⟨t, htn, rfl, HI⟩ := hrel
    obtain ⟨a, a1, n1, c1, inv, eq⟩ := HI.out
    have INV := Lib.hid inv
    have EQ := Lib.hid eq
    clear inv eq HI
    have k0 := cellAt INV.out.x 0 rfl
    by_cases ht : t < n
    · obtain ⟨db, dof, dc, hsa, hdc, hdcm⟩ := INV.out.rd.shapeN n HN.out.symm (by omega)
      injection hsa with e1 e2 e3
      subst e1 e3
      have hdcm' : sc ≤ 9223372036854775807 := hdcm
      have hst : ¬ (sc = t) := by omega
      obtain ⟨x, hx⟩ : ∃ x, x = (D.drop t).getD 0 0 := ⟨_, rfl⟩
      have xc : wr.cell? ⟨db, dof + t, none⟩ = some (.int .u8 (x.toNat : Int)) := by
        have h := INV.out.rd.cellR t (by rw [← HN.out]; exact ht)
        rw [h, hx]
        simp [List.getD_eq_getElem?_getD, List.getElem?_drop]
      have HX := Lib.hid hx
      have hx256 : x.toNat < 256 := x.toNat_lt
      clear hdcm hx
      have hd1 : decide ((t : Int) < n) = true := by rw [decide_eq_true_eq]; omega
      have hd1n : decide (t < n) = true := by rw [decide_eq_true_eq]; omega
      go_upto_region 9 with fail
      obtain ⟨d, hd⟩ : ∃ d, d = D.drop t := ⟨_, rfl⟩
      obtain ⟨m, hm⟩ : ∃ m, m = n - t := ⟨_, rfl⟩
      obtain ⟨mc, hmc⟩ : ∃ c, c = sc - t := ⟨_, rfl⟩
      obtain ⟨o2, ho2⟩ : ∃ o, o = dof + t := ⟨_, rfl⟩
      obtain ⟨k, hkk⟩ : ∃ k : Nat, k = 1 + x.toNat := ⟨_, rfl⟩
      have hki : (1 : Int) + (x.toNat : Int) = (k : Int) := by omega
      have RR := Lib.hid (INV.out.rd.tail t (n - t) ht rfl)
      have HX2 := Lib.hid (show (d.getD 0 0).toNat = k - 1 by rw [hd, ← HX.out]; omega)
      rw [hki, ← hm, ← hmc, ← ho2]
      rw [← hm, ← hmc, ← ho2, ← hd] at RR
      rw [← hd] at EQ
      have HD := Lib.hid hd
      have HM := Lib.hid hm
      have HDM := Lib.hid (show d.length = m by rw [hd, hm, HN.out]; simp)
      have hk1 : 1 ≤ k := by omega
      have hk2 : k ≤ 256 := by omega
      have hm0 : 0 < m := by omega
      have hmn : m ≤ n := by omega
      have hmmc : m ≤ mc := by omega
      have hmc2 : mc ≤ 9223372036854775807 := by omega
      have hmt : t + m = n := by omega
      clear hki hd hm hmc ho2 hkk xc hd1 hd1n HX hst
      by_cases hlen : m < k + 4
      · have hr0 : rstep a d = none := by rw [rstep, if_neg (by rw [HDM.out]; omega), if_pos (by rw [HDM.out, HX2.out]; omega)]
        have EQ2 := Lib.hid (show rcvAll Apr.zero D = (a, t) by rw [EQ.out, rcvAll_none hr0]; rfl)
        clear hr0
        have hd2 : decide ((m : Int) < (k : Int) + 4) = true := by rw [decide_eq_true_eq]; omega
        have hd2n : decide (m < k + 4) = true := by rw [decide_eq_true_eq]; omega
        have qc0 := cellAt INV.out.c 0 rfl
        have qc1 := cellAt INV.out.c 1 rfl
        have qc2 := cellAt INV.out.c 2 rfl
        have qy0 := cellAt INV.out.y 0 rfl
        have qy1 := cellAt INV.out.y 1 rfl
        have qy2 := cellAt INV.out.y 2 rfl
        have qyf := freeAt INV.out.y
        have OUTV := INV.out.out
        have HO := Lib.hid OUTV
        clear OUTV
        go_wp2_with fail
        obtain ⟨b5, z5, r5⟩ := HO.out
        generalize hW : World.setCell _ _ _ = wZ at z5 b5 r5 ⊢
        have hl := run_loadVar_mid (P := Tryd.prog) wZ (w.heap.size + 1) 0 45 [.int .i64 a.p.1, .int .i64 a.p.2, .slice a1 n1 c1] _ (range_of z5) Tryd.underlying45 rfl accSz
        exact bodyPost_ret (v := .tuple #[.agg #[.int .i64 a.p.1, .int .i64 a.p.2, .slice a1 n1 c1], .int .i64 (t : Int), .int .i64 0]) (results_ctt Tryd.results14 rfl hl) rfl ⟨b5, a1, n1, c1, by rw [EQ2.out], by rw [EQ2.out]; exact r5⟩
      · have hd2 : decide ((m : Int) < (k : Int) + 4) = false := by rw [decide_eq_false_iff_not]; omega
        have hd2n : decide (m < k + 4) = false := by rw [decide_eq_false_iff_not]; omega
        have HSUM := Lib.hid (fun W (hW : Below wr.heap.size wr W) => Sum_ok _ (d.take k) W ((RR.out.pre k (by rw [HDM.out]; omega)).stay hW) (by simp; omega) ((HK.out.stay INV.out.below).stay hW))
        obtain ⟨hs, hhs⟩ : ∃ h, h = Sha.sum (d.take k) := ⟨_, rfl⟩
        rw [← hhs] at HSUM
        have HHS := Lib.hid hhs
        have HHL := Lib.hid (show hs.length = 32 by rw [hhs, Sha.sum_length])
        clear hhs
        go_upto_region 11 with (go_at_call 26; refine (HSUM.out _ ?hb).mono ?_; (case hb => (repeat (first | exact Below.refl _ _ | with_reducible refine bel_drew ?_ | with_reducible refine below_drewN ?_ _ | with_reducible refine bel_alloc ?_))); rintro e w5 ⟨vh, rfl, hoh, hbh⟩; obtain ⟨ha, hcap, rfl, _, _⟩ := hoh.rd.sliceN 32 HHL.out; have OH := Lib.hid hoh; have B5 := Lib.hid hbh; clear hoh hbh)
        have INV5 := Lib.hid (INV.out.stay B5.out)
        have R5 := Lib.hid ((RR.out.stay B5.out).mid k 4 (by omega) (by omega))
        have H5 := Lib.hid (OH.out.rd.pre 4 (by rw [HHL.out]; decide))
        have hkmc : ¬ (mc = k) := by omega
        obtain ⟨sb, hsb⟩ : ∃ b, b = (hs.take 4 == (d.drop k).take 4) := ⟨_, rfl⟩
        have HSM := Lib.hid (fun n => shaSame_any _ _ _ _ (w5.drewN n) (H5.out.drewN n) (R5.out.drewN n))
        rw [← hsb] at HSM
        have HSB := Lib.hid hsb
        clear hsb
        go_quiet ((go_at_call 27; exact quiet_d (HSM.out _)))
        have hK := Lib.hid (show 1 + (d.getD 0 0).toNat = k by rw [HX2.out]; omega)
        have INV6 := Lib.hid (INV5.out.stay (below_drewN (Below.refl _ _) nq))
        have RR6 := Lib.hid ((RR.out.stay B5.out).stay (below_drewN (Below.refl _ _) nq))
        have HK6 := Lib.hid (HK.out.stay INV6.out.below)
        generalize hW : w5.drewN nq = w6 at INV6 RR6 HK6 ⊢
        clear hW INV5 R5 H5 HSM OH B5 INV RR k0
        have INV := INV6
        cases sb with
        | false =>
          have hr0 : rstep a d = none := by
            rw [rstep, if_neg (by rw [HDM.out]; omega), hK.out, if_neg (by rw [HDM.out]; omega), if_neg]
            have h := HSB.out
            rw [HHS.out] at h
            exact beq_eq_false_iff_ne.1 h.symm
          have EQ2 := Lib.hid (show rcvAll Apr.zero D = (a, t) by rw [EQ.out, rcvAll_none hr0]; rfl)
          clear hr0
          have qc0 := cellAt INV.out.c 0 rfl
          have qc1 := cellAt INV.out.c 1 rfl
          have qc2 := cellAt INV.out.c 2 rfl
          have qy0 := cellAt INV.out.y 0 rfl
          have qy1 := cellAt INV.out.y 1 rfl
          have qy2 := cellAt INV.out.y 2 rfl
          have qyf := freeAt INV.out.y
          have OUTV := INV.out.out
          have HO := Lib.hid OUTV
          clear OUTV
          go_wp2_with fail
          obtain ⟨b5, z5, r5⟩ := HO.out
          generalize hW : World.setCell _ _ _ = wZ at z5 b5 r5 ⊢
          have hl := run_loadVar_mid (P := Tryd.prog) wZ (w.heap.size + 1) 0 45 [.int .i64 a.p.1, .int .i64 a.p.2, .slice a1 n1 c1] _ (range_of z5) Tryd.underlying45 rfl accSz
          exact bodyPost_ret (v := .tuple #[.agg #[.int .i64 a.p.1, .int .i64 a.p.2, .slice a1 n1 c1], .int .i64 (t : Int), .int .i64 0]) (results_ctt Tryd.results14 rfl hl) rfl ⟨b5, a1, n1, c1, by rw [EQ2.out], by rw [EQ2.out]; exact r5⟩
        | true =>
          go_upto_region 12 with fail
          have hl1 := lt_of_heap INV.out.c
          have S1 : SA w6 ab a.p.1 a.p.2 (.slice a1 n1 c1) := ⟨cellAt INV.out.c 0 rfl, cellAt INV.out.c 1 rfl, cellAt INV.out.c 2 rfl⟩
          have ST := Lib.hid S1
          obtain ⟨k0, k1, k2⟩ := id S1
          clear S1
          obtain ⟨body, hbody⟩ : ∃ b, b = (d.drop 1).take (k - 1) := ⟨_, rfl⟩
          have hmc1 : ¬ (mc = 1) := by omega
          have HAPL := Lib.hid (fun W (hW : Below w6.heap.size w6 W) => apply_any a (.slice a1 n1 c1) (.slice (some ⟨db, o2 + 1, none⟩) (k - 1) (mc - 1)) body W (INV.out.vs.votes.stay hW) INV.out.ok (by rw [hbody]; exact (RR6.out.stay hW).mid 1 (k - 1) (by omega) (by omega)))
          have NE1 : ab ≠ w6.heap.size := by omega
          have HBD := Lib.hid hbody
          clear hbody
          have hb1 : (1 : Int) ≤ (k : Int) := by omega
          have hb2 : (k : Int) ≤ (mc : Int) := by omega
          have hb3 : (k : Int) ≤ (m : Int) := by omega
          have hb4 : (0 : Int) ≤ (k : Int) := by omega
          have hb5 : k ≤ mc := by omega
          have hb6' : (1 : Int) ≤ (mc : Int) := by omega
          go_region_held3 (fun w' => w'.cell? ⟨ab, 0, none⟩ = some (.int .i64 a.p.1) ∧ w'.cell? ⟨ab, 1, none⟩ = some (.int .i64 a.p.2) ∧ w'.cell? ⟨ab, 2, none⟩ = some (.slice a1 n1 c1)) (first | with_reducible exact S2 | with_reducible exact S2.alloc hv1 _ | (refine SA.stay ST.out hl1 ?_; (repeat (first | exact Below.refl _ _ | with_reducible refine bel_drew ?_ | with_reducible refine below_drewN ?_ _ | with_reducible refine bel_alloc ?_)); done) | with_reducible exact S2.set NE1) (first
            | (go_at_call 28; (with_reducible refine (HAPL.out _ ?hb).mono ?_); (case hb => (repeat (first | exact Below.refl _ _ | with_reducible refine bel_drew ?_ | with_reducible refine below_drewN ?_ _ | with_reducible refine bel_alloc ?_))); rintro e v2 ⟨hbW, xx, yy, a2, n2, c2, tt, rfl, hcase⟩; have hb6 : Below w6.heap.size w6 v2 := (by (refine bel_trans ?_ hbW; (repeat (first | exact Below.refl _ _ | with_reducible refine bel_drew ?_ | with_reducible refine below_drewN ?_ _ | with_reducible refine bel_alloc ?_)))); have S2 := SA.stay ST.out hl1 hb6; have hv1 := Nat.lt_of_lt_of_le hl1 hb6.size; have B6 := Lib.hid hb6; first | (have hza : v2.heap[w6.heap.size]? = some (.cells #[.int .i64 0, .int .i64 0, .slice none 0 0] 45 (0, 0)) := (hbW.block _ (by show _ < (World.alloc w6 _).heap.size; simp)).trans (heapNew w6 _); have HCA := Lib.hid (show ∀ w', (∀ k, k ≠ w6.heap.size → w'.heap[k]? = v2.heap[k]?) → ((applyB a body = none ∧ tt = false) ∨ (∃ m', applyB a body = some ⟨(xx, yy), m'⟩ ∧ tt = true ∧ OwnV w' w6.heap.size (.slice a2 n2 c2) m')) from fun w' hw => hcase.imp_right (fun ⟨m', h1, h2, h3⟩ => ⟨m', h1, h2, ownV_move h3 (by show w6.heap.size ≤ (World.alloc w6 _).heap.size; simp) (fun k hk _ => hw k (by have h9 : (World.alloc w6 _).heap.size ≤ k := hk; simp at h9; omega))⟩)); have za0 := cellAt hza 0 rfl; have za1 := cellAt hza 1 rfl; have za2 := cellAt hza 2 rfl; have zaf := freeAt hza; have ZA := Lib.hid hza; clear hza hbW hb6 hcase) | (have HCB := Lib.hid (show ∀ w', Below v2.heap.size v2 w' → ((applyB a body = none ∧ tt = false) ∨ (∃ m', applyB a body = some ⟨(xx, yy), m'⟩ ∧ tt = true ∧ OwnV w' w6.heap.size (.slice a2 n2 c2) m')) from fun w' hw => hcase.imp_right (fun ⟨m', h1, h2, h3⟩ => ⟨m', h1, h2, ownV_move h3 (show w6.heap.size ≤ w6.heap.size from Nat.le_refl _) (fun k _ hk => hw.block k hk)⟩)); clear hbW hb6 hcase)))
          all_goals
            first
            | (have zz := ZA.out; have hx : (((v2.setCell ⟨w6.heap.size, 0, none⟩ (.int .i64 xx)).setCell ⟨w6.heap.size, 1, none⟩ (.int .i64 yy)).setCell ⟨w6.heap.size, 2, none⟩ (.slice a2 n2 c2)).heap[w6.heap.size]? = some (.cells #[.int .i64 xx, .int .i64 yy, .slice a2 n2 c2] 45 (0, 0)) := heapSet (o := 2) (heapSet (o := 1) (heapSet (o := 0) zz _) _) _; have hbn : Below w6.heap.size w6 (((v2.setCell ⟨w6.heap.size, 0, none⟩ (.int .i64 xx)).setCell ⟨w6.heap.size, 1, none⟩ (.int .i64 yy)).setCell ⟨w6.heap.size, 2, none⟩ (.slice a2 n2 c2)) := ((B6.out.setCell (Nat.le_refl _) _).setCell (Nat.le_refl _) _).setCell (Nat.le_refl _) _; have hu := HCA.out (((v2.setCell ⟨w6.heap.size, 0, none⟩ (.int .i64 xx)).setCell ⟨w6.heap.size, 1, none⟩ (.int .i64 yy)).setCell ⟨w6.heap.size, 2, none⟩ (.slice a2 n2 c2)) (fun k hk => (heapSet_ne 2 _ hk).trans ((heapSet_ne 1 _ hk).trans (heapSet_ne 0 _ hk))); generalize hW : World.setCell _ _ _ = w7 at hx hbn hu ⊢; obtain ⟨q, hq⟩ : ∃ b, b = w6.heap.size := ⟨_, rfl⟩; have hqz : w6.heap.size ≤ q := Nat.le_of_eq hq.symm; rw [← hq] at hx ⊢; clear zz hW hq ZA za0 za1 za2 zaf S2 hv1 B6 HCA)
            | (have hx : (v2.alloc (.cells #[.int .i64 xx, .int .i64 yy, .slice a2 n2 c2] 45)).heap[v2.heap.size]? = some (.cells #[.int .i64 xx, .int .i64 yy, .slice a2 n2 c2] 45 (0, 0)) := heapNew _ _; have hbn : Below w6.heap.size w6 (v2.alloc (.cells #[.int .i64 xx, .int .i64 yy, .slice a2 n2 c2] 45)) := B6.out.alloc B6.out.size _; have hu := HCB.out (v2.alloc (.cells #[.int .i64 xx, .int .i64 yy, .slice a2 n2 c2] 45)) ((Below.refl _ _).alloc (Nat.le_refl _) _); have hqz0 : w6.heap.size ≤ v2.heap.size := B6.out.size; generalize hW : World.alloc _ _ = w7 at hx hbn hu ⊢; obtain ⟨q, hq⟩ : ∃ b, b = v2.heap.size := ⟨_, rfl⟩; rw [← hq] at hx hqz0 ⊢; have hqz := hqz0; clear hW hq S2 hv1 B6 HCB hqz0)
            clear k0 k1 k2
            have INV7 := Lib.hid (INV.out.stay hbn)
            have HX7 := Lib.hid hx
            have HU := Lib.hid hu
            clear hx hbn hu INV INV6
            have INV := INV7
            clear INV7
            cases tt with
            | false =>
              have hr0 : rstep a d = none := by
                have h := HSB.out
                rw [HHS.out] at h
                have hap : applyB a body = none := by rcases HU.out with ⟨h1, -⟩ | ⟨_, -, h2, -⟩; exact h1; cases h2
                rw [rstep, if_neg (by rw [HDM.out]; omega), hK.out, if_neg (by rw [HDM.out]; omega), if_pos (beq_iff_eq.1 h.symm), HX2.out, ← HBD.out, hap]
                rfl
              have EQ2 := Lib.hid (show rcvAll Apr.zero D = (a, t) by rw [EQ.out, rcvAll_none hr0]; rfl)
              clear hr0
              have qc0 := cellAt INV.out.c 0 rfl
              have qc1 := cellAt INV.out.c 1 rfl
              have qc2 := cellAt INV.out.c 2 rfl
              have qy0 := cellAt INV.out.y 0 rfl
              have qy1 := cellAt INV.out.y 1 rfl
              have qy2 := cellAt INV.out.y 2 rfl
              have qyf := freeAt INV.out.y
              have OUTV := INV.out.out
              have HO := Lib.hid OUTV
              clear OUTV
              go_wp2_with fail
              obtain ⟨b5, z5, r5⟩ := HO.out
              generalize hW : World.setCell _ _ _ = wZ at z5 b5 r5 ⊢
              have hl := run_loadVar_mid (P := Tryd.prog) wZ (w.heap.size + 1) 0 45 [.int .i64 a.p.1, .int .i64 a.p.2, .slice a1 n1 c1] _ (range_of z5) Tryd.underlying45 rfl accSz
              exact bodyPost_ret (v := .tuple #[.agg #[.int .i64 a.p.1, .int .i64 a.p.2, .slice a1 n1 c1], .int .i64 (t : Int), .int .i64 0]) (results_ctt Tryd.results14 rfl hl) rfl ⟨b5, a1, n1, c1, by rw [EQ2.out], by rw [EQ2.out]; exact r5⟩
            | true =>
              obtain ⟨m2, hap, hvs⟩ : ∃ m2, applyB a body = some ⟨(xx, yy), m2⟩ ∧ OwnV w7 w6.heap.size (.slice a2 n2 c2) m2 := by rcases HU.out with ⟨-, h2⟩ | ⟨m2, h1, -, h3⟩; cases h2; exact ⟨m2, h1, h3⟩
              have hst : rstep a d = some (⟨(xx, yy), m2⟩, k + 4) := by
                have h := HSB.out
                rw [HHS.out] at h
                rw [rstep, if_neg (by rw [HDM.out]; omega), hK.out, if_neg (by rw [HDM.out]; omega), if_pos (beq_iff_eq.1 h.symm), HX2.out, ← HBD.out, hap]
                rfl
              have NEW := Lib.hid (INV.out.put (c := ⟨(xx, yy), m2⟩) (ownV_move hvs (by omega) (fun k _ _ => rfl)) (rstep_ok INV.out.ok hst))
              have EQN := Lib.hid (show rcvAll Apr.zero D = ((rcvAll ⟨(xx, yy), m2⟩ (D.drop (t + (k + 4)))).1, (t + (k + 4)) + (rcvAll ⟨(xx, yy), m2⟩ (D.drop (t + (k + 4)))).2) by rw [EQ.out, rcvAll_some hst, HD.out, List.drop_drop]; simp only [Prod.mk.injEq, true_and]; omega)
              clear hst hap hvs
              have qa0 := cellAt INV.out.c 0 rfl
              have qa1 := cellAt INV.out.c 1 rfl
              have qa2 := cellAt INV.out.c 2 rfl
              have qaf := freeAt INV.out.c
              have qn0 := cellAt HX7.out 0 rfl
              have qn1 := cellAt HX7.out 1 rfl
              have qn2 := cellAt HX7.out 2 rfl
              have hqab : ¬ (ab = q) := by omega
              have hqab2 : ¬ (q = ab) := by omega
              go_wp2_with fail
              go_roundw
              case rel => exact ⟨t + (k + 4), by omega, by go_num, Lib.hid ⟨_, _, _, _, NEW.out, EQN.out⟩⟩
              case measure => simp [intOf]; omega
    · have hte : t = n := by omega
      subst hte
      have hr0 : rstep a (D.drop t) = none := by rw [rstep, if_pos (by rw [HN.out]; simp)]
      have EQ2 := Lib.hid (show rcvAll Apr.zero D = (a, t) by rw [EQ.out, rcvAll_none hr0]; rfl)
      clear hr0
      have hd1 : decide ((t : Int) < t) = false := by rw [decide_eq_false_iff_not]; omega
      have qc0 := cellAt INV.out.c 0 rfl
      have qc1 := cellAt INV.out.c 1 rfl
      have qc2 := cellAt INV.out.c 2 rfl
      have qy0 := cellAt INV.out.y 0 rfl
      have qy1 := cellAt INV.out.y 1 rfl
      have qy2 := cellAt INV.out.y 2 rfl
      have qyf := freeAt INV.out.y
      have OUTV := INV.out.out
      have HO := Lib.hid OUTV
      clear OUTV
      go_wp2_with fail
      obtain ⟨b5, z5, r5⟩ := HO.out
      generalize hW : World.setCell _ _ _ = wZ at z5 b5 r5 ⊢
      have hl := run_loadVar_mid (P := Tryd.prog) wZ (w.heap.size + 1) 0 45 [.int .i64 a.p.1, .int .i64 a.p.2, .slice a1 n1 c1] _ (range_of z5) Tryd.underlying45 rfl accSz
      exact bodyPost_ret (v := .tuple #[.agg #[.int .i64 a.p.1, .int .i64 a.p.2, .slice a1 n1 c1], .int .i64 (t : Int), .int .i64 0]) (results_ctt Tryd.results14 rfl hl) rfl ⟨b5, a1, n1, c1, by rw [EQ2.out], by rw [EQ2.out]; exact r5⟩
end Go.Proofs.YtdkbajdnckmckaaDoor
