/-
  The walk of PaxosOne: no two commands are chosen in a slot.
-/
import Derived.Test.YtdkbajdnckmckaaMg13
import Derived.Test.YtdkbajdnckmckaaMg14
import Derived.Test.YtdkbajdnckmckaaMg8
set_option linter.unusedVariables false
set_option linter.unusedSimpArgs false
namespace Go.Proofs.Ytdkbajdnckmckaa
open Go.RowKit Go.Con
theorem PlS.trans {base : Nat} {w0 w1 w2 : World} {g R : Nat} (h : PlS base w1 w2 g R) (hb : Below base w0 w1) : PlS base w0 w2 g R := by
  obtain ⟨M, nd, S, ad, c, pb, h1, h2, h3, h4, h5⟩ := h
  exact ⟨M, nd, S, ad, c, pb, h1, h2, h3, h4, hb.trans h5⟩
theorem PlS.more {base : Nat} {w1 w2 : World} {g R R' : Nat} (h : PlS base w1 w2 g R) (hb : R ≤ R') : PlS base w1 w2 g R' := by
  obtain ⟨M, nd, S, ad, c, pb, h1, h2, h3, h4, h5⟩ := h
  exact ⟨M, nd, S, ad, c, pb, h1, h2, by omega, h4, h5⟩
/-- a ply, whichever -/
theorem play_any {base : Nat} {w0 w : World} {g R : Nat} (h : PlS base w0 w g R) (hR : R ≤ 999) (hg : base ≤ g) (pk pn pp ps pv : Int) (hw : WishOk ⟨pk, pn, pp, ps, pv⟩) :
    Calls Try.prog 19 #[.pointer (some ⟨g, 0, none⟩), .agg #[.int .i64 pk, .int .i64 pn, .int .i64 pp, .int .i64 ps, .int .i64 pv]] w fun e w' => e = .returned (.tuple #[]) ∧ PlS base w0 w' g (R + 1) := by
  obtain ⟨M, nd, S, ad, c, pb, h1, h2, h3, h4, h5⟩ := h
  have hf : ∀ {e : Ending} {w' : World}, (e = .returned (.tuple #[]) ∧ PlS base w w' g (M.rounds + 1)) → (e = .returned (.tuple #[]) ∧ PlS base w0 w' g (R + 1)) := fun ⟨g1, g2⟩ => ⟨g1, (g2.trans h5).more (by omega)⟩
  obtain ⟨n, hn⟩ : ∃ n : Nat, pick pn 5 = n := ⟨(pick pn 5).toNat, by have := pick_nonneg pn 5 (by omega); omega⟩
  obtain ⟨k, hk⟩ : ∃ n : Nat, pick pp 3 = n := ⟨(pick pp 3).toNat, by have := pick_nonneg pp 3 (by omega); omega⟩
  obtain ⟨s, hs⟩ : ∃ n : Nat, pick ps 3 = n := ⟨(pick ps 3).toNat, by have := pick_nonneg ps 3 (by omega); omega⟩
  have hR' : M.rounds ≤ 1000 := by omega
  by_cases hc : pick pk 12 = 0 ∨ M.bid k = none
  · exact (play_begin base h1 h2 hg hR' h4 pk pn pp ps pv hw n k (Lib.hid hn) (Lib.hid hk) hc).mono fun _ _ => hf
  · rw [not_or] at hc
    obtain ⟨hc1, hc2⟩ := hc
    obtain ⟨B, hB⟩ : ∃ B, M.bid k = some B := by
      cases hh : M.bid k with
      | none => exact absurd hh hc2
      | some B => exact ⟨B, rfl⟩
    by_cases h6 : pick pk 12 < 6
    · exact (play_promise base h1 h2 hg hR' h4 pk pn pp ps pv hw n k (Lib.hid hn) (Lib.hid hk) hc1 h6 hB).mono fun _ _ => hf
    · have h6 := Int.not_lt.1 h6
      by_cases hm : 2 * (B.lists 5).length ≤ 5
      · exact (play_few base h1 h2 hg hR' h4 pk pn pp ps pv hw n k s (Lib.hid hn) (Lib.hid hk) (Lib.hid hs) h6 hB hm).mono fun _ _ => hf
      · have hm : 5 < 2 * (B.lists 5).length := by omega
        cases hx : B.what s with
        | some x => exact (play_asked base h1 h2 hg hR' h4 pk pn pp ps pv hw n k s (Lib.hid hn) (Lib.hid hk) (Lib.hid hs) h6 hB hm hx).mono fun _ _ => hf
        | none =>
          by_cases hw2 : 0 < (bestV s Vot.zero (B.lists 5).flatten).bal.1
          · exact (play_was base h1 h2 hg hR' h4 pk pn pp ps pv hw n k s (Lib.hid hn) (Lib.hid hk) (Lib.hid hs) h6 hB hm hx hw2).mono fun _ _ => hf
          · exact (play_new base h1 h2 hg hR' h4 pk pn pp ps pv hw n k s (Lib.hid hn) (Lib.hid hk) (Lib.hid hs) h6 hB hm hx hw2).mono fun _ _ => hf
/-- the cells of a new match -/
def newMat : Array Value := #[.int .i64 0, .int .i64 0, .slice none 0 0, .int .i64 0, .int .i64 0, .slice none 0 0, .int .i64 0, .int .i64 0, .slice none 0 0, .int .i64 0, .int .i64 0, .slice none 0 0, .int .i64 0, .int .i64 0, .slice none 0 0, .pointer none, .pointer none, .pointer none, .int .i64 0, .int .i64 0, .int .i64 0, .int .i64 0, .int .i64 0, .int .i64 0, .int .i64 0, .int .i64 0, .int .i64 0, .int .i64 0, .int .i64 0, .int .i64 0, .int .i64 0, .int .i64 0, .int .i64 0, .int .i64 0, .bool false, .bool false, .bool false, .bool true]
theorem newMat_ok {w : World} {g : Nat} (h : w.heap[g]? = some (.cells newMat 62 (0, 0))) : MatW w g Mat.zero (fun _ => none) (fun _ => 0) (fun _ => 0) := by
  have h5 : ∀ a, a < 5 → a = 0 ∨ a = 1 ∨ a = 2 ∨ a = 3 ∨ a = 4 := fun a ha => by omega
  have h3 : ∀ a, a < 3 → a = 0 ∨ a = 1 ∨ a = 2 := fun a ha => by omega
  refine ⟨⟨_, h, rfl⟩, fun a ha => ?_, fun a ha => ?_, fun a ha => ?_, fun a ha => World.ownsRow_nil _ _ _ _, fun k hk => ?_, fun k B hk hB => (by cases hB), fun k k' B B' hk hk' hne hB => (by cases hB), cellAt h _ rfl, fun s x hs hx => (by cases hx), fun s hs => ?_, cellAt h _ rfl⟩
  · rcases h5 a ha with rfl | rfl | rfl | rfl | rfl <;> exact cellAt h _ rfl
  · rcases h5 a ha with rfl | rfl | rfl | rfl | rfl <;> exact cellAt h _ rfl
  · rcases h5 a ha with rfl | rfl | rfl | rfl | rfl <;> exact cellAt h _ rfl
  · rcases h3 k hk with rfl | rfl | rfl <;> exact cellAt h _ rfl
  · rcases h3 s hs with rfl | rfl | rfl <;> exact cellAt h _ rfl
theorem Check_in (pr pm : Int) (v : Value) (l : List Vot) (w : World) (hv : RdV w v l) (q : Int) (hq : Hid ((if okA (pr, pm) l then (0 : Int) else 5) = q)) :
    Calls Try.prog 12 #[.agg #[.int .i64 pr, .int .i64 pm, v]] w fun e w' => e = .returned (.int .i64 q) ∧ Below w.heap.size w w' := by
  have h := accCheck_any (pr, pm) v l w hv
  rw [hq.out] at h
  exact h
theorem nilV (w : World) : RdV w (.slice none 0 0) [] := ⟨none, 0, rfl, Nat.le_refl _, Nat.zero_le _, fun h => absurd rfl h⟩
set_option maxRecDepth 100000 in
set_option maxHeartbeats 4000000 in
theorem walk_PaxosOne (v : Value) (l : List Cmd) (w : World) (hv : RdWishes w v l) :
    Calls Try.prog 9 #[v] w fun e w' => e = .returned (.bool true) ∧ Below w.heap.size w w' := by
  obtain ⟨ea, ec, rfl, hle, hcm, hwok, hcell⟩ := hv
  obtain ⟨n, hn⟩ : ∃ n, n = l.length := ⟨_, rfl⟩
  rw [← hn] at hle hcell ⊢
  have hcm2 : ec ≤ 9223372036854775807 := hcm
  have HWOK := Lib.hid hwok
  have HCELL := Lib.hid hcell
  have HN := Lib.hid hn
  obtain ⟨m, hm⟩ : ∃ m, m = min n 150 := ⟨_, rfl⟩
  have hmn : m ≤ n := by omega
  have hm30 : m ≤ 150 := by omega
  have HM := Lib.hid hm
  clear hwok hcell hn hm
  go_enter Try.func9, Try.ntmps9
  go_wp2_with fail
  generalize hW : World.alloc _ _ = w1
  have inv0 : Hid (PlS w.heap.size w w1 w.heap.size 0) := Lib.hid (by
    have h1 : w1.heap[w.heap.size]? = some (.cells newMat 62 (0, 0)) := by rw [← hW]; exact heapNew _ _
    exact ⟨Mat.zero, _, _, _, _, _, newMat_ok h1, MInv.zero, Nat.le_refl _, fun k B hk hB => (by cases hB), by rw [← hW]; exact (Below.refl _ _).alloc (Nat.le_refl _) _⟩)
  clear hW
  obtain ⟨g, hg⟩ : ∃ g, g = w.heap.size := ⟨_, rfl⟩
  rw [← hg] at inv0 ⊢
  have HG := Lib.hid hg
  clear hg
  go_loopw [4] (fun i wr => ∃ q : Nat, q ≤ m ∧ i = .int .i64 q ∧ Hid (PlS g w wr g q)) (fun i _ => m - (intOf i).toNat)
  case atStart => exact ⟨0, by omega, rfl, inv0⟩
  case round =>
    clear inv0
    obtain ⟨q, hqm, rfl, HI⟩ := hrel
    by_cases h1 : q < m
    · have hd1 : decide ((q : Int) < n) = true := by rw [decide_eq_true_eq]; omega
      have hd1n : decide (q < n) = true := by rw [decide_eq_true_eq]; omega
      have hd2 : decide ((q : Int) < 150) = true := by rw [decide_eq_true_eq]; omega
      have hd2n : decide (q < 150) = true := by rw [decide_eq_true_eq]; omega
      have hqn : q < n := by omega
      have hql : q < l.length := by rw [← HN.out]; omega
      obtain ⟨eb, eoff, rfl, hc⟩ := HCELL.out (by intro h; rw [h] at hql; cases hql)
      obtain ⟨y, hy⟩ : ∃ y, y = l.getD q Cmd.zero := ⟨_, rfl⟩
      have hebl : eb < w.heap.size := by
        have h2 := hc q (by omega) 0 (by decide)
        exact World.block_lt_of_cell? w _ h2
      have hyok : WishOk y := HWOK.out y (by rw [hy, List.getD_eq_getElem?_getD, List.getElem?_eq_getElem hql]; exact List.getElem_mem _)
      have hbw : Below g w wr := by obtain ⟨_, _, _, _, _, _, _, _, _, _, h5⟩ := HI.out; exact h5
      have hcr : ∀ p, p < 5 → wr.cell? ⟨eb, eoff + (5 * q + p), none⟩ = (wishCells y)[p]? := fun p hp => by
        have h2 := hc q (by omega) p hp
        rw [← hy] at h2
        rw [← h2]
        exact World.cell?_of_block (w := w) (hbw.block eb (by rw [HG.out]; exact hebl))
      obtain ⟨pk, pno, pp, ps, pv⟩ := y
      have x0 : wr.cell? ⟨eb, eoff + q * 5, none⟩ = some (.int .i64 pk) := by rw [show eoff + q * 5 = eoff + (5 * q + 0) by omega]; exact hcr 0 (by decide)
      have x1 : wr.cell? ⟨eb, eoff + q * 5 + 1, none⟩ = some (.int .i64 pno) := by rw [show eoff + q * 5 + 1 = eoff + (5 * q + 1) by omega]; exact hcr 1 (by decide)
      have x2 : wr.cell? ⟨eb, eoff + q * 5 + 2, none⟩ = some (.int .i64 pp) := by rw [show eoff + q * 5 + 2 = eoff + (5 * q + 2) by omega]; exact hcr 2 (by decide)
      have x3 : wr.cell? ⟨eb, eoff + q * 5 + 3, none⟩ = some (.int .i64 ps) := by rw [show eoff + q * 5 + 3 = eoff + (5 * q + 3) by omega]; exact hcr 3 (by decide)
      have x4 : wr.cell? ⟨eb, eoff + q * 5 + 4, none⟩ = some (.int .i64 pv) := by rw [show eoff + q * 5 + 4 = eoff + (5 * q + 4) by omega]; exact hcr 4 (by decide)
      have WOK := Lib.hid hyok
      clear hcr hy hc hql hbw hyok
      go_wp2_with (go_at_call 19; refine (play_any HI.out (by omega) (Nat.le_refl _) _ _ _ _ _ WOK.out).mono ?_; rintro e w2 ⟨rfl, hpl⟩; have NEW := Lib.hid hpl; clear hpl)
      exact ⟨⟨q + 1, by omega, by go_num, NEW⟩, by simp [intOf]; omega⟩
    · have hex : (decide (q < n) = false ∧ decide ((q : Int) < n) = false) ∨ (decide (q < n) = true ∧ decide ((q : Int) < n) = true ∧ decide (q < 150) = false ∧ decide ((q : Int) < 150) = false) := by
        have := HM.out
        simp only [decide_eq_true_eq, decide_eq_false_iff_not]
        omega
      obtain ⟨M, nd, S, ad, c, pb, h1, h2, h3, h4, h5⟩ := HI.out
      obtain ⟨⟨⟨pr, pm⟩, L⟩, hX⟩ : ∃ x, M.node 0 = x := ⟨_, rfl⟩
      have hfi := h1.fine
      have y0 := h1.n0 0 (by decide)
      have y1 := h1.n1 0 (by decide)
      have y2 := h1.n2 0 (by decide)
      have ho := h1.own 0 (by decide)
      have hok := h2.fit 0 (by decide)
      rw [hX] at y0 y1 y2 ho hok
      dsimp only at y0 y1 y2 ho
      have y0 : wr.cell? ⟨g, 0, none⟩ = some (.int .i64 pr) := y0
      have y1 : wr.cell? ⟨g, 1, none⟩ = some (.int .i64 pm) := y1
      obtain ⟨na, hna⟩ : ∃ x, x = ad 0 := ⟨_, rfl⟩
      obtain ⟨nc, hnc⟩ : ∃ x, x = c 0 := ⟨_, rfl⟩
      obtain ⟨mm, hmm⟩ : ∃ x, x = L.length := ⟨_, rfl⟩
      rw [← hna, ← hnc, ← hmm] at y2 ho
      have y2 : wr.cell? ⟨g, 2, none⟩ = some (.slice na mm nc) := y2
      have VT := Lib.hid ho.row
      have OK1 : Hid ((if okA (pr, pm) L then (0 : Int) else 5) = 0) := Lib.hid (if_pos hok)
      have OK2 : Hid ((if okA (0, 1) [] then (0 : Int) else 5) = 5) := Lib.hid (by decide)
      have BW := Lib.hid h5
      clear h1 h2 h3 h4 h5 hX ho hok hna hnc hmm HI
      rcases hex with ⟨he1, he2⟩ | ⟨he1, he2, he3, he4⟩
      all_goals
        go_wp2_with (go_at_call 12; refine (Check_in _ _ _ _ _ (by first | exact VT.out | exact nilV _) _ (by first | exact OK1 | exact OK2)).mono ?_; rintro e w2 ⟨rfl, hb2⟩; first | (have B3 := Lib.hid (B2.out.trans (hb2.mono B2.out.size)); clear hb2) | (have B2 := Lib.hid hb2; clear hb2))
        go_ret
        exact ⟨rfl, by rw [← HG.out]; exact BW.out.trans (B3.out.mono (by have := BW.out.size; rw [← HG.out] at this; omega))⟩
end Go.Proofs.Ytdkbajdnckmckaa
