/-
  The walk of conclavekeep.sameAcceptor of two that are the same.
-/
import Derived.Test.YtdkbajdnckmckaaBlw
set_option linter.unusedVariables false
set_option linter.unusedSimpArgs false
namespace Go.Con
open Go
/-- a vote that is put twice is put once -/
theorem putV_twice (y : Vot) (l : List Vot) : putV y (putV y l) = putV y l := by
  have e1 : (putV y l).filter (fun v => decide (v.slot < y.slot)) = l.filter (fun v => decide (v.slot < y.slot)) := by
    unfold putV
    rw [List.filter_append, List.filter_cons, List.filter_filter, List.filter_filter]
    have h1 : (l.filter fun v => decide (v.slot < y.slot) && decide (v.slot < y.slot)) = l.filter fun v => decide (v.slot < y.slot) := by
      congr 1; funext v; rw [Bool.and_self]
    have h2 : (l.filter fun v => decide (v.slot < y.slot) && decide (y.slot < v.slot)) = [] := by
      rw [List.filter_eq_nil_iff]; intro v _; simp; omega
    rw [h1, h2, if_neg (by simp), List.append_nil]
  have e2 : (putV y l).filter (fun v => decide (y.slot < v.slot)) = l.filter (fun v => decide (y.slot < v.slot)) := by
    unfold putV
    rw [List.filter_append, List.filter_cons, List.filter_filter, List.filter_filter]
    have h1 : (l.filter fun v => decide (y.slot < v.slot) && decide (y.slot < v.slot)) = l.filter fun v => decide (y.slot < v.slot) := by
      congr 1; funext v; rw [Bool.and_self]
    have h2 : (l.filter fun v => decide (y.slot < v.slot) && decide (v.slot < y.slot)) = [] := by
      rw [List.filter_eq_nil_iff]; intro v _; simp; omega
    rw [h1, h2, if_neg (by simp), List.nil_append]
  show (putV y l).filter (fun v => decide (v.slot < y.slot)) ++ y :: (putV y l).filter (fun v => decide (y.slot < v.slot)) = _
  rw [e1, e2]; rfl
theorem putV_pos (y : Vot) (l : List Vot) : 0 < (putV y l).length := by unfold putV; simp; omega
end Go.Con
namespace Go.Proofs.Ytdkbajdnckmckaa
open Go.RowKit Go.Con
set_option maxRecDepth 100000 in
set_option maxHeartbeats 4000000 in
theorem sameAcc_to (r m : Int) (a1 a2 : Option Addr) (n c1 c2 : Nat) (l : List Vot) (w : World) (h1 : RdV w (.slice a1 n c1) l) (h2 : RdV w (.slice a2 n c2) l) :
    Calls Try.prog 17 #[.agg #[.int .i64 r, .int .i64 m, .slice a1 n c1], .agg #[.int .i64 r, .int .i64 m, .slice a2 n c2]] w fun e w' => e = .returned (.bool true) ∧ Below w.heap.size w w' := by
  have H1 := Lib.hid h1
  have H2 := Lib.hid h2
  have hn := h1.cells.1
  have HN := Lib.hid hn
  have hc1 : c1 ≤ 9223372036854775807 := by obtain ⟨a, c, e, -, h, -⟩ := h1; injection e with e1 e2 e3; rw [e3]; exact h
  have hc2 : c2 ≤ 9223372036854775807 := by obtain ⟨a, c, e, -, h, -⟩ := h2; injection e with e1 e2 e3; rw [e3]; exact h
  have hn1 := h1.cells.2.1
  have hn2 := h2.cells.2.1
  clear h1 h2 hn
  go_enter Try.func17, Try.ntmps17
  go_upto_region 1 with fail
  generalize hW : World.alloc _ _ = w1
  have G := alloc2Q hW
  have z1 := Lib.hid (show AccIn w1 w.heap.size r m (.slice a1 n c1) from G.1)
  have z2 := Lib.hid (show AccIn w1 (w.heap.size + 1) r m (.slice a2 n c2) from G.2.1)
  have B1 := Lib.hid G.2.2.1
  clear hW G
  obtain ⟨x0, x1, x2⟩ := z1.out.cells
  obtain ⟨y0, y1, y2⟩ := z2.out.cells
  go_wp2_with fail
  go_loopw [5] (fun i wr => ∃ q : Nat, q ≤ n ∧ i = .int .i64 q ∧ Hid (∃ k, wr = w1.drewN k)) (fun i _ => n - (intOf i).toNat)
  case atStart => exact ⟨0, by omega, rfl, Lib.hid ⟨0, rfl⟩⟩
  case round =>
    obtain ⟨q, hqn, rfl, HK⟩ := hrel
    obtain ⟨k, hk⟩ := HK.out
    clear HK
    subst hk
    by_cases hq : q < n
    · have hd1 : decide ((q : Int) < n) = true := by rw [decide_eq_true_eq]; omega
      have hd1n : decide (q < n) = true := by rw [decide_eq_true_eq]; omega
      obtain ⟨eb, eoff, rfl, hel, hec⟩ := H1.out.cells.2.2 q hq
      obtain ⟨fb, foff, rfl, hfl, hfc⟩ := H2.out.cells.2.2 q hq
      obtain ⟨v, hv⟩ : ∃ v, v = l.getD q Vot.zero := ⟨_, rfl⟩
      rw [← hv] at hec hfc
      have hecr : ∀ p, p < 8 → w1.cell? ⟨eb, eoff + (8 * q + p), none⟩ = (votCells v)[p]? := fun p hp => by rw [← hec p hp]; exact World.cell?_of_block (w := w) (B1.out.block eb hel)
      have hfcr : ∀ p, p < 8 → w1.cell? ⟨fb, foff + (8 * q + p), none⟩ = (votCells v)[p]? := fun p hp => by rw [← hfc p hp]; exact World.cell?_of_block (w := w) (B1.out.block fb hfl)
      obtain ⟨sl, ⟨br, bn⟩, ⟨ck, cl, sq, nm, vl⟩⟩ := v
      obtain ⟨e0, e1, e2, e3, e4, e5, e6, e7⟩ := cellsV hecr
      obtain ⟨f0, f1, f2, f3, f4, f5, f6, f7⟩ := cellsV hfcr
      dsimp only at e0 e1 e2 e3 e4 e5 e6 e7 f0 f1 f2 f3 f4 f5 f6 f7
      clear hec hfc hecr hfcr hv hel hfl
      go_wp2_with fail
      refine wp_region_quiet_lit (by kernel_rfl) (by kernel_rfl) ?_
      repeat (go_big_quiet_step (fail))
      refine wpQuiet_nil ?_
      intro w9 hw9
      obtain ⟨nq, rfl⟩ := hw9
      go_wp2_with fail
      go_roundw
      case rel => exact ⟨q + 1, by omega, by go_num, Lib.hid ⟨_, rfl⟩⟩
      case measure => simp [intOf]; omega
    · have hd1 : decide ((q : Int) < n) = false := by rw [decide_eq_false_iff_not]; omega
      have hd1n : decide (q < n) = false := by rw [decide_eq_false_iff_not]; omega
      go_wp2_with fail
      go_ret
      exact ⟨rfl, below_drewN B1.out k⟩
end Go.Proofs.Ytdkbajdnckmckaa
