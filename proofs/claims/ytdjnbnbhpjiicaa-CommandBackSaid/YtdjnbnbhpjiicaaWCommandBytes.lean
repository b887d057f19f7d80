/-
  The walk of conclavekeep.CommandBytes: a command's bytes are its numbers.
-/
import Derived.Test.YtdjnbnbhpjiicaaOrdD
import Derived.Test.YtdjnbnbhpjiicaaFrW
namespace Go.Con
theorem fourB_get (n : Nat) (h : n < 4294967296) : (UInt8.ofNat (n / 16777216)).toNat * 16777216 + (UInt8.ofNat (n / 65536)).toNat * 65536 + (UInt8.ofNat (n / 256)).toNat * 256 + (UInt8.ofNat n).toNat = n := by
  rw [UInt8.toNat_ofNat', UInt8.toNat_ofNat', UInt8.toNat_ofNat', UInt8.toNat_ofNat']
  omega
/-- What is encoded is decoded, number by number. -/
theorem decAt_encC (c : Cmd) (k : Nat) (hk : k < 5) (h0 : 0 ≤ c.fld k) (h1 : c.fld k < 4294967296) : decAt (encC c) k = c.fld k := by
  have e : decAt (encC c) k = (((UInt8.ofNat ((c.fld k).toNat / 16777216)).toNat * 16777216 + (UInt8.ofNat ((c.fld k).toNat / 65536)).toNat * 65536 + (UInt8.ofNat ((c.fld k).toNat / 256)).toNat * 256 + (UInt8.ofNat (c.fld k).toNat).toNat : Nat) : Int) := by
    have h5 : k = 0 ∨ k = 1 ∨ k = 2 ∨ k = 3 ∨ k = 4 := by omega
    rcases h5 with rfl | rfl | rfl | rfl | rfl <;> rfl
  rw [e, fourB_get _ (by omega)]
  omega
end Go.Con
namespace Go.Proofs.Ytdjnbnbhpjiicaa
open Go.RowKit Go.Con

set_option maxRecDepth 100000 in
set_option maxHeartbeats 1000000 in
theorem walk_CommandBytes (v : Value) (x : Cmd) (w : World) (hv : IsWish v x) :
    Calls Try.prog 4 #[v] w fun e w' => e = .returned (.bool true) ∧ Below w.heap.size w w' := by
  obtain ⟨rfl, hx⟩ := hv
  have HX := Lib.hid hx
  clear hx
  obtain ⟨c, hc⟩ : ∃ c, c = cmdOf x := ⟨_, rfl⟩
  have HC := Lib.hid hc
  have hck : checkC c = 0 := by rw [hc]; exact cmdOf_check x
  have HCK := Lib.hid hck
  clear hc hck
  have hcmd := fun w => Command_any x w HX.out
  rw [← HC.out] at hcmd
  have HCMD := Lib.hid hcmd
  have henc := fun w => Encode_ok c w HCK.out
  have HENC := Lib.hid henc
  clear hcmd henc
  obtain ⟨x0, x1, x2, x3, x4⟩ := x
  obtain ⟨c0, c1, c2, c3, c4⟩ := c
  unfold cmdV at HCMD HENC ⊢
  dsimp only at HCMD HENC ⊢
  go_enter Try.func4, Try.ntmps4
  go_wp2_with fail
  refine (HCMD.out _).mono ?_
  rintro e w1 ⟨rfl, hb1⟩
  have hb1' := Lib.hid (((Below.refl w.heap.size w).alloc (Nat.le_refl _) _).trans (hb1.mono (by simp)))
  have s1 := hb1'.out.size
  clear hb1
  go_wp2_with fail
  refine (HENC.out _).mono ?_
  rintro e w2 ⟨v2, rfl, ho2, hb2⟩
  have hx2 : w2.heap[w1.heap.size]? = some (.cells #[.int .i64 c0, .int .i64 c1, .int .i64 c2, .int .i64 c3, .int .i64 c4] 29 (0, 0)) := (hb2.block _ (by simp)).trans (heapNew _ _)
  have d0 : w2.cell? ⟨w1.heap.size, 0, none⟩ = some (.int .i64 c0) := cellAt hx2 0 rfl
  have d1 : w2.cell? ⟨w1.heap.size, 1, none⟩ = some (.int .i64 c1) := cellAt hx2 1 rfl
  have d2 : w2.cell? ⟨w1.heap.size, 2, none⟩ = some (.int .i64 c2) := cellAt hx2 2 rfl
  have d3 : w2.cell? ⟨w1.heap.size, 3, none⟩ = some (.int .i64 c3) := cellAt hx2 3 rfl
  have d4 : w2.cell? ⟨w1.heap.size, 4, none⟩ = some (.int .i64 c4) := cellAt hx2 4 rfl
  have hlen : (encC ⟨c0, c1, c2, c3, c4⟩).length = 20 := encK_length _ 5
  obtain ⟨g, cap, hv2, hg1, hg2, hcap, hcm⟩ := ho2.shape (by intro h; rw [h] at hlen; cases hlen)
  rw [hlen] at hv2
  subst hv2
  have hB2 := Lib.hid (hb1'.out.trans (((Below.refl _ _).alloc (Nat.le_refl _) _).mono s1 |>.trans (hb2.mono (by simp; omega))))
  have HO2 := Lib.hid ho2
  have HL := Lib.hid hlen
  clear ho2 hb2 hx2 hlen
  go_wp2_with fail
  obtain ⟨w3, hw3⟩ : ∃ w3 : World, w3 = w2.alloc (.cells #[.int .i64 c0, .int .i64 c1, .int .i64 c2, .int .i64 c3, .int .i64 c4] 3) := ⟨_, rfl⟩
  rw [← hw3]
  have hB3 := Lib.hid (hB2.out.alloc (by have := hB2.out.size; omega) (.cells #[.int .i64 c0, .int .i64 c1, .int .i64 c2, .int .i64 c3, .int .i64 c4] 3))
  have hy3 : w3.heap[w2.heap.size]? = some (.cells #[.int .i64 c0, .int .i64 c1, .int .i64 c2, .int .i64 c3, .int .i64 c4] 3 (0, 0)) := by rw [hw3]; exact heapNew _ _
  have hR3 : Rd w3 (.slice (some ⟨g, 0, none⟩) 20 cap) (encC ⟨c0, c1, c2, c3, c4⟩) := by rw [hw3]; exact HO2.out.rd.alloc _
  rw [← hw3] at hB3
  have hcb : ∀ i, i < 20 → w3.cell? ⟨g, i, none⟩ = some (.int .u8 ((encC ⟨c0, c1, c2, c3, c4⟩).getD i 0).toNat) := by
    obtain ⟨a', c', e, _, _, _, h⟩ := hR3
    obtain ⟨b, off, e4, h2⟩ := h (by intro h; have := HL.out; rw [h] at this; cases this)
    injection e with e1 e2 e3
    subst e1
    injection e4 with e5
    injection e5 with e6 e7 e8
    subst e6 e7
    intro i hi
    have h3 := h2 i (by rw [HL.out]; exact hi)
    rw [Nat.zero_add] at h3
    exact h3
  have hci : ∀ i, i < 5 → w3.cell? ⟨w2.heap.size, i, none⟩ = some (.int .i64 (Cmd.fld ⟨c0, c1, c2, c3, c4⟩ i)) := by
    intro i hi
    have h5 : i = 0 ∨ i = 1 ∨ i = 2 ∨ i = 3 ∨ i = 4 := by omega
    rcases h5 with rfl | rfl | rfl | rfl | rfl <;> exact cellAt hy3 _ rfl
  have HCB := Lib.hid hcb
  have HCI := Lib.hid hci
  clear hw3 hy3 hR3 hcb hci d0 d1 d2 d3 d4
  go_loopw [7] (fun i wr => ∃ k n : Nat, k ≤ 5 ∧ i = .int .i64 k ∧ wr = w3.drewN n)
    (fun i _ => 5 - (intOf i).toNat)
  case atStart => exact ⟨0, 0, by omega, rfl, rfl⟩
  case round =>
    obtain ⟨k, n, hk, rfl, rfl⟩ := hrel
    by_cases hlt : k < 5
    · obtain ⟨y0, hy0⟩ : ∃ x, x = (encC ⟨c0, c1, c2, c3, c4⟩).getD (4 * k) 0 := ⟨_, rfl⟩
      obtain ⟨y1, hy1⟩ : ∃ x, x = (encC ⟨c0, c1, c2, c3, c4⟩).getD (4 * k + 1) 0 := ⟨_, rfl⟩
      obtain ⟨y2, hy2⟩ : ∃ x, x = (encC ⟨c0, c1, c2, c3, c4⟩).getD (4 * k + 2) 0 := ⟨_, rfl⟩
      obtain ⟨y3, hy3⟩ : ∃ x, x = (encC ⟨c0, c1, c2, c3, c4⟩).getD (4 * k + 3) 0 := ⟨_, rfl⟩
      obtain ⟨q, hq⟩ : ∃ q, q = Cmd.fld ⟨c0, c1, c2, c3, c4⟩ k := ⟨_, rfl⟩
      have g0 := HCB.out (4 * k) (by omega)
      have g1 := HCB.out (4 * k + 1) (by omega)
      have g2 := HCB.out (4 * k + 2) (by omega)
      have g3 := HCB.out (4 * k + 3) (by omega)
      have g4 := HCI.out k hlt
      rw [← hy0] at g0; rw [← hy1] at g1; rw [← hy2] at g2; rw [← hy3] at g3; rw [← hq] at g4
      have hne : (bits .or .i64 (bits .or .i64 (bits .or .i64 (wrap64 (wrap64 (y0.toNat : Int) * 16777216)) (wrap64 (wrap64 (y1.toNat : Int) * 65536))) (wrap64 (wrap64 (y2.toNat : Int) * 256))) (wrap64 (y3.toNat : Int)) != q) = false := by
        rw [four64]
        have hf := fld_nonneg _ HCK.out k
        have := decAt_encC ⟨c0, c1, c2, c3, c4⟩ k hlt hf.1 (by omega)
        rw [decAt, ← hy0, ← hy1, ← hy2, ← hy3, ← hq] at this
        rw [this]; simp
      clear hy0 hy1 hy2 hy3 hq
      go_wp2
      go_quiet (fail)
      go_wp2
      go_roundw
      case rel => exact ⟨k + 1, _, by omega, by go_num, rfl⟩
      case measure => simp [intOf]; omega
    · go_wp2
      go_ret
      exact ⟨rfl, below_drewN hB3.out n⟩
end Go.Proofs.Ytdjnbnbhpjiicaa
