/-
  The walk of conclavekeep.CommandBack: a command is decoded as it was encoded.
-/
import Derived.Test.YtdjnbnbhpjiicaaWCommandBytes
namespace Go.Con
theorem decC_encC (c : Cmd) (hc : checkC c = 0) (hf : ∀ k, 0 ≤ c.fld k ∧ c.fld k ≤ 1073741824) : decC (encC c) = (c, 0) := by
  have e : decRaw (encC c) = c := by
    unfold decRaw
    rw [decAt_encC c 0 (by omega) (hf 0).1 (by have := (hf 0).2; omega), decAt_encC c 1 (by omega) (hf 1).1 (by have := (hf 1).2; omega), decAt_encC c 2 (by omega) (hf 2).1 (by have := (hf 2).2; omega), decAt_encC c 3 (by omega) (hf 3).1 (by have := (hf 3).2; omega), decAt_encC c 4 (by omega) (hf 4).1 (by have := (hf 4).2; omega)]
    rfl
  have hl : (encC c).length = 20 := encK_length c 5
  rw [decC, if_neg (by rw [hl]; decide), e, if_neg (by rw [hc]; decide)]
/-- a wish as a command, its client and its number from the whole of their ranges -/
def cmdFar (x : Cmd) : Cmd := { cmdOf x with seq := pick x.seq 1048577, client := pick x.client 8 }
theorem cmdFar_check (x : Cmd) : checkC (cmdFar x) = 0 := by
  have h0 := cmdOf_check x
  have h3 := pick_nonneg x.client 8 (by omega)
  have h4 := pick_lt x.client 8 (by omega)
  have h5 := pick_nonneg x.seq 1048577 (by omega)
  have h6 := pick_lt x.seq 1048577 (by omega)
  have hk1 := pick_nonneg x.kind 5 (by omega)
  have hk2 := pick_lt x.kind 5 (by omega)
  have h7 := pick_nonneg x.name 4 (by omega)
  have h8 := pick_lt x.name 4 (by omega)
  have h9 := pick_nonneg x.value 1000 (by omega)
  have h10 := pick_lt x.value 1000 (by omega)
  unfold checkC
  have hk : 1 ≤ (cmdFar x).kind ∧ (cmdFar x).kind ≤ 3 := by simp only [cmdFar, cmdOf]; omega
  rw [if_neg (by omega), if_pos hk]
  have hr : inRange (cmdFar x) = true := by
    unfold inRange
    rw [decide_eq_true_eq]
    simp only [cmdFar, cmdOf]
    refine ⟨h3, by omega, h5, by omega, h7, by omega, ?_⟩
    split <;> omega
  rw [if_neg (by rw [hr]; decide), if_neg]
  intro ⟨ha, hb⟩
  apply hb
  simp only [cmdFar, cmdOf] at ha ⊢
  rw [if_neg ha]
end Go.Con
namespace Go.Proofs.Ytdjnbnbhpjiicaa
open Go.RowKit Go.Con

set_option maxRecDepth 100000 in
set_option maxHeartbeats 1000000 in
theorem back_near (x : Cmd) (w : World) (hx : WishOk x) :
    Calls Try.prog 5 #[cmdV x, .bool false] w fun e w' => e = .returned (.bool true) ∧ Below w.heap.size w w' := by
  have HX := Lib.hid hx
  obtain ⟨c, hc⟩ : ∃ c, c = cmdOf x := ⟨_, rfl⟩
  obtain ⟨d, hd⟩ : ∃ d, d = cmdOf x := ⟨_, rfl⟩
  have HC := Lib.hid hc
  have HD := Lib.hid hd
  have hck : checkC d = 0 := by rw [hd]; exact cmdOf_check x
  have hdec : decC (encC d) = (d, 0) := decC_encC d hck (fld_nonneg d hck)
  have HCK := Lib.hid hck
  have HDEC := Lib.hid hdec
  have hcmd := fun w => Command_any x w HX.out
  rw [← HC.out] at hcmd
  have HCMD := Lib.hid hcmd
  have henc := fun w => Encode_ok d w HCK.out
  have HENC := Lib.hid henc
  have hlen : (encC d).length = 20 := encK_length _ 5
  have HL := Lib.hid hlen
  have hpc := fun w => picked_any x.client 8 w hx.2.1.1 hx.2.1.2 (by decide)
  have hps := fun w => picked_any x.seq 1048577 w hx.2.2.1.1 hx.2.2.1.2 (by decide)
  have hdk : d.kind = c.kind ∧ d.client = c.client ∧ d.seq = c.seq ∧ d.name = c.name ∧ d.value = c.value := by rw [hd, hc]; exact ⟨rfl, rfl, rfl, rfl, rfl⟩
  obtain ⟨l, hl⟩ : ∃ l, l = encC d := ⟨_, rfl⟩
  rw [← hl] at HENC HDEC HL
  have HLL := Lib.hid hl
  clear hc hd hck hdec hcmd henc hlen hx hl
  obtain ⟨x0, x1, x2, x3, x4⟩ := x
  obtain ⟨c0, c1, c2, c3, c4⟩ := c
  obtain ⟨d0, d1, d2, d3, d4⟩ := d
  dsimp only at hpc hps hdk
  obtain ⟨rfl, h1, h2, rfl, rfl⟩ := hdk
  subst h1 h2
  clear hpc hps
  unfold cmdV at HCMD HENC ⊢
  dsimp only at HCMD HENC ⊢
  go_enter Try.func5, Try.ntmps5
  go_wp2_with fail
  refine (HCMD.out _).mono ?_
  rintro e w1 ⟨rfl, hb1⟩
  have hb1' := Lib.hid (((Below.refl w.heap.size w).alloc (Nat.le_refl _) _).trans (hb1.mono (by simp)))
  have s1 := hb1'.out.size
  have hx1 : w1.heap[w.heap.size]? = some (.cells #[.int .i64 x0, .int .i64 x1, .int .i64 x2, .int .i64 x3, .int .i64 x4] 28 (0, 0)) := (hb1.block _ (by simp)).trans (heapNew _ _)
  have f2 : ∀ o : Obj, (w1.alloc o).cell? ⟨w.heap.size, 2, none⟩ = some (.int .i64 x2) := fun o => cellAt ((heapOld w1 o _ (lt_of_heap hx1)).trans hx1) 2 rfl
  have f1 : ∀ o : Obj, (w1.alloc o).cell? ⟨w.heap.size, 1, none⟩ = some (.int .i64 x1) := fun o => cellAt ((heapOld w1 o _ (lt_of_heap hx1)).trans hx1) 1 rfl
  clear hb1 hx1
  go_wp2_with fail
  refine (HENC.out _).mono ?_
  rintro e w2 ⟨v2, rfl, ho2, hb2⟩
  have hx2 : w2.heap[w1.heap.size]? = some (.cells #[.int .i64 d0, .int .i64 d1, .int .i64 d2, .int .i64 d3, .int .i64 d4] 29 (0, 0)) := (hb2.block _ (by simp)).trans (heapNew _ _)
  have hB2 := Lib.hid (hb1'.out.trans (((Below.refl _ _).alloc (Nat.le_refl _) _).mono s1 |>.trans (hb2.mono (by simp; omega))))
  have hs2 : w1.heap.size + 1 ≤ w2.heap.size := by have := hb2.size; simpa using this
  have HO2 := Lib.hid (ho2.mono (base' := w1.heap.size) (by simp))
  have HX2 := Lib.hid hx2
  clear ho2 hb2 hx2
  obtain ⟨a2, cc2, hv2, hcap2, hcm2⟩ := HO2.out.rd.sliceN 20 HL.out
  subst hv2
  go_wp2_with fail
  refine (Decode_any _ _ _ HO2.out.rd).mono ?_
  rintro e w3 ⟨rfl, hb3⟩
  rw [HDEC.out]
  have HX3 := Lib.hid ((hb3.block _ (by omega)).trans HX2.out)
  have hB3 := Lib.hid (hB2.out.trans (hb3.mono hB2.out.size))
  have hR3 := Lib.hid (HO2.out.rd.stay hb3)
  have hs3 : w1.heap.size + 1 ≤ w3.heap.size := by have := hb3.size; omega
  clear hb3
  have n0 : ∀ W : World, Rd (W.alloc (.cells #[.int .u8 0] 5)) (.slice (some ⟨W.heap.size, 0, none⟩) 1 1) [0] := fun W => newB W 0 0 rfl
  have N0 := Lib.hid n0
  clear n0
  unfold cmdV
  dsimp only
  go_wp2_with (first
    | (at_builtin; refine apB rfl (.const (.slice none 0 0)) (.tmp 34) rfl (w3.heap.size + 1) (.slice none 0 0) _ [] l rfl (Own.nil _ _) rfl (hR3.out.alloc _) (by rw [HL.out]; decide) (by simp) ?_; intro v4 w4 hown4 hg4; have HO4 := Lib.hid hown4; have HG4 := Lib.hid hg4; clear hown4 hg4)
    | (at_builtin; refine apB rfl (.tmp 35) (.tmp 36) rfl (w3.heap.size + 1) v4 _ ([] ++ l) [0] rfl (HO4.out.alloc _) rfl (N0.out _) (by simp [HL.out]) (by have := HG4.out.size; simp at this ⊢; omega) ?_; intro v5 w5 hown5 hg5; have HO5 := Lib.hid hown5; have HG5 := Lib.hid hg5; clear hown5 hg5))
  refine (Decode_any _ _ _ HO5.out.rd).mono ?_
  rintro e w6 ⟨rfl, hb6⟩
  have hd2 : decC ([] ++ l ++ [0]) = (Cmd.zero, 1) := by rw [decC, if_pos (by simp [HL.out])]
  rw [hd2]
  have B5 : Below (w3.heap.size + 1) (w3.alloc (.cells #[.int .i64 d0, .int .i64 d1, .int .i64 d2, .int .i64 d3, .int .i64 d4] 29)) w6 := by
    have b4 : Below (w3.heap.size + 1) (w3.alloc (.cells #[.int .i64 d0, .int .i64 d1, .int .i64 d2, .int .i64 d3, .int .i64 d4] 29)) w4 := (Below.refl _ _).grown HG4.out (by simp) (fun k hk => by cases hk)
    have s4 : w3.heap.size + 1 ≤ w4.heap.size := by have := b4.size; simpa using this
    have b5 := (b4.alloc s4 _).grown HG5.out (by simp; omega) (fun k hk => (HO4.out.lt k hk).1)
    exact b5.trans (hb6.mono (by have := b5.size; simp at this; omega))
  have z8 : w6.heap[w3.heap.size]? = some (.cells #[.int .i64 d0, .int .i64 d1, .int .i64 d2, .int .i64 d3, .int .i64 d4] 29 (0, 0)) := (B5.block _ (by omega)).trans (heapNew _ _)
  have z5 : w6.heap[w1.heap.size]? = some (.cells #[.int .i64 d0, .int .i64 d1, .int .i64 d2, .int .i64 d3, .int .i64 d4] 29 (0, 0)) := (B5.block _ (by omega)).trans ((heapOld _ _ _ (by omega)).trans HX3.out)
  have hB6 := Lib.hid (hB3.out.trans (((Below.refl _ _).alloc (Nat.le_refl _) _).mono hB3.out.size |>.trans (B5.mono (by have := hB3.out.size; omega))))
  have k80 : ∀ o : Obj, (w6.alloc o).cell? ⟨w3.heap.size, 0, none⟩ = some (.int .i64 d0) := fun o => cellAt ((heapOld w6 o _ (lt_of_heap z8)).trans z8) 0 rfl
  have k81 : ∀ o : Obj, (w6.alloc o).cell? ⟨w3.heap.size, 1, none⟩ = some (.int .i64 d1) := fun o => cellAt ((heapOld w6 o _ (lt_of_heap z8)).trans z8) 1 rfl
  have k82 : ∀ o : Obj, (w6.alloc o).cell? ⟨w3.heap.size, 2, none⟩ = some (.int .i64 d2) := fun o => cellAt ((heapOld w6 o _ (lt_of_heap z8)).trans z8) 2 rfl
  have k83 : ∀ o : Obj, (w6.alloc o).cell? ⟨w3.heap.size, 3, none⟩ = some (.int .i64 d3) := fun o => cellAt ((heapOld w6 o _ (lt_of_heap z8)).trans z8) 3 rfl
  have k84 : ∀ o : Obj, (w6.alloc o).cell? ⟨w3.heap.size, 4, none⟩ = some (.int .i64 d4) := fun o => cellAt ((heapOld w6 o _ (lt_of_heap z8)).trans z8) 4 rfl
  have k50 : ∀ o : Obj, (w6.alloc o).cell? ⟨w1.heap.size, 0, none⟩ = some (.int .i64 d0) := fun o => cellAt ((heapOld w6 o _ (lt_of_heap z5)).trans z5) 0 rfl
  have k51 : ∀ o : Obj, (w6.alloc o).cell? ⟨w1.heap.size, 1, none⟩ = some (.int .i64 d1) := fun o => cellAt ((heapOld w6 o _ (lt_of_heap z5)).trans z5) 1 rfl
  have k52 : ∀ o : Obj, (w6.alloc o).cell? ⟨w1.heap.size, 2, none⟩ = some (.int .i64 d2) := fun o => cellAt ((heapOld w6 o _ (lt_of_heap z5)).trans z5) 2 rfl
  have k53 : ∀ o : Obj, (w6.alloc o).cell? ⟨w1.heap.size, 3, none⟩ = some (.int .i64 d3) := fun o => cellAt ((heapOld w6 o _ (lt_of_heap z5)).trans z5) 3 rfl
  have k54 : ∀ o : Obj, (w6.alloc o).cell? ⟨w1.heap.size, 4, none⟩ = some (.int .i64 d4) := fun o => cellAt ((heapOld w6 o _ (lt_of_heap z5)).trans z5) 4 rfl
  clear B5 hd2 hb6 f1 f2
  unfold cmdV
  dsimp only [Cmd.zero]
  go_wp2
  go_ret
  exact ⟨rfl, hB6.out.alloc (by have := hB6.out.size; omega) _⟩

set_option maxRecDepth 100000 in
set_option maxHeartbeats 1000000 in
theorem back_far (x : Cmd) (w : World) (hx : WishOk x) :
    Calls Try.prog 5 #[cmdV x, .bool true] w fun e w' => e = .returned (.bool true) ∧ Below w.heap.size w w' := by
  have HX := Lib.hid hx
  obtain ⟨c, hc⟩ : ∃ c, c = cmdOf x := ⟨_, rfl⟩
  obtain ⟨d, hd⟩ : ∃ d, d = cmdFar x := ⟨_, rfl⟩
  have HC := Lib.hid hc
  have HD := Lib.hid hd
  have hck : checkC d = 0 := by rw [hd]; exact cmdFar_check x
  have hdec : decC (encC d) = (d, 0) := decC_encC d hck (fld_nonneg d hck)
  have HCK := Lib.hid hck
  have HDEC := Lib.hid hdec
  have hcmd := fun w => Command_any x w HX.out
  rw [← HC.out] at hcmd
  have HCMD := Lib.hid hcmd
  have henc := fun w => Encode_ok d w HCK.out
  have HENC := Lib.hid henc
  have hlen : (encC d).length = 20 := encK_length _ 5
  have HL := Lib.hid hlen
  have hpc := fun w => picked_any x.client 8 w hx.2.1.1 hx.2.1.2 (by decide)
  have hps := fun w => picked_any x.seq 1048577 w hx.2.2.1.1 hx.2.2.1.2 (by decide)
  have hdk : d.kind = c.kind ∧ d.client = pick x.client 8 ∧ d.seq = pick x.seq 1048577 ∧ d.name = c.name ∧ d.value = c.value := by rw [hd, hc]; exact ⟨rfl, rfl, rfl, rfl, rfl⟩
  obtain ⟨l, hl⟩ : ∃ l, l = encC d := ⟨_, rfl⟩
  rw [← hl] at HENC HDEC HL
  have HLL := Lib.hid hl
  clear hc hd hck hdec hcmd henc hlen hx hl
  obtain ⟨x0, x1, x2, x3, x4⟩ := x
  obtain ⟨c0, c1, c2, c3, c4⟩ := c
  obtain ⟨d0, d1, d2, d3, d4⟩ := d
  dsimp only at hpc hps hdk
  obtain ⟨rfl, h1, h2, rfl, rfl⟩ := hdk
  subst h1 h2
  clear hpc hps
  have u1 : -9223372036854775808 ≤ x1 := HX.out.2.1.1
  have u2 : x1 ≤ 9223372036854775807 := HX.out.2.1.2
  have u3 : -9223372036854775808 ≤ x2 := HX.out.2.2.1.1
  have u4 : x2 ≤ 9223372036854775807 := HX.out.2.2.1.2
  unfold cmdV at HCMD HENC ⊢
  dsimp only at HCMD HENC ⊢
  go_enter Try.func5, Try.ntmps5
  go_wp2_with fail
  refine (HCMD.out _).mono ?_
  rintro e w1 ⟨rfl, hb1⟩
  have hb1' := Lib.hid (((Below.refl w.heap.size w).alloc (Nat.le_refl _) _).trans (hb1.mono (by simp)))
  have s1 := hb1'.out.size
  have hx1 : w1.heap[w.heap.size]? = some (.cells #[.int .i64 x0, .int .i64 x1, .int .i64 x2, .int .i64 x3, .int .i64 x4] 28 (0, 0)) := (hb1.block _ (by simp)).trans (heapNew _ _)
  have f2 : ∀ o : Obj, (w1.alloc o).cell? ⟨w.heap.size, 2, none⟩ = some (.int .i64 x2) := fun o => cellAt ((heapOld w1 o _ (lt_of_heap hx1)).trans hx1) 2 rfl
  have f1 : ∀ o : Obj, (w1.alloc o).cell? ⟨w.heap.size, 1, none⟩ = some (.int .i64 x1) := fun o => cellAt ((heapOld w1 o _ (lt_of_heap hx1)).trans hx1) 1 rfl
  clear hb1 hx1
  go_wp2_with (go_at_call 15; refine (picked_any _ _ _ (by assumption) (by assumption) (by decide)).mono ?_; rintro e w' ⟨rfl, rfl⟩)
  refine (HENC.out _).mono ?_
  rintro e w2 ⟨v2, rfl, ho2, hb2⟩
  have hx2 : w2.heap[w1.heap.size]? = some (.cells #[.int .i64 d0, .int .i64 (pick x1 8), .int .i64 (pick x2 1048577), .int .i64 d3, .int .i64 d4] 29 (0, 0)) := (hb2.block _ (by simp)).trans (heapNew _ _)
  have hB2 := Lib.hid (hb1'.out.trans (((Below.refl _ _).alloc (Nat.le_refl _) _).mono s1 |>.trans (hb2.mono (by simp; omega))))
  have hs2 : w1.heap.size + 1 ≤ w2.heap.size := by have := hb2.size; simpa using this
  have HO2 := Lib.hid (ho2.mono (base' := w1.heap.size) (by simp))
  have HX2 := Lib.hid hx2
  clear ho2 hb2 hx2
  obtain ⟨a2, cc2, hv2, hcap2, hcm2⟩ := HO2.out.rd.sliceN 20 HL.out
  subst hv2
  go_wp2_with fail
  refine (Decode_any _ _ _ HO2.out.rd).mono ?_
  rintro e w3 ⟨rfl, hb3⟩
  rw [HDEC.out]
  have HX3 := Lib.hid ((hb3.block _ (by omega)).trans HX2.out)
  have hB3 := Lib.hid (hB2.out.trans (hb3.mono hB2.out.size))
  have hR3 := Lib.hid (HO2.out.rd.stay hb3)
  have hs3 : w1.heap.size + 1 ≤ w3.heap.size := by have := hb3.size; omega
  clear hb3
  have n0 : ∀ W : World, Rd (W.alloc (.cells #[.int .u8 0] 5)) (.slice (some ⟨W.heap.size, 0, none⟩) 1 1) [0] := fun W => newB W 0 0 rfl
  have N0 := Lib.hid n0
  clear n0
  unfold cmdV
  dsimp only
  go_wp2_with (first
    | (at_builtin; refine apB rfl (.const (.slice none 0 0)) (.tmp 34) rfl (w3.heap.size + 1) (.slice none 0 0) _ [] l rfl (Own.nil _ _) rfl (hR3.out.alloc _) (by rw [HL.out]; decide) (by simp) ?_; intro v4 w4 hown4 hg4; have HO4 := Lib.hid hown4; have HG4 := Lib.hid hg4; clear hown4 hg4)
    | (at_builtin; refine apB rfl (.tmp 35) (.tmp 36) rfl (w3.heap.size + 1) v4 _ ([] ++ l) [0] rfl (HO4.out.alloc _) rfl (N0.out _) (by simp [HL.out]) (by have := HG4.out.size; simp at this ⊢; omega) ?_; intro v5 w5 hown5 hg5; have HO5 := Lib.hid hown5; have HG5 := Lib.hid hg5; clear hown5 hg5))
  refine (Decode_any _ _ _ HO5.out.rd).mono ?_
  rintro e w6 ⟨rfl, hb6⟩
  have hd2 : decC ([] ++ l ++ [0]) = (Cmd.zero, 1) := by rw [decC, if_pos (by simp [HL.out])]
  rw [hd2]
  have B5 : Below (w3.heap.size + 1) (w3.alloc (.cells #[.int .i64 d0, .int .i64 (pick x1 8), .int .i64 (pick x2 1048577), .int .i64 d3, .int .i64 d4] 29)) w6 := by
    have b4 : Below (w3.heap.size + 1) (w3.alloc (.cells #[.int .i64 d0, .int .i64 (pick x1 8), .int .i64 (pick x2 1048577), .int .i64 d3, .int .i64 d4] 29)) w4 := (Below.refl _ _).grown HG4.out (by simp) (fun k hk => by cases hk)
    have s4 : w3.heap.size + 1 ≤ w4.heap.size := by have := b4.size; simpa using this
    have b5 := (b4.alloc s4 _).grown HG5.out (by simp; omega) (fun k hk => (HO4.out.lt k hk).1)
    exact b5.trans (hb6.mono (by have := b5.size; simp at this; omega))
  have z8 : w6.heap[w3.heap.size]? = some (.cells #[.int .i64 d0, .int .i64 (pick x1 8), .int .i64 (pick x2 1048577), .int .i64 d3, .int .i64 d4] 29 (0, 0)) := (B5.block _ (by omega)).trans (heapNew _ _)
  have z5 : w6.heap[w1.heap.size]? = some (.cells #[.int .i64 d0, .int .i64 (pick x1 8), .int .i64 (pick x2 1048577), .int .i64 d3, .int .i64 d4] 29 (0, 0)) := (B5.block _ (by omega)).trans ((heapOld _ _ _ (by omega)).trans HX3.out)
  have hB6 := Lib.hid (hB3.out.trans (((Below.refl _ _).alloc (Nat.le_refl _) _).mono hB3.out.size |>.trans (B5.mono (by have := hB3.out.size; omega))))
  have k80 : ∀ o : Obj, (w6.alloc o).cell? ⟨w3.heap.size, 0, none⟩ = some (.int .i64 d0) := fun o => cellAt ((heapOld w6 o _ (lt_of_heap z8)).trans z8) 0 rfl
  have k81 : ∀ o : Obj, (w6.alloc o).cell? ⟨w3.heap.size, 1, none⟩ = some (.int .i64 (pick x1 8)) := fun o => cellAt ((heapOld w6 o _ (lt_of_heap z8)).trans z8) 1 rfl
  have k82 : ∀ o : Obj, (w6.alloc o).cell? ⟨w3.heap.size, 2, none⟩ = some (.int .i64 (pick x2 1048577)) := fun o => cellAt ((heapOld w6 o _ (lt_of_heap z8)).trans z8) 2 rfl
  have k83 : ∀ o : Obj, (w6.alloc o).cell? ⟨w3.heap.size, 3, none⟩ = some (.int .i64 d3) := fun o => cellAt ((heapOld w6 o _ (lt_of_heap z8)).trans z8) 3 rfl
  have k84 : ∀ o : Obj, (w6.alloc o).cell? ⟨w3.heap.size, 4, none⟩ = some (.int .i64 d4) := fun o => cellAt ((heapOld w6 o _ (lt_of_heap z8)).trans z8) 4 rfl
  have k50 : ∀ o : Obj, (w6.alloc o).cell? ⟨w1.heap.size, 0, none⟩ = some (.int .i64 d0) := fun o => cellAt ((heapOld w6 o _ (lt_of_heap z5)).trans z5) 0 rfl
  have k51 : ∀ o : Obj, (w6.alloc o).cell? ⟨w1.heap.size, 1, none⟩ = some (.int .i64 (pick x1 8)) := fun o => cellAt ((heapOld w6 o _ (lt_of_heap z5)).trans z5) 1 rfl
  have k52 : ∀ o : Obj, (w6.alloc o).cell? ⟨w1.heap.size, 2, none⟩ = some (.int .i64 (pick x2 1048577)) := fun o => cellAt ((heapOld w6 o _ (lt_of_heap z5)).trans z5) 2 rfl
  have k53 : ∀ o : Obj, (w6.alloc o).cell? ⟨w1.heap.size, 3, none⟩ = some (.int .i64 d3) := fun o => cellAt ((heapOld w6 o _ (lt_of_heap z5)).trans z5) 3 rfl
  have k54 : ∀ o : Obj, (w6.alloc o).cell? ⟨w1.heap.size, 4, none⟩ = some (.int .i64 d4) := fun o => cellAt ((heapOld w6 o _ (lt_of_heap z5)).trans z5) 4 rfl
  clear B5 hd2 hb6 f1 f2
  unfold cmdV
  dsimp only [Cmd.zero]
  go_wp2
  go_ret
  exact ⟨rfl, hB6.out.alloc (by have := hB6.out.size; omega) _⟩

theorem walk_CommandBack (v : Value) (x : Cmd) (b : Value) (far : Bool) (w : World) (hv : IsWish v x) (hb : IsBool b far) :
    Calls Try.prog 5 #[v, b] w fun e w' => e = .returned (.bool true) ∧ Below w.heap.size w w' := by
  obtain ⟨rfl, hx⟩ := hv
  obtain rfl := hb
  cases far
  · exact back_near x w hx
  · exact back_far x w hx
end Go.Proofs.Ytdjnbnbhpjiicaa
