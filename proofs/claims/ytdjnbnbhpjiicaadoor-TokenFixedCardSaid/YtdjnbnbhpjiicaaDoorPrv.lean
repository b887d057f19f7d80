/-
  The walk of order.Prove.
-/
import Derived.Test.YtdjnbnbhpjiicaaDoorGra
import Derived.Test.YtdjnbnbhpjiicaaDoorRes
import Derived.Deep.RegionHeld3
import Derived.Deep.RegionWith
set_option linter.unusedVariables false
set_option linter.unusedSimpArgs false
namespace Go.Proofs.YtdjnbnbhpjiicaaDoor
open Go.RowKit Go.Con

set_option maxHeartbeats 1000000 in
theorem Prove_short1 (a b : Option Addr) (kl kc bl bc : Nat) (w : World) (h : kl ≠ 32) :
    Calls Tryd.prog 35 #[.slice a kl kc, .slice b bl bc] w fun e w' => e = .returned (.tuple #[tokV Con.Tok.zero, .int .i64 1]) ∧ Below w.heap.size w w' := by
  have hb : ((kl : Int) != 32) = true := by simpa using (by omega : (kl : Int) ≠ 32)
  clear h
  go_enter Tryd.func35, Tryd.ntmps35
  go_wp2
  refine bodyPost_ret (v := .tuple #[tokV Con.Tok.zero, .int .i64 1]) ?_ rfl ⟨rfl, ?_⟩
  · simp [results, Tryd.results35, go_sem, tokV, Con.Tok.zero]
  · exact (Below.refl _ _).alloc (Nat.le_refl _) _
set_option maxHeartbeats 1000000 in
theorem Prove_short2 (a b : Option Addr) (kc bl bc : Nat) (w : World) (h : bl ≠ 22) :
    Calls Tryd.prog 35 #[.slice a 32 kc, .slice b bl bc] w fun e w' => e = .returned (.tuple #[tokV Con.Tok.zero, .int .i64 1]) ∧ Below w.heap.size w w' := by
  have hb : ((bl : Int) != 22) = true := by simpa using (by omega : (bl : Int) ≠ 22)
  clear h
  go_enter Tryd.func35, Tryd.ntmps35
  go_wp2
  refine bodyPost_ret (v := .tuple #[tokV Con.Tok.zero, .int .i64 1]) ?_ rfl ⟨rfl, ?_⟩
  · simp [results, Tryd.results35, go_sem, tokV, Con.Tok.zero]
  · exact (Below.refl _ _).alloc (Nat.le_refl _) _

theorem wr8 (y : UInt8) : IntKind.i64.wrap (y.toNat : Int) = (y.toNat : Int) := by
  have := y.toNat_lt; exact IntWalk.i64_in _ (by omega)
theorem four64w (x0 x1 x2 x3 : UInt8) :
    bits .or .i64 (bits .or .i64 (bits .or .i64 (IntKind.i64.wrap ((x0.toNat : Int) * 16777216)) (IntKind.i64.wrap ((x1.toNat : Int) * 65536))) (IntKind.i64.wrap ((x2.toNat : Int) * 256))) (x3.toNat : Int)
      = ((x0.toNat * 16777216 + x1.toNat * 65536 + x2.toNat * 256 + x3.toNat : Nat) : Int) := by
  have h := four64 x0 x1 x2 x3
  have h0 := x0.toNat_lt
  have h1 := x1.toNat_lt
  have h2 := x2.toNat_lt
  have h3 := x3.toNat_lt
  have e (n : Int) (h : 0 ≤ n ∧ n < 9223372036854775808) : wrap64 n = IntKind.i64.wrap n := (IntWalk.wrap64_in n (by omega)).trans (IntWalk.i64_in n (by omega)).symm
  rw [e (x0.toNat : Int) (by omega), e (x1.toNat : Int) (by omega), e (x2.toNat : Int) (by omega), e (x3.toNat : Int) (by omega), wr8, wr8, wr8, wr8, e ((x0.toNat : Int) * 16777216) (by omega), e ((x1.toNat : Int) * 65536) (by omega), e ((x2.toNat : Int) * 256) (by omega)] at h
  exact h
theorem set3 {w : World} {b : Nat} {e : TypeId} {c0 c1 c2 v0 v1 v2 : Value} (h : w.heap[b]? = some (.cells #[c0, c1, c2] e (0, 0))) :
    (((w.setCell ⟨b, 0, none⟩ v0).setCell ⟨b, 1, none⟩ v1).setCell ⟨b, 2, none⟩ v2).heap[b]? = some (.cells #[v0, v1, v2] e (0, 0)) :=
  heapSet (o := 2) (heapSet (o := 1) (heapSet (o := 0) h v0) v1) v2
theorem set3_below {a w : World} {b B : Nat} {v0 v1 v2 : Value} (h : Below B a w) (hb : B ≤ b) :
    Below B a (((w.setCell ⟨b, 0, none⟩ v0).setCell ⟨b, 1, none⟩ v1).setCell ⟨b, 2, none⟩ v2) := ((h.setCell hb _).setCell hb _).setCell hb _
set_option maxRecDepth 100000 in
set_option maxHeartbeats 2000000 in
theorem Prove_full (kv bv : Value) (k l : List UInt8) (w : World) (hkv : Rd w kv k) (hbv : Rd w bv l) (hkl : k.length = 32) (hl : l.length = 22) (hk : Kn w) :
    Calls Tryd.prog 35 #[kv, bv] w fun e w' => e = .returned (.tuple #[tokV (proveC k l).1, .int .i64 (proveC k l).2]) ∧ Below w.heap.size w w' := by
  obtain ⟨kb, ko, kc, rfl, _, _⟩ := hkv.shapeN 32 hkl (by decide)
  obtain ⟨bb, bo, bc, rfl, hbc, _⟩ := hbv.shapeN 22 hl (by decide)
  have HKV := Lib.hid hkv
  have HBV := Lib.hid hbv
  have HK := Lib.hid hk
  have HKL := Lib.hid hkl
  have HL := Lib.hid hl
  have h6 : (l.take 6).length = 6 := by rw [List.length_take, hl]; rfl
  have H6 := Lib.hid h6
  have hbc6 : bc ≠ 6 := by omega
  have hbi : (6 : Int) ≤ (bc : Int) := by omega
  have hbi2 : (22 : Int) ≤ (bc : Int) := by omega
  obtain ⟨t, ht⟩ : ∃ t, t = (proofB k (l.take 6) == l.drop 6) := ⟨_, rfl⟩
  have HT := Lib.hid ht
  have hsm := fun a b w h1 h2 => shaSame_any a b (proofB k (l.take 6)) (l.drop 6) w h1 h2
  rw [← ht] at hsm
  have HSM := Lib.hid hsm
  have hcb : ∀ W, Below w.heap.size w W → ∀ i, i < 22 → W.cell? ⟨bb, bo + i, none⟩ = some (.int .u8 (l.getD i 0).toNat) := by
    intro W hW i hi
    obtain ⟨a', c', e, _, _, _, h⟩ := hbv.stay hW
    obtain ⟨b', off, e4, h2⟩ := h (by intro h; rw [h] at hl; cases hl)
    injection e with e1 e2 e3
    subst e1
    injection e4 with e4
    injection e4 with e5 e6
    subst e5 e6
    exact h2 i (by rw [hl]; exact hi)
  have HCB := Lib.hid hcb
  have hpc : proveC k l = if t = false then (Con.Tok.zero, 6) else if tokB (rawTok l) = true then (rawTok l, 0) else (Con.Tok.zero, 2) := by
    unfold proveC
    rw [if_neg (by rw [hl]; simp), ht]
    by_cases e : proofB k (l.take 6) = l.drop 6
    · have e' : (proofB k (l.take 6) == l.drop 6) = true := by simpa using e
      rw [if_neg (show ¬ (proofB k (l.take 6) ≠ l.drop 6) from fun h => h e), e']
      simp
    · have e' : (proofB k (l.take 6) == l.drop 6) = false := by simpa using e
      rw [if_pos e, e', if_pos rfl]
  have HPC := Lib.hid hpc
  clear hkv hbv hk hkl hl h6 ht hsm hcb hpc
  go_enter Tryd.func35, Tryd.ntmps35
  go_wp2_with fail
  have ba : Below w.heap.size w (w.alloc (.cells #[.int .i64 0, .int .i64 0, .int .i64 0] 28)).drew := ((Below.refl _ _).alloc (Nat.le_refl _) _).drew
  have BA := Lib.hid ba
  clear ba
  go_region_with (first
    | (go_at_call 48; refine (proof_any _ _ k (l.take 6) _ (HKV.out.stay BA.out) ((HBV.out.stay BA.out).pre 6 (by rw [HL.out]; decide)) (by rw [HKL.out]; decide) (by rw [H6.out]; decide) (HK.out.stay BA.out)).mono ?_; rintro e w1 ⟨v1, rfl, hr1, ho1, hb1⟩; have R1 := Lib.hid hr1; have B1 := Lib.hid hb1; clear hr1 ho1 hb1)
    | (go_at_call 29; refine (HSM.out _ _ _ R1.out (((HBV.out.stay BA.out).stay B1.out).tail 6 16 (by decide) rfl)).mono ?_; rintro e w2 ⟨rfl, hd2⟩))
  all_goals
    have hb2 : Below w.heap.size w w2 := by obtain ⟨q, rfl⟩ := hd2; exact below_drewN (BA.out.trans (B1.out.mono BA.out.size)) q
    have hx2 : w2.heap[w.heap.size]? = some (.cells #[.int .i64 0, .int .i64 0, .int .i64 0] 28 (0, 0)) := by
      obtain ⟨q, rfl⟩ := hd2
      exact (B1.out.block w.heap.size (by simp)).trans (heapNew w _)
    have B2 := Lib.hid hb2
    have X2 := Lib.hid hx2
    have z0 := cellAt hx2 0 rfl
    have z1 := cellAt hx2 1 rfl
    have z2 := cellAt hx2 2 rfl
    have zf := freeAt hx2
    clear hd2 hb2 hx2 R1 B1
    by_cases htt : t = false
    · have hpf : proveC k l = (Con.Tok.zero, 6) := by rw [HPC.out, if_pos htt]
      have HPF := Lib.hid hpf
      subst htt
      clear hpf
      go_wp2
      have hW := set3 (w := w2) (b := w.heap.size) (e := 28) (v0 := .int .i64 0) (v1 := .int .i64 0) (v2 := .int .i64 0) X2.out
      have hb := set3_below (b := w.heap.size) (B := w.heap.size) (v0 := .int .i64 0) (v1 := .int .i64 0) (v2 := .int .i64 0) B2.out (Nat.le_refl _)
      generalize hWe : World.setCell _ _ _ = W
      rw [hWe] at hW hb
      have k0 := cellAt hW 0 rfl
      have k1 := cellAt hW 1 rfl
      have k2 := cellAt hW 2 rfl
      clear hW hWe z0 z1 z2 zf
      refine bodyPost_ret (v := .tuple #[tokV Con.Tok.zero, .int .i64 6]) ?_ rfl ⟨by rw [HPF.out], hb⟩
      simp [results, Tryd.results35, go_sem, tokV, Con.Tok.zero, k0, k1, k2]
    · have htt' : t = true := by simpa using htt
      have hpt : proveC k l = if tokB (rawTok l) = true then (rawTok l, 0) else (Con.Tok.zero, 2) := by rw [HPC.out, if_neg htt]
      subst htt'
      have HPT := Lib.hid hpt
      clear htt hpt
      have q0 : w2.cell? ⟨bb, bo, none⟩ = _ := HCB.out w2 B2.out 0 (by decide)
      have q1 := HCB.out w2 B2.out 1 (by decide)
      have q2 := HCB.out w2 B2.out 2 (by decide)
      have q3 := HCB.out w2 B2.out 3 (by decide)
      have q4 := HCB.out w2 B2.out 4 (by decide)
      have q5 := HCB.out w2 B2.out 5 (by decide)
      have htk := fun w => token_any (rawTok l) w
      unfold rawTok tokV at htk
      dsimp only at htk
      obtain ⟨y0, hy0⟩ : ∃ y, y = l.getD 0 0 := ⟨_, rfl⟩
      obtain ⟨y1, hy1⟩ : ∃ y, y = l.getD 1 0 := ⟨_, rfl⟩
      obtain ⟨y2, hy2⟩ : ∃ y, y = l.getD 2 0 := ⟨_, rfl⟩
      obtain ⟨y3, hy3⟩ : ∃ y, y = l.getD 3 0 := ⟨_, rfl⟩
      obtain ⟨y4, hy4⟩ : ∃ y, y = l.getD 4 0 := ⟨_, rfl⟩
      obtain ⟨y5, hy5⟩ : ∃ y, y = l.getD 5 0 := ⟨_, rfl⟩
      rw [← hy0] at q0
      rw [← hy1] at q1
      rw [← hy2] at q2
      rw [← hy3] at q3
      rw [← hy4] at q4
      rw [← hy5] at q5
      rw [← hy0, ← hy1, ← hy2, ← hy3, ← hy4, ← hy5] at htk
      have HTK := Lib.hid htk
      have HY := Lib.hid (show rawTok l = ⟨y0.toNat, y1.toNat, ((y2.toNat * 16777216 + y3.toNat * 65536 + y4.toNat * 256 + y5.toNat : Nat) : Int)⟩ by unfold rawTok; rw [hy0, hy1, hy2, hy3, hy4, hy5])
      clear htk hy0 hy1 hy2 hy3 hy4 hy5
      go_wp2_with fail
      go_region_held3 (fun W => W.cell? ⟨bb, bo, none⟩ = some (.int .u8 y0.toNat) ∧ W.cell? ⟨bb, bo + 1, none⟩ = some (.int .u8 y1.toNat) ∧ W.cell? ⟨bb, bo + 2, none⟩ = some (.int .u8 y2.toNat) ∧ W.cell? ⟨bb, bo + 3, none⟩ = some (.int .u8 y3.toNat) ∧ W.cell? ⟨bb, bo + 4, none⟩ = some (.int .u8 y4.toNat) ∧ W.cell? ⟨bb, bo + 5, none⟩ = some (.int .u8 y5.toNat)) (go_keep) (fail)
      all_goals
        rw [wr8 y0, wr8 y1, wr8 y2, wr8 y3, wr8 y4, wr8 y5, four64w]
        obtain ⟨N, hN⟩ : ∃ N : Nat, N = y2.toNat * 16777216 + y3.toNat * 65536 + y4.toNat * 256 + y5.toNat := ⟨_, rfl⟩
        rw [← hN] at HTK HY ⊢
        clear hN q0 q1 q2 q3 q4 q5
        have hx3 : (w2.alloc (.cells #[.int .i64 y0.toNat, .int .i64 y1.toNat, .int .i64 N] 28)).drew.heap[w2.heap.size]? = some (.cells #[.int .i64 y0.toNat, .int .i64 y1.toNat, .int .i64 N] 28 (0, 0)) := heapNew w2 _
        have hx3b : (w2.alloc (.cells #[.int .i64 y0.toNat, .int .i64 y1.toNat, .int .i64 N] 28)).drew.heap[w.heap.size]? = some (.cells #[.int .i64 0, .int .i64 0, .int .i64 0] 28 (0, 0)) := (heapOld w2 _ _ (lt_of_heap X2.out)).trans X2.out
        have hb3 : Below w.heap.size w (w2.alloc (.cells #[.int .i64 y0.toNat, .int .i64 y1.toNat, .int .i64 N] 28)).drew := (B2.out.alloc B2.out.size _).drew
        generalize hW3 : (w2.alloc (.cells #[.int .i64 y0.toNat, .int .i64 y1.toNat, .int .i64 N] 28)).drew = w3 at hx3 hx3b hb3 ⊢
        clear hW3 z0 z1 z2 zf
        have X3 := Lib.hid hx3
        have X3b := Lib.hid hx3b
        have B3 := Lib.hid hb3
        have j0 := cellAt hx3 0 rfl
        have j1 := cellAt hx3 1 rfl
        have j2 := cellAt hx3 2 rfl
        clear hx3 hx3b hb3
        go_wp2_with fail
        refine (HTK.out _).mono ?_
        rintro e w4 ⟨rfl, hb4⟩
        have X4 := Lib.hid ((hb4.block _ (lt_of_heap X3.out)).trans X3.out)
        have X4b := Lib.hid ((hb4.block _ (lt_of_heap X3b.out)).trans X3b.out)
        have B4 := Lib.hid (B3.out.trans (hb4.mono B3.out.size))
        have r0 := cellAt X4.out 0 rfl
        have r1 := cellAt X4.out 1 rfl
        have r2 := cellAt X4.out 2 rfl
        have z0 := cellAt X4b.out 0 rfl
        have z1 := cellAt X4b.out 1 rfl
        have z2 := cellAt X4b.out 2 rfl
        have zf := freeAt X4b.out
        clear hb4 j0 j1 j2
        by_cases htb : tokB (rawTok l) = true
        · have hpf : proveC k l = (rawTok l, 0) := by rw [HPT.out, if_pos htb]
          have HPF := Lib.hid hpf
          rw [HY.out] at htb
          rw [if_pos htb]
          clear hpf
          go_wp2
          have hW := set3 (w := w4) (b := w.heap.size) (e := 28) (v0 := .int .i64 y0.toNat) (v1 := .int .i64 y1.toNat) (v2 := .int .i64 N) X4b.out
          have hb := set3_below (b := w.heap.size) (B := w.heap.size) (v0 := .int .i64 y0.toNat) (v1 := .int .i64 y1.toNat) (v2 := .int .i64 N) B4.out (Nat.le_refl _)
          generalize hWe : World.setCell _ _ _ = W
          rw [hWe] at hW hb
          have k0 := cellAt hW 0 rfl
          have k1 := cellAt hW 1 rfl
          have k2 := cellAt hW 2 rfl
          clear hW hWe z0 z1 z2 zf r0 r1 r2
          refine bodyPost_ret (v := .tuple #[tokV ⟨y0.toNat, y1.toNat, N⟩, .int .i64 0]) ?_ rfl ⟨by rw [HPF.out, HY.out], hb⟩
          simp [results, Tryd.results35, go_sem, tokV, k0, k1, k2]
        · have hpf : proveC k l = (Con.Tok.zero, 2) := by rw [HPT.out, if_neg htb]
          have HPF := Lib.hid hpf
          rw [HY.out] at htb
          rw [if_neg htb]
          clear hpf
          go_wp2
          have hW := set3 (w := w4) (b := w.heap.size) (e := 28) (v0 := .int .i64 0) (v1 := .int .i64 0) (v2 := .int .i64 0) X4b.out
          have hb := set3_below (b := w.heap.size) (B := w.heap.size) (v0 := .int .i64 0) (v1 := .int .i64 0) (v2 := .int .i64 0) B4.out (Nat.le_refl _)
          generalize hWe : World.setCell _ _ _ = W
          rw [hWe] at hW hb
          have k0 := cellAt hW 0 rfl
          have k1 := cellAt hW 1 rfl
          have k2 := cellAt hW 2 rfl
          clear hW hWe z0 z1 z2 zf r0 r1 r2
          refine bodyPost_ret (v := .tuple #[tokV Con.Tok.zero, .int .i64 2]) ?_ rfl ⟨by rw [HPF.out], hb⟩
          simp [results, Tryd.results35, go_sem, tokV, Con.Tok.zero, k0, k1, k2]
theorem Prove_any (kv bv : Value) (k l : List UInt8) (w : World) (hkv : Rd w kv k) (hbv : Rd w bv l) (hkl : k.length = 32) (hk : Kn w) :
    Calls Tryd.prog 35 #[kv, bv] w fun e w' => e = .returned (.tuple #[tokV (proveC k l).1, .int .i64 (proveC k l).2]) ∧ Below w.heap.size w w' := by
  by_cases hl : l.length = 22
  · exact Prove_full kv bv k l w hkv hbv hkl hl hk
  · obtain ⟨a, c, rfl, _, _⟩ := hkv.sliceN 32 hkl
    obtain ⟨b, d, rfl, _, _⟩ := hbv.slice
    have e : proveC k l = (Con.Tok.zero, 1) := by unfold proveC; rw [if_pos hl]
    rw [e]
    exact Prove_short2 a b c l.length d w hl
end Go.Proofs.YtdjnbnbhpjiicaaDoor
