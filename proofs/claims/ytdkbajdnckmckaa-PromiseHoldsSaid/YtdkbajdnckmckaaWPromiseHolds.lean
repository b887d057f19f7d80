/-
  The walk of PromiseHolds.
-/
import Derived.Test.YtdkbajdnckmckaaBlw
set_option linter.unusedVariables false
set_option linter.unusedSimpArgs false
namespace Go.Proofs.Ytdkbajdnckmckaa
open Go.RowKit Go.Con
set_option maxRecDepth 100000 in
set_option maxHeartbeats 4000000 in
theorem walk_PromiseHolds (v : Value) (l : List Cmd) (u1 : Value) (x : Int) (u2 : Value) (y : Int) (w : World) (hv : RdWishes w v l) (hu1 : IsInt u1 x) (hu2 : IsInt u2 y) :
    Calls Try.prog 4 #[v, u1, u2] w fun e w' => e = .returned (.bool true) ∧ Below w.heap.size w w' := by
  obtain ⟨rfl, hx1, hx2⟩ := hu1
  obtain ⟨rfl, hy1, hy2⟩ := hu2
  have HV := Lib.hid hv
  obtain ⟨ea, ec, rfl, -⟩ := hv
  obtain ⟨ar, har⟩ : ∃ a, a = pick x 10 := ⟨_, rfl⟩
  have ar0 : 0 ≤ ar := by rw [har]; exact pick_nonneg x 10 (by omega)
  have ar9 : ar < 10 := by rw [har]; exact pick_lt x 10 (by omega)
  obtain ⟨an, han⟩ : ∃ a, a = pick y 5 := ⟨_, rfl⟩
  have an0 : 0 ≤ an := by rw [han]; exact pick_nonneg y 5 (by omega)
  have an5 : an < 5 := by rw [han]; exact pick_lt y 5 (by omega)
  have PR := Lib.hid har.symm
  have PN := Lib.hid han.symm
  have OKB := Lib.hid (show okB (1 + ar, an) = true by unfold okB; simp; omega)
  have hw1 : IntKind.i64.wrap (1 + ar) = 1 + ar := IntWalk.i64_in _ (by omega)
  clear har han
  go_enter Try.func4, Try.ntmps4
  go_upto_region 3 with (first
    | (go_at_call 10; refine (picked_toP _ _ _ _ (by assumption) (by assumption) (by decide) (by assumption)).mono ?_; rintro e _ ⟨rfl, rfl⟩)
    | (go_at_call 13; refine (voted_to _ l _ HV.out).mono ?_; rintro e w1 ⟨pr, pn, va, vc, L, rfl, ho1, hok1, hp1, hl1, hb1⟩; have O1 := Lib.hid ho1; have OK1 := Lib.hid hok1; have P9 := Lib.hid hp1; have B1 := Lib.hid hb1; clear ho1 hok1 hp1 hb1))
  generalize hW : World.alloc _ _ = wA
  have G := alloc2Q hW
  have A7 := Lib.hid (show AccIn wA w1.heap.size pr pn (.slice va L.length vc) from G.1)
  have A9 := Lib.hid (show BalIn wA (w1.heap.size + 1) (1 + ar) an from G.2.1)
  have BA := Lib.hid G.2.2.1
  have VA := Lib.hid (O1.out.votes.stay G.2.2.1)
  clear hW G
  have LEN := Lib.hid (show L.length ≤ 1000 by omega)
  have OKV := Lib.hid (show okV ⟨1, (1 + ar, an), ⟨0, 0, 0, 0, 0⟩⟩ = true from okV_zero (by decide) (by decide) OKB.out)
  obtain ⟨a0, a1, a2⟩ := A7.out.cells
  obtain ⟨b0, b1⟩ := A9.out.cells
  by_cases hlow : cmpB (1 + ar, an) (pr, pn) < 0
  · have LOW := Lib.hid hlow
    have BLW := Lib.hid (decide_eq_true hlow)
    clear hlow
    go_upto_region 4 with (go_at_call 14; refine (Promise_low _ _ _ _ _ L _ VA.out OK1.out OKB.out LEN.out LOW).mono ?_; rintro e w3 ⟨rfl, hb3⟩; have B3 := Lib.hid hb3; clear hb3)
    clear a0 a1 a2 b0 b1
    generalize hW : World.alloc _ _ = wB
    have BB := Lib.hid (show Below wA.heap.size wA wB by rw [← hW]; exact B3.out.alloc B3.out.size _)
    clear hW B3
    obtain ⟨a0, a1, a2⟩ := (A7.out.stay BB.out).cells
    obtain ⟨b0, b1⟩ := (A9.out.stay BB.out).cells
    go_upto_region 5 with (go_at_call 15; refine (Accept_low _ _ _ _ _ _ _ _ _ _ _ L _ (VA.out.stay BB.out) OK1.out OKV.out LEN.out LOW).mono ?_; rintro e w5 ⟨rfl, hb5⟩; have B5 := Lib.hid hb5; clear hb5)
    clear a0 a1 a2 b0 b1
    generalize hW : World.alloc _ _ = wC
    have BC := Lib.hid (show Below wA.heap.size wA wC by rw [← hW]; exact (BB.out.trans (B5.out.mono BB.out.size)).alloc (Nat.le_trans BB.out.size B5.out.size) _)
    clear hW B5
    obtain ⟨a0, a1, a2⟩ := (A7.out.stay BC.out).cells
    obtain ⟨b0, b1⟩ := (A9.out.stay BC.out).cells
    go_wp2_with (go_at_call 16; refine (below_to _ _ _ _ _ _ BLW).mono ?_; rintro e w7 ⟨rfl, hb7⟩; have B7 := Lib.hid hb7; clear hb7)
    go_ret
    exact ⟨rfl, B1.out.trans ((BA.out.trans ((BC.out.trans (B7.out.mono BC.out.size)).mono BA.out.size)).mono B1.out.size)⟩
  · have LOW := Lib.hid (Int.not_lt.1 hlow)
    have BLW := Lib.hid (decide_eq_false hlow)
    clear hlow
    go_upto_region 4 with (go_at_call 14; refine (Promise_high _ _ _ _ _ L _ VA.out OK1.out OKB.out LEN.out LOW).mono ?_; rintro e w3 ⟨sa, sc, ta, tc, rfl, ho3, -, hb3⟩; have B3 := Lib.hid hb3; have O3 := Lib.hid ho3; clear hb3 ho3)
    clear a0 a1 a2 b0 b1
    generalize hW : World.alloc _ _ = wB
    have BB := Lib.hid (show Below wA.heap.size wA wB by rw [← hW]; exact B3.out.alloc B3.out.size _)
    have A10 := Lib.hid (show AccIn wB w3.heap.size (1 + ar) an (.slice sa L.length sc) by rw [← hW]; exact heapNew _ _)
    have VB := Lib.hid (show Votes wB (.slice sa L.length sc) L by rw [← hW]; exact O3.out.votes.stay ((Below.refl _ _).alloc (Nat.le_refl _) _))
    clear hW B3 O3
    obtain ⟨a0, a1, a2⟩ := (A7.out.stay BB.out).cells
    obtain ⟨b0, b1⟩ := (A9.out.stay BB.out).cells
    go_upto_region 5 with (go_at_call 15; refine (Accept_high _ _ _ _ _ _ _ _ _ _ _ L _ (VA.out.stay BB.out) OK1.out OKV.out LEN.out LOW).mono ?_; rintro e w5 ⟨ua, uc, un, -, rfl, -, hb5⟩; have B5 := Lib.hid hb5; clear hb5)
    clear a0 a1 a2 b0 b1
    generalize hW : World.alloc _ _ = wC
    have BBC := Lib.hid (show Below wB.heap.size wB wC by rw [← hW]; exact B5.out.alloc B5.out.size _)
    have BC := Lib.hid (BB.out.trans (BBC.out.mono BB.out.size))
    clear hW B5
    obtain ⟨a0, a1, a2⟩ := (A7.out.stay BC.out).cells
    obtain ⟨b0, b1⟩ := (A9.out.stay BC.out).cells
    have HC := Lib.hid (show (if okA (1 + ar, an) L then (0 : Int) else 5) = 0 by rw [okA_higher OK1.out OKB.out (Int.not_lt.2 LOW.out)]; rfl)
    go_wp2_with (first
      | (go_at_call 16; refine (below_to _ _ _ _ _ _ BLW).mono ?_; rintro e w7 ⟨rfl, hb7⟩; have B7 := Lib.hid hb7; clear hb7; clear a0 a1 a2 b0 b1; obtain ⟨a0, a1, a2⟩ := ((A7.out.stay BC.out).stay B7.out).cells; obtain ⟨b0, b1⟩ := ((A9.out.stay BC.out).stay B7.out).cells; obtain ⟨c0, c1, c2⟩ := ((A10.out.stay BBC.out).stay B7.out).cells)
      | (go_at_call 12; refine (accCheck_to _ _ _ _ L _ (((VB.out.stay BBC.out).stay B7.out).1) HC).mono ?_; rintro e w8 ⟨rfl, hb8⟩; have B8 := Lib.hid hb8; clear hb8))
    go_ret
    exact ⟨rfl, B1.out.trans ((BA.out.trans ((BC.out.trans ((B7.out.trans (B8.out.mono B7.out.size)).mono BC.out.size)).mono BA.out.size)).mono B1.out.size)⟩
end Go.Proofs.Ytdkbajdnckmckaa
