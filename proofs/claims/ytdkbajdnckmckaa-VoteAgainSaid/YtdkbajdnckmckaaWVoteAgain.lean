/-
  The walk of VoteAgain.
-/
import Derived.Test.YtdkbajdnckmckaaSac
set_option linter.unusedVariables false
set_option linter.unusedSimpArgs false
namespace Go.Proofs.Ytdkbajdnckmckaa
open Go.RowKit Go.Con
set_option maxRecDepth 100000 in
set_option maxHeartbeats 4000000 in
theorem walk_VoteAgain (v : Value) (l : List Cmd) (u1 : Value) (x : Int) (w : World) (hv : RdWishes w v l) (hu1 : IsInt u1 x) :
    Calls Try.prog 6 #[v, u1] w fun e w' => e = .returned (.bool true) ∧ Below w.heap.size w w' := by
  obtain ⟨rfl, hx1, hx2⟩ := hu1
  have HV := Lib.hid hv
  obtain ⟨ea, ec, rfl, -⟩ := hv
  obtain ⟨s, hs⟩ : ∃ a, a = pick x 6 := ⟨_, rfl⟩
  have s0 : 0 ≤ s := by rw [hs]; exact pick_nonneg x 6 (by omega)
  have s6 : s < 6 := by rw [hs]; exact pick_lt x 6 (by omega)
  have PS := Lib.hid hs.symm
  clear hs
  have OKB := Lib.hid (show okB (20, 2) = true by decide)
  have OKV := Lib.hid (show okV ⟨s, (20, 2), ⟨0, 0, 0, 0, 0⟩⟩ = true from okV_zero s0 (by omega) OKB.out)
  go_enter Try.func6, Try.ntmps6
  go_upto_region 3 with (go_at_call 13; refine (voted_to _ l _ HV.out).mono ?_; rintro e w1 ⟨pr, pn, va, vc, L, rfl, ho1, hok1, hp1, hl1, hb1⟩; have O1 := Lib.hid ho1; have OK1 := Lib.hid hok1; have P9 := Lib.hid hp1; have B1 := Lib.hid hb1; clear ho1 hok1 hp1 hb1)
  generalize hW : World.alloc _ _ = w2
  have G := alloc2Q hW
  have A5 := Lib.hid (show AccIn w2 w1.heap.size pr pn (.slice va L.length vc) from G.1)
  have A7 := Lib.hid (show BalIn w2 (w1.heap.size + 1) 20 2 from G.2.1)
  have B12 := Lib.hid G.2.2.1
  have hs2 := G.2.2.2
  have V2 := Lib.hid (O1.out.votes.stay G.2.2.1)
  clear hW G
  obtain ⟨b0, b1⟩ := A7.out.cells
  have HS2 := Lib.hid hs2
  clear hs2
  refine' cutTo (fun key => _) _
  rotate_left 1
  · skip
    go_region_held3 (fun w' => w'.cell? ⟨w1.heap.size + 1, 0, none⟩ = some (.int .i64 20) ∧ w'.cell? ⟨w1.heap.size + 1, 1, none⟩ = some (.int .i64 2)) (go_keep) (first
      | (go_at_call 10; refine (picked_toP _ _ _ _ (by assumption) (by assumption) (by decide) (by assumption)).mono ?_; rintro e _ ⟨rfl, rfl⟩))
    all_goals exact key.out
  · generalize hW : World.drew _ = wA
    have A8 := Lib.hid (show wA.heap[w2.heap.size]? = some (.cells #[.int .i64 s, .int .i64 20, .int .i64 2, .int .i64 0, .int .i64 0, .int .i64 0, .int .i64 0, .int .i64 0] 32 (0, 0)) by rw [← hW]; exact heapNew w2 _)
    have BA := Lib.hid (show Below w2.heap.size w2 wA by rw [← hW]; exact ((Below.refl _ _).alloc (Nat.le_refl _) _).drew)
    clear hW b0 b1
    have A5A := Lib.hid (A5.out.stay BA.out)
    have A7A := Lib.hid (A7.out.stay BA.out)
    have VA := Lib.hid (V2.out.stay BA.out)
    have LEN := Lib.hid (show L.length ≤ 1000 by omega)
    have LOW1 := Lib.hid (show 0 ≤ cmpB (20, 2) (pr, pn) from Int.not_lt.1 (by rw [cmpB_low]; have := P9.out; dsimp only; omega))
    have LOW2 := Lib.hid (show 0 ≤ cmpB ((20, 2) : Int × Int) (20, 2) by decide)
    have OK2 := Lib.hid (okA_higher OK1.out OKB.out (Int.not_lt.2 LOW1.out))
    obtain ⟨a0, a1, a2⟩ := A5A.out.cells
    obtain ⟨b0, b1⟩ := A7A.out.cells
    go_upto_region 5 with (go_at_call 14; refine (Promise_high _ _ _ _ _ L _ VA.out OK1.out OKB.out LEN.out LOW1).mono ?_; rintro e w3 ⟨sa, sc, ta, tc, rfl, ho3, -, hb3⟩; have B3 := Lib.hid hb3; have O3 := Lib.hid ho3; clear hb3 ho3)
    clear a0 a1 a2 b0 b1
    generalize hW : World.alloc _ _ = wB
    have BB := Lib.hid (show Below wA.heap.size wA wB by rw [← hW]; exact B3.out.alloc B3.out.size _)
    have A9 := Lib.hid (show AccIn wB w3.heap.size 20 2 (.slice sa L.length sc) by rw [← hW]; exact heapNew _ _)
    have VB := Lib.hid (show Votes wB (.slice sa L.length sc) L by rw [← hW]; exact O3.out.votes.stay ((Below.refl _ _).alloc (Nat.le_refl _) _))
    clear hW B3 O3
    obtain ⟨a0, a1, a2⟩ := A9.out.cells
    obtain ⟨b0, b1⟩ := (A7A.out.stay BB.out).cells
    go_upto_region 6 with (go_at_call 14; refine (Promise_high _ _ _ _ _ L _ VB.out OK2.out OKB.out LEN.out LOW2).mono ?_; rintro e w5 ⟨ua, uc, xa, xc, rfl, ho5, -, hb5⟩; have B5 := Lib.hid hb5; have O5 := Lib.hid ho5; clear hb5 ho5)
    clear a0 a1 a2 b0 b1
    generalize hW : World.alloc _ _ = wC
    have BC := Lib.hid (show Below wB.heap.size wB wC by rw [← hW]; exact B5.out.alloc B5.out.size _)
    have A12 := Lib.hid (show AccIn wC w5.heap.size 20 2 (.slice ua L.length uc) by rw [← hW]; exact heapNew _ _)
    have VC := Lib.hid (show Votes wC (.slice ua L.length uc) L by rw [← hW]; exact O5.out.votes.stay ((Below.refl _ _).alloc (Nat.le_refl _) _))
    clear hW B5 O5
    have BAC := Lib.hid (BB.out.trans (BC.out.mono BB.out.size))
    obtain ⟨P1, hP1⟩ : ∃ P, P = putV ⟨s, (20, 2), ⟨0, 0, 0, 0, 0⟩⟩ L := ⟨_, rfl⟩
    have OKP := Lib.hid (show okA (20, 2) P1 = true by rw [hP1]; exact okA_put OK2.out OKV.out (show ¬ cmpB ((20, 2) : Int × Int) (20, 2) < 0 by decide))
    have LENP := Lib.hid (show P1.length ≤ 1000 by rw [hP1]; have := putV_length ⟨s, (20, 2), ⟨0, 0, 0, 0, 0⟩⟩ L; omega)
    have POS := Lib.hid (show 0 < P1.length by rw [hP1]; exact putV_pos _ _)
    have P12 := Lib.hid (show putV ⟨s, (20, 2), ⟨0, 0, 0, 0, 0⟩⟩ P1 = P1 by rw [hP1]; exact putV_twice _ _)
    have HP1 := Lib.hid hP1.symm
    clear hP1
    have A8C := Lib.hid ((BAC.out.block _ (lt_of_heap A8.out)).trans A8.out)
    obtain ⟨a0, a1, a2⟩ := A12.out.cells
    have d0 := cellAt A8C.out 0 rfl
    have d1 := cellAt A8C.out 1 rfl
    have d2 := cellAt A8C.out 2 rfl
    have d3 := cellAt A8C.out 3 rfl
    have d4 := cellAt A8C.out 4 rfl
    have d5 := cellAt A8C.out 5 rfl
    have d6 := cellAt A8C.out 6 rfl
    have d7 := cellAt A8C.out 7 rfl
    go_upto_region 7 with (go_at_call 15; refine (Accept_high _ _ _ _ _ _ _ _ _ _ _ L _ VC.out OK2.out OKV.out LEN.out LOW2).mono ?_; rintro e w7 ⟨ya, yc, yn, hyn, rfl, ho7, hb7⟩; rw [HP1.out] at hyn ho7; have YN := Lib.hid hyn; have B7 := Lib.hid hb7; have O7 := Lib.hid ho7; clear hb7 ho7 hyn)
    clear a0 a1 a2 d0 d1 d2 d3 d4 d5 d6 d7
    generalize hW : World.alloc _ _ = wD
    have BD := Lib.hid (show Below wC.heap.size wC wD by rw [← hW]; exact B7.out.alloc B7.out.size _)
    have A15 := Lib.hid (show AccIn wD w7.heap.size 20 2 (.slice ya yn yc) by rw [← hW]; exact heapNew _ _)
    have VD := Lib.hid (show Votes wD (.slice ya yn yc) P1 by rw [← hW]; exact O7.out.votes.stay ((Below.refl _ _).alloc (Nat.le_refl _) _))
    clear hW B7 O7
    have A8D := Lib.hid ((BD.out.block _ (lt_of_heap A8C.out)).trans A8C.out)
    obtain ⟨a0, a1, a2⟩ := A15.out.cells
    have d0 := cellAt A8D.out 0 rfl
    have d1 := cellAt A8D.out 1 rfl
    have d2 := cellAt A8D.out 2 rfl
    have d3 := cellAt A8D.out 3 rfl
    have d4 := cellAt A8D.out 4 rfl
    have d5 := cellAt A8D.out 5 rfl
    have d6 := cellAt A8D.out 6 rfl
    have d7 := cellAt A8D.out 7 rfl
    go_upto_region 8 with (go_at_call 15; refine (Accept_high _ _ _ _ _ _ _ _ _ _ _ P1 _ VD.out OKP.out OKV.out LENP.out LOW2).mono ?_; rintro e w9 ⟨za, zc, zn, hzn, rfl, ho9, hb9⟩; rw [P12.out, ← YN.out] at hzn; rw [P12.out] at ho9; have B9 := Lib.hid hb9; have O9 := Lib.hid ho9; subst hzn; clear hb9 ho9)
    clear a0 a1 a2 d0 d1 d2 d3 d4 d5 d6 d7
    generalize hW : World.alloc _ _ = wE
    have BE := Lib.hid (show Below wD.heap.size wD wE by rw [← hW]; exact B9.out.alloc B9.out.size _)
    have A17 := Lib.hid (show AccIn wE w9.heap.size 20 2 (.slice za zn zc) by rw [← hW]; exact heapNew _ _)
    have VE := Lib.hid (show RdV wE (.slice za zn zc) P1 by rw [← hW]; exact (O9.out.votes.stay ((Below.refl _ _).alloc (Nat.le_refl _) _)).1)
    clear hW B9 O9
    have BCE := Lib.hid (BD.out.trans (BE.out.mono BD.out.size))
    have BBE := Lib.hid (BC.out.trans (BCE.out.mono BC.out.size))
    have BAE := Lib.hid (BB.out.trans (BBE.out.mono BB.out.size))
    have A15E := Lib.hid (A15.out.stay BE.out)
    have A12E := Lib.hid (A12.out.stay BCE.out)
    have A9E := Lib.hid (A9.out.stay BBE.out)
    have A7E := Lib.hid (A7A.out.stay BAE.out)
    have VDE := Lib.hid ((VD.out.stay BE.out).1)
    have VCE := Lib.hid ((VC.out.stay BCE.out).1)
    have VBE := Lib.hid ((VB.out.stay BBE.out).1)
    have BW := Lib.hid (show Below w.heap.size w wE from B1.out.trans ((B12.out.trans ((BA.out.trans (BAE.out.mono BA.out.size)).mono B12.out.size)).mono B1.out.size))
    have hyn : decide (0 < zn) = true := by rw [decide_eq_true_eq, YN.out]; exact POS.out
    have hynI : decide ((0 : Int) < zn) = true := by rw [decide_eq_true_eq]; have := POS.out; have := YN.out; omega
    obtain ⟨a0, a1, a2⟩ := A9E.out.cells
    obtain ⟨c0, c1, c2⟩ := A12E.out.cells
    go_wp2_with (first
      | (have hdone := BX1; clear hdone; go_at_call 17; refine (sameAcc_to _ _ _ _ _ _ _ P1 _ (RdRow.stay VDE.out BX1.out) (RdRow.stay VE.out BX1.out)).mono ?_; rintro e wY ⟨rfl, hbY⟩; have BX2 := Lib.hid (BX1.out.trans (hbY.mono BX1.out.size)); clear hbY; clear f0 f1 f2 g0 g1 g2; obtain ⟨h0, h1, h2⟩ := (A9E.out.stay BX2.out).cells; obtain ⟨i0, i1⟩ := (A7E.out.stay BX2.out).cells; obtain ⟨j0, j1, j2⟩ := (A15E.out.stay BX2.out).cells)
      | (go_at_call 17; refine (sameAcc_to _ _ _ _ _ _ _ L _ VBE.out VCE.out).mono ?_; rintro e wX ⟨rfl, hbX⟩; have BX1 := Lib.hid hbX; clear hbX; clear a0 a1 a2 c0 c1 c2; obtain ⟨f0, f1, f2⟩ := (A15E.out.stay BX1.out).cells; obtain ⟨g0, g1, g2⟩ := (A17.out.stay BX1.out).cells))
    go_ret
    exact ⟨rfl, BW.out.trans (BX2.out.mono BW.out.size)⟩
end Go.Proofs.Ytdkbajdnckmckaa
