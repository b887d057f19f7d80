/-
  The walk of PickGreatest.
-/
import Derived.Test.YtdkbajdnckmckaaPgr
set_option linter.unusedVariables false
set_option linter.unusedSimpArgs false
namespace Go.Proofs.Ytdkbajdnckmckaa
open Go.RowKit Go.Con
set_option maxRecDepth 100000 in
set_option maxHeartbeats 8000000 in
theorem walk_PickGreatest (v : Value) (l : List Cmd) (v' : Value) (l' : List Cmd) (u1 : Value) (x : Int) (w : World) (hv : RdWishes w v l) (hv' : RdWishes w v' l') (hu1 : IsInt u1 x) :
    Calls Try.prog 8 #[v, v', u1] w fun e w' => e = .returned (.bool true) ∧ Below w.heap.size w w' := by
  obtain ⟨rfl, hx1, hx2⟩ := hu1
  have HV := Lib.hid hv
  have HV' := Lib.hid hv'
  obtain ⟨ea, ec, rfl, -⟩ := hv
  obtain ⟨ea', ec', rfl, -⟩ := hv'
  obtain ⟨s, hs⟩ : ∃ a, a = pick x 5 := ⟨_, rfl⟩
  have s0 : 0 ≤ s := by rw [hs]; exact pick_nonneg x 5 (by omega)
  have s5 : s < 5 := by rw [hs]; exact pick_lt x 5 (by omega)
  have PS := Lib.hid hs.symm
  clear hs
  go_enter Try.func8, Try.ntmps8
  go_upto_region 2 with (go_at_call 13; refine (voted_to _ l _ HV.out).mono ?_; rintro e w1 ⟨pr, pn, va, vc, L, rfl, ho1, hok1, -, hl1, hb1⟩; have O1 := Lib.hid ho1; have OK1 := Lib.hid hok1; have B1 := Lib.hid hb1; clear ho1 hok1 hb1)
  generalize hW : World.alloc _ _ = wA
  have A7 := Lib.hid (show AccIn wA w1.heap.size pr pn (.slice va L.length vc) by rw [← hW]; exact heapNew _ _)
  have BA := Lib.hid (show Below w.heap.size w wA by rw [← hW]; exact B1.out.alloc B1.out.size _)
  have VA := Lib.hid (show Votes wA (.slice va L.length vc) L by rw [← hW]; exact O1.out.votes.stay ((Below.refl _ _).alloc (Nat.le_refl _) _))
  clear hW O1 B1
  go_upto_region 3 with (go_at_call 13; refine (voted_to _ l' _ (HV'.out.stay BA.out)).mono ?_; rintro e w2 ⟨qr, qn, vb, vd, M, rfl, ho2, hok2, -, hl2, hb2⟩; have O2 := Lib.hid ho2; have OK2 := Lib.hid hok2; have B2 := Lib.hid hb2; clear ho2 hok2 hb2)
  generalize hW : World.alloc _ _ = wB
  have A9 := Lib.hid (show AccIn wB w2.heap.size qr qn (.slice vb M.length vd) by rw [← hW]; exact heapNew _ _)
  have BAB := Lib.hid (show Below wA.heap.size wA wB by rw [← hW]; exact B2.out.alloc B2.out.size _)
  have VM := Lib.hid (show Votes wB (.slice vb M.length vd) M by rw [← hW]; exact O2.out.votes.stay ((Below.refl _ _).alloc (Nat.le_refl _) _))
  clear hW O2 B2
  have A7B := Lib.hid (A7.out.stay BAB.out)
  have VL := Lib.hid (VA.out.stay BAB.out)
  have BB := Lib.hid (BA.out.trans (BAB.out.mono BA.out.size))
  -- what is known of the votes
  have LOK := Lib.hid (show ∀ u ∈ L, okV u = true from fun u hu => ((okA_iff.1 OK1.out).2.1 u hu).1)
  have MOK := Lib.hid (show ∀ u ∈ M, okV u = true from fun u hu => ((okA_iff.1 OK2.out).2.1 u hu).1)
  obtain ⟨T, hT⟩ : ∃ T, T = L ++ M := ⟨_, rfl⟩
  have TOK := Lib.hid (show ∀ u ∈ T, okV u = true by rw [hT]; intro u hu; rcases List.mem_append.1 hu with h | h; exact LOK.out u h; exact MOK.out u h)
  have TR := Lib.hid (show ∀ u ∈ T, 1 ≤ u.bal.1 from fun u hu => by
    have h := (okV_parts (TOK.out u hu)).2.2.1
    unfold okB at h
    simp only [Bool.and_eq_true, decide_eq_true_eq] at h
    exact h.1)
  obtain ⟨R, hR⟩ : ∃ R, R = bestV s Vot.zero T := ⟨_, rfl⟩
  have HBEST := Lib.hid (show IsBest s T R by rw [hR]; exact bestV_is s T TR.out)
  have HB := Lib.hid (show bestV s Vot.zero [L, M].flatten = R by rw [hR, hT]; simp)
  have HR := Lib.hid hR
  have TT := Lib.hid hT
  have OKLS := Lib.hid (show ∀ l ∈ [L, M], ∀ x ∈ l, okV x = true from fun l hl x hx => by
    rcases List.mem_cons.1 hl with rfl | hl
    · exact LOK.out x hx
    · rw [List.mem_singleton.1 hl] at hx; exact MOK.out x hx)
  clear hR hT
  obtain ⟨r0, ⟨r1, r2⟩, ⟨r3, r4, r5, r6, r7⟩⟩ := R
  obtain ⟨rb, hrb⟩ : ∃ b, b = decide (0 < r1) := ⟨_, rfl⟩
  have RB := Lib.hid hrb.symm
  clear hrb
  obtain ⟨a0, a1, a2⟩ := A7B.out.cells
  obtain ⟨b0, b1, b2⟩ := A9.out.cells
  go_upto_region 5 with (first
    | (go_at_call 10; refine (picked_toP _ _ _ _ (by assumption) (by assumption) (by decide) (by assumption)).mono ?_; rintro e _ ⟨rfl, rfl⟩)
    | (go_at_call 11; refine (PickR _ [L, M] s r0 r1 r2 r3 r4 r5 r6 r7 rb _ (newLs2 VL.out.1 VM.out.1) s0 (by omega) OKLS.out HB RB).mono ?_; rintro e w5 ⟨rfl, hb5⟩; have B5 := Lib.hid hb5; clear hb5))
  clear a0 a1 a2 b0 b1 b2
  go_upto_region 6 with fail
  generalize hW : World.alloc _ _ = wC
  have G := alloc2Q hW
  have C12 := Lib.hid G.1
  have C15 := Lib.hid (show BalIn wC (w5.heap.size + 1) 0 0 from G.2.1)
  have BBC := Lib.hid (show Below wB.heap.size wB wC from ((Below.refl wB.heap.size wB).alloc (Nat.le_refl _) (.cells #[.slice va L.length vc, .slice vb M.length vd] 23)).trans ((B5.out.trans (G.2.2.1.mono B5.out.size)).mono (by simp)))
  have hs5 := G.2.2.2
  have SC := Lib.hid hs5
  clear hW G hs5
  have A7C := Lib.hid (A7B.out.stay BBC.out)
  have A9C := Lib.hid (A9.out.stay BBC.out)
  have VLC := Lib.hid (VL.out.stay BBC.out)
  have VMC := Lib.hid (VM.out.stay BBC.out)
  obtain ⟨a0, a1, a2⟩ := A7C.out.cells
  obtain ⟨b0, b1, b2⟩ := A9C.out.cells
  have NA := Lib.hid (show va = none → vc = 0 from fun h => by
    rcases VLC.out.2 with e | ⟨a, n, c, e⟩
    · injection e
    · injection e with e1; rw [h] at e1; cases e1)
  have NB := Lib.hid (show vb = none → vd = 0 from fun h => by
    rcases VMC.out.2 with e | ⟨a, n, c, e⟩
    · injection e
    · injection e with e1; rw [h] at e1; cases e1)
  have LN1 := Lib.hid (show ([] : List Vot).length + L.length ≤ 1000000 by simp; omega)
  have LN2 := Lib.hid (show (([] : List Vot) ++ L).length + M.length ≤ 1000000 by simp; omega)
  have hA7 : w1.heap.size < wC.heap.size := lt_of_heap A7C.out
  have hA9 : w2.heap.size < wC.heap.size := lt_of_heap A9C.out
  have KEEP := Lib.hid (fun (W : World) (h : Below wC.heap.size wC W) => (⟨(World.cell?_of_block (w := wC) (h.block w1.heap.size hA7)).trans a2, (World.cell?_of_block (w := wC) (h.block w2.heap.size hA9)).trans b2⟩ : W.cell? ⟨w1.heap.size, 2, none⟩ = some (.slice va L.length vc) ∧ W.cell? ⟨w2.heap.size, 2, none⟩ = some (.slice vb M.length vd)))
  have U2 := Lib.hid a2
  have W2 := Lib.hid b2
  go_region_held3 (fun w' => w'.cell? ⟨w1.heap.size, 2, none⟩ = some (.slice va L.length vc) ∧ w'.cell? ⟨w2.heap.size, 2, none⟩ = some (.slice vb M.length vd)) (first | exact SS2 | exact SS | go_keep) (first
    | (have ho := O6; clear ho; refine step_apVs rfl (.tmp 45) (.tmp 47) rfl wC.heap.size _ ([] ++ L) M vb M.length vd rfl O6.out rfl ((VMC.out.stay B6.out).1) NB.out LN2.out B6.out.size ?_; intro v7 w7 ho7 hg7; have O7 := Lib.hid (show OwnV w7 wC.heap.size v7 T by rw [TT.out]; exact ho7); have B7 := Lib.hid (B6.out.grown hg7 B6.out.size (fun k hk => (row_lt O6.out k hk).1)); have SS2 : w7.cell? ⟨w1.heap.size, 2, none⟩ = some (.slice va L.length vc) ∧ w7.cell? ⟨w2.heap.size, 2, none⟩ = some (.slice vb M.length vd) := KEEP.out _ B7.out; clear ho7 hg7)
    | (refine step_apVs rfl (.const (.slice none 0 0)) (.tmp 44) rfl wC.heap.size (.slice none 0 0) [] L va L.length vc rfl (World.ownsRow_nil _ _ _ _) rfl ((VLC.out.stay (Below.refl _ _).drew).1) NA.out LN1.out (Nat.le_refl _) ?_; intro v6 w6 ho6 hg6; have O6 := Lib.hid ho6; have B6 := Lib.hid (grownNil hg6); have SS : w6.cell? ⟨w1.heap.size, 2, none⟩ = some (.slice va L.length vc) ∧ w6.cell? ⟨w2.heap.size, 2, none⟩ = some (.slice vb M.length vd) := KEEP.out _ B6.out; clear ho6 hg6))
  clear a0 a1 a2 b0 b1 b2 SS SS2
  have C12D := Lib.hid ((B7.out.block _ (lt_of_heap C12.out)).trans C12.out)
  have C15D := Lib.hid (C15.out.stay B7.out)
  have BD := Lib.hid (BB.out.trans ((BBC.out.trans (B7.out.mono BBC.out.size)).mono BB.out.size))
  have RT := Lib.hid O7.out.row
  have hlo := Lib.hid (row_lt O7.out)
  obtain ⟨ta, tc, hv7, htl, htm, -⟩ := id O7.out.row
  subst hv7
  obtain ⟨tn, htn⟩ : ∃ n, n = T.length := ⟨_, rfl⟩
  rw [← htn] at RT htl ⊢
  have TN := Lib.hid htn
  have htm2 : tc ≤ 9223372036854775807 := htm
  have hw5 : w5.heap.size + 1 < w7.heap.size := lt_of_heap C15D.out
  have hw5w : w.heap.size ≤ w5.heap.size + 1 := by
    have h1 := BB.out.size
    have h2 := B5.out.size
    simp at h2
    omega
  have RTB := Lib.hid (show ∀ k : Nat, (Value.slice ta tn tc).ownBlock = some k → wC.heap.size ≤ k from fun k hk => (hlo.out k (by rw [← htn]; exact hk)).1)
  clear htn O7 hlo
  go_wp2_with fail
  go_loopw [17] (fun i wr => ∃ q : Nat, q ≤ tn ∧ i = .int .i64 q ∧ Hid ((∀ k, k < w7.heap.size → k ≠ w5.heap.size + 1 → wr.heap[k]? = w7.heap[k]?) ∧ BalIn wr (w5.heap.size + 1) (bestV s Vot.zero (T.take q)).bal.1 (bestV s Vot.zero (T.take q)).bal.2 ∧ Below w.heap.size w wr ∧ w7.heap.size ≤ wr.heap.size)) (fun i _ => tn - (intOf i).toNat)
  case atStart => exact ⟨0, by omega, rfl, Lib.hid ⟨fun _ _ _ => rfl, C15D.out, BD.out, Nat.le_refl _⟩⟩
  case round =>
    obtain ⟨q, hqn, rfl, HI⟩ := hrel
    obtain ⟨B, hB⟩ : ∃ b, b = bestV s Vot.zero (T.take q) := ⟨_, rfl⟩
    rw [← hB] at HI
    have HBq := Lib.hid hB
    clear hB
    by_cases hq : q < tn
    · have hd1 : decide ((q : Int) < tn) = true := by rw [decide_eq_true_eq]; omega
      have hd1n : decide (q < tn) = true := by rw [decide_eq_true_eq]; omega
      have hqT : q < T.length := by rw [← TN.out]; exact hq
      obtain ⟨eb, eoff, rfl, hel, hec⟩ := RT.out.cells.2.2 q hq
      obtain ⟨pv, hpv⟩ : ∃ v, v = T.getD q Vot.zero := ⟨_, rfl⟩
      rw [← hpv] at hec
      have hBn : bestV s Vot.zero (T.take (q + 1)) = better s B pv := by
        rw [List.take_add_one, List.getElem?_eq_getElem hqT]
        show bestV s Vot.zero (T.take q ++ [T[q]]) = _
        rw [bestV_snoc, ← HBq.out, hpv, List.getD_eq_getElem?_getD, List.getElem?_eq_getElem hqT]; rfl
      have hebC : wC.heap.size ≤ eb := RTB.out eb rfl
      have hC5 : w5.heap.size + 1 < wC.heap.size := lt_of_heap C15.out
      have hecr : ∀ p, p < 8 → wr.cell? ⟨eb, eoff + (8 * q + p), none⟩ = (votCells pv)[p]? := fun p hp => by
        rw [← hec p hp]; exact World.cell?_of_block (w := w7) (HI.out.1 eb hel (by omega))
      obtain ⟨p0, ⟨p1, p2⟩, ⟨p3, p4, p5, p6, p7⟩⟩ := pv
      obtain ⟨c0, ⟨c1, c2⟩, ⟨c3, c4, c5, c6, c7⟩⟩ := B
      obtain ⟨e0, e1, e2, e3, e4, e5, e6, e7⟩ := cellsV hecr
      dsimp only at e0 e1 e2 e3 e4 e5 e6 e7
      have g0 : wr.cell? ⟨w5.heap.size + 1, 0, none⟩ = some (.int .i64 c1) := HI.out.2.1.cells.1
      have g1 : wr.cell? ⟨w5.heap.size + 1, 1, none⟩ = some (.int .i64 c2) := HI.out.2.1.cells.2
      have hwrs := HI.out.2.2.2
      have HEL := hel
      clear hec hecr hpv e3 e4 e5 e6 e7
      by_cases hps : p0 = s
      · have hse : (p0 == s) = true := by simpa using hps
        have KEEP2 := Lib.hid (fun (W : World) (h : Below wr.heap.size wr W) => (⟨(World.cell?_of_block (w := wr) (h.block eb (by omega))).trans e0, (World.cell?_of_block (w := wr) (h.block eb (by omega))).trans e1, (World.cell?_of_block (w := wr) (h.block eb (by omega))).trans e2, (World.cell?_of_block (w := wr) (h.block (w5.heap.size + 1) (by omega))).trans g0, (World.cell?_of_block (w := wr) (h.block (w5.heap.size + 1) (by omega))).trans g1⟩ : W.cell? ⟨eb, eoff + q * 8, none⟩ = some (.int .i64 p0) ∧ W.cell? ⟨eb, eoff + q * 8 + 1, none⟩ = some (.int .i64 p1) ∧ W.cell? ⟨eb, eoff + q * 8 + 2, none⟩ = some (.int .i64 p2) ∧ W.cell? ⟨w5.heap.size + 1, 0, none⟩ = some (.int .i64 c1) ∧ W.cell? ⟨w5.heap.size + 1, 1, none⟩ = some (.int .i64 c2)))
        obtain ⟨cb, hcb⟩ : ∃ b, b = decide (cmpB (c1, c2) (p1, p2) < 0) := ⟨_, rfl⟩
        have CB := Lib.hid hcb.symm
        cases cb
        · have NB2 := Lib.hid (show bestV s Vot.zero (T.take (q + 1)) = ⟨c0, (c1, c2), ⟨c3, c4, c5, c6, c7⟩⟩ by
            rw [hBn]
            have h := hcb.symm
            rw [decide_eq_false_iff_not] at h
            exact if_neg (fun h2 => h (cmpB_flip.1 h2.2)))
          clear hBn hps hcb
          go_wp2_with fail
          go_region_held3 (fun w' => w'.cell? ⟨eb, eoff + q * 8, none⟩ = some (.int .i64 p0) ∧ w'.cell? ⟨eb, eoff + q * 8 + 1, none⟩ = some (.int .i64 p1) ∧ w'.cell? ⟨eb, eoff + q * 8 + 2, none⟩ = some (.int .i64 p2) ∧ w'.cell? ⟨w5.heap.size + 1, 0, none⟩ = some (.int .i64 c1) ∧ w'.cell? ⟨w5.heap.size + 1, 1, none⟩ = some (.int .i64 c2)) (first | exact SS | go_keep) (first
            | (go_at_call 16; refine (below_to _ _ _ _ _ _ CB).mono ?_; rintro e w3 ⟨rfl, hb3⟩; have B3 := Lib.hid (show Below wr.heap.size wr w3 from (Below.refl wr.heap.size wr).drew.trans hb3); have SS := KEEP2.out _ B3.out; clear hb3))
          all_goals
            have INV : Hid ((∀ k, k < w7.heap.size → k ≠ w5.heap.size + 1 → w3.heap[k]? = w7.heap[k]?) ∧ BalIn w3 (w5.heap.size + 1) (bestV s Vot.zero (T.take (q + 1))).bal.1 (bestV s Vot.zero (T.take (q + 1))).bal.2 ∧ Below w.heap.size w w3 ∧ w7.heap.size ≤ w3.heap.size) := Lib.hid (by
              rw [NB2.out]
              exact ⟨fun k hk hk2 => (B3.out.block k (by omega)).trans (HI.out.1 k hk hk2), HI.out.2.1.stay B3.out, HI.out.2.2.1.trans (B3.out.mono HI.out.2.2.1.size), Nat.le_trans hwrs B3.out.size⟩)
            clear SS e0 e1 e2 g0 g1
            go_wp2_with fail
            go_roundw
            case rel => exact ⟨q + 1, by omega, by go_num, INV⟩
            case measure => simp [intOf]; omega
        · have NB2 := Lib.hid (show bestV s Vot.zero (T.take (q + 1)) = ⟨p0, (p1, p2), ⟨p3, p4, p5, p6, p7⟩⟩ by
            rw [hBn]
            have h := hcb.symm
            rw [decide_eq_true_eq] at h
            exact if_pos ⟨hps, cmpB_flip.2 h⟩)
          clear hBn hps hcb
          go_wp2_with fail
          go_region_held3 (fun w' => w'.cell? ⟨eb, eoff + q * 8, none⟩ = some (.int .i64 p0) ∧ w'.cell? ⟨eb, eoff + q * 8 + 1, none⟩ = some (.int .i64 p1) ∧ w'.cell? ⟨eb, eoff + q * 8 + 2, none⟩ = some (.int .i64 p2) ∧ w'.cell? ⟨w5.heap.size + 1, 0, none⟩ = some (.int .i64 c1) ∧ w'.cell? ⟨w5.heap.size + 1, 1, none⟩ = some (.int .i64 c2)) (first | exact SS | go_keep) (first
            | (go_at_call 16; refine (below_to _ _ _ _ _ _ CB).mono ?_; rintro e w3 ⟨rfl, hb3⟩; have B3 := Lib.hid (show Below wr.heap.size wr w3 from (Below.refl wr.heap.size wr).drew.trans hb3); have SS := KEEP2.out _ B3.out; clear hb3))
          all_goals
            have Z3 := Lib.hid (HI.out.2.1.stay B3.out)
            have zf := freeAt Z3.out
            obtain ⟨k0, k1, k2, k3, k4⟩ := SS
            clear e0 e1 e2 g0 g1
            go_upto_region 9 with fail
            generalize hW : World.setCell _ _ _ = w9
            have INV : Hid ((∀ k, k < w7.heap.size → k ≠ w5.heap.size + 1 → w9.heap[k]? = w7.heap[k]?) ∧ BalIn w9 (w5.heap.size + 1) (bestV s Vot.zero (T.take (q + 1))).bal.1 (bestV s Vot.zero (T.take (q + 1))).bal.2 ∧ Below w.heap.size w w9 ∧ w7.heap.size ≤ w9.heap.size) := Lib.hid (by
              rw [NB2.out, ← hW]
              refine ⟨fun k hk hk2 => ?_, heapSet (heapSet Z3.out _) _, ?_, ?_⟩
              · rw [heapSet_ne _ _ hk2, heapSet_ne _ _ hk2]; exact (B3.out.block k (by omega)).trans (HI.out.1 k hk hk2)
              · exact ((HI.out.2.2.1.trans (B3.out.mono HI.out.2.2.1.size)).setCell hw5w _).setCell hw5w _
              · have h := Nat.le_trans hwrs B3.out.size
                simpa using h)
            clear hW k0 k1 k2 k3 k4 zf
            go_wp2_with fail
            go_roundw
            case rel => exact ⟨q + 1, by omega, by go_num, INV⟩
            case measure => simp [intOf]; omega
      · have hse : (p0 == s) = false := by simpa using hps
        have NB2 := Lib.hid (show bestV s Vot.zero (T.take (q + 1)) = ⟨c0, (c1, c2), ⟨c3, c4, c5, c6, c7⟩⟩ by rw [hBn]; exact if_neg (fun h => hps h.1))
        clear hBn hps
        go_wp2_with fail
        refine wp_region_quiet_lit (by kernel_rfl) (by kernel_rfl) ?_
        repeat (go_big_quiet_step (fail))
        refine wpQuiet_nil ?_
        intro w9 hw9
        obtain ⟨nq, rfl⟩ := hw9
        go_wp2_with fail
        go_roundw
        case rel => exact ⟨q + 1, by omega, by go_num, Lib.hid (by rw [NB2.out]; exact ⟨HI.out.1, HI.out.2.1, below_drewN HI.out.2.2.1 nq, HI.out.2.2.2⟩)⟩
        case measure => simp [intOf]; omega
    · have hqt : q = tn := by omega
      have hd1 : decide ((q : Int) < tn) = false := by rw [decide_eq_false_iff_not]; omega
      have hd1n : decide (q < tn) = false := by rw [decide_eq_false_iff_not]; omega
      have hBR : B = ⟨r0, (r1, r2), ⟨r3, r4, r5, r6, r7⟩⟩ := by
        rw [HBq.out, show T.take q = T by rw [hqt, TN.out, List.take_length]]; exact HR.out.symm
      subst hBR
      obtain ⟨wE, rfl⟩ : ∃ y, y = wr := ⟨_, rfl⟩
      have hC5 : w5.heap.size + 1 < wC.heap.size := lt_of_heap C15.out
      have C12E := Lib.hid ((HI.out.1 _ (lt_of_heap C12D.out) (by omega)).trans C12D.out)
      have g0 : wE.cell? ⟨w5.heap.size + 1, 0, none⟩ = some (.int .i64 r1) := HI.out.2.1.cells.1
      have g1 : wE.cell? ⟨w5.heap.size + 1, 1, none⟩ = some (.int .i64 r2) := HI.out.2.1.cells.2
      have k0 : wE.cell? ⟨w5.heap.size, 0, none⟩ = some (.int .i64 r3) := cellAt C12E.out 0 rfl
      have k1 : wE.cell? ⟨w5.heap.size, 1, none⟩ = some (.int .i64 r4) := cellAt C12E.out 1 rfl
      have k2 : wE.cell? ⟨w5.heap.size, 2, none⟩ = some (.int .i64 r5) := cellAt C12E.out 2 rfl
      have k3 : wE.cell? ⟨w5.heap.size, 3, none⟩ = some (.int .i64 r6) := cellAt C12E.out 3 rfl
      have k4 : wE.cell? ⟨w5.heap.size, 4, none⟩ = some (.int .i64 r7) := cellAt C12E.out 4 rfl
      have BE := Lib.hid HI.out.2.2.1
      have HI1 := Lib.hid HI.out.1
      clear hqt
      rcases HBEST.out with ⟨hz, -⟩ | ⟨hin, hsl, -⟩
      · injection hz with z0 z1 z2
        injection z1 with z3 z4
        injection z2 with z5 z6 z7 z8 z9
        subst z0 z3 z4 z5 z6 z7 z8 z9
        have hrb : rb = false := RB.out.symm
        subst hrb
        have H5 : Hid ((if okA (0, 1) [] then (0 : Int) else 5) = 5) := Lib.hid (by decide)
        go_wp2_with (go_at_call 12; refine (accCheck_to _ _ _ _ [] _ ⟨none, 0, rfl, Nat.le_refl _, Nat.zero_le _, fun h => absurd rfl h⟩ H5).mono ?_; rintro e wF ⟨rfl, hbF⟩; have BF := Lib.hid hbF; clear hbF)
        go_ret
        exact ⟨rfl, BE.out.trans (BF.out.mono BE.out.size)⟩
      · dsimp only at hsl
        subst hsl
        have hr1 := TR.out _ hin
        dsimp only at hr1
        have hrb : rb = true := RB.out.symm.trans (decide_eq_true (by omega))
        subst hrb
        have hz1 : (r1 == 0) = false := by rw [beq_eq_false_iff_ne]; omega
        have HIN := Lib.hid hin
        clear hin
        go_wp2_with fail
        go_loopw [18, 19] (fun fo i wx => ∃ j : Nat, j ≤ tn ∧ i = .int .i64 j ∧ fo = .bool ((T.take j).any fun u => decide (u = ⟨r0, (r1, r2), ⟨r3, r4, r5, r6, r7⟩⟩)) ∧ Hid (∃ k, wx = wE.drewN k)) (fun _ i _ => tn - (intOf i).toNat)
        case atStart => exact ⟨0, by omega, rfl, rfl, Lib.hid ⟨0, rfl⟩⟩
        case round =>
          obtain ⟨j, hjn, rfl, rfl, HK⟩ := hrel
          obtain ⟨k9, hk⟩ := HK.out
          clear HK
          subst hk
          obtain ⟨sf, hsf⟩ : ∃ b, b = (T.take j).any fun u => decide (u = ⟨r0, (r1, r2), ⟨r3, r4, r5, r6, r7⟩⟩) := ⟨_, rfl⟩
          rw [← hsf]
          have SF := Lib.hid hsf
          clear hsf
          by_cases hj : j < tn
          · have hdj : decide ((j : Int) < tn) = true := by rw [decide_eq_true_eq]; omega
            have hdjn : decide (j < tn) = true := by rw [decide_eq_true_eq]; omega
            have hjT : j < T.length := by rw [← TN.out]; exact hj
            have htk := votTake hjT
            cases sf
            · obtain ⟨eb, eoff, rfl, hel, hec⟩ := RT.out.cells.2.2 j hj
              have hebC : wC.heap.size ≤ eb := RTB.out eb rfl
              obtain ⟨pv, hpv⟩ : ∃ v, v = T.getD j Vot.zero := ⟨_, rfl⟩
              rw [← hpv] at hec htk
              have hecr : ∀ p, p < 8 → wE.cell? ⟨eb, eoff + (8 * j + p), none⟩ = (votCells pv)[p]? := fun p hp => by
                rw [← hec p hp]; exact World.cell?_of_block (w := w7) (HI1.out eb hel (by omega))
              obtain ⟨b0, ⟨b1, b2⟩, ⟨b3, b4, b5, b6, b7⟩⟩ := pv
              obtain ⟨f0, f1, f2, f3, f4, f5, f6, f7⟩ := cellsV hecr
              dsimp only at f0 f1 f2 f3 f4 f5 f6 f7
              have NX := Lib.hid (show (T.take (j + 1)).any (fun u => decide (u = ⟨r0, (r1, r2), ⟨r3, r4, r5, r6, r7⟩⟩)) = decide ((⟨b0, (b1, b2), ⟨b3, b4, b5, b6, b7⟩⟩ : Vot) = ⟨r0, (r1, r2), ⟨r3, r4, r5, r6, r7⟩⟩) by rw [htk, List.any_append, ← SF.out]; simp)
              clear hec hecr hpv htk hel
              rcases vot_cases b0 b1 b2 b3 b4 b5 b6 b7 r0 r1 r2 r3 r4 r5 r6 r7 with ⟨hb0, hb1, hb2, hb3, hb4, hb5, hb6, hb7⟩ | ⟨hne, hb | ⟨hq0, hb⟩ | ⟨hq0, hq1, hb⟩ | ⟨hq0, hq1, hq2, hb⟩ | ⟨hq0, hq1, hq2, hq3, hb⟩ | ⟨hq0, hq1, hq2, hq3, hq4, hb⟩ | ⟨hq0, hq1, hq2, hq3, hq4, hq5, hb⟩ | ⟨hq0, hq1, hq2, hq3, hq4, hq5, hq6, hb⟩⟩
              · have NX2 := Lib.hid (NX.out.trans (decide_eq_true (by rw [hb0, hb1, hb2, hb3, hb4, hb5, hb6, hb7])))
                rw [hb0] at f0
                rw [hb1] at f1
                rw [hb2] at f2
                rw [hb3] at f3
                rw [hb4] at f4
                rw [hb5] at f5
                rw [hb6] at f6
                rw [hb7] at f7
                clear NX hb0 hb1 hb2 hb3 hb4 hb5 hb6 hb7
                go_wp2_with fail
                refine wp_region_quiet_lit (by kernel_rfl) (by kernel_rfl) ?_
                repeat (go_big_quiet_step (fail))
                refine wpQuiet_nil ?_
                intro w9 hw9
                obtain ⟨nq, rfl⟩ := hw9
                go_wp2_with fail
                go_roundw
                case rel => exact ⟨j + 1, by omega, by go_num, by rw [NX2.out], Lib.hid ⟨_, rfl⟩⟩
                case measure => simp [intOf]; omega
              · have NX2 := Lib.hid (NX.out.trans (decide_eq_false hne))
                clear NX hne
                go_wp2_with fail
                refine wp_region_quiet_lit (by kernel_rfl) (by kernel_rfl) ?_
                repeat (go_big_quiet_step (fail))
                refine wpQuiet_nil ?_
                intro w9 hw9
                obtain ⟨nq, rfl⟩ := hw9
                go_wp2_with fail
                go_roundw
                case rel => exact ⟨j + 1, by omega, by go_num, by rw [NX2.out], Lib.hid ⟨_, rfl⟩⟩
                case measure => simp [intOf]; omega
              · have NX2 := Lib.hid (NX.out.trans (decide_eq_false hne))
                clear NX hne
                rw [hq0] at f0
                clear hq0
                go_wp2_with fail
                refine wp_region_quiet_lit (by kernel_rfl) (by kernel_rfl) ?_
                repeat (go_big_quiet_step (fail))
                refine wpQuiet_nil ?_
                intro w9 hw9
                obtain ⟨nq, rfl⟩ := hw9
                go_wp2_with fail
                go_roundw
                case rel => exact ⟨j + 1, by omega, by go_num, by rw [NX2.out], Lib.hid ⟨_, rfl⟩⟩
                case measure => simp [intOf]; omega
              · have NX2 := Lib.hid (NX.out.trans (decide_eq_false hne))
                clear NX hne
                rw [hq0] at f0
                rw [hq1] at f1
                clear hq0 hq1
                go_wp2_with fail
                refine wp_region_quiet_lit (by kernel_rfl) (by kernel_rfl) ?_
                repeat (go_big_quiet_step (fail))
                refine wpQuiet_nil ?_
                intro w9 hw9
                obtain ⟨nq, rfl⟩ := hw9
                go_wp2_with fail
                go_roundw
                case rel => exact ⟨j + 1, by omega, by go_num, by rw [NX2.out], Lib.hid ⟨_, rfl⟩⟩
                case measure => simp [intOf]; omega
              · have NX2 := Lib.hid (NX.out.trans (decide_eq_false hne))
                clear NX hne
                rw [hq0] at f0
                rw [hq1] at f1
                rw [hq2] at f2
                clear hq0 hq1 hq2
                go_wp2_with fail
                refine wp_region_quiet_lit (by kernel_rfl) (by kernel_rfl) ?_
                repeat (go_big_quiet_step (fail))
                refine wpQuiet_nil ?_
                intro w9 hw9
                obtain ⟨nq, rfl⟩ := hw9
                go_wp2_with fail
                go_roundw
                case rel => exact ⟨j + 1, by omega, by go_num, by rw [NX2.out], Lib.hid ⟨_, rfl⟩⟩
                case measure => simp [intOf]; omega
              · have NX2 := Lib.hid (NX.out.trans (decide_eq_false hne))
                clear NX hne
                rw [hq0] at f0
                rw [hq1] at f1
                rw [hq2] at f2
                rw [hq3] at f3
                clear hq0 hq1 hq2 hq3
                go_wp2_with fail
                refine wp_region_quiet_lit (by kernel_rfl) (by kernel_rfl) ?_
                repeat (go_big_quiet_step (fail))
                refine wpQuiet_nil ?_
                intro w9 hw9
                obtain ⟨nq, rfl⟩ := hw9
                go_wp2_with fail
                go_roundw
                case rel => exact ⟨j + 1, by omega, by go_num, by rw [NX2.out], Lib.hid ⟨_, rfl⟩⟩
                case measure => simp [intOf]; omega
              · have NX2 := Lib.hid (NX.out.trans (decide_eq_false hne))
                clear NX hne
                rw [hq0] at f0
                rw [hq1] at f1
                rw [hq2] at f2
                rw [hq3] at f3
                rw [hq4] at f4
                clear hq0 hq1 hq2 hq3 hq4
                go_wp2_with fail
                refine wp_region_quiet_lit (by kernel_rfl) (by kernel_rfl) ?_
                repeat (go_big_quiet_step (fail))
                refine wpQuiet_nil ?_
                intro w9 hw9
                obtain ⟨nq, rfl⟩ := hw9
                go_wp2_with fail
                go_roundw
                case rel => exact ⟨j + 1, by omega, by go_num, by rw [NX2.out], Lib.hid ⟨_, rfl⟩⟩
                case measure => simp [intOf]; omega
              · have NX2 := Lib.hid (NX.out.trans (decide_eq_false hne))
                clear NX hne
                rw [hq0] at f0
                rw [hq1] at f1
                rw [hq2] at f2
                rw [hq3] at f3
                rw [hq4] at f4
                rw [hq5] at f5
                clear hq0 hq1 hq2 hq3 hq4 hq5
                go_wp2_with fail
                refine wp_region_quiet_lit (by kernel_rfl) (by kernel_rfl) ?_
                repeat (go_big_quiet_step (fail))
                refine wpQuiet_nil ?_
                intro w9 hw9
                obtain ⟨nq, rfl⟩ := hw9
                go_wp2_with fail
                go_roundw
                case rel => exact ⟨j + 1, by omega, by go_num, by rw [NX2.out], Lib.hid ⟨_, rfl⟩⟩
                case measure => simp [intOf]; omega
              · have NX2 := Lib.hid (NX.out.trans (decide_eq_false hne))
                clear NX hne
                rw [hq0] at f0
                rw [hq1] at f1
                rw [hq2] at f2
                rw [hq3] at f3
                rw [hq4] at f4
                rw [hq5] at f5
                rw [hq6] at f6
                clear hq0 hq1 hq2 hq3 hq4 hq5 hq6
                go_wp2_with fail
                refine wp_region_quiet_lit (by kernel_rfl) (by kernel_rfl) ?_
                repeat (go_big_quiet_step (fail))
                refine wpQuiet_nil ?_
                intro w9 hw9
                obtain ⟨nq, rfl⟩ := hw9
                go_wp2_with fail
                go_roundw
                case rel => exact ⟨j + 1, by omega, by go_num, by rw [NX2.out], Lib.hid ⟨_, rfl⟩⟩
                case measure => simp [intOf]; omega
            · have NX2 := Lib.hid (show (T.take (j + 1)).any (fun u => decide (u = ⟨r0, (r1, r2), ⟨r3, r4, r5, r6, r7⟩⟩)) = true by rw [htk, List.any_append, ← SF.out]; rfl)
              clear htk
              go_wp2_with fail
              refine wp_region_quiet_lit (by kernel_rfl) (by kernel_rfl) ?_
              repeat (go_big_quiet_step (fail))
              refine wpQuiet_nil ?_
              intro w9 hw9
              obtain ⟨nq, rfl⟩ := hw9
              go_wp2_with fail
              go_roundw
              case rel => exact ⟨j + 1, by omega, by go_num, by rw [NX2.out], Lib.hid ⟨_, rfl⟩⟩
              case measure => simp [intOf]; omega
          · have hdj : decide ((j : Int) < tn) = false := by rw [decide_eq_false_iff_not]; omega
            have hdjn : decide (j < tn) = false := by rw [decide_eq_false_iff_not]; omega
            have hst : sf = true := by
              rw [SF.out, show T.take j = T by rw [show j = T.length by rw [← TN.out]; omega, List.take_length], List.any_eq_true]
              exact ⟨_, HIN.out, by simp⟩
            subst hst
            go_wp2_with fail
            go_ret
            exact ⟨rfl, below_drewN BE.out k9⟩
end Go.Proofs.Ytdkbajdnckmckaa
