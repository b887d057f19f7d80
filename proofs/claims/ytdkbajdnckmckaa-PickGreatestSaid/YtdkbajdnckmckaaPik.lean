/-
  The walk of paxos.Pick.
-/
import Derived.Test.YtdkbajdnckmckaaAcc
set_option linter.unusedVariables false
set_option linter.unusedSimpArgs false
namespace Go.Con
open Go Go.RowKit
/-- of two votes the better one for a slot -/
def better (s : Int) (b v : Vot) : Vot := if v.slot = s ∧ 0 < cmpB v.bal b.bal then v else b
def bestV (s : Int) (b : Vot) (l : List Vot) : Vot := l.foldl (better s) b
theorem bestV_snoc (s : Int) (b : Vot) (l : List Vot) (v : Vot) : bestV s b (l ++ [v]) = better s (bestV s b l) v := by
  unfold bestV; rw [List.foldl_append]; rfl
theorem bestV_append (s : Int) (b : Vot) (l m : List Vot) : bestV s b (l ++ m) = bestV s (bestV s b l) m := by
  unfold bestV; rw [List.foldl_append]
/-- a slice that shows rows of votes -/
def RdLs (w : World) (v : Value) (ls : List (List Vot)) : Prop :=
  ∃ a c, v = .slice a ls.length c ∧ ls.length ≤ c ∧ c ≤ maxLen ∧ (ls ≠ [] → ∃ b off, a = some ⟨b, off, none⟩ ∧ b < w.heap.size ∧ ∀ i, i < ls.length → ∃ x, w.cell? ⟨b, off + i, none⟩ = some x ∧ RdRow 8 votCells Vot.zero w x (ls.getD i []))
theorem RdLs.stay {w w' : World} {v : Value} {ls : List (List Vot)} (h : RdLs w v ls) (hb : Below w.heap.size w w') : RdLs w' v ls := by
  obtain ⟨a, c, rfl, h1, h2, h3⟩ := h
  refine ⟨a, c, rfl, h1, h2, fun hl => ?_⟩
  obtain ⟨b, off, rfl, hbl, hc⟩ := h3 hl
  refine ⟨b, off, rfl, Nat.lt_of_lt_of_le hbl hb.size, fun i hi => ?_⟩
  obtain ⟨x, hx, hr⟩ := hc i hi
  refine ⟨x, ?_, hr.heap (fun q _ hq => hb.block q hq)⟩
  rw [← hx]
  exact World.cell?_of_block (w := w) (hb.block b hbl)
/-- what Pick's loops keep -/
structure PickInv (t30 t32 : TypeId) (w wr : World) (b : Vot) : Prop where
  out : wr.heap[w.heap.size]? = some (.cells #[.int .i64 0, .int .i64 0, .int .i64 0, .int .i64 0, .int .i64 0] t30 (0, 0))
  best : wr.heap[w.heap.size + 1]? = some (.cells (votCells b).toArray t32 (0, 0))
  below : Below w.heap.size w wr
  room : w.heap.size + 1 < wr.heap.size
end Go.Con
namespace Go.Proofs.Ytdkbajdnckmckaa
open Go.RowKit Go.Con
abbrev PInv := PickInv 30 32
set_option maxRecDepth 100000 in
set_option maxHeartbeats 4000000 in
theorem Pick_any (v : Value) (ls : List (List Vot)) (s : Int) (w : World) (hv : RdLs w v ls) (hs0 : 0 ≤ s) (hs1 : s < 40) (hok : ∀ l ∈ ls, ∀ x ∈ l, okV x = true) :
    Calls Try.prog 11 #[v, .int .i64 s] w fun e w' => e = .returned (.tuple #[cmdV (bestV s Vot.zero ls.flatten).what, .bool (decide (0 < (bestV s Vot.zero ls.flatten).bal.1)), .int .i64 0]) ∧ Below w.heap.size w w' := by
  obtain ⟨ea, ec, rfl, hle, hcm, -⟩ := id hv
  obtain ⟨n, hn⟩ : ∃ n, n = ls.length := ⟨_, rfl⟩
  rw [← hn] at hv hle ⊢
  have hcm2 : ec ≤ 9223372036854775807 := hcm
  obtain ⟨R, hR⟩ : ∃ R, R = bestV s Vot.zero ls.flatten := ⟨_, rfl⟩
  rw [← hR]
  have HV := Lib.hid hv
  have HN := Lib.hid hn
  have HR := Lib.hid hR
  have HOK := Lib.hid hok
  have d0 : decide (s < 0) = false := by rw [decide_eq_false_iff_not]; omega
  have d1 : decide (40 ≤ s) = false := by rw [decide_eq_false_iff_not]; omega
  clear hv hn hR hok
  go_enter Try.func11, Try.ntmps11
  go_wp2_with fail
  generalize hW : World.alloc _ _ = w1
  have inv0 : PInv w w1 (bestV s Vot.zero (ls.take 0).flatten) := by
    rw [← hW]
    refine ⟨?_, ?_, ((Below.refl _ _).alloc (Nat.le_refl _) _).alloc (by simp) _, by simp⟩
    · rw [heapOld _ _ _ (by simp)]; exact heapNew _ _
    · have h := heapNew (w.alloc (.cells #[.int .i64 0, .int .i64 0, .int .i64 0, .int .i64 0, .int .i64 0] 30)) (.cells #[.int .i64 0, .int .i64 0, .int .i64 0, .int .i64 0, .int .i64 0, .int .i64 0, .int .i64 0, .int .i64 0] 32)
      have e : (w.alloc (.cells #[.int .i64 0, .int .i64 0, .int .i64 0, .int .i64 0, .int .i64 0] 30)).heap.size = w.heap.size + 1 := by simp
      rw [e] at h
      exact h
  have INV0 := Lib.hid inv0
  clear inv0 hW
  go_loopw [21] (fun i wr => ∃ j : Nat, j ≤ n ∧ i = .int .i64 j ∧ Hid (PInv w wr (bestV s Vot.zero (ls.take j).flatten))) (fun i _ => n - (intOf i).toNat)
  case atStart => exact ⟨0, by omega, rfl, INV0⟩
  case round =>
    obtain ⟨j, hjn, rfl, HI⟩ := hrel
    by_cases h1 : j < n
    · have hd1 : decide ((j : Int) < n) = true := by rw [decide_eq_true_eq]; omega
      have hd1n : decide (j < n) = true := by rw [decide_eq_true_eq]; omega
      obtain ⟨a', c', he, -, -, hcells⟩ := HV.out
      injection he with e1 e2 e3
      subst e1
      obtain ⟨eb, eoff, rfl, hel, hec⟩ := hcells (by intro h; have h2 := HN.out; rw [h] at h2; simp at h2; omega)
      have hjl : j < ls.length := by rw [← HN.out]; exact h1
      obtain ⟨x, hx, hrx⟩ := hec j hjl
      obtain ⟨l, hl⟩ : ∃ l, l = ls.getD j [] := ⟨_, rfl⟩
      rw [← hl] at hrx
      have htk : (ls.take (j + 1)).flatten = (ls.take j).flatten ++ l := by
        rw [List.take_add_one, List.getElem?_eq_getElem hjl, hl, List.getD_eq_getElem?_getD, List.getElem?_eq_getElem hjl, List.flatten_append]; simp
      have hokl : ∀ y ∈ l, okV y = true := HOK.out l (by rw [hl, List.getD_eq_getElem?_getD, List.getElem?_eq_getElem hjl]; exact List.getElem_mem _)
      have hxr : wr.cell? ⟨eb, eoff + j, none⟩ = some x := by
        rw [← hx]; exact World.cell?_of_block (w := w) (HI.out.below.block eb hel)
      obtain ⟨la, lc, rfl, hlc, hlm, -⟩ := id hrx
      obtain ⟨m, hm⟩ : ∃ m, m = l.length := ⟨_, rfl⟩
      rw [← hm] at hlc hxr hrx
      have hlm2 : lc ≤ 9223372036854775807 := hlm
      have HRX := Lib.hid hrx
      have HM := Lib.hid hm
      have HTK := Lib.hid htk
      have HOKL := Lib.hid hokl
      clear hcells hec hx hrx hl htk hokl hm hel e2 e3
      go_wp2_with fail
      clear hxr
      obtain ⟨B0, hB0⟩ : ∃ b, b = bestV s Vot.zero (ls.take j).flatten := ⟨_, rfl⟩
      rw [← hB0] at HI
      have HB0 := Lib.hid hB0
      clear hB0
      have inv1 : Hid (PInv w wr (bestV s B0 (l.take 0))) := Lib.hid HI.out
      go_loopw [27] (fun i wr => ∃ q : Nat, q ≤ m ∧ i = .int .i64 q ∧ Hid (PInv w wr (bestV s B0 (l.take q)))) (fun i _ => m - (intOf i).toNat)
      case atStart => exact ⟨0, by omega, rfl, inv1⟩
      case round =>
        clear inv1 HI
        obtain ⟨q, hqm, rfl, HI⟩ := hrel
        by_cases h2 : q < m
        · have hd2 : decide ((q : Int) < m) = true := by rw [decide_eq_true_eq]; omega
          have hd2n : decide (q < m) = true := by rw [decide_eq_true_eq]; omega
          obtain ⟨fb, foff, rfl, hfl, hfc⟩ := HRX.out.cells.2.2 q h2
          have hql : q < l.length := by rw [← HM.out]; exact h2
          obtain ⟨v, hv⟩ : ∃ v, v = l.getD q Vot.zero := ⟨_, rfl⟩
          rw [← hv] at hfc
          have hvok : okV v = true := HOKL.out v (by rw [hv, List.getD_eq_getElem?_getD, List.getElem?_eq_getElem hql]; exact List.getElem_mem _)
          have hBn : bestV s B0 (l.take (q + 1)) = better s (bestV s B0 (l.take q)) v := by
            rw [← bestV_snoc, List.take_add_one, List.getElem?_eq_getElem hql, hv, List.getD_eq_getElem?_getD, List.getElem?_eq_getElem hql]; rfl
          obtain ⟨B, hB⟩ : ∃ b, b = bestV s B0 (l.take q) := ⟨_, rfl⟩
          rw [← hB] at HI hBn
          have hfcr : ∀ p, p < 8 → wr.cell? ⟨fb, foff + (8 * q + p), none⟩ = (votCells v)[p]? := fun p hp => by
            rw [← hfc p hp]
            exact World.cell?_of_block (w := w) (HI.out.below.block fb hfl)
          have RM1 := HI.out.room
          obtain ⟨sl, ⟨br, bn⟩, ⟨k, cl, sq, nm, vl⟩⟩ := v
          obtain ⟨tl, ⟨tr, tn⟩, ⟨tk, tcl, tsq, tnm, tvl⟩⟩ := B
          obtain ⟨x0, x1, x2, x3, x4, x5, x6, x7⟩ := cellsV hfcr
          dsimp only at x0 x1 x2 x3 x4 x5 x6 x7 hBn
          obtain ⟨c2, hc2⟩ : ∃ c, c = cmpB (br, bn) (tr, tn) := ⟨_, rfl⟩
          have HC2 := Lib.hid hc2.symm
          have HVOK := Lib.hid hvok
          have hcase : ((sl == s) = false ∧ bestV s B0 (l.take (q + 1)) = ⟨tl, (tr, tn), ⟨tk, tcl, tsq, tnm, tvl⟩⟩) ∨ ((sl == s) = true ∧ decide (0 < c2) = false ∧ bestV s B0 (l.take (q + 1)) = ⟨tl, (tr, tn), ⟨tk, tcl, tsq, tnm, tvl⟩⟩) ∨ ((sl == s) = true ∧ decide (0 < c2) = true ∧ bestV s B0 (l.take (q + 1)) = ⟨sl, (br, bn), ⟨k, cl, sq, nm, vl⟩⟩) := by
            rw [hBn]
            unfold better
            dsimp only
            rw [← hc2]
            by_cases q1 : sl = s
            · by_cases q2 : 0 < c2
              · exact .inr (.inr ⟨by simpa using q1, by simpa using q2, if_pos ⟨q1, q2⟩⟩)
              · exact .inr (.inl ⟨by simpa using q1, by simpa using q2, if_neg (fun h => q2 h.2)⟩)
            · exact .inl ⟨by simpa using q1, if_neg (fun h => q1 h.1)⟩
          clear hfc hfcr hv hvok hBn hB hc2 hql hfl
          rcases hcase with ⟨q1, q3⟩ | ⟨q1, q2, q3⟩ | ⟨q1, q2, q3⟩
          · have Q3 := Lib.hid q3
            clear q3
            go_wp2_with (first
              | (go_at_call 20; refine (vote_to _ _ _ _ _ _ _ _ _ _ (by assumption)).mono ?_; rintro e w2 ⟨rfl, hb2⟩; have B2 := Lib.hid (((Below.refl wr.heap.size wr).alloc (Nat.le_refl _) (.cells #[.int .i64 sl, .int .i64 br, .int .i64 bn, .int .i64 k, .int .i64 cl, .int .i64 sq, .int .i64 nm, .int .i64 vl] 32)).trans (hb2.mono (by simp))); have g5 := (hb2.block wr.heap.size (by simp)).trans (heapNew _ _); have u0 := cellAt g5 0 rfl; clear hb2 g5))
            have INV : Hid (PInv w w2 (bestV s B0 (l.take (q + 1)))) := Lib.hid (by
              rw [Q3.out]
              refine ⟨(B2.out.block _ (by omega)).trans HI.out.out, (B2.out.block _ RM1).trans HI.out.best, HI.out.below.trans (B2.out.mono (by omega)), Nat.lt_of_lt_of_le RM1 B2.out.size⟩)
            go_roundw
            case rel => exact ⟨q + 1, by omega, by go_num, INV⟩
            case measure => simp [intOf]; omega
          · have Q3 := Lib.hid q3
            clear q3
            go_wp2_with (first
              | (go_at_call 20; refine (vote_to _ _ _ _ _ _ _ _ _ _ (by assumption)).mono ?_; rintro e w2 ⟨rfl, hb2⟩; have B2 := Lib.hid (((Below.refl wr.heap.size wr).alloc (Nat.le_refl _) (.cells #[.int .i64 sl, .int .i64 br, .int .i64 bn, .int .i64 k, .int .i64 cl, .int .i64 sq, .int .i64 nm, .int .i64 vl] 32)).trans (hb2.mono (by simp))); have g5 := (hb2.block wr.heap.size (by simp)).trans (heapNew _ _); have G5 := Lib.hid g5; have g7 := (B2.out.block _ RM1).trans HI.out.best; have G7 := Lib.hid g7; have u0 := cellAt g5 0 rfl; have u1 := cellAt g5 1 rfl; have u2 := cellAt g5 2 rfl; have p1 := cellAt g7 1 rfl; have p2 := cellAt g7 2 rfl; clear hb2 g5 g7)
              | (go_at_call 21; refine (compare_to _ _ _ _ _ _ (by assumption)).mono ?_; rintro e w3 ⟨rfl, hb3⟩; have B3 := Lib.hid (B2.out.trans (hb3.mono B2.out.size)); clear hb3))
            have INV : Hid (PInv w w3 (bestV s B0 (l.take (q + 1)))) := Lib.hid (by
              rw [Q3.out]
              refine ⟨(B3.out.block _ (by omega)).trans HI.out.out, (B3.out.block _ RM1).trans HI.out.best, HI.out.below.trans (B3.out.mono (by omega)), Nat.lt_of_lt_of_le RM1 B3.out.size⟩)
            go_roundw
            case rel => exact ⟨q + 1, by omega, by go_num, INV⟩
            case measure => simp [intOf]; omega
          · have Q3 := Lib.hid q3
            clear q3
            go_upto_region 14 with (first
              | (go_at_call 20; refine (vote_to _ _ _ _ _ _ _ _ _ _ (by assumption)).mono ?_; rintro e w2 ⟨rfl, hb2⟩; have B2 := Lib.hid (((Below.refl wr.heap.size wr).alloc (Nat.le_refl _) (.cells #[.int .i64 sl, .int .i64 br, .int .i64 bn, .int .i64 k, .int .i64 cl, .int .i64 sq, .int .i64 nm, .int .i64 vl] 32)).trans (hb2.mono (by simp))); have g5 := (hb2.block wr.heap.size (by simp)).trans (heapNew _ _); have G5 := Lib.hid g5; have g7 := (B2.out.block _ RM1).trans HI.out.best; have G7 := Lib.hid g7; have u0 := cellAt g5 0 rfl; have u1 := cellAt g5 1 rfl; have u2 := cellAt g5 2 rfl; have p1 := cellAt g7 1 rfl; have p2 := cellAt g7 2 rfl; clear hb2 g5 g7)
              | (go_at_call 21; refine (compare_to _ _ _ _ _ _ (by assumption)).mono ?_; rintro e w3 ⟨rfl, hb3⟩; have B3 := Lib.hid (B2.out.trans (hb3.mono B2.out.size)); have k5 := (hb3.block _ (lt_of_heap G5.out)).trans G5.out; have k7 := (hb3.block _ (lt_of_heap G7.out)).trans G7.out; have K7 := Lib.hid k7; have y0 := cellAt k5 0 rfl; have y1 := cellAt k5 1 rfl; have y2 := cellAt k5 2 rfl; have y3 := cellAt k5 3 rfl; have y4 := cellAt k5 4 rfl; have y5 := cellAt k5 5 rfl; have y6 := cellAt k5 6 rfl; have y7 := cellAt k5 7 rfl; have z0 := cellAt k7 0 rfl; have z1 := cellAt k7 1 rfl; have z2 := cellAt k7 2 rfl; have z3 := cellAt k7 3 rfl; have z4 := cellAt k7 4 rfl; have z5 := cellAt k7 5 rfl; have z6 := cellAt k7 6 rfl; have z7 := cellAt k7 7 rfl; have zf := freeAt k7; clear hb3 k5 k7))
            generalize hW : World.setCell _ _ _ = w4
            have INV : Hid (PInv w w4 (bestV s B0 (l.take (q + 1)))) := Lib.hid (by
              rw [Q3.out, ← hW]
              have hne : w.heap.size ≠ w.heap.size + 1 := by omega
              have hle : w.heap.size ≤ w.heap.size + 1 := by omega
              have b3 := HI.out.below.trans (B3.out.mono (by omega))
              refine ⟨?_, ?_, ?_, ?_⟩
              · rw [heapSet_ne _ _ hne, heapSet_ne _ _ hne, heapSet_ne _ _ hne, heapSet_ne _ _ hne, heapSet_ne _ _ hne, heapSet_ne _ _ hne, heapSet_ne _ _ hne, heapSet_ne _ _ hne]
                exact (B3.out.block _ (by omega)).trans HI.out.out
              · exact heapSet (heapSet (heapSet (heapSet (heapSet (heapSet (heapSet (heapSet K7.out _) _) _) _) _) _) _) _
              · exact (((((((b3.setCell hle _).setCell hle _).setCell hle _).setCell hle _).setCell hle _).setCell hle _).setCell hle _).setCell hle _
              · simp; exact Nat.lt_of_lt_of_le RM1 B3.out.size)
            clear hW
            clear z0 z1 z2 z3 z4 z5 z6 z7 zf y0 y1 y2 y3 y4 y5 y6 y7
            go_wp2_with fail
            go_roundw
            case rel => exact ⟨q + 1, by omega, by go_num, INV⟩
            case measure => simp [intOf]; omega
        · have hqm2 : q = m := by omega
          have hd2 : decide ((q : Int) < m) = false := by rw [decide_eq_false_iff_not]; omega
          have hd2n : decide (q < m) = false := by rw [decide_eq_false_iff_not]; omega
          have INV : Hid (PInv w wr (bestV s Vot.zero (ls.take (j + 1)).flatten)) := Lib.hid (by
            have h := HI.out
            rw [show l.take q = l by rw [hqm2, HM.out, List.take_length], HB0.out, ← bestV_append, ← HTK.out] at h
            exact h)
          clear hqm2
          go_wp2_with fail
          go_roundw
          case rel => exact ⟨j + 1, by omega, by go_num, INV⟩
          case measure => simp [intOf]; omega
    · have hjn2 : j = n := by omega
      have hd1 : decide ((j : Int) < n) = false := by rw [decide_eq_false_iff_not]; omega
      have hd1n : decide (j < n) = false := by rw [decide_eq_false_iff_not]; omega
      have INV : Hid (PInv w wr R) := Lib.hid (by
        have h := HI.out
        rw [show ls.take j = ls by rw [hjn2, HN.out, List.take_length], ← HR.out] at h
        exact h)
      clear hjn2
      obtain ⟨tl, ⟨tr, tn⟩, ⟨tk, tcl, tsq, tnm, tvl⟩⟩ := R
      have k7 := INV.out.best
      have k5 := INV.out.out
      have z1 : wr.cell? ⟨w.heap.size + 1, 1, none⟩ = some (.int .i64 tr) := cellAt k7 1 rfl
      have z3 : wr.cell? ⟨w.heap.size + 1, 3, none⟩ = some (.int .i64 tk) := cellAt k7 3 rfl
      have z4 : wr.cell? ⟨w.heap.size + 1, 4, none⟩ = some (.int .i64 tcl) := cellAt k7 4 rfl
      have z5 : wr.cell? ⟨w.heap.size + 1, 5, none⟩ = some (.int .i64 tsq) := cellAt k7 5 rfl
      have z6 : wr.cell? ⟨w.heap.size + 1, 6, none⟩ = some (.int .i64 tnm) := cellAt k7 6 rfl
      have z7 : wr.cell? ⟨w.heap.size + 1, 7, none⟩ = some (.int .i64 tvl) := cellAt k7 7 rfl
      have y0 : wr.cell? ⟨w.heap.size, 0, none⟩ = some (.int .i64 0) := cellAt k5 0 rfl
      have y1 : wr.cell? ⟨w.heap.size, 1, none⟩ = some (.int .i64 0) := cellAt k5 1 rfl
      have y2 : wr.cell? ⟨w.heap.size, 2, none⟩ = some (.int .i64 0) := cellAt k5 2 rfl
      have y3 : wr.cell? ⟨w.heap.size, 3, none⟩ = some (.int .i64 0) := cellAt k5 3 rfl
      have y4 : wr.cell? ⟨w.heap.size, 4, none⟩ = some (.int .i64 0) := cellAt k5 4 rfl
      have yf := freeAt k5
      clear k5 k7
      go_wp2_with fail
      go_region_held3 (fun w' => w'.cell? ⟨w.heap.size + 1, 1, none⟩ = some (.int .i64 tr) ∧ w'.cell? ⟨w.heap.size + 1, 3, none⟩ = some (.int .i64 tk) ∧ w'.cell? ⟨w.heap.size + 1, 4, none⟩ = some (.int .i64 tcl) ∧ w'.cell? ⟨w.heap.size + 1, 5, none⟩ = some (.int .i64 tsq) ∧ w'.cell? ⟨w.heap.size + 1, 6, none⟩ = some (.int .i64 tnm) ∧ w'.cell? ⟨w.heap.size + 1, 7, none⟩ = some (.int .i64 tvl)) (go_keep) (fail)
      all_goals go_wp2_with fail
      generalize hW : World.drew _ = w5
      have z5' : w5.heap[w.heap.size]? = some (.cells #[.int .i64 tk, .int .i64 tcl, .int .i64 tsq, .int .i64 tnm, .int .i64 tvl] 30 (0, 0)) := by
        rw [← hW]; exact heapSet (heapSet (heapSet (heapSet (heapSet INV.out.out _) _) _) _) _
      have b5 : Below w.heap.size w w5 := by
        have hle : w.heap.size ≤ w.heap.size := Nat.le_refl _
        rw [← hW]; exact (((((INV.out.below.setCell hle _).setCell hle _).setCell hle _).setCell hle _).setCell hle _).drew
      clear hW z1 z3 z4 z5 z6 z7 y0 y1 y2 y3 y4 yf
      have a0 : w5.cell? ⟨w.heap.size, 0, none⟩ = some (.int .i64 tk) := cellAt z5' 0 rfl
      have a1 : w5.cell? ⟨w.heap.size, 1, none⟩ = some (.int .i64 tcl) := cellAt z5' 1 rfl
      have a2 : w5.cell? ⟨w.heap.size, 2, none⟩ = some (.int .i64 tsq) := cellAt z5' 2 rfl
      have a3 : w5.cell? ⟨w.heap.size, 3, none⟩ = some (.int .i64 tnm) := cellAt z5' 3 rfl
      have a4 : w5.cell? ⟨w.heap.size, 4, none⟩ = some (.int .i64 tvl) := cellAt z5' 4 rfl
      refine bodyPost_ret (v := .tuple #[.agg #[.int .i64 tk, .int .i64 tcl, .int .i64 tsq, .int .i64 tnm, .int .i64 tvl], .bool (decide (0 < tr)), .int .i64 0]) ?_ rfl ⟨rfl, b5⟩
      simp [results, Try.results11, go_sem, a0, a1, a2, a3, a4]
end Go.Proofs.Ytdkbajdnckmckaa
