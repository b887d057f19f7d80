/-
  The walk of lines.Check.
-/
import Derived.Test.YtcbmmkhbfookjaaDoorLnC
set_option linter.unusedVariables false
set_option linter.unusedSimpArgs false
namespace Go.Con
open Go
/-- a number outside its bounds -/
def slotBad (C : List Int) (x : Nat × Int) : Bool := decide (C.getD x.1 0 < 0) || decide (x.2 < C.getD x.1 0)
/-- the numbers of a row of slots become nought -/
def zeros (C : List Int) : List (Nat × Int) → List Int
  | [] => C
  | x :: l => zeros (C.set x.1 0) l
/-- what is wrong of an act -/
def actCode (k n a p : Int) (len : Nat) : Int :=
  if (slotsOf k).any (slotBad [k, n, a, p]) then 2
  else if 2000 < len then 1
  else if (zeros [k, n, a, p] (slotsOf k)).getD 1 0 ≠ 0 ∨ (zeros [k, n, a, p] (slotsOf k)).getD 2 0 ≠ 0 ∨ (zeros [k, n, a, p] (slotsOf k)).getD 3 0 ≠ 0 ∨ (k ≠ 1 ∧ 0 < len) then 3 else 0
theorem zeros_snoc (C : List Int) (l : List (Nat × Int)) (x : Nat × Int) : zeros C (l ++ [x]) = (zeros C l).set x.1 0 := by
  induction l generalizing C with
  | nil => rfl
  | cons y l ih => exact ih _
theorem zeros_length (C : List Int) (l : List (Nat × Int)) : (zeros C l).length = C.length := by
  induction l generalizing C with
  | nil => rfl
  | cons y l ih => rw [zeros, ih]; simp
theorem zeros_shape (k n a p : Int) : ∃ c1 c2 c3, zeros [k, n, a, p] (slotsOf k) = [k, c1, c2, c3] := by
  unfold slotsOf
  split
  · exact ⟨_, _, _, rfl⟩
  split
  · exact ⟨_, _, _, rfl⟩
  split
  · exact ⟨_, _, _, rfl⟩
  · exact ⟨_, _, _, rfl⟩
theorem slotsOf_ok (k : Int) : (slotsOf k).length ≤ 2 ∧ ∀ x ∈ slotsOf k, 1 ≤ x.1 ∧ x.1 ≤ 3 := by
  unfold slotsOf
  split
  · refine ⟨by decide, fun x hx => ?_⟩; simp at hx; subst hx; decide
  split
  · refine ⟨by decide, fun x hx => ?_⟩; simp at hx; subst hx; decide
  split
  · refine ⟨by decide, fun x hx => ?_⟩; simp at hx; rcases hx with rfl | rfl <;> decide
  · exact ⟨by decide, fun x hx => by simp at hx⟩
end Go.Con
namespace Go.Proofs.YtcbmmkhbfookjaaDoor
open Go.RowKit Go.Con
theorem slotCells_at (b : Nat) (l : List (Nat × Int)) (j : Nat) (hj : j < l.length) : (slotCells b l)[j * 2]? = some (.pointer (some ⟨b, (l.getD j (0, 0)).1, none⟩)) ∧ (slotCells b l)[j * 2 + 1]? = some (.int .i64 (l.getD j (0, 0)).2) := by
  induction l generalizing j with
  | nil => cases hj
  | cons x l ih =>
    obtain ⟨f, m⟩ := x
    cases j with
    | zero => exact ⟨rfl, rfl⟩
    | succ j =>
      have h := ih j (by simpa using hj)
      rw [show (j + 1) * 2 = j * 2 + 1 + 1 by omega]
      exact h
/-- the cells of an act -/
def actCells (C : List Int) (dv : Value) : Array Value := (C.map (Value.int .i64) ++ [dv]).toArray
theorem actCells_at (C : List Int) (dv : Value) (f : Nat) (h : f < C.length) : (actCells C dv)[f]? = some (.int .i64 (C.getD f 0)) := by
  unfold actCells
  simp [List.getElem?_append_left, h]
theorem actCells_set (C : List Int) (dv : Value) (f : Nat) (h : f < C.length) : (actCells C dv).setIfInBounds f (.int .i64 0) = actCells (C.set f 0) dv := by
  unfold actCells
  simp [List.set_append, h, List.map_set]
set_option maxRecDepth 100000 in
set_option maxHeartbeats 2000000 in
theorem LCheck_any (k n a p : Int) (dv : Value) (l : List UInt8) (w : World) (hk : 1 ≤ k) (hk9 : k ≤ 9) (hd : Rd w dv l) :
    Calls Tryd.prog 12 #[.agg #[.int .i64 k, .int .i64 n, .int .i64 a, .int .i64 p, dv]] w fun e w' => e = .returned (.int .i64 (actCode k n a p l.length)) ∧ Below w.heap.size w w' := by
  obtain ⟨da, dc, rfl, hdc, hdm⟩ := hd.slice
  obtain ⟨len, hlen⟩ : ∃ n, n = l.length := ⟨_, rfl⟩
  rw [← hlen] at hdc ⊢
  clear hd hlen
  obtain ⟨r, hr⟩ : ∃ r, r = actCode k n a p len := ⟨_, rfl⟩
  rw [← hr]
  have HR := Lib.hid hr
  clear hr
  obtain ⟨S, hS⟩ : ∃ S, S = slotsOf k := ⟨_, rfl⟩
  obtain ⟨hS2, hSok⟩ := slotsOf_ok k
  rw [← hS] at hS2 hSok
  have HSOK := Lib.hid hSok
  have HS := Lib.hid hS
  obtain ⟨m, hm⟩ : ∃ m, m = S.length := ⟨_, rfl⟩
  rw [← hm] at hS2
  have HM := Lib.hid hm
  clear hSok hS hm
  go_enter Tryd.func12, Tryd.ntmps12
  have hnum := Lib.hid (slots_any w.heap.size k n a p (.slice da len dc) (w.alloc (.cells #[.int .i64 k, .int .i64 n, .int .i64 a, .int .i64 p, .slice da len dc] 32)) (heapNew _ _) hk hk9)
  go_upto_region 2 with (go_at_call 19; refine hnum.out.mono ?_; rintro e w1 ⟨sv, rfl, hs1, hb1⟩; have S1 := Lib.hid hs1; have B1 := Lib.hid hb1; clear hs1 hb1)
  rw [← HS.out] at S1
  have hz1 : w1.heap[w.heap.size]? = some (.cells (actCells [k, n, a, p] (.slice da len dc)) 32 (0, 0)) := (B1.out.block _ (by simp)).trans (heapNew _ _)
  have BW := Lib.hid (show Below w.heap.size w w1 from ((Below.refl _ _).alloc (Nat.le_refl _) _).trans (B1.out.mono (by simp)))
  have RM : w.heap.size < w1.heap.size := lt_of_heap hz1
  have Z1 := Lib.hid hz1
  have hsz : (w.alloc (.cells #[.int .i64 k, .int .i64 n, .int .i64 a, .int .i64 p, .slice da len dc] 32)).heap.size = w.heap.size + 1 := by simp
  have SV : Hid (∃ sa, sv = .slice sa m m ∧ (∀ j, j < m → ∃ s, sa = some ⟨s, 0, none⟩ ∧ w.heap.size < s ∧ w1.cell? ⟨s, j * 2, none⟩ = some (.pointer (some ⟨w.heap.size, (S.getD j (0, 0)).1, none⟩)) ∧ w1.cell? ⟨s, j * 2 + 1, none⟩ = some (.int .i64 (S.getD j (0, 0)).2))) := Lib.hid (by
    rcases S1.out with ⟨h1, h2⟩ | ⟨s, h1, h2, h3⟩
    · have hm0 : m = 0 := by rw [HM.out, h1]; rfl
      subst hm0
      exact ⟨none, h2, fun j hj => absurd hj (by omega)⟩
    · rw [hsz] at h2
      rw [← HM.out] at h1
      refine ⟨_, h1, fun j hj => ⟨s, rfl, by omega, ?_, ?_⟩⟩
      · obtain ⟨q1, q2⟩ := slotCells_at w.heap.size S j (by rw [← HM.out]; exact hj)
        exact cellAt h3 (j * 2) (by simpa using q1)
      · obtain ⟨q1, q2⟩ := slotCells_at w.heap.size S j (by rw [← HM.out]; exact hj)
        exact cellAt h3 (j * 2 + 1) (by simpa using q2))
  obtain ⟨sa, rfl, hsv⟩ := SV.out
  have HSV := Lib.hid hsv
  clear hsv SV S1 hz1 hnum hsz
  go_wp2_with fail
  go_loopw [17] (fun i wr => ∃ j : Nat, j ≤ m ∧ i = .int .i64 j ∧ Hid ((∀ q, q < j → slotBad [k, n, a, p] (S.getD q (0, 0)) = false) ∧ Below w1.heap.size w1 wr)) (fun i _ => m - (intOf i).toNat)
  case atStart => exact ⟨0, by omega, rfl, Lib.hid ⟨fun q hq => absurd hq (by omega), Below.refl _ _⟩⟩
  case round =>
    obtain ⟨j, hjm, rfl, HI⟩ := hrel
    by_cases h1 : j < m
    · have hd1 : decide ((j : Int) < m) = true := by rw [decide_eq_true_eq]; omega
      have hd1n : decide (j < m) = true := by rw [decide_eq_true_eq]; omega
      obtain ⟨s, rfl, hsl, hc0, hc1⟩ := HSV.out j h1
      obtain ⟨f, hf⟩ : ∃ f, f = (S.getD j (0, 0)).1 := ⟨_, rfl⟩
      obtain ⟨mx, hmx⟩ : ∃ x, x = (S.getD j (0, 0)).2 := ⟨_, rfl⟩
      rw [← hf] at hc0
      rw [← hmx] at hc1
      have hmem : S.getD j (0, 0) ∈ S := by
        have h2 : j < S.length := by rw [← HM.out]; exact h1
        rw [List.getD_eq_getElem?_getD, List.getElem?_eq_getElem h2]; exact List.getElem_mem _
      obtain ⟨hf1, hf3⟩ := HSOK.out _ hmem
      rw [← hf] at hf1 hf3
      obtain ⟨vl, hvl⟩ : ∃ x, x = ([k, n, a, p] : List Int).getD f 0 := ⟨_, rfl⟩
      have hbad : slotBad [k, n, a, p] (S.getD j (0, 0)) = (decide (vl < 0) || decide (mx < vl)) := by
        unfold slotBad; rw [← hf, ← hmx, ← hvl]
      have hcv : wr.cell? ⟨w.heap.size, f, none⟩ = some (.int .i64 vl) := by
        have h := cellAt Z1.out f (actCells_at [k, n, a, p] (.slice da len dc) f (by show f < 4; omega))
        rw [← hvl] at h
        rw [← h]
        exact World.cell?_of_block (w := w1) (HI.out.2.block _ RM)
      have hcs : s < w1.heap.size := World.block_lt_of_cell? w1 _ hc0
      have hd0 : wr.cell? ⟨s, j * 2, none⟩ = some (.pointer (some ⟨w.heap.size, f, none⟩)) := by rw [← hc0]; exact World.cell?_of_block (w := w1) (HI.out.2.block _ hcs)
      have hd2 : wr.cell? ⟨s, j * 2 + 1, none⟩ = some (.int .i64 mx) := by rw [← hc1]; exact World.cell?_of_block (w := w1) (HI.out.2.block _ hcs)
      have hwr : w.heap.size < wr.heap.size := Nat.lt_of_lt_of_le RM HI.out.2.size
      have HB := Lib.hid hbad
      have HMEM := Lib.hid hmem
      clear hf hmx hvl hbad hc0 hc1 hmem
      by_cases hb0 : vl < 0
      · have hb0d : decide (vl < 0) = true := by rw [decide_eq_true_eq]; exact hb0
        have hr2 : r = 2 := by
          rw [HR.out]; unfold actCode
          rw [if_pos (List.any_eq_true.2 ⟨_, by rw [← HS.out]; exact HMEM.out, by rw [HB.out, hb0d]; rfl⟩)]
        subst hr2
        go_wp2_with fail
        refine wp_region_quiet_lit (by kernel_rfl) (by kernel_rfl) ?_
        repeat (go_big_quiet_step (fail))
        refine wpQuiet_nil ?_
        intro w9 hw9
        obtain ⟨nq, rfl⟩ := hw9
        go_wp2_with fail
        go_ret
        exact ⟨rfl, below_drewN ((BW.out.trans (HI.out.2.mono BW.out.size)).alloc (Nat.le_of_lt hwr) _) nq⟩
      · have hb0d : decide (vl < 0) = false := by rw [decide_eq_false_iff_not]; exact hb0
        by_cases hb1 : mx < vl
        · have hb1d : decide (mx < vl) = true := by rw [decide_eq_true_eq]; exact hb1
          have hr2 : r = 2 := by
            rw [HR.out]; unfold actCode
            rw [if_pos (List.any_eq_true.2 ⟨_, by rw [← HS.out]; exact HMEM.out, by rw [HB.out, hb1d, hb0d]; rfl⟩)]
          subst hr2
          go_wp2_with fail
          refine wp_region_quiet_lit (by kernel_rfl) (by kernel_rfl) ?_
          repeat (go_big_quiet_step (fail))
          refine wpQuiet_nil ?_
          intro w9 hw9
          obtain ⟨nq, rfl⟩ := hw9
          go_wp2_with fail
          go_ret
          exact ⟨rfl, below_drewN ((BW.out.trans (HI.out.2.mono BW.out.size)).alloc (Nat.le_of_lt hwr) _) nq⟩
        · have hb1d : decide (mx < vl) = false := by rw [decide_eq_false_iff_not]; exact hb1
          go_wp2_with fail
          refine wp_region_quiet_lit (by kernel_rfl) (by kernel_rfl) ?_
          repeat (go_big_quiet_step (fail))
          refine wpQuiet_nil ?_
          intro w9 hw9
          obtain ⟨nq, rfl⟩ := hw9
          go_wp2_with fail
          go_roundw
          case rel =>
            refine ⟨j + 1, by omega, by go_num, Lib.hid ⟨fun q hq => ?_, below_drewN (HI.out.2.alloc HI.out.2.size _) nq⟩⟩
            by_cases hqj : q = j
            · subst hqj; rw [HB.out, hb0d, hb1d]; rfl
            · exact HI.out.1 q (by omega)
          case measure => simp [intOf]; omega
    · have hjm2 : j = m := by omega
      have hd1 : decide ((j : Int) < m) = false := by rw [decide_eq_false_iff_not]; omega
      have hd1n : decide (j < m) = false := by rw [decide_eq_false_iff_not]; omega
      have hgood : (slotsOf k).any (slotBad [k, n, a, p]) = false := by
        rw [← HS.out, List.any_eq_false]
        intro x hx
        obtain ⟨q, hq, rfl⟩ := List.getElem_of_mem hx
        have h := HI.out.1 q (by rw [hjm2, HM.out]; exact hq)
        rw [List.getD_eq_getElem?_getD, List.getElem?_eq_getElem hq] at h
        rw [show slotBad [k, n, a, p] S[q] = false from h]; decide
      have HG := Lib.hid hgood
      have BR := Lib.hid HI.out.2
      have hz2 : wr.heap[w.heap.size]? = some (.cells (actCells [k, n, a, p] (.slice da len dc)) 32 (0, 0)) := (HI.out.2.block _ RM).trans Z1.out
      have Z2 := Lib.hid hz2
      have x4 : wr.cell? ⟨w.heap.size, 4, none⟩ = some (.slice da len dc) := cellAt hz2 4 rfl
      clear hgood hz2 HI hjm hjm2 h1
      by_cases hl : 2000 < len
      · have hld : decide ((2000 : Int) < len) = true := by rw [decide_eq_true_eq]; omega
        have hldn : decide (2000 < len) = true := by rw [decide_eq_true_eq]; omega
        have hr1 : r = 1 := by rw [HR.out]; unfold actCode; rw [if_neg (by rw [HG.out]; decide), if_pos hl]
        subst hr1
        go_wp2_with fail
        go_ret
        exact ⟨rfl, BW.out.trans (BR.out.mono BW.out.size)⟩
      · have hld : decide ((2000 : Int) < len) = false := by rw [decide_eq_false_iff_not]; omega
        have hldn : decide (2000 < len) = false := by rw [decide_eq_false_iff_not]; omega
        go_wp2_with fail
        clear x4
        have inv0 : Hid ((∀ q, q < w1.heap.size → q ≠ w.heap.size → wr.heap[q]? = w1.heap[q]?) ∧ wr.heap[w.heap.size]? = some (.cells (actCells (zeros [k, n, a, p] (S.take 0)) (.slice da len dc)) 32 (0, 0)) ∧ Below w.heap.size w wr ∧ w1.heap.size ≤ wr.heap.size) :=
          Lib.hid ⟨fun q hq _ => BR.out.block q hq, Z2.out, BW.out.trans (BR.out.mono BW.out.size), BR.out.size⟩
        have HL := Lib.hid hl
        clear Z2 BR hl hld hldn
        go_loopw [42] (fun i wv => ∃ j : Nat, j ≤ m ∧ i = .int .i64 j ∧ Hid ((∀ q, q < w1.heap.size → q ≠ w.heap.size → wv.heap[q]? = w1.heap[q]?) ∧ wv.heap[w.heap.size]? = some (.cells (actCells (zeros [k, n, a, p] (S.take j)) (.slice da len dc)) 32 (0, 0)) ∧ Below w.heap.size w wv ∧ w1.heap.size ≤ wv.heap.size)) (fun i _ => m - (intOf i).toNat)
        case atStart => exact ⟨0, by omega, rfl, inv0⟩
        case round =>
          clear inv0
          obtain ⟨j, hjm, rfl, HI⟩ := hrel
          by_cases h1 : j < m
          · have hd1 : decide ((j : Int) < m) = true := by rw [decide_eq_true_eq]; omega
            have hd1n : decide (j < m) = true := by rw [decide_eq_true_eq]; omega
            obtain ⟨s, rfl, hsl, hc0, hc1⟩ := HSV.out j h1
            obtain ⟨f, hf⟩ : ∃ f, f = (S.getD j (0, 0)).1 := ⟨_, rfl⟩
            obtain ⟨mx, hmx⟩ : ∃ x, x = (S.getD j (0, 0)).2 := ⟨_, rfl⟩
            rw [← hf] at hc0
            rw [← hmx] at hc1
            have hjl : j < S.length := by rw [← HM.out]; exact h1
            have hmem : S.getD j (0, 0) ∈ S := by
              rw [List.getD_eq_getElem?_getD, List.getElem?_eq_getElem hjl]; exact List.getElem_mem _
            obtain ⟨hf1, hf3⟩ := HSOK.out _ hmem
            rw [← hf] at hf1 hf3
            have hzl : (zeros [k, n, a, p] (S.take j)).length = 4 := by rw [zeros_length]; rfl
            have hcv := cellAt HI.out.2.1 f (actCells_at _ (.slice da len dc) f (by rw [hzl]; omega))
            obtain ⟨vl, hvl⟩ : ∃ x, x = (zeros [k, n, a, p] (S.take j)).getD f 0 := ⟨_, rfl⟩
            rw [← hvl] at hcv
            have hfr : wr.frozen? ⟨w.heap.size, f, none⟩ = false := freeAt HI.out.2.1 _
            have hcs : s < w1.heap.size := World.block_lt_of_cell? w1 _ hc0
            have hd0 : wr.cell? ⟨s, j * 2, none⟩ = some (.pointer (some ⟨w.heap.size, f, none⟩)) := by rw [← hc0]; exact World.cell?_of_block (w := w1) (HI.out.1 s hcs (by omega))
            have hd2 : wr.cell? ⟨s, j * 2 + 1, none⟩ = some (.int .i64 mx) := by rw [← hc1]; exact World.cell?_of_block (w := w1) (HI.out.1 s hcs (by omega))
            have hwr : w.heap.size < wr.heap.size := Nat.lt_of_lt_of_le RM HI.out.2.2.2
            have hZ : zeros [k, n, a, p] (S.take (j + 1)) = (zeros [k, n, a, p] (S.take j)).set f 0 := by
              rw [List.take_add_one, List.getElem?_eq_getElem hjl]
              show zeros _ (S.take j ++ [S[j]]) = _
              rw [zeros_snoc, hf, List.getD_eq_getElem?_getD, List.getElem?_eq_getElem hjl]; rfl
            have HZ := Lib.hid hZ
            have HZL := Lib.hid hzl
            clear hf hmx hvl hc0 hc1 hmem hZ hzl
            go_wp2_with fail
            generalize hW : World.alloc _ _ = w5
            have INV : Hid ((∀ q, q < w1.heap.size → q ≠ w.heap.size → w5.heap[q]? = w1.heap[q]?) ∧ w5.heap[w.heap.size]? = some (.cells (actCells (zeros [k, n, a, p] (S.take (j + 1))) (.slice da len dc)) 32 (0, 0)) ∧ Below w.heap.size w w5 ∧ w1.heap.size ≤ w5.heap.size) := Lib.hid (by
              rw [← hW]
              refine ⟨fun q h2 h3 => ?_, ?_, ?_, ?_⟩
              · rw [heapOld _ _ _ (by simp; exact Nat.lt_of_lt_of_le h2 HI.out.2.2.2), heapSet_ne _ _ h3]; exact HI.out.1 q h2 h3
              · rw [heapOld _ _ _ (by simpa using hwr)]
                have h := heapSet (o := f) HI.out.2.1 (.int .i64 0)
                rw [actCells_set _ _ _ (by rw [HZL.out]; omega), ← HZ.out] at h
                exact h
              · exact (HI.out.2.2.1.setCell (by show w.heap.size ≤ w.heap.size; exact Nat.le_refl _) _).alloc (by simpa using Nat.le_of_lt hwr) _
              · have h := HI.out.2.2.2
                simp; omega)
            clear hW
            go_wp2_with fail
            go_roundw
            case rel => exact ⟨j + 1, by omega, by go_num, INV⟩
            case measure => simp [intOf]; omega
          · have hjm2 : j = m := by omega
            have hd1 : decide ((j : Int) < m) = false := by rw [decide_eq_false_iff_not]; omega
            have hd1n : decide (j < m) = false := by rw [decide_eq_false_iff_not]; omega
            obtain ⟨c1, c2, c3, hzz⟩ := zeros_shape k n a p
            have hT : S.take j = slotsOf k := by rw [hjm2, HM.out, List.take_length]; exact HS.out
            have hz5 := HI.out.2.1
            rw [hT, hzz] at hz5
            have x0 : wr.cell? ⟨w.heap.size, 0, none⟩ = some (.int .i64 k) := cellAt hz5 0 rfl
            have x1 : wr.cell? ⟨w.heap.size, 1, none⟩ = some (.int .i64 c1) := cellAt hz5 1 rfl
            have x2 : wr.cell? ⟨w.heap.size, 2, none⟩ = some (.int .i64 c2) := cellAt hz5 2 rfl
            have x3 : wr.cell? ⟨w.heap.size, 3, none⟩ = some (.int .i64 c3) := cellAt hz5 3 rfl
            have x4 : wr.cell? ⟨w.heap.size, 4, none⟩ = some (.slice da len dc) := cellAt hz5 4 rfl
            have BF := Lib.hid HI.out.2.2.1
            have hr3 : r = if c1 ≠ 0 ∨ c2 ≠ 0 ∨ c3 ≠ 0 ∨ (k ≠ 1 ∧ 0 < len) then 3 else 0 := by
              rw [HR.out]; unfold actCode
              rw [if_neg (by rw [HG.out]; decide), if_neg (by have := HL.out; omega), hzz]; rfl
            have HR3 := Lib.hid hr3
            clear hr3 hz5 hzz hT HI hjm hjm2
            have hcase : (r = 3 ∧ (((c1 != 0) = true) ∨ ((c1 != 0) = false ∧ (c2 != 0) = true) ∨ ((c1 != 0) = false ∧ (c2 != 0) = false ∧ (c3 != 0) = true) ∨ ((c1 != 0) = false ∧ (c2 != 0) = false ∧ (c3 != 0) = false ∧ (k != 1) = true ∧ decide (0 < len) = true ∧ decide ((0 : Int) < len) = true))) ∨
                (r = 0 ∧ (c1 != 0) = false ∧ (c2 != 0) = false ∧ (c3 != 0) = false ∧ (((k != 1) = false) ∨ ((k != 1) = true ∧ decide (0 < len) = false ∧ decide ((0 : Int) < len) = false))) := by
              have h3 := HR3.out
              simp only [bne_iff_ne, ne_eq, bne_eq_false_iff_eq, decide_eq_true_eq, decide_eq_false_iff_not]
              split at h3 <;> omega
            clear HR3
            rcases hcase with ⟨rfl, hA | ⟨hA, hB⟩ | ⟨hA, hB, hC⟩ | ⟨hA, hB, hC, hD, hE, hE2⟩⟩ | ⟨rfl, hA, hB, hC, hD | ⟨hD, hE, hE2⟩⟩
            all_goals
              go_wp2_with fail
              go_ret
              exact ⟨rfl, BF.out⟩
end Go.Proofs.YtcbmmkhbfookjaaDoor
