/-
  The walk of paxos.Chosen: what more than half have voted for.
-/
import Derived.Test.YtdkbajdnckmckaaApa
import Derived.Test.YtdkbajdnckmckaaCnt
set_option linter.unusedVariables false
set_option linter.unusedSimpArgs false
namespace Go.Con
open Go
/-- the votes for a slot -/
def slotV (slot : Int) (al : List Acr) : List Vot := al.flatMap fun x => x.a.l.filter fun y => decide (y.slot = slot)
theorem slotV_take (slot : Int) (al : List Acr) (i : Nat) (x : Acr) (h : al[i]? = some x) : slotV slot (al.take (i + 1)) = slotV slot (al.take i) ++ x.a.l.filter fun y => decide (y.slot = slot) := by
  unfold slotV
  rw [List.take_add_one, h, List.flatMap_append]
  simp
end Go.Con
namespace Go.Proofs.Ytdkbajdnckmckaa
open Go.RowKit Go.Con
theorem slotV_len (slot : Int) : ∀ (l : List Acr), (∀ x ∈ l, x.a.ok = true) → (slotV slot l).length ≤ 1000 * l.length
  | [], _ => Nat.le_refl _
  | x :: l, h => by
    have h1 := slotV_len slot l (fun y hy => h y (List.mem_cons_of_mem _ hy))
    have h2 := okA_len (p := x.a.p) (l := x.a.l) (h x (List.mem_cons_self ..))
    have h3 : (x.a.l.filter fun y => decide (y.slot = slot)).length ≤ x.a.l.length := List.length_filter_le _ _
    show (List.flatMap _ (x :: l)).length ≤ _
    rw [List.flatMap_cons, List.length_append, List.length_cons]
    show _ + (slotV slot l).length ≤ _
    omega
theorem cmdSz : (Try.prog.info? 30).map (fun x => x.size) = some 5 := by kernel_rfl
/-- what the counting keeps -/
structure CInv (w wr : World) (S : List Vot) : Prop where
  below : Below w.heap.size w wr
  res : wr.heap[w.heap.size]? = some (.cells #[.int .i64 0, .int .i64 0, .int .i64 0, .int .i64 0, .int .i64 0] 30 (0, 0))
  cnt : ∃ n, n ≤ S.length ∧ CntM wr (w.heap.size + 1) n S
theorem CInv.stay {w wr w' : World} {S : List Vot} (h : CInv w wr S) (hb : Below wr.heap.size wr w') : CInv w w' S := by
  obtain ⟨h1, h2, n, h3, h4⟩ := h
  exact ⟨h1.trans (hb.mono h1.size), (hb.block _ (lt_of_heap h2)).trans h2, n, h3, h4.kept (hb.block _ h4.lt)⟩
theorem okV_I {y : Vot} (h : okV y = true) : VotI y := by
  obtain ⟨h1, h2, h3, h4⟩ := okV_parts h
  have hb : (1 ≤ y.bal.1 ∧ y.bal.1 ≤ 65536) ∧ (0 ≤ y.bal.2 ∧ y.bal.2 < 5) := by simp [okB] at h3; omega
  have f := fld_nonneg y.what h4
  have f0 : 0 ≤ y.what.kind ∧ y.what.kind ≤ 1073741824 := f 0
  have f1 : 0 ≤ y.what.client ∧ y.what.client ≤ 1073741824 := f 1
  have f2 : 0 ≤ y.what.seq ∧ y.what.seq ≤ 1073741824 := f 2
  have f3 : 0 ≤ y.what.name ∧ y.what.name ≤ 1073741824 := f 3
  have f4 : 0 ≤ y.what.value ∧ y.what.value ≤ 1073741824 := f 4
  exact ⟨⟨by omega, by omega⟩, ⟨by omega, by omega⟩, ⟨by omega, by omega⟩, ⟨by omega, by omega⟩, ⟨by omega, by omega⟩, ⟨by omega, by omega⟩, ⟨by omega, by omega⟩, ⟨by omega, by omega⟩⟩
theorem okVs_mem {p : Int × Int} : ∀ {l : List Vot} {last : Int}, okVs p last l = true → ∀ y ∈ l, okV y = true
  | [], _, _, y, hy => by cases hy
  | v :: l, last, h, y, hy => by
    have h' : (okV v && decide (last < v.slot) && decide (cmpB v.bal p ≤ 0) && okVs p v.slot l) = true := h
    simp only [Bool.and_eq_true, decide_eq_true_eq] at h'
    obtain ⟨⟨⟨q1, q2⟩, _⟩, q3⟩ := h'
    rcases List.mem_cons.1 hy with rfl | hy
    · exact q1
    · exact okVs_mem q3 y hy
theorem okA_mem {p : Int × Int} {l : List Vot} (h : okA p l = true) : ∀ y ∈ l, okV y = true := by
  unfold okA at h
  simp only [Bool.and_eq_true] at h
  exact okVs_mem h.2
set_option maxRecDepth 100000 in
set_option maxHeartbeats 4000000 in
theorem Chosen_ok (al : List Acr) (v : Value) (slot : Int) (w : World) (hv : RdA w v al) (hvs : ∀ x ∈ al, Votes w (.slice x.ad x.n x.c) x.a.l) (hok : ∀ x ∈ al, x.a.ok = true) (h0 : 0 ≤ slot) (h1 : slot < 40) (hn0 : 1 ≤ al.length) (hn5 : al.length ≤ 5) :
    Calls Try.prog 18 #[v, .int .i64 slot] w fun e w' => Below w.heap.size w w' ∧ ((∃ y, al.length < 2 * (slotV slot al).count y ∧ e = .returned (.tuple #[cmdV y.what, .int .i64 0])) ∨ ((∀ y, ¬ al.length < 2 * (slotV slot al).count y) ∧ e = .returned (.tuple #[cmdV Cmd.zero, .int .i64 9]))) := by
  have hne : al ≠ [] := fun h => by rw [h] at hn0; cases hn0
  obtain ⟨b0, off0, vc, rfl, hc1, hc2, hbl, hcells⟩ := RdA_cells hv hne
  obtain ⟨n, hn⟩ : ∃ n, n = al.length := ⟨_, rfl⟩
  rw [← hn] at hn0 hn5 hc1 ⊢
  have HN := Lib.hid hn
  have HCELLS := Lib.hid hcells
  have HVS := Lib.hid hvs
  have HOK := Lib.hid hok
  have hc3 : vc ≤ 9223372036854775807 := hc2
  have d1 : decide (slot < 0) = false := by rw [decide_eq_false_iff_not]; omega
  have d2 : decide ((40 : Int) ≤ slot) = false := by rw [decide_eq_false_iff_not]; omega
  have d3 : decide ((n : Int) < 1) = false := by rw [decide_eq_false_iff_not]; omega
  have d3n : decide (n < 1) = false := by rw [decide_eq_false_iff_not]; omega
  have d4 : decide ((5 : Int) < n) = false := by rw [decide_eq_false_iff_not]; omega
  have d4n : decide (5 < n) = false := by rw [decide_eq_false_iff_not]; omega
  have hmm := @run_makeMap Try.prog
  clear hn hcells hvs hok hv hne hc2
  go_enter Try.func18, Try.ntmps18
  go_wp2_with fail
  generalize hW : World.alloc _ _ = w1
  have inv0 : Hid (CInv w w1 []) := Lib.hid (by
    obtain ⟨g1, g2, g3, g4⟩ := alloc2T hW
    refine ⟨g3, g1, 0, Nat.le_refl _, .map [], ⟨#[], 0, g2, ⟨by simp, MapKept.stamped_empty 0, by simp⟩, Nat.le_refl _, rfl⟩, fun y kl _ => rfl, fun kl hh => by simp [Go.Maps.has] at hh⟩)
  clear hW
  go_loopw [34] (fun i wr => ∃ j : Nat, j ≤ n ∧ i = .int .i64 j ∧ Hid (CInv w wr (slotV slot (al.take j)))) (fun i _ => n - (intOf i).toNat)
  case atStart => exact ⟨0, by omega, rfl, by simpa [slotV] using inv0⟩
  case round =>
    clear inv0
    obtain ⟨j, hjn, rfl, HI⟩ := hrel
    by_cases hj : j < n
    · have hd1 : decide ((j : Int) < n) = true := by rw [decide_eq_true_eq]; omega
      have hd1n : decide (j < n) = true := by rw [decide_eq_true_eq]; omega
      have hjl : j < al.length := by rw [← HN.out]; exact hj
      obtain ⟨x, hx⟩ : ∃ x, x = al[j] := ⟨_, rfl⟩
      have hxq : al[j]? = some x := by rw [hx]; exact List.getElem?_eq_getElem hjl
      have hxm := List.mem_of_getElem? hxq
      obtain ⟨q0, q1, q2⟩ := HCELLS.out j x hxq
      have e0 := (HI.out.below.cell (p := ⟨b0, off0 + j * 3, none⟩) hbl).trans q0
      have e1 := (HI.out.below.cell (p := ⟨b0, off0 + j * 3 + 1, none⟩) hbl).trans q1
      have e2 := (HI.out.below.cell (p := ⟨b0, off0 + j * 3 + 2, none⟩) hbl).trans q2
      have HTK := Lib.hid (slotV_take slot al j x hxq)
      have HXV := Lib.hid ((HVS.out x hxm).stay HI.out.below)
      have HXO := Lib.hid (HOK.out x hxm)
      have HVW := Lib.hid (HVS.out x hxm).1
      obtain ⟨⟨⟨p1, p2⟩, VL⟩, xa, xn, xc⟩ := x
      dsimp only at e0 e1 e2 HXV HXO HTK HVW
      have hxn : xn = VL.length := HXV.out.1.cells.1
      have HXN := Lib.hid hxn
      have hxnc := HXV.out.1.cells.2.1
      have hxcm : xc ≤ 9223372036854775807 := by obtain ⟨a, c, e, -, h, -⟩ := HXV.out.1; injection e with e1 e2 e3; rw [e3]; exact h
      clear hjl hx hxq hxm q0 q1 q2 hxn
      have HCHK := Lib.hid (fun w0 (h0 : RdV w0 (.slice xa xn xc) VL) => (show Calls Try.prog 12 #[.agg #[.int .i64 p1, .int .i64 p2, .slice xa xn xc]] w0 fun e w' => e = .returned (.int .i64 0) ∧ Below w0.heap.size w0 w' from (accCheck_any (p1, p2) (.slice xa xn xc) VL w0 h0).mono fun e w' ⟨h1, h2⟩ => ⟨by rw [h1, if_pos (show okA (p1, p2) VL = true from HXO.out)], h2⟩))
      have hnew : ∀ W : World, W.alloc (.cells #[.int .i64 p1, .int .i64 p2, .slice xa xn xc] 39) = W.alloc (.cells #[.int .i64 p1, .int .i64 p2, .slice xa xn xc] 39) := fun _ => rfl
      go_upto_region 7 with fail
      generalize hW : World.alloc _ _ = w2
      have hx2 : w2.heap[wr.heap.size]? = some (.cells #[.int .i64 p1, .int .i64 p2, .slice xa xn xc] 39 (0, 0)) := by rw [← hW]; exact heapNew _ _
      have b2 : Below wr.heap.size wr w2 := by rw [← hW]; exact (Below.refl _ _).alloc (Nat.le_refl _) _
      obtain ⟨xb, hxb⟩ : ∃ b, b = wr.heap.size := ⟨_, rfl⟩
      rw [← hxb] at hx2 ⊢
      have HX2 := Lib.hid hx2
      have HV2 := Lib.hid (HXV.out.1.stay b2)
      have HI2 := Lib.hid (HI.out.stay b2)
      have c0 := cellAt hx2 0 rfl
      have c1 := cellAt hx2 1 rfl
      have c2 := cellAt hx2 2 rfl
      clear hW hx2 b2 hxb e0 e1 e2 HI HXV hnew
      go_upto_region 10 with (go_at_call 12; refine (HCHK.out _ HV2.out).mono ?_; rintro e w3 ⟨rfl, hb3⟩; have B3 := Lib.hid hb3; clear hb3)
      clear c0 c1 c2
      have hx3 := (B3.out.block _ (lt_of_heap HX2.out)).trans HX2.out
      have HV3 := Lib.hid (HV2.out.stay B3.out)
      have HI3 := Lib.hid (HI2.out.stay B3.out)
      have c2 := cellAt hx3 2 rfl
      clear hx3 B3 HV2 HI2 HX2 HCHK
      go_wp2_with fail
      clear c2
      go_loopw [47] (fun i wr => ∃ q : Nat, q ≤ xn ∧ i = .int .i64 q ∧ Hid (CInv w wr (slotV slot (al.take j) ++ (VL.take q).filter fun y => decide (y.slot = slot)))) (fun i _ => xn - (intOf i).toNat)
      case atStart => exact ⟨0, by omega, rfl, Lib.hid (by simpa using HI3.out)⟩
      case round =>
        clear HI3 HV3
        obtain ⟨q, hqn, rfl, HJ⟩ := hrel
        by_cases hq : q < xn
        · have hd1 : decide ((q : Int) < xn) = true := by rw [decide_eq_true_eq]; omega
          have hd1n : decide (q < xn) = true := by rw [decide_eq_true_eq]; omega
          obtain ⟨eb, eoff, rfl, hel, hec⟩ := (show RdV wr (.slice xa xn xc) VL from RdRow.stay HVW.out HJ.out.below).cells.2.2 q hq
          have hql : q < VL.length := by rw [← HXN.out]; exact hq
          obtain ⟨y, hy⟩ : ∃ y, y = VL.getD q Vot.zero := ⟨_, rfl⟩
          rw [← hy] at hec
          have hyg : VL[q]? = some y := by rw [hy, List.getD_eq_getElem?_getD, List.getElem?_eq_getElem hql]; rfl
          have HOV := Lib.hid (okA_mem (p := (p1, p2)) HXO.out y (List.mem_of_getElem? hyg))
          have HTQ := Lib.hid (show (VL.take (q + 1)).filter (fun y => decide (y.slot = slot)) = (VL.take q).filter (fun y => decide (y.slot = slot)) ++ [y].filter (fun y => decide (y.slot = slot)) by rw [List.take_add_one, hyg, List.filter_append]; rfl)
          have HI := HJ
          have LENS := Lib.hid (show (slotV slot (al.take j) ++ (VL.take q).filter fun y => decide (y.slot = slot)).length ≤ 100000 by
            have h2 := okA_len (p := (p1, p2)) (l := VL) HXO.out
            have h3 : ((VL.take q).filter fun y => decide (y.slot = slot)).length ≤ (VL.take q).length := List.length_filter_le _ _
            have h4 := slotV_len slot (al.take j) (fun x hx => HOK.out x (List.mem_of_mem_take hx))
            have h5 : (al.take j).length ≤ j := by simp; omega
            rw [List.length_append]
            rw [List.length_take] at h3
            have h6 : 1000 * (al.take j).length ≤ 1000 * j := Nat.mul_le_mul_left _ h5
            omega)
          obtain ⟨sl, ⟨br, bn⟩, ⟨ck, cl, sq, nm, vl⟩⟩ := y
          obtain ⟨f0, f1, f2, f3, f4, f5, f6, f7⟩ := cellsV hec
          dsimp only at f0 f1 f2 f3 f4 f5 f6 f7
          clear hec hel hql hy hyg HJ
          go_upto_region 13 with fail
          generalize hW : World.alloc _ _ = w4
          have hx4 : w4.heap[wr.heap.size]? = some (.cells #[.int .i64 sl, .int .i64 br, .int .i64 bn, .int .i64 ck, .int .i64 cl, .int .i64 sq, .int .i64 nm, .int .i64 vl] 32 (0, 0)) := by rw [← hW]; exact heapNew _ _
          have b4 : Below wr.heap.size wr w4 := by rw [← hW]; exact (Below.refl _ _).alloc (Nat.le_refl _) _
          have hB4 := HI.out.res
          obtain ⟨vb, hvb⟩ : ∃ b, b = wr.heap.size := ⟨_, rfl⟩
          have HX4 := Lib.hid hx4
          rw [← hvb] at HX4 ⊢
          have HI4 := Lib.hid (HI.out.stay b4)
          have hvB : w.heap.size + 1 < vb := by
            obtain ⟨n1, -, hc⟩ := HI.out.cnt
            have := hc.lt
            omega
          clear hW hx4 b4 hB4 hvb f0 f1 f2 f3 f4 f5 f6 f7 HI
          have t0 := cellAt HX4.out 0 rfl
          have t1 := cellAt HX4.out 1 rfl
          have t2 := cellAt HX4.out 2 rfl
          have t3 := cellAt HX4.out 3 rfl
          have t4 := cellAt HX4.out 4 rfl
          have t5 := cellAt HX4.out 5 rfl
          have t6 := cellAt HX4.out 6 rfl
          have t7 := cellAt HX4.out 7 rfl
          by_cases hs : sl = slot
          · subst hs
            go_upto_region 14 with fail
            obtain ⟨n1, hn1, hcnt⟩ := HI4.out.cnt
            have hS5 : (slotV sl (al.take j) ++ (VL.take q).filter fun y => decide (y.slot = sl)).length ≤ 100000 := LENS.out
            obtain ⟨st, w5, w6, r1, r2, r3, r4, g5, g6, hc6⟩ := cnt_entry (show CntM w4.drew (w.heap.size + 1) n1 _ from hcnt) ⟨sl, (br, bn), ⟨ck, cl, sq, nm, vl⟩⟩ (okV_I HOV.out) (by omega) (by omega)
            obtain ⟨c, hc⟩ : ∃ c : Nat, c = (slotV sl (al.take j) ++ (VL.take q).filter fun y => decide (y.slot = sl)).count ⟨sl, (br, bn), ⟨ck, cl, sq, nm, vl⟩⟩ := ⟨_, rfl⟩
            rw [← hc] at r1 r2 r3 r4
            have hcl : c ≤ 100000 := by rw [hc]; exact Nat.le_trans List.count_le_length hS5
            have r1' : (Instr.mapEntry 73 (.map (some (w.heap.size + 1))) (.agg #[.int .i64 sl, .int .i64 br, .int .i64 bn, .int .i64 ck, .int .i64 cl, .int .i64 sq, .int .i64 nm, .int .i64 vl])).run Try.prog w4.drew = .ok (.tuple #[.int .i64 (c : Int), .int .i64 (st : Int)]) w5 := r1
            have r2' : (Instr.lookup 73 (.map (some (w.heap.size + 1))) (.agg #[.int .i64 sl, .int .i64 br, .int .i64 bn, .int .i64 ck, .int .i64 cl, .int .i64 sq, .int .i64 nm, .int .i64 vl]) false).run Try.prog w4.drew = .ok (.int .i64 (c : Int)) w4.drew := r2
            have r3' : (Instr.lookup 73 (.map (some (w.heap.size + 1))) (.agg #[.int .i64 sl, .int .i64 br, .int .i64 bn, .int .i64 ck, .int .i64 cl, .int .i64 sq, .int .i64 nm, .int .i64 vl]) false).run Try.prog w5 = .ok (.int .i64 (c : Int)) w5 := r3
            have r4' : (Instr.entryStore 73 (.map (some (w.heap.size + 1))) (.int .i64 (st : Int)) (.int .i64 ((c : Int) + 1))).run Try.prog w5 = .ok () w6 := r4
            have hwc : IntKind.i64.wrap ((c : Int) + 1) = (c : Int) + 1 := IntWalk.i64_in _ (by omega)
            have R := Lib.hid HI4.out.res
            have NEW := Lib.hid (show CInv w w6 (slotV sl (al.take j) ++ (VL.take (q + 1)).filter fun y => decide (y.slot = sl)) by
              rw [HTQ.out, ← List.append_assoc]
              refine ⟨Below.grown (w := w4.drew) HI4.out.below.drew g6 HI4.out.below.size (fun k hk => by injection hk with hk; omega), (g6.block _ (lt_of_heap (w := w4) HI4.out.res) (fun e => by injection e with e; omega)).trans HI4.out.res, n1 + 1, ?_, by simpa using hc6⟩
              simp
              simp at hn1
              omega)
            clear r1 r2 r3 r4 g5 g6 hc6 hcnt hn1 hS5 hc HI4 R
            go_region
            all_goals
              go_wp2_with fail
              go_roundw
              case rel => exact ⟨q + 1, by omega, by go_num, NEW⟩
              case measure => simp [intOf]; omega
          · have hsb : (sl == slot) = false := by rw [beq_eq_false_iff_ne]; exact hs
            have NEW := Lib.hid (show CInv w w4 (slotV slot (al.take j) ++ (VL.take (q + 1)).filter fun y => decide (y.slot = slot)) by
              rw [HTQ.out]
              simp [hs]
              exact HI4.out)
            clear t1 t2 t3 t4 t5 t6 t7
            go_wp2_with fail
            go_roundw
            case rel => exact ⟨q + 1, by omega, by go_num, NEW⟩
            case measure => simp [intOf]; omega
        · have hd1 : decide ((q : Int) < xn) = false := by rw [decide_eq_false_iff_not]; omega
          have hd1n : decide (q < xn) = false := by rw [decide_eq_false_iff_not]; omega
          have NEW := Lib.hid (show CInv w wr (slotV slot (al.take (j + 1))) by
            have h := HJ.out
            rw [List.take_of_length_le (l := VL) (by have := HXN.out; omega)] at h
            rw [HTK.out]
            exact h)
          clear HJ
          go_wp2_with fail
          go_roundw
          case rel => exact ⟨j + 1, by omega, by go_num, NEW⟩
          case measure => simp [intOf]; omega
    · have hd1 : decide ((j : Int) < n) = false := by rw [decide_eq_false_iff_not]; omega
      have hd1n : decide (j < n) = false := by rw [decide_eq_false_iff_not]; omega
      have hje : j = n := by omega
      have hinv := HI.out
      rw [hje, HN.out, List.take_length] at hinv
      obtain ⟨S, hS⟩ : ∃ S, S = slotV slot al := ⟨_, rfl⟩
      rw [← hS] at hinv
      have HSS := Lib.hid hS
      have SI := Lib.hid (show ∀ y ∈ S, VotI y from fun y hy => by
        rw [hS] at hy
        obtain ⟨x, hx, hy⟩ := List.mem_flatMap.1 hy
        have h := HOK.out x hx
        exact okV_I (okA_mem (p := x.a.p) h y (List.mem_filter.1 hy).1))
      obtain ⟨B1, R1, N, hN, D, hown, hat, hhas⟩ := hinv
      have HAT := Lib.hid hat
      have HHAS := Lib.hid hhas
      have HB1 := Lib.hid B1
      have HR1 := Lib.hid R1
      have hbs := B1.size
      have HOK2 := HOK
      clear hS hje HI hat hhas HOK HVS HCELLS
      go_wp2_with (first
        | (at_range; refine wpList_range_own _ rfl _ 73 rfl 32 3 votKeyed Try.underlying73 _ (w.heap.size + 1) N D rfl hown ?_; intro w0 hrg0 hg0 hs0)
        | go_in)
      go_frame
      obtain ⟨rr, hrr⟩ : ∃ r, r = wr.heap.size := ⟨_, rfl⟩
      rw [← hrr] at hrg0 hs0 ⊢
      have h00 : rr ≠ w.heap.size ∧ rr ≠ w.heap.size + 1 ∧ w.heap.size ≤ rr := by
        have h1 := hown.lt
        omega
      obtain ⟨hr0, hr1, hr2⟩ := h00
      have hb0 : Below w.heap.size w w0 := HB1.out.grown hg0 hbs (fun k hk => by cases hk)
      have hz0 := (hg0.block _ (lt_of_heap HR1.out) (by simp)).trans HR1.out
      have inv0 : Hid (∃ left cnt, w0.ranges Try.prog 32 (plainElem (H := Unit) Try.prog 3) (w.heap.size + 1) rr N D left cnt ∧ (∀ y kl, keyOf Try.prog 32 (votV y) = some kl → y ∈ S → left kl = false → ¬ n < 2 * S.count y) ∧ Below w.heap.size w w0 ∧ w0.heap[w.heap.size]? = some (.cells #[.int .i64 0, .int .i64 0, .int .i64 0, .int .i64 0, .int .i64 0] 30 (0, 0))) := Lib.hid (by
        refine ⟨_, _, hrg0, fun y kl hk hy hl => ?_, hb0, hz0⟩
        exfalso
        have h1 := HAT.out y kl hk
        rw [Go.Maps.atKey_of_not_has hl] at h1
        injection h1 with h1
        injection h1 with _ h1
        have h2 : 0 < S.count y := List.count_pos_iff.2 hy
        omega)
      clear hrg0 hg0 hs0 hb0 hz0 hown HB1 HR1 hbs hrr
      go_loopw [13] (fun _ wr => ∃ left cnt, wr.ranges Try.prog 32 (plainElem (H := Unit) Try.prog 3) (w.heap.size + 1) rr N D left cnt ∧ (∀ y kl, keyOf Try.prog 32 (votV y) = some kl → y ∈ S → left kl = false → ¬ n < 2 * S.count y) ∧ Below w.heap.size w wr ∧ wr.heap[w.heap.size]? = some (.cells #[.int .i64 0, .int .i64 0, .int .i64 0, .int .i64 0, .int .i64 0] 30 (0, 0))) (fun _ wr => wr.rangeLeft (w.heap.size + 1) rr)
      case atStart => exact inv0.out
      case round =>
        clear inv0
        obtain ⟨left, cnt, hrg, hno, hb, hz⟩ := hrel
        go_wp2_with (first
          | (at_next; refine wpList_next_ranges _ rfl _ rfl 32 votKeyed (plainElem (H := Unit) Try.prog 3) (Subtype.val : {x : Value // ∃ kl, keyOf Try.prog 32 x = some kl} → Value) (Value.int .i64) (fun key kl hkey => ⟨⟨key, kl, hkey⟩, rfl⟩) (fun v y hv => by obtain ⟨c, h1, _⟩ := plainElem_int_inv Try.underlying3 hv; exact ⟨c, h1⟩) (w.heap.size + 1) rr N D left cnt rfl hrg ?_ ?_)
          | go_in)
        · intro hc0 hl0
          have NO := Lib.hid (show ∀ y, ¬ al.length < 2 * (slotV slot al).count y from fun y => by
            rw [← HSS.out, ← HN.out]
            by_cases hy : y ∈ S
            · obtain ⟨kl, hkl⟩ := votKey (SI.out y hy)
              exact hno y kl hkl hy (hl0 kl)
            · rw [List.count_eq_zero.2 hy]; omega)
          have f0 := cellAt hz 0 rfl
          have f1 := cellAt hz 1 rfl
          have f2 := cellAt hz 2 rfl
          have f3 := cellAt hz 3 rfl
          have f4 := cellAt hz 4 rfl
          have ff := freeAt hz
          have HZ := Lib.hid hz
          have HB := Lib.hid hb
          clear hno hz hb hrg hc0 hl0
          go_wp2_with fail
          have z5 := heapSet (o := 4) (heapSet (o := 3) (heapSet (o := 2) (heapSet (o := 1) (heapSet (o := 0) HZ.out (.int .i64 0)) (.int .i64 0)) (.int .i64 0)) (.int .i64 0)) (.int .i64 0)
          have b5 := ((((HB.out.setCell (p := ⟨w.heap.size, 0, none⟩) (Nat.le_refl _) (.int .i64 0)).setCell (p := ⟨w.heap.size, 1, none⟩) (Nat.le_refl _) (.int .i64 0)).setCell (p := ⟨w.heap.size, 2, none⟩) (Nat.le_refl _) (.int .i64 0)).setCell (p := ⟨w.heap.size, 3, none⟩) (Nat.le_refl _) (.int .i64 0)).setCell (p := ⟨w.heap.size, 4, none⟩) (Nat.le_refl _) (.int .i64 0)
          generalize hW : World.setCell _ _ _ = w5 at z5 b5 ⊢
          have hl := run_loadVar_mid (P := Try.prog) w5 w.heap.size 0 30 [.int .i64 0, .int .i64 0, .int .i64 0, .int .i64 0, .int .i64 0] _ (range_of z5) Try.underlying30 rfl cmdSz
          exact bodyPost_ret (v := .tuple #[.agg #[.int .i64 0, .int .i64 0, .int .i64 0, .int .i64 0, .int .i64 0], .int .i64 9]) (results_ct Try.results18 rfl hl) rfl ⟨b5, .inr ⟨by rw [HN.out]; exact NO.out, rfl⟩⟩
        · intro x kl0 hx0 c kl dd pl w1 cnt1 hkx hlx hvc hat1 hrg1 hlt hg1 hs1 hen
          clear hx0 kl0
          obtain ⟨y, hyS, hyk⟩ := HHAS.out kl (Go.Maps.has_true_of_atKey hat1)
          have hxe : x = votV y := votLaw.inj hkx hyk
          obtain ⟨k, hkk⟩ : ∃ k, k = S.count y := ⟨_, rfl⟩
          have hce : c = (k : Int) := by
            obtain ⟨c', h1, h2, _⟩ := plainElem_int_inv Try.underlying3 hvc
            injection h1 with _ h1
            have h3 := HAT.out y kl hyk
            injection h2 with h2 _
            rw [hat1, h2] at h3
            injection h3 with h3
            injection h3 with _ h3
            rw [h1, h3, hkk]
          have hk1 : k ≤ 100000 := by
            have h3 := slotV_len slot al HOK2.out
            have h4 : S.count y ≤ S.length := List.count_le_length
            rw [HSS.out] at h4
            rw [hkk, HSS.out]
            have := HN.out
            omega
          subst hxe hce
          have KK := Lib.hid hkk
          have hwk : IntKind.i64.wrap (2 * (k : Int)) = 2 * (k : Int) := IntWalk.i64_in _ (by omega)
          have b1 : Below w.heap.size w w1 := hb.grown hg1 hb.size (fun j hj => by injection hj with hj; omega)
          have hz1 := (hg1.block _ (lt_of_heap hz) (fun e => by injection e with e; omega)).trans hz
          have NO1 := Lib.hid (show ∀ y' kl', keyOf Try.prog 32 (votV y') = some kl' → y' ∈ S → (left kl' && !kl'.sameKey kl) = false → (¬ n < 2 * k) → ¬ n < 2 * S.count y' from fun y' kl' h1 h2 h3 h4 => by
            cases h5 : left kl' with
            | false => exact hno y' kl' h1 h2 h5
            | true =>
              rw [h5, Bool.true_and] at h3
              have h6 : kl' = kl := by
                rcases Classical.em (kl' = kl) with h | h
                · exact h
                · rw [Go.Maps.sameKey_ne h] at h3; cases h3
              have h7 : y' = y := votKey_inj (h6 ▸ h1) hyk
              rw [h7, ← hkk]; exact h4)
          have YS := Lib.hid hyS
          obtain ⟨sl, ⟨br, bn⟩, ⟨ck, cl, sq, nm, vl⟩⟩ := y
          have hen' : (Instr.entry (.pointer (some ⟨rr, 0, none⟩))).run Try.prog w1 = .ok (.tuple #[.agg #[.int .i64 sl, .int .i64 br, .int .i64 bn, .int .i64 ck, .int .i64 cl, .int .i64 sq, .int .i64 nm, .int .i64 vl], .int .i64 (k : Int)]) w1 := hen
          rw [show votV ⟨sl, (br, bn), ⟨ck, cl, sq, nm, vl⟩⟩ = .agg #[.int .i64 sl, .int .i64 br, .int .i64 bn, .int .i64 ck, .int .i64 cl, .int .i64 sq, .int .i64 nm, .int .i64 vl] from rfl]
          have HRG := Lib.hid hrg
          obtain ⟨left2, hl2⟩ : ∃ f, f = (fun z : Lit => left z && !z.sameKey kl) := ⟨_, rfl⟩
          rw [← hl2] at hrg1
          have HL2 := Lib.hid hl2
          have HRG1 := Lib.hid hrg1
          clear hl2
          have HB := Lib.hid b1
          have HZ := Lib.hid hz1
          clear hno hkk hen hrg hrg1 hg1 hs1 hz hb b1 hz1 hat1 hvc hlx hyS hyk hkx
          by_cases hmore : n < 2 * k
          · have hd1 : decide ((n : Int) < 2 * (k : Int)) = true := by rw [decide_eq_true_eq]; omega
            have hd1n : decide (n < 2 * k) = true := by rw [decide_eq_true_eq]; exact hmore
            go_upto_region 21 with fail
            generalize hW : World.alloc _ _ = w2
            have b2 : Below w1.heap.size w1 w2 := by rw [← hW]; exact (Below.refl _ _).alloc (Nat.le_refl _) _
            have hx2 : w2.heap[w1.heap.size]? = some (.cells #[.int .i64 sl, .int .i64 br, .int .i64 bn, .int .i64 ck, .int .i64 cl, .int .i64 sq, .int .i64 nm, .int .i64 vl] 32 (0, 0)) := by rw [← hW]; exact heapNew _ _
            have hz2 := (b2.block _ (lt_of_heap HZ.out)).trans HZ.out
            have hB2 : Below w.heap.size w w2 := HB.out.trans (b2.mono HB.out.size)
            have hlz := lt_of_heap HZ.out
            obtain ⟨vb, hvb⟩ : ∃ b, b = w1.heap.size := ⟨_, rfl⟩
            rw [← hvb] at hx2 ⊢
            have hvn : ¬ (vb = w.heap.size) := by omega
            have hvn' : ¬ (w.heap.size = vb) := by omega
            have s3 := cellAt hx2 3 rfl
            have s4 := cellAt hx2 4 rfl
            have s5 := cellAt hx2 5 rfl
            have s6 := cellAt hx2 6 rfl
            have s7 := cellAt hx2 7 rfl
            have f0 := cellAt hz2 0 rfl
            have f1 := cellAt hz2 1 rfl
            have f2 := cellAt hz2 2 rfl
            have f3 := cellAt hz2 3 rfl
            have f4 := cellAt hz2 4 rfl
            have ff := freeAt hz2
            have HZ2 := Lib.hid hz2
            have HB2 := Lib.hid hB2
            have RES := Lib.hid (show al.length < 2 * (slotV slot al).count ⟨sl, (br, bn), ⟨ck, cl, sq, nm, vl⟩⟩ by rw [← HSS.out, ← KK.out, ← HN.out]; exact hmore)
            clear hW b2 hx2 hz2 hB2 hvb HZ HB HRG HRG1 HL2 NO1 KK
            go_wp2_with fail
            have z5 := heapSet (o := 4) (heapSet (o := 3) (heapSet (o := 2) (heapSet (o := 1) (heapSet (o := 0) HZ2.out (.int .i64 ck)) (.int .i64 cl)) (.int .i64 sq)) (.int .i64 nm)) (.int .i64 vl)
            have b5 := ((((HB2.out.setCell (p := ⟨w.heap.size, 0, none⟩) (Nat.le_refl _) (.int .i64 ck)).setCell (p := ⟨w.heap.size, 1, none⟩) (Nat.le_refl _) (.int .i64 cl)).setCell (p := ⟨w.heap.size, 2, none⟩) (Nat.le_refl _) (.int .i64 sq)).setCell (p := ⟨w.heap.size, 3, none⟩) (Nat.le_refl _) (.int .i64 nm)).setCell (p := ⟨w.heap.size, 4, none⟩) (Nat.le_refl _) (.int .i64 vl)
            generalize hW : World.setCell _ _ _ = w5 at z5 b5 ⊢
            have hl := run_loadVar_mid (P := Try.prog) w5 w.heap.size 0 30 [.int .i64 ck, .int .i64 cl, .int .i64 sq, .int .i64 nm, .int .i64 vl] _ (range_of z5) Try.underlying30 rfl cmdSz
            exact bodyPost_ret (v := .tuple #[.agg #[.int .i64 ck, .int .i64 cl, .int .i64 sq, .int .i64 nm, .int .i64 vl], .int .i64 0]) (results_ct Try.results18 rfl hl) rfl ⟨b5, .inl ⟨_, by rw [HN.out]; exact RES.out, rfl⟩⟩
          · have hd1 : decide ((n : Int) < 2 * (k : Int)) = false := by rw [decide_eq_false_iff_not]; omega
            have hd1n : decide (n < 2 * k) = false := by rw [decide_eq_false_iff_not]; exact hmore
            go_wp2_with fail
            generalize hW : World.alloc _ _ = w2
            have hrg2 : w2.ranges Try.prog 32 (plainElem (H := Unit) Try.prog 3) (w.heap.size + 1) rr N D left2 cnt1 := by rw [← hW]; exact HRG1.out.alloc _
            have b2 : Below w.heap.size w w2 := by rw [← hW]; exact HB.out.alloc HB.out.size _
            have hz2 : w2.heap[w.heap.size]? = some (.cells #[.int .i64 0, .int .i64 0, .int .i64 0, .int .i64 0, .int .i64 0] 30 (0, 0)) := by rw [← hW]; exact (heapOld _ _ _ (lt_of_heap HZ.out)).trans HZ.out
            clear hW
            go_roundw
            case rel => exact ⟨_, cnt1, hrg2, fun y' kl' h1 h2 h3 => NO1.out y' kl' h1 h2 (by rw [HL2.out] at h3; exact h3) hmore, b2, hz2⟩
            case measure => rw [hrg2.left_eq, HRG.out.left_eq]; exact hlt
end Go.Proofs.Ytdkbajdnckmckaa
