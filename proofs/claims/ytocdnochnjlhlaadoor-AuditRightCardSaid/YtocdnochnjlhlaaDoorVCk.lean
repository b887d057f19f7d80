/-
  The walk of vault.Check.
-/
import Derived.Test.YtocdnochnjlhlaaDoorSto
set_option linter.unusedVariables false
set_option linter.unusedSimpArgs false
namespace Go.Proofs.YtocdnochnjlhlaaDoor
open Go.RowKit Go.Con
theorem rangeVals {w : World} {b : Nat} {s : Sto} {t : TypeId} (h : s.Ok) (hx : w.heap[b]? = some (.cells s.cells.toArray t (0, 0))) : w.rangeAt b 0 (s.vals.map (Value.int .i64)) := fun j v hv => by
  have hj : j < 8 := by have := (List.getElem?_eq_some_iff.1 hv).1; simpa [valsLen h] using this
  rw [Nat.zero_add, stoGetN hx h.ln (by omega), ← hv]
  unfold Sto.vals
  have h1 : j < s.n.length := by have := h.ln; omega
  simp [List.getElem?_take, hj, h1]
theorem rangeLasts {w : World} {b : Nat} {s : Sto} {t : TypeId} (h : s.Ok) (hx : w.heap[b]? = some (.cells s.cells.toArray t (0, 0))) : w.rangeAt b 8 (s.lasts.map (Value.int .i64)) := fun j v hv => by
  have hj : j < 8 := by have := (List.getElem?_eq_some_iff.1 hv).1; simpa [lastsLen h] using this
  rw [stoGetN hx h.ln (by omega), ← hv]
  unfold Sto.lasts
  have h1 : 8 + j < s.n.length := by have := h.ln; omega
  simp [List.getElem?_take, hj, h1]
theorem loadStore {w : World} {b : Nat} {s : Sto} {t : TypeId} (h : s.Ok) (hx : w.heap[b]? = some (.cells s.cells.toArray t (0, 0))) : (Instr.loadAt 30 (.pointer (some ⟨b, 0, none⟩))).run Tryd.prog w = .ok (.agg s.cells.toArray) w :=
  run_loadAt_mid w b 0 30 s.cells _ (range_of hx) Tryd.underlying30 rfl (by rw [stoLen h]; exact stoSz)
set_option maxRecDepth 100000 in
set_option maxHeartbeats 2000000 in
theorem stoCheck_ok (s : Sto) (h : s.Ok) (w : World) :
    Calls Tryd.prog 11 #[.agg s.cells.toArray] w fun e w' => e = .returned (.int .i64 0) ∧ Below w.heap.size w w' := by
  have HO := Lib.hid h
  obtain ⟨cs, hcs⟩ : ∃ cs, cs = s.cells.toArray := ⟨_, rfl⟩
  have X : (w.alloc (.cells cs 30)).heap[w.heap.size]? = some (.cells s.cells.toArray 30 (0, 0)) := by rw [hcs]; exact heapNew w _
  rw [← hcs]
  obtain ⟨v1, hv1⟩ : ∃ v, v = s.vals.map (Value.int .i64) := ⟨_, rfl⟩
  obtain ⟨v2, hv2⟩ : ∃ v, v = s.lasts.map (Value.int .i64) := ⟨_, rfl⟩
  have l1 := rangeVals h X
  have l2 := rangeLasts h X
  have z1 : (Tryd.prog.info? 23).map (fun x => x.size) = some v1.length := by rw [hv1, List.length_map, valsLen h]; kernel_rfl
  have z2 : (Tryd.prog.info? 23).map (fun x => x.size) = some v2.length := by rw [hv2, List.length_map, lastsLen h]; kernel_rfl
  have i1 : ∀ k : Nat, k < 8 → ∀ W, (Instr.index 23 (.agg v1.toArray) (.int .i64 k)).run Tryd.prog W = .ok (.int .i64 (s.val k)) W := fun k hk W => by rw [hv1]; exact index_vals h k hk W
  have i2 : ∀ k : Nat, k < 8 → ∀ W, (Instr.index 23 (.agg v2.toArray) (.int .i64 k)).run Tryd.prog W = .ok (.int .i64 (s.last k)) W := fun k hk W => by rw [hv2]; exact index_lasts h k hk W
  rw [← hv1] at l1
  rw [← hv2] at l2
  have XH := Lib.hid X
  have I1 := Lib.hid i1
  have I2 := Lib.hid i2
  have L1 := Lib.hid l1
  have L2 := Lib.hid l2
  have Z1 := Lib.hid z1
  have Z2 := Lib.hid z2
  clear i1 i2 X h hcs hv1 hv2 l1 l2 z1 z2
  go_enter Tryd.func11, Tryd.ntmps11
  go_wp2_with (refine wpList_load_mid rfl 23 (.tmp 7) rfl w.heap.size 0 rfl v1 _ L1.out Tryd.underlying23 rfl Z1.out ?_)
  go_loop [9] (fun i => ∃ k : Nat, k ≤ 8 ∧ i = .int .i64 k) (fun i => 8 - (intOf i).toNat)
  case atStart => exact ⟨0, by omega, rfl⟩
  case round =>
    obtain ⟨k, hk, rfl⟩ := hrel
    by_cases hlt : k < 8
    · have hdk : decide ((k : Int) < 8) = true := by rw [decide_eq_true_eq]; omega
      have hix := I1.out k hlt
      have n0 := HO.out.val0 k hlt
      have n1 := HO.out.val1 k hlt
      obtain ⟨n, hn⟩ : ∃ n, n = s.val k := ⟨_, rfl⟩
      rw [← hn] at hix n0 n1
      clear hn
      have d1 : decide (n < 0) = false := by rw [decide_eq_false_iff_not]; omega
      have d2 : decide ((1073741824 : Int) < n) = false := by rw [decide_eq_false_iff_not]; omega
      go_wp2_with fail
      go_round
      case rel => exact ⟨k + 1, by omega, by go_num⟩
      case measure => simp [intOf]; omega
    · have hdk : decide ((k : Int) < 8) = false := by rw [decide_eq_false_iff_not]; omega
      go_wp2_with (refine wpList_load_mid rfl 23 (.tmp 19) rfl w.heap.size 8 rfl v2 _ L2.out Tryd.underlying23 rfl Z2.out ?_)
      go_loop [21] (fun i => ∃ k : Nat, k ≤ 8 ∧ i = .int .i64 k) (fun i => 8 - (intOf i).toNat)
      case atStart => exact ⟨0, by omega, rfl⟩
      case round =>
        obtain ⟨j, hj, rfl⟩ := hrel
        by_cases hlj : j < 8
        · have hdj : decide ((j : Int) < 8) = true := by rw [decide_eq_true_eq]; omega
          have hix := I2.out j hlj
          have n0 := HO.out.last0 j hlj
          have n1 := HO.out.last1 j hlj
          have hnone := HO.out.none j hlj
          have hc1 := stoGetN (o := 16 + j * 2) XH.out HO.out.ln (by omega)
          have hc2 := stoGetN (o := 16 + j * 2 + 1) XH.out HO.out.ln (by omega)
          rw [show 16 + j * 2 = 16 + 2 * j by omega] at hc1
          rw [show 16 + j * 2 + 1 = 17 + 2 * j by omega] at hc2
          obtain ⟨n, hn⟩ : ∃ n, n = s.last j := ⟨_, rfl⟩
          rw [← hn] at hix n0 n1 hnone
          have d1 : decide (n < 0) = false := by rw [decide_eq_false_iff_not]; omega
          have d2 : decide ((1048577 : Int) < n) = false := by rw [decide_eq_false_iff_not]; omega
          by_cases hz : n = 0
          · obtain ⟨z1, z2⟩ := hnone hz
            unfold Sto.code at z1
            unfold Sto.aval at z2
            rw [z1] at hc1
            rw [z2] at hc2
            rw [show 16 + 2 * j = 16 + j * 2 by omega] at hc1
            rw [show 17 + 2 * j = 16 + j * 2 + 1 by omega] at hc2
            have e0 : (n == 0) = true := by simp [hz]
            clear hn hnone z1 z2
            go_wp2_with fail
            go_round
            case rel => exact ⟨j + 1, by omega, by go_num⟩
            case measure => simp [intOf]; omega
          · have e0 : (n == 0) = false := by simp [hz]
            clear hn hnone hc1 hc2
            go_wp2_with fail
            go_round
            case rel => exact ⟨j + 1, by omega, by go_num⟩
            case measure => simp [intOf]; omega
        · have hdj : decide ((j : Int) < 8) = false := by rw [decide_eq_false_iff_not]; omega
          go_wp2
          go_ret
          exact ⟨rfl, (Below.refl _ _).alloc (Nat.le_refl _) _⟩
end Go.Proofs.YtocdnochnjlhlaaDoor
