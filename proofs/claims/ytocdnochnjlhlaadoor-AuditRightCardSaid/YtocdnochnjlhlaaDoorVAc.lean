/-
  The walk of vault.act; a frame of four blocks; a load of a whole struct in a region that draws.
-/
import Derived.Test.YtocdnochnjlhlaaDoorVCk
import Derived.Test.YtocdnochnjlhlaaDoorQt
import Derived.Test.YtocdnochnjlhlaaDoorOrdE
import Derived.Deep.RegionHeld3
set_option linter.unusedVariables false
set_option linter.unusedSimpArgs false
namespace Go.Con
open Go Go.RowKit
theorem frame4 {w w1 : World} {A B C D : Obj} (h : Below ((((w.alloc A).alloc B).alloc C).alloc D).heap.size ((((w.alloc A).alloc B).alloc C).alloc D) w1) :
    w1.heap[w.heap.size]? = some A ∧ w1.heap[w.heap.size + 1]? = some B ∧ w1.heap[w.heap.size + 1 + 1]? = some C ∧ w1.heap[w.heap.size + 1 + 1 + 1]? = some D ∧ w.heap.size + 4 ≤ w1.heap.size ∧ Below w.heap.size w w1 := by
  have e1 : (w.alloc A).heap.size = w.heap.size + 1 := by simp
  have e2 : ((w.alloc A).alloc B).heap.size = w.heap.size + 1 + 1 := by simp
  have e3 : (((w.alloc A).alloc B).alloc C).heap.size = w.heap.size + 1 + 1 + 1 := by simp
  have e4 : ((((w.alloc A).alloc B).alloc C).alloc D).heap.size = w.heap.size + 4 := by simp
  rw [e4] at h
  refine ⟨?_, ?_, ?_, ?_, ?_, ?_⟩
  · rw [h.block _ (by omega), heapOld _ _ _ (by omega), heapOld _ _ _ (by omega), heapOld _ _ _ (by omega)]; exact heapNew _ _
  · rw [h.block _ (by omega), heapOld _ _ _ (by omega), heapOld _ _ _ (by omega), ← e1]; exact heapNew _ _
  · rw [h.block _ (by omega), heapOld _ _ _ (by omega), ← e2]; exact heapNew _ _
  · rw [h.block _ (by omega), ← e3]; exact heapNew _ _
  · have := h.size; rw [e4] at this; exact this
  · exact (((((Below.refl w.heap.size w).alloc (Nat.le_refl _) _).alloc (by omega) _).alloc (by omega) _).alloc (by omega) _).trans (h.mono (by omega))
theorem wpQuiet_load {P : Program} {ops : Array Oper} {C : World → Prop} {Q : Act → Prop} {rest : List Oper} {o : Oper} {a : Act} (hw : Region.wanted o (yielded ops a.tmps) = true) (ty : TypeId) (x : Operand) (ho : o.op = .load ty x)
    (b off : Nat) (hx : a.eval x = .pointer (some ⟨b, off, none⟩)) (cs : List Value) (d : TypeDesc) (hC : ∀ w, C w → w.rangeAt b off cs)
    (hu : P.underlying ty = some d) (hd : d.isRow = true) (hi : (P.info? ty).map (·.size) = some cs.length)
    (h : wpQuiet P ops C Q rest (a.put o.dst (.agg cs.toArray))) : wpQuiet P ops C Q (o :: rest) a := by
  unfold wpQuiet
  rw [if_pos hw]
  refine ⟨_, fun w hcw => ?_, h⟩
  unfold Oper.quietAt execOp
  simp only [ho, hx, Instr.loadAt, Instr.sureAddr, Sem.run_bind, Sem.run_pure, Result.andThen_ok, run_loadVar_mid w b off ty cs d (hC w hcw) hu hd hi]
  exact ⟨rfl, rfl⟩
/-- what an act makes of a store: its marks and values -/
def Sto.acted (s : Sto) (c : Cmd) : Sto := ⟨if c.kind = 1 then s.n.set c.name.toNat c.value else s.n, if c.kind = 3 then s.r.set c.name.toNat true else s.r⟩
end Go.Con
namespace Go.Proofs.YtocdnochnjlhlaaDoor
open Go.RowKit Go.Con
set_option maxRecDepth 100000 in
set_option maxHeartbeats 2000000 in
theorem act_put (b : Nat) (s : Sto) (h : s.n.length = 32) (cl sq vl : Int) (nm : Nat) (hn : nm < 8) (w : World) (hx : w.heap[b]? = some (.cells s.cells.toArray 30 (0, 0))) :
    Calls Tryd.prog 16 #[.pointer (some ⟨b, 0, none⟩), .agg #[.int .i64 1, .int .i64 cl, .int .i64 sq, .int .i64 nm, .int .i64 vl]] w fun e w' => e = .returned (.agg #[.int .i64 0, .int .i64 vl]) ∧ w'.heap[b]? = some (.cells (s.setN nm vl).cells.toArray 30 (0, 0)) ∧ Kept w.heap.size (fun k => k = b) w w' := by
  have hlb := lt_of_heap hx
  have hcell := stoGetN (o := nm) hx h (by omega)
  have hfree := freeAt hx nm
  have X := Lib.hid hx
  have H := Lib.hid h
  clear hx h
  go_enter Tryd.func16, Tryd.ntmps16
  go_wp2_with fail
  refine region_quiet_tail 8 (by kernel_rfl) (by kernel_rfl) ?_
  simp only [List.take_succ_cons, List.take_zero, List.drop_succ_cons, List.drop_zero]
  repeat (go_big_quiet_step (fail))
  refine wpQuiet_nil ?_
  intro w9 hw9
  obtain ⟨nq, rfl⟩ := hw9
  go_wp2_with fail
  generalize hW : World.setCell _ _ _ = wz
  have y0 : wz.heap[b]? = some (.cells (s.setN nm vl).cells.toArray 30 (0, 0)) := by
    rw [← hW]
    refine stoSetN ?_ H.out (by omega) vl
    show ((w.alloc _).alloc _).heap[b]? = _
    rw [heapOld _ _ _ (by simp; omega), heapOld _ _ _ (by omega)]
    exact X.out
  have y1 : wz.heap[w.heap.size]? = some (.cells #[.int .i64 1, .int .i64 cl, .int .i64 sq, .int .i64 nm, .int .i64 vl] 42 (0, 0)) := by
    rw [← hW, heapSet_ne _ _ (by omega)]
    exact heapNew0 _ _ _
  have y2 : wz.heap[w.heap.size + 1]? = some (.cells #[.int .i64 0, .int .i64 0] 26 (0, 0)) := by
    rw [← hW, heapSet_ne _ _ (by omega)]
    exact heapNew1 _ _ _
  have y3 : Kept w.heap.size (fun k => k = b) w wz := by
    rw [← hW]
    refine Kept.setCell (Kept.drewN (Kept.alloc (Kept.alloc (Kept.refl w.heap.size (fun k => k = b) w) (Nat.le_refl _) _) ?_ _) nq) (.inr (show b = b from rfl)) _
    simp
  have c2 := stoGetN (o := nm) y0 (by unfold Sto.setN; simp [H.out]) (by omega)
  have e2 : (s.setN nm vl).n.getD nm 0 = vl := by unfold Sto.setN; dsimp only; rw [getD_set, if_pos ⟨rfl, by have := H.out; omega⟩]
  rw [e2] at c2
  have c3 := cellAt y1 3 rfl
  have c4 := cellAt y2 0 rfl
  have c5 := cellAt y2 1 rfl
  have f4 := freeAt y2
  have Y0 := Lib.hid y0
  have Y2 := Lib.hid y2
  have Y3 := Lib.hid y3
  clear hW y0 y1 y2 y3 e2 hcell hfree
  refine region_quiet_tail 8 (by kernel_rfl) (by kernel_rfl) ?_
  simp only [List.take_succ_cons, List.take_zero, List.drop_succ_cons, List.drop_zero]
  repeat (go_big_quiet_step (fail))
  refine wpQuiet_nil ?_
  intro w9 hw9
  obtain ⟨nq2, rfl⟩ := hw9
  go_wp2_with fail
  refine bodyPost_ret (v := .agg #[.int .i64 0, .int .i64 vl]) (by simp [results, Tryd.results16, go_sem, c4, c5, f4]) rfl ⟨rfl, ?_, ?_⟩
  · rw [heapSet_ne _ _ (by omega), heapSet_ne _ _ (by omega)]
    exact Y0.out
  · exact ((Y3.out.drewN nq2).setCell (.inl (by show w.heap.size ≤ w.heap.size + 1; omega)) _).setCell (.inl (by show w.heap.size ≤ w.heap.size + 1; omega)) _
set_option maxRecDepth 100000 in
set_option maxHeartbeats 2000000 in
theorem act_get (b : Nat) (s : Sto) (h : s.n.length = 32) (cl sq vl : Int) (nm : Nat) (hn : nm < 8) (w : World) (hx : w.heap[b]? = some (.cells s.cells.toArray 30 (0, 0))) :
    Calls Tryd.prog 16 #[.pointer (some ⟨b, 0, none⟩), .agg #[.int .i64 2, .int .i64 cl, .int .i64 sq, .int .i64 nm, .int .i64 vl]] w fun e w' => e = .returned (.agg #[.int .i64 0, .int .i64 (s.val nm)]) ∧ w'.heap[b]? = some (.cells s.cells.toArray 30 (0, 0)) ∧ Kept w.heap.size (fun k => k = b) w w' := by
  have hlb := lt_of_heap hx
  have hcell := stoGetN (o := nm) hx h (by omega)
  have hval : s.n.getD nm 0 = s.val nm := rfl
  rw [hval] at hcell
  have X := Lib.hid hx
  clear hx h hval
  go_enter Tryd.func16, Tryd.ntmps16
  go_wp2_with fail
  refine region_quiet_tail 8 (by kernel_rfl) (by kernel_rfl) ?_
  simp only [List.take_succ_cons, List.take_zero, List.drop_succ_cons, List.drop_zero]
  repeat (go_big_quiet_step (fail))
  refine wpQuiet_nil ?_
  intro w9 hw9
  obtain ⟨nq2, rfl⟩ := hw9
  go_wp2_with fail
  refine bodyPost_ret (v := .agg #[.int .i64 0, .int .i64 (s.val nm)]) (by simp [results, Tryd.results16, go_sem]) rfl ⟨rfl, ?_, ?_⟩
  · rw [heapSet_ne _ _ (by omega), heapSet_ne _ _ (by omega)]
    show ((w.alloc _).alloc _).heap[b]? = _
    rw [heapOld _ _ _ (by simp; omega), heapOld _ _ _ (by omega)]
    exact X.out
  · refine Kept.setCell (Kept.setCell (Kept.drewN (Kept.alloc (Kept.alloc (Kept.refl w.heap.size (fun k => k = b) w) (Nat.le_refl _) _) ?_ _) nq2) (.inl ?_) _) (.inl ?_) _
    · simp
    · show w.heap.size ≤ w.heap.size + 1; omega
    · show w.heap.size ≤ w.heap.size + 1; omega
set_option maxRecDepth 100000 in
set_option maxHeartbeats 2000000 in
theorem act_revoke (b : Nat) (s : Sto) (h : s.n.length = 32) (hr : s.r.length = 8) (cl sq vl : Int) (nm : Nat) (hn : nm < 8) (w : World) (hx : w.heap[b]? = some (.cells s.cells.toArray 30 (0, 0))) :
    Calls Tryd.prog 16 #[.pointer (some ⟨b, 0, none⟩), .agg #[.int .i64 3, .int .i64 cl, .int .i64 sq, .int .i64 nm, .int .i64 vl]] w fun e w' => e = .returned (.agg #[.int .i64 0, .int .i64 0]) ∧ w'.heap[b]? = some (.cells (s.setR nm).cells.toArray 30 (0, 0)) ∧ Kept w.heap.size (fun k => k = b) w w' := by
  have hlb := lt_of_heap hx
  have hcell := stoGetR (i := nm) hx h hr hn
  have hfree := freeAt hx (32 + nm)
  have X := Lib.hid hx
  have H := Lib.hid h
  have HR := Lib.hid hr
  clear hx h hr
  go_enter Tryd.func16, Tryd.ntmps16
  go_wp2_with fail
  refine region_quiet_tail 6 (by kernel_rfl) (by kernel_rfl) ?_
  simp only [List.take_succ_cons, List.take_zero, List.drop_succ_cons, List.drop_zero]
  repeat (go_big_quiet_step (fail))
  refine wpQuiet_nil ?_
  intro w9 hw9
  obtain ⟨nq, rfl⟩ := hw9
  go_wp2_with fail
  refine bodyPost_ret (v := .agg #[.int .i64 0, .int .i64 0]) (by simp [results, Tryd.results16, go_sem]) rfl ⟨rfl, ?_, ?_⟩
  · rw [heapSet_ne _ _ (by omega), heapSet_ne _ _ (by omega)]
    refine stoSetR ?_ H.out HR.out hn
    show ((w.alloc _).alloc _).heap[b]? = _
    rw [heapOld _ _ _ (by simp; omega), heapOld _ _ _ (by omega)]
    exact X.out
  · refine Kept.setCell (Kept.setCell (Kept.setCell (Kept.drewN (Kept.alloc (Kept.alloc (Kept.refl w.heap.size (fun k => k = b) w) (Nat.le_refl _) _) ?_ _) nq) (.inr (show b = b from rfl)) _) (.inl ?_) _) (.inl ?_) _
    · simp
    · show w.heap.size ≤ w.heap.size + 1; omega
    · show w.heap.size ≤ w.heap.size + 1; omega
end Go.Proofs.YtocdnochnjlhlaaDoor
