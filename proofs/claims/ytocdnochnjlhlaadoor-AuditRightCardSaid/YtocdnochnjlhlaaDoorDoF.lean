/-
  What a statement 'x, a, e := Do(..)' makes of the world.
-/
import Derived.Test.YtocdnochnjlhlaaDoorDon
import Derived.Deep.Cut
set_option linter.unusedVariables false
set_option linter.unusedSimpArgs false
namespace Go.Proofs.YtocdnochnjlhlaaDoor
open Go.RowKit Go.Con
theorem done40 (v : Value) (l : List Cmd) (w : World) (hv : RdWishes w v l) :
    Calls Tryd.prog 5 #[v, .int .i64 40] w fun e w' => ∃ cv av, e = .returned (.tuple #[.agg (Sto.zero.all ((l.take 40).map cmdOf)).cells.toArray, cv, av, .bool true]) ∧ OwnC w' w.heap.size cv ((l.take 40).map cmdOf) ∧ OwnA w' w.heap.size av (Sto.zero.answers ((l.take 40).map cmdOf)) ∧ Below w.heap.size w w' := done_any v l 40 w hv (by decide)
/-- a load that is guarded -/
theorem wpList_load_g {P : Program} {ops : Array Oper} {rest : List Oper} {op : Oper} {a : Act} {w : World} {Q : Exit → Act → World → Prop} (hw : Region.wanted op (yielded ops a.tmps) = true) (ty : TypeId) (x : Operand) (ho : op.op = .load ty x)
    (b o : Nat) (hx : a.eval x = .pointer (some ⟨b, o, none⟩)) (cs : List Value) (d : TypeDesc) (hc : w.rangeAt b o cs)
    (hu : P.underlying ty = some d) (hd : d.isRow = true) (hi : (P.info? ty).map (·.size) = some cs.length)
    (h : wpList P ops Q rest (a.put op.dst (.agg cs.toArray)) w) : wpList P ops Q (op :: rest) a w := by
  unfold wpList
  rw [if_pos hw]
  exact .inl (wp_load_mid ty x ho b o hx cs d hc hu hd hi h)
theorem there_new (w : World) (Z : Array Value) (t : TypeId) (m : Nat) (hz : Z.size = m) : (w.alloc (.cells Z t)).there w.heap.size 0 m := there_of (heapNew w _) hz
theorem stageB {E v w1 : World} {Z : Array Value} {t : TypeId} {cs : List Value} (hb : Below E.heap.size E v) (hW : (v.alloc (.cells Z t)).setCells v.heap.size 0 cs = w1) (hz : Z.size = cs.length) :
    Below E.heap.size E w1 ∧ w1.heap[v.heap.size]? = some (.cells cs.toArray t (0, 0)) := by
  subst hW
  exact ⟨below_setCells hb.size _ _ _ (hb.alloc hb.size _), storedRow (heapNew _ _) hz⟩
theorem stageC {W v w1 : World} {C : Obj} (hb : Below W.heap.size W v) (hW : v.alloc C = w1) : Below W.heap.size W w1 ∧ w1.heap[v.heap.size]? = some C ∧ W.heap.size ≤ v.heap.size := by
  subst hW
  exact ⟨hb.alloc hb.size _, heapNew _ _, hb.size⟩
theorem stageE {W v wy : World} {Z : Array Value} {t : TypeId} {A : Obj} {cs : List Value} (hb : Below W.heap.size W v) (hW : ((v.alloc (.cells Z t)).alloc A).setCells v.heap.size 0 cs = wy) (hz : Z.size = cs.length) :
    Below W.heap.size W wy ∧ wy.heap[v.heap.size]? = some (.cells cs.toArray t (0, 0)) ∧ wy.heap[v.heap.size + 1]? = some A ∧ W.heap.size ≤ v.heap.size := by
  have h := hb.size
  subst hW
  refine ⟨below_setCells h _ _ _ ((hb.alloc h _).alloc (by simp; omega) _), storedRow (heapNew0 _ _ _) hz, ?_, h⟩
  rw [heap_setCells_ne (by omega)]; exact heapNew1 _ _ _
theorem stageF {W wy wz : World} {n : Nat} {t ta : TypeId} {cs : Array Value} {a b u v : Value} (G : Below W.heap.size W wy ∧ wy.heap[n]? = some (.cells cs t (0, 0)) ∧ wy.heap[n + 1]? = some (.cells #[a, b] ta (0, 0)) ∧ W.heap.size ≤ n)
    (hW : (wy.setCell ⟨n + 1, 0, none⟩ u).setCell ⟨n + 1, 1, none⟩ v = wz) :
    Below W.heap.size W wz ∧ wz.heap[n]? = some (.cells cs t (0, 0)) ∧ wz.heap[n + 1]? = some (.cells #[u, v] ta (0, 0)) ∧ True ∧ W.heap.size ≤ n := by
  obtain ⟨h1, h2, h3, h4⟩ := G
  subst hW
  refine ⟨(h1.setCell (by show W.heap.size ≤ n + 1; omega) _).setCell (by show W.heap.size ≤ n + 1; omega) _, ?_, heapSet (heapSet h3 _) _, trivial, h4⟩
  rw [heapSet_ne _ _ (by omega), heapSet_ne _ _ (by omega)]; exact h2
theorem RdWishes.alloc {w : World} {v : Value} {l : List Cmd} (h : RdWishes w v l) (o : Obj) : RdWishes (w.alloc o) v l := by
  obtain ⟨a, c, rfl, h1, h2, h3, h4⟩ := h
  refine ⟨a, c, rfl, h1, h2, h3, fun hl => ?_⟩
  obtain ⟨b, off, rfl, hc⟩ := h4 hl
  refine ⟨b, off, rfl, fun i hi j hj => ?_⟩
  have h0 := hc i hi j hj
  have hlt : b < w.heap.size := by
    have h5 : (wishCells (l.getD i Cmd.zero))[j]? = some ((wishCells (l.getD i Cmd.zero))[j]'(by simpa [wishCells] using hj)) := List.getElem?_eq_getElem _
    exact World.block_lt_of_cell? w ⟨b, off + (5 * i + j), none⟩ (h0.trans h5)
  rw [← h0]
  exact World.cell?_of_block (w := w) (heapOld w o b hlt)
theorem noop_told {s : Sto} (h : s.Few) {k cl sq nm v : Int} (hc : CmdNums k cl sq nm v) : s.answer ⟨k, 6, 20, nm, v⟩ = (0, s.told ⟨k, 6, 20, nm, v⟩) := by
  have hn0 := hc.n0
  have hn4 := hc.n4
  obtain ⟨r1, e1⟩ := hc.real 6 20 nm (by omega) (by omega) (by omega) (by omega) (by omega) (by omega)
  obtain ⟨f1, f2⟩ := h.far 6 (by omega) (by omega)
  exact (Sto.next_fresh s ⟨k, 6, 20, nm, v⟩ r1 (by show s.last 6 ≤ 20; omega) f2).2
end Go.Proofs.YtocdnochnjlhlaaDoor
