/-
  The walk of lines.Read: the acts of a text's lines, or the place of the first line that is none.
-/
import Derived.Test.YtcbmmkhbfookjaaDoorLnG
import Derived.Test.YtcbmmkhbfookjaaDoorAcR
set_option linter.unusedVariables false
set_option linter.unusedSimpArgs false
namespace Go.Con
open Go
/-- the act of a line -/
structure Acx.isOf (x : Acx) (p : List UInt8) : Prop where
  k : x.k = (kindOf p : Int)
  c : actC p = [x.k, x.n, x.a, x.p]
  d : x.d = actD p
  line : x.line = p
/-- the acts of lines -/
def Acts (ps : List (List UInt8)) (L : List Acx) : Prop := L.length = ps.length ∧ ∀ j, j < ps.length → (L.getD j Acx.zero).isOf (ps.getD j [])
theorem Acts.nil : Acts [] [] := ⟨rfl, fun j h => by cases h⟩
theorem Acts.snoc {ps : List (List UInt8)} {L : List Acx} {p : List UInt8} {x : Acx} (h : Acts ps L) (hx : x.isOf p) : Acts (ps ++ [p]) (L ++ [x]) := by
  obtain ⟨h1, h2⟩ := h
  refine ⟨by simp [h1], fun j hj => ?_⟩
  rcases Nat.lt_or_ge j ps.length with h3 | h3
  · have h4 := h2 j h3
    simp only [List.getD_eq_getElem?_getD] at h4 ⊢
    rw [List.getElem?_append_left (by omega), List.getElem?_append_left h3]; exact h4
  · have h4 : j = ps.length := by simp at hj; omega
    simp only [List.getD_eq_getElem?_getD]
    rw [h4, ← h1, List.getElem?_concat_length, h1, List.getElem?_concat_length]; exact hx
theorem kindOf_le (p : List UInt8) : kindOf p ≤ 9 := by
  unfold kindOf
  unfold kindTo
  split
  · omega
  · exact kindTo_le _ 9
end Go.Con
namespace Go.Proofs.YtcbmmkhbfookjaaDoor
open Go.RowKit Go.Con Go.Shelf
attribute [local go_sem] Oper.semAt_some
theorem lines_new (s : ByteArray) (w : World) : Calls Tryd.prog 16 #[.string s] w fun e w' => e = .returned (.func (.func 22) #[] #[.pointer (some ⟨w.heap.size, 0, none⟩)]) ∧ w' = w.alloc (.cells #[.string s] 9) := by
  go_enter Tryd.func16, Tryd.ntmps16
  go_wp2
  go_ret
  exact ⟨rfl, rfl⟩
/-- what is kept between two lines -/
structure RdInv (w : World) (b : Nat) (ps : List (List UInt8)) (W : World) (v : Value) (L : List Acx) : Prop where
  below : Below b w W
  c0 : W.heap[b]? = some (.cells #[.slice none 0 0] 23 (0, 0))
  c1 : W.heap[b + 1]? = some (.cells #[.int .i64 0] 3 (0, 0))
  c2 : W.heap[b + 2]? = some (.cells #[.int .i64 0] 25 (0, 0))
  c3 : W.heap[b + 3]? = some (.cells #[v] 23 (0, 0))
  own : AllX W (b + 7) v L
  acts : Acts ps L
  good : ∀ p ∈ ps, GoodL p
  len : ps.length ≤ 100000
theorem RdInv.turned {w : World} {b : Nat} {ps : List (List UInt8)} {W W' : World} {v : Value} {L : List Acx} (h : RdInv w b ps W v L) (hb : b ≤ w.heap.size) (ht : Turned (b + 4) (b + 5) W W') : RdInv w b ps W' v L :=
  ⟨h.below.trans ⟨ht.os, ht.tape, ht.output, ht.size, fun k hk => ht.block k (by have := h.below.size; omega) (by omega) (by omega) (by omega)⟩,
    (ht.block _ (lt_of_heap h.c0) (by omega) (by omega) (by omega)).trans h.c0, (ht.block _ (lt_of_heap h.c1) (by omega) (by omega) (by omega)).trans h.c1,
    (ht.block _ (lt_of_heap h.c2) (by omega) (by omega) (by omega)).trans h.c2, (ht.block _ (lt_of_heap h.c3) (by omega) (by omega) (by omega)).trans h.c3,
    h.own.heap (fun k h1 h2 => ht.block k h2 (by omega) (by omega) (by omega)), h.acts, h.good, h.len⟩
theorem RdInv.stay {w : World} {b : Nat} {ps : List (List UInt8)} {W W' : World} {v : Value} {L : List Acx} (h : RdInv w b ps W v L) (hb : b ≤ W.heap.size) (ht : Below W.heap.size W W') : RdInv w b ps W' v L :=
  ⟨h.below.trans (ht.mono hb), (ht.block _ (lt_of_heap h.c0)).trans h.c0, (ht.block _ (lt_of_heap h.c1)).trans h.c1, (ht.block _ (lt_of_heap h.c2)).trans h.c2, (ht.block _ (lt_of_heap h.c3)).trans h.c3, h.own.stay ht, h.acts, h.good, h.len⟩
theorem Kept3.pre {bx d : Nat} {W W1 W2 : World} (hs : d + 2 ≤ W.heap.size) (hb : bx ≤ d) (h : Below W.heap.size W W1) (k : Kept3 bx d W1 W2) : Kept3 bx d W W2 :=
  ⟨k.box.trans (h.block _ (by omega)), k.d0.trans (h.block _ (by omega)), k.d1.trans (h.block _ (by omega))⟩
/-- why a text is not read: its first line that is none, or one too many -/
def ReadBad (s : List UInt8) (pre : List (List UInt8)) (c : Int) : Prop :=
  ∃ x rest, linesOf s = pre ++ x :: rest ∧ (∀ p ∈ pre, GoodL p) ∧ ((pre.length = 100000 ∧ c = 8) ∨ (pre.length < 100000 ∧ ¬ GoodL x ∧ c = 3))
structure RdStop (w : World) (b : Nat) (s : List UInt8) (W : World) (pre : List (List UInt8)) (c : Int) : Prop where
  below : Below b w W
  c0 : W.heap[b]? = some (.cells #[.slice none 0 0] 23 (0, 0))
  c1 : W.heap[b + 1]? = some (.cells #[.int .i64 pre.length] 3 (0, 0))
  c2 : W.heap[b + 2]? = some (.cells #[.int .i64 c] 25 (0, 0))
  bad : ReadBad s pre c
theorem RdStop.turned {w : World} {b : Nat} {s : List UInt8} {W W' : World} {pre : List (List UInt8)} {c : Int} (h : RdStop w b s W pre c) (hb : b ≤ w.heap.size) (ht : Turned (b + 4) (b + 5) W W') : RdStop w b s W' pre c :=
  ⟨h.below.trans ⟨ht.os, ht.tape, ht.output, ht.size, fun k hk => ht.block k (by have := h.below.size; omega) (by omega) (by omega) (by omega)⟩,
    (ht.block _ (lt_of_heap h.c0) (by omega) (by omega) (by omega)).trans h.c0, (ht.block _ (lt_of_heap h.c1) (by omega) (by omega) (by omega)).trans h.c1,
    (ht.block _ (lt_of_heap h.c2) (by omega) (by omega) (by omega)).trans h.c2, h.bad⟩
theorem alloc5R {w w0 : World} {A B C D E : Obj} (h : ((((w.alloc A).alloc B).alloc C).alloc D).alloc E = w0) :
    w0.heap[w.heap.size]? = some A ∧ w0.heap[w.heap.size + 1]? = some B ∧ w0.heap[w.heap.size + 2]? = some C ∧ w0.heap[w.heap.size + 3]? = some D ∧ w0.heap[w.heap.size + 4]? = some E ∧ Below w.heap.size w w0 ∧ w0.heap.size = w.heap.size + 5 := by
  subst h
  have e1 : (w.alloc A).heap.size = w.heap.size + 1 := by simp
  have e2 : ((w.alloc A).alloc B).heap.size = w.heap.size + 2 := by simp
  have e3 : (((w.alloc A).alloc B).alloc C).heap.size = w.heap.size + 3 := by simp
  have e4 : ((((w.alloc A).alloc B).alloc C).alloc D).heap.size = w.heap.size + 4 := by simp
  refine ⟨?_, ?_, ?_, ?_, ?_, ?_, by simp⟩
  · rw [Below.heap_alloc _ _ _ (by omega), Below.heap_alloc _ _ _ (by omega), Below.heap_alloc _ _ _ (by omega), Below.heap_alloc _ _ _ (by omega)]; exact heapNew _ _
  · rw [Below.heap_alloc _ _ _ (by omega), Below.heap_alloc _ _ _ (by omega), Below.heap_alloc _ _ _ (by omega), ← e1]; exact heapNew _ _
  · rw [Below.heap_alloc _ _ _ (by omega), Below.heap_alloc _ _ _ (by omega), ← e2]; exact heapNew _ _
  · rw [Below.heap_alloc _ _ _ (by omega), ← e3]; exact heapNew _ _
  · rw [← e4]; exact heapNew _ _
  · exact (((((Below.refl _ _).alloc (Nat.le_refl _) _).alloc (by omega) _).alloc (by omega) _).alloc (by omega) _).alloc (by omega) _
theorem RdInv.stop {w W : World} {b b1 b2 : Nat} {s : List UInt8} {ps : List (List UInt8)} {v : Value} {L : List Acx} {c n : Int} (h : RdInv w b ps W v L) (h1 : b1 = b + 1) (h2 : b2 = b + 2) (hn : n = ps.length) (hb : ReadBad s ps c) :
    Kept3 (b + 4) (b + 5) W ((((W.setCell ⟨b, 0, none⟩ (.slice none 0 0)).setCell ⟨b1, 0, none⟩ (.int .i64 n)).setCell ⟨b2, 0, none⟩ (.int .i64 c)).drew) ∧
    RdStop w b s ((((W.setCell ⟨b, 0, none⟩ (.slice none 0 0)).setCell ⟨b1, 0, none⟩ (.int .i64 n)).setCell ⟨b2, 0, none⟩ (.int .i64 c)).drew) ps c := by
  subst h1 h2 hn
  have key : ∀ k, k ≠ b → k ≠ b + 1 → k ≠ b + 2 → ((((W.setCell ⟨b, 0, none⟩ (.slice none 0 0)).setCell ⟨b + 1, 0, none⟩ (.int .i64 ps.length)).setCell ⟨b + 2, 0, none⟩ (.int .i64 c)).drew).heap[k]? = W.heap[k]? := fun k h0 h1 h2 =>
    (heapSet_ne _ _ h2).trans ((heapSet_ne _ _ h1).trans (heapSet_ne _ _ h0))
  refine ⟨⟨key _ (by omega) (by omega) (by omega), key _ (by omega) (by omega) (by omega), key _ (by omega) (by omega) (by omega)⟩, ⟨?_, ?_, ?_, ?_, hb⟩⟩
  · exact (((h.below.setCell (Nat.le_refl _) _).setCell (p := ⟨b + 1, 0, none⟩) (Nat.le_succ _) _).setCell (p := ⟨b + 2, 0, none⟩) (by show b ≤ b + 2; omega) _).drew
  · refine (heapSet_ne _ _ (by omega)).trans ((heapSet_ne _ _ (by omega)).trans ?_)
    rw [heapSet h.c0]; rfl
  · refine (heapSet_ne _ _ (by omega)).trans ?_
    have e : (W.setCell ⟨b, 0, none⟩ (.slice none 0 0)).heap[b + 1]? = W.heap[b + 1]? := heapSet_ne _ _ (by omega)
    rw [heapSet (e.trans h.c1)]; rfl
  · have e : ((W.setCell ⟨b, 0, none⟩ (.slice none 0 0)).setCell ⟨b + 1, 0, none⟩ (.int .i64 ps.length)).heap[b + 2]? = W.heap[b + 2]? := (heapSet_ne _ _ (by omega)).trans (heapSet_ne _ _ (by omega))
    show (World.setCell _ _ _).heap[b + 2]? = _
    rw [heapSet (e.trans h.c2)]; rfl
section
variable {F : Fence} {m : Nat} {ops : Array Oper} {rest : List Oper} {o : Oper} {a : Act} {Q : Exit → Act → World → Prop} {w : World}
/-- append(own acts, one more), in a round -/
theorem apXIn (hgd : o.guard = none) (s x : Operand) (ho : o.op = .call { callee := .builtin .append, args := #[s, x], argTypes := #[23, 23] })
    (base : Nat) (v : Value) (l : List Acx) (c : Acx) (g : Nat) (hs : a.eval s = v) (hown : OwnX w base v l) (hx : a.eval x = .slice (some ⟨g, 0, none⟩) 1 1) (hsrc : w.heap[g]? = some (.cells (acxCells c).toArray 32 (0, 0))) (hone : c.dv.oneCell' = true) (hlen : l.length ≤ 1000000) (hbase : base ≤ w.heap.size)
    (h : ∀ v' w', OwnX w' base v' (l ++ [c]) → w.grownBy w' v.ownBlock → wpListIn F m Tryd.prog ops Q rest (a.put o.dst v') w') : wpListIn F m Tryd.prog ops Q (o :: rest) a w := by
  obtain ⟨i, hi, hz, hsz, hb⟩ := info_part infoActT
  refine wpListIn_append_own w hgd s x 23 ho base 32 i _ 5 56 Tryd.underlying23 hi hz hsz hb rfl (by decide) v l.length (l.flatMap acxCells) hs hown ⟨g, 0, none⟩ 1 1 (acxCells c) hx rfl (fun j u hu => by
    have hj := cellAt hsrc j (by simpa using hu)
    rw [Addr.add_mid, Nat.zero_add]; exact hj) (fun u hu => by
    simp [acxCells] at hu
    rcases hu with rfl | rfl | rfl | rfl | rfl
    · rfl
    · rfl
    · rfl
    · rfl
    · exact hone) (by unfold maxLen; omega) (by omega) hbase ?_
  intro v' w' h1 h2 _
  refine h v' w' ?_ h2
  unfold OwnX
  rw [List.length_append, List.flatMap_append]
  simpa using h1
end
theorem RdInv.key6 {w W4 W6 : World} {b : Nat} {ps : List (List UInt8)} {v : Value} {L : List Acx} {o : Obj} (h : RdInv w b ps W4 v L) (hg : (W4.alloc o).grownBy W6 v.ownBlock) (hsz : b + 7 ≤ W4.heap.size) : ∀ k, k < b + 7 → W6.heap[k]? = W4.heap[k]? := fun k hk =>
    (hg.block k (by simp; omega) (fun e => by have := (row_lt h.own.own k e.symm).1; omega)).trans (Below.heap_alloc _ _ _ (by omega))
theorem RdInv.more {w W4 W6 : World} {b : Nat} {ps : List (List UInt8)} {v v' : Value} {L : List Acx} {o : Obj} {c : Acx} {p : List UInt8} (h : RdInv w b ps W4 v L) (hown : OwnX W6 (b + 7) v' (L ++ [c])) (hg : (W4.alloc o).grownBy W6 v.ownBlock)
    (hc : Own W4 (b + 7) c.dv c.d) (hok : c.Ok) (hof : c.isOf p) (hgood : GoodL p) (hlen : ps.length < 100000) (hsz : b + 7 ≤ W4.heap.size) :
    RdInv w b (ps ++ [p]) (W6.setCell ⟨b + 3, 0, none⟩ v') v' (L ++ [c]) ∧ Kept3 (b + 4) (b + 5) W4 (W6.setCell ⟨b + 3, 0, none⟩ v') := by
  have key := h.key6 hg hsz
  have hs6 : W4.heap.size ≤ W6.heap.size := by have := hg.size; simp at this; omega
  refine ⟨⟨?_, ?_, ?_, ?_, ?_, ?_, h.acts.snoc hof, ?_, by simp; omega⟩, ⟨?_, ?_, ?_⟩⟩
  · refine Below.setCell (p := ⟨b + 3, 0, none⟩) ?_ (by show b ≤ b + 3; omega) _
    exact (h.below.alloc (by omega) o).grown hg (by simp; omega) (fun k hk => by have := (row_lt h.own.own k hk).1; omega)
  · exact (heapSet_ne _ _ (by omega)).trans ((key _ (by omega)).trans h.c0)
  · exact (heapSet_ne _ _ (by omega)).trans ((key _ (by omega)).trans h.c1)
  · exact (heapSet_ne _ _ (by omega)).trans ((key _ (by omega)).trans h.c2)
  · rw [heapSet ((key _ (by omega)).trans h.c3)]; rfl
  · have h1 := (h.own.stay ((Below.refl _ _).alloc (Nat.le_refl _) o)).grown hown hg (hc.alloc o) hok
    exact h1.heap (fun k hk _ => heapSet_ne _ _ (by omega))
  · intro q hq
    rcases List.mem_append.1 hq with hq | hq
    · exact h.good q hq
    · rw [List.mem_singleton.1 hq]; exact hgood
  · exact (heapSet_ne _ _ (by omega)).trans (key _ (by omega))
  · exact (heapSet_ne _ _ (by omega)).trans (key _ (by omega))
  · exact (heapSet_ne _ _ (by omega)).trans (key _ (by omega))
theorem RdInv.fin {w W : World} {b : Nat} {ps : List (List UInt8)} {v : Value} {L : List Acx} (h : RdInv w b ps W v L) (o : Obj) :
    let W2 := (((W.setCell ⟨b, 0, none⟩ v).setCell ⟨b + 1, 0, none⟩ (.int .i64 0)).setCell ⟨b + 2, 0, none⟩ (.int .i64 0)).putObj (b + 5) o
    W2.heap[b]? = some (.cells #[v] 23 (0, 0)) ∧ W2.heap[b + 1]? = some (.cells #[.int .i64 0] 3 (0, 0)) ∧ W2.heap[b + 2]? = some (.cells #[.int .i64 0] 25 (0, 0)) ∧ Below b w W2 ∧ AllX W2 b v L := by
  intro W2
  have key : ∀ k, k ≠ b → k ≠ b + 1 → k ≠ b + 2 → k ≠ b + 5 → W2.heap[k]? = W.heap[k]? := fun k h0 h1 h2 h5 =>
    (World.putObj_heap_other h5).trans ((heapSet_ne _ _ h2).trans ((heapSet_ne _ _ h1).trans (heapSet_ne _ _ h0)))
  have e1 : (W.setCell ⟨b, 0, none⟩ v).heap[b + 1]? = W.heap[b + 1]? := heapSet_ne _ _ (by omega)
  have e2 : ((W.setCell ⟨b, 0, none⟩ v).setCell ⟨b + 1, 0, none⟩ (.int .i64 0)).heap[b + 2]? = W.heap[b + 2]? := (heapSet_ne _ _ (by omega)).trans (heapSet_ne _ _ (by omega))
  refine ⟨?_, ?_, ?_, ?_, ?_⟩
  · refine (World.putObj_heap_other (by omega)).trans ((heapSet_ne _ _ (by omega)).trans ((heapSet_ne _ _ (by omega)).trans ?_))
    rw [heapSet h.c0]; rfl
  · refine (World.putObj_heap_other (by omega)).trans ((heapSet_ne _ _ (by omega)).trans ?_)
    rw [heapSet (e1.trans h.c1)]; rfl
  · refine (World.putObj_heap_other (by omega)).trans ?_
    rw [heapSet (e2.trans h.c2)]; rfl
  · refine (((h.below.setCell (p := ⟨b, 0, none⟩) (Nat.le_refl _) v).setCell (p := ⟨b + 1, 0, none⟩) (Nat.le_succ _) (.int .i64 0)).setCell (p := ⟨b + 2, 0, none⟩) (by show b ≤ b + 2; omega) (.int .i64 0)).trans ?_
    exact ⟨rfl, rfl, rfl, Nat.le_of_eq World.putObj_size.symm, fun k hk => World.putObj_heap_other (by omega)⟩
  · have h1 := h.own.heap (w' := W2) (fun k hk _ => key k (by omega) (by omega) (by omega) (by omega))
    exact ⟨row_mono h1.own (by omega), fun x hx => ⟨(h1.each x hx).1.mono (by omega), (h1.each x hx).2⟩⟩
theorem RdStop.fin {w W : World} {b : Nat} {s : List UInt8} {pre : List (List UInt8)} {c : Int} (h : RdStop w b s W pre c) (o : Obj) :
    let W2 := W.putObj (b + 5) o
    W2.heap[b]? = some (.cells #[.slice none 0 0] 23 (0, 0)) ∧ W2.heap[b + 1]? = some (.cells #[.int .i64 pre.length] 3 (0, 0)) ∧ W2.heap[b + 2]? = some (.cells #[.int .i64 c] 25 (0, 0)) ∧ Below b w W2 := by
  intro W2
  exact ⟨(World.putObj_heap_other (by omega)).trans h.c0, (World.putObj_heap_other (by omega)).trans h.c1, (World.putObj_heap_other (by omega)).trans h.c2, h.below.trans ⟨rfl, rfl, rfl, Nat.le_of_eq World.putObj_size.symm, fun k hk => World.putObj_heap_other (by omega)⟩⟩
def ReadPost (w : World) (s : List UInt8) (e : Ending) (w' : World) : Prop :=
  ∃ v i c, e = .returned (.tuple #[v, .int .i64 i, .int .i64 c]) ∧ Below w.heap.size w w' ∧
    ((4000000 < s.length ∧ v = .slice none 0 0 ∧ i = 0 ∧ c = 1) ∨ (∃ pre, ReadBad s pre c ∧ v = .slice none 0 0 ∧ i = pre.length) ∨
     ((∀ p ∈ linesOf s, GoodL p) ∧ (linesOf s).length ≤ 100000 ∧ i = 0 ∧ c = 0 ∧ ∃ L, AllX w' w.heap.size v L ∧ Acts (linesOf s) L))
set_option maxRecDepth 100000 in
set_option maxHeartbeats 4000000 in
theorem Read_any (s : List UInt8) (w : World) (hs : s.length ≤ 4000000) (hw : LnV w) (hr : LnR w) :
    Calls Tryd.prog 8 #[.string ⟨s.toArray⟩] w (ReadPost w s) := by
  have HV := Lib.hid hw
  have HR := Lib.hid hr
  have HS := Lib.hid hs
  have hd0 : decide ((4000000 : Int) < s.length) = false := by rw [decide_eq_false_iff_not]; omega
  clear hw hr
  refine (callsIn_wide (n := 6)).1 ?_
  refine callsIn_of_wp_marks Tryd.func8 rfl trivial ?_ rfl
  simp only [Tryd.ntmps8, List.size_toArray, List.length_cons, List.length_nil, Nat.reduceAdd, Nat.reduceSub, Array.replicate_succ, Array.replicate_zero, List.push_toArray, List.append_toArray, List.nil_append, List.cons_append]
  gi_wp2_with (refine ⟨trivial, ?_⟩; gi_at_call 16; refine (callsIn_wide.2 (lines_new _ _)).mono ?_; rintro e _ ⟨rfl, rfl⟩)
  generalize hW : World.alloc _ _ = w1
  obtain ⟨q0, q1, q2, q3, q4, qb, qs⟩ := alloc5R hW
  obtain ⟨b, hb⟩ : ∃ b, b = w.heap.size := ⟨_, rfl⟩
  rw [← hb] at q0 q1 q2 q3 q4 qb qs ⊢
  have hb1 : w1.heap.size = b + 5 := qs
  obtain ⟨b1, e1⟩ : ∃ x, x = b + 1 := ⟨_, rfl⟩
  rw [← e1]
  obtain ⟨b2, e2⟩ : ∃ x, x = b1 + 1 := ⟨_, rfl⟩
  rw [← e2]
  obtain ⟨b3, e3⟩ : ∃ x, x = b2 + 1 := ⟨_, rfl⟩
  rw [← e3]
  obtain ⟨b4, e4⟩ : ∃ x, x = b3 + 1 := ⟨_, rfl⟩
  rw [← e4]
  have E1 := Lib.hid e1
  have E2 := Lib.hid (show b2 = b + 2 by omega)
  have E3 := Lib.hid (show b3 = b + 3 by omega)
  have E4 := Lib.hid (show b4 = b + 4 by omega)
  have HB := Lib.hid hb
  have HSZ := Lib.hid hb1
  have hbx : StrBox w1 b4 s := by unfold StrBox; rw [E4.out]; exact q4
  have inv0 : Hid (∃ v L, RdInv w b [] w1 v L) := Lib.hid ⟨_, [], ⟨qb, q0, q1, q2, q3, AllX.nil _ _, Acts.nil, (fun p h => by cases h), Nat.zero_le _⟩⟩
  clear hW q0 q1 q2 q3 q4 qb qs hb hb1 e1 e2 e3 e4
  have n01 : ¬ (b = b1) := by have := E1.out; omega
  have n02 : ¬ (b = b2) := by have := E2.out; omega
  have n12 : ¬ (b1 = b2) := by have := E1.out; have := E2.out; omega
  have n10 : ¬ (b1 = b) := by have := E1.out; omega
  have n20 : ¬ (b2 = b) := by have := E2.out; omega
  have n21 : ¬ (b2 = b1) := by have := E1.out; have := E2.out; omega
  have n30 : ¬ (b3 = b) := by have := E3.out; omega
  have n31 : ¬ (b3 = b1) := by have := E1.out; have := E3.out; omega
  have n32 : ¬ (b3 = b2) := by have := E2.out; have := E3.out; omega
  have n03 : ¬ (b = b3) := by have := E3.out; omega
  have n13 : ¬ (b1 = b3) := by have := E1.out; have := E3.out; omega
  have n23 : ¬ (b2 = b3) := by have := E2.out; have := E3.out; omega
  refine range_lines (by decide) rfl rfl HS.out hbx (fun pre W => Hid (∃ v L, RdInv w b pre W v L)) (fun c xs W => c = .ret ∧ Hid (∃ pre k, RdStop w b s W pre k))
    (fun pre W W' h ht => by
      obtain ⟨v, L, h⟩ := h.out
      rw [E4.out, HSZ.out] at ht
      exact Lib.hid ⟨v, L, h.turned (by rw [HB.out]; exact Nat.le_refl _) ht⟩)
    (fun c pre W W' h ht => by
      obtain ⟨hc, h⟩ := h
      obtain ⟨p, k, h⟩ := h.out
      rw [E4.out, HSZ.out] at ht
      exact ⟨hc, Lib.hid ⟨p, k, h.turned (by rw [HB.out]; exact Nat.le_refl _) ht⟩⟩)
    inv0
    (fun x => { tmps := #[.string ⟨s.toArray⟩, undef, .pointer (some ⟨b, 0, none⟩), .pointer (some ⟨b1, 0, none⟩), .pointer (some ⟨b2, 0, none⟩), .pointer (some ⟨b3, 0, none⟩), .string ⟨x.toArray⟩, undef, .string ⟨s.toArray⟩, .int .i64 s.length, .bool false, .string ⟨s.toArray⟩, .func (.func 22) #[] #[.pointer (some ⟨b4, 0, none⟩)], .string ⟨x.toArray⟩, undef, undef, undef, undef, undef, undef, undef, undef, undef, undef, undef, undef, undef, undef, undef, undef, undef, undef, undef, undef, undef, undef, undef], defers := [] }) ?assign ?body ?done ?stop
  case assign =>
    intro l x W K hK
    gi_wp2
    exact hK
  case body =>
    rintro l pre x rest W hI hlines hsz
    obtain ⟨v, L, HI⟩ := hI.out
    obtain ⟨va, vc, rfl, -, -⟩ := HI.own.own.row
    have HLN := Lib.hid hlines
    have HLL := Lib.hid HI.acts.1
    have p3 : W.cell? ⟨b3, 0, none⟩ = some (.slice va L.length vc) := by rw [E3.out]; exact cellAt HI.c3 0 rfl
    have p0 : W.cell? ⟨b, 0, none⟩ = some (.slice none 0 0) := cellAt HI.c0 0 rfl
    have p1 : W.cell? ⟨b1, 0, none⟩ = some (.int .i64 0) := by rw [E1.out]; exact cellAt HI.c1 0 rfl
    have p2 : W.cell? ⟨b2, 0, none⟩ = some (.int .i64 0) := by rw [E2.out]; exact cellAt HI.c2 0 rfl
    have f0 := freeAt HI.c0
    have f1 : ∀ o, W.frozen? ⟨b1, o, none⟩ = false := by rw [E1.out]; exact freeAt HI.c1
    have f2 : ∀ o, W.frozen? ⟨b2, o, none⟩ = false := by rw [E2.out]; exact freeAt HI.c2
    have f3 : ∀ o, W.frozen? ⟨b3, o, none⟩ = false := by rw [E3.out]; exact freeAt HI.c3
    have INV := Lib.hid HI
    have hmx : Tryd.prog.follows .mixedOrders = true := by kernel_rfl
    clear HI hI hlines
    by_cases hfull : L.length = 100000
    · have hq : ((L.length : Int) == 100000) = true := by rw [beq_iff_eq]; omega
      have BAD := Lib.hid (show ReadBad s pre 8 from ⟨x, rest, HLN.out, INV.out.good, .inl ⟨by rw [← HLL.out]; exact hfull, rfl⟩⟩)
      have FIN := Lib.hid (INV.out.stop E1.out E2.out (show (L.length : Int) = pre.length by rw [HLL.out]) BAD.out)
      clear hfull
      gi_wp2
      gi_region_with_o (fail)
      all_goals
        gi_wp2
        exact ⟨by rw [E4.out, HSZ.out]; exact FIN.out.1, rfl, Lib.hid ⟨pre, 8, FIN.out.2⟩⟩
    · have hq : ((L.length : Int) == 100000) = false := by rw [beq_eq_false_iff_ne]; omega
      have HLT := Lib.hid (show pre.length < 100000 by have := INV.out.len; rw [HLL.out] at hfull; omega)
      have hxl : x.length ≤ 4000000 := by
        have h1 := congrArg (fun l => l.flatten.length) HLN.out
        rw [List.flatten_append, linesOf_flat, List.flatten_cons, List.length_append, List.length_append] at h1
        have := HS.out
        omega
      have BW := Lib.hid (show Below w.heap.size w W by rw [← HB.out]; exact INV.out.below)
      have XR := Lib.hid (HR.out.stay BW.out)
      have XV := Lib.hid (HV.out.stay BW.out)
      have hsz' : b + 7 ≤ W.heap.size := by have := HSZ.out; omega
      clear hfull hsz
      gi_wp2_with (refine ⟨trivial, ?_⟩; gi_at_call 17; refine (CallsIn.inRound l (callsIn_wide.2 (act_any x _ hxl XR.out))).mono ?_; rintro e w2 ⟨n, a, p, dv, ha, rfl, ho, h2⟩; obtain ⟨da, dc, hdv, -, -⟩ := ho.rd.slice; subst hdv; have HA := Lib.hid ha; have HO := Lib.hid ho; have B2 := Lib.hid h2; have hs2 := h2.size; clear ha ho h2)
      generalize hW3 : World.alloc _ _ = w3
      obtain ⟨K, hK⟩ : ∃ K, K = kindOf x := ⟨_, rfl⟩
      obtain ⟨nd, hnd⟩ : ∃ q, q = (actD x).length := ⟨_, rfl⟩
      obtain ⟨tb, htb⟩ : ∃ q, q = w2.heap.size := ⟨_, rfl⟩
      have T3 := Lib.hid (show w3.heap[tb]? = some (.cells #[.int .i64 K, .int .i64 n, .int .i64 a, .int .i64 p, .slice da nd dc] 32 (0, 0)) by rw [← hW3, hK, hnd, htb]; exact heapNew _ _)
      have B3 := Lib.hid (show Below W.heap.size W w3 by rw [← hW3]; exact B2.out.alloc hs2 _)
      have O3 := Lib.hid (show Own w3 W.heap.size (.slice da nd dc) (actD x) by rw [← hW3, hnd]; exact HO.out.alloc _)
      have I3 := Lib.hid (INV.out.stay (by omega) B3.out)
      rw [← hK, ← hnd, ← htb]
      have HK := Lib.hid hK
      have HND := Lib.hid hnd
      have htbW : W.heap.size ≤ tb := by omega
      clear hW3 hK hnd htb p0 p1 p2 p3 f0 f1 f2 f3 HO B2 hs2
      have hk9 : K ≤ 9 := by rw [HK.out]; exact kindOf_le x
      obtain ⟨c, hc⟩ : ∃ c, (1 ≤ K → c = actCode K n a p (actD x).length) ∧ (K = 0 → c = 4) ∧ Hid (Calls Tryd.prog 12 #[.agg #[.int .i64 K, .int .i64 n, .int .i64 a, .int .i64 p, .slice da nd dc]] w3 fun e w' => e = .returned (.int .i64 c) ∧ Below w3.heap.size w3 w') := by
        by_cases h0 : K = 0
        · refine ⟨4, fun h => by omega, fun _ => rfl, Lib.hid ?_⟩
          rw [h0]
          exact Check_none n a p _ _ w3 O3.out.rd
        · refine ⟨_, fun _ => rfl, fun h => absurd h h0, Lib.hid ?_⟩
          exact LCheck_any K n a p _ _ w3 (by omega) (by omega) O3.out.rd
      by_cases hc0 : c = 0
      · have h1K : 1 ≤ K := by
          rcases Nat.eq_zero_or_pos K with h | h
          · have := hc.2.1 h; omega
          · exact h
        have COD := Lib.hid (show actCode K n a p (actD x).length = 0 by rw [← hc.1 h1K]; exact hc0)
        obtain ⟨-, -, CHK⟩ := hc
        subst hc0
        have AFIT := Lib.hid (show Fit K n a p (actD x) from ⟨by omega, by omega, COD.out⟩)
        have LIN : Hid (∀ W', Below w3.heap.size w3 W' → Calls Tryd.prog 14 #[.agg #[.int .i64 K, .int .i64 n, .int .i64 a, .int .i64 p, .slice da nd dc]] W' fun e w' => e = .returned (.string ⟨(lineL K [(K : Int), n, a, p] (actD x)).toArray⟩) ∧ Below W'.heap.size W' w') := Lib.hid fun W' hW => by
          obtain ⟨f1, f2, f3, -, f5, -⟩ := actCode_zero COD.out (by omega) (by omega)
          refine line_any K n a p _ _ W' (by omega) (by omega) (O3.out.rd.stay hW) f5 (fun y hy => ?_) ((XV.out.stay B3.out).stay hW)
          simp at hy
          rcases hy with rfl | rfl | rfl | rfl <;> omega
        have t0 := cellAt T3.out 0 rfl
        have t1 := cellAt T3.out 1 rfl
        have t2 := cellAt T3.out 2 rfl
        have t3 := cellAt T3.out 3 rfl
        have t4 := cellAt T3.out 4 rfl
        obtain ⟨y, hy⟩ : ∃ y, y = lineL K [(K : Int), n, a, p] (actD x) := ⟨_, rfl⟩
        rw [← hy] at LIN
        have HY := Lib.hid hy
        clear hy
        by_cases hyx : y = x
        · have hcmp : (y == x) = true := by rw [beq_iff_eq]; exact hyx
          have HYX := Lib.hid hyx
          clear hyx
          have GOOD := Lib.hid (show GoodL x from ⟨by rw [← HK.out]; exact h1K, by rw [← HK.out]; exact hk9, n, a, p, HA.out, by rw [← HK.out]; exact COD.out, by rw [← HK.out, ← HY.out]; exact HYX.out⟩)
          obtain ⟨c, hc⟩ : ∃ c : Acx, c = ⟨K, n, a, p, .slice da nd dc, actD x⟩ := ⟨_, rfl⟩
          have COK := Lib.hid (show c.Ok by rw [hc]; exact ⟨by show (1 : Int) ≤ K; omega, by show (K : Int) ≤ 9; omega, COD.out⟩)
          have COF := Lib.hid (show c.isOf x by rw [hc]; exact ⟨by show (K : Int) = _; rw [HK.out], by rw [HA.out, ← HK.out], rfl, HY.out.symm.trans HYX.out⟩)
          have CC := Lib.hid (show acxCells c = [.int .i64 K, .int .i64 n, .int .i64 a, .int .i64 p, .slice da nd dc] by rw [hc]; rfl)
          have CO := Lib.hid (show Own w3 W.heap.size c.dv c.d by rw [hc]; exact O3.out)
          have CD := Lib.hid (show c.dv.oneCell' = true by rw [hc]; rfl)
          have LL6 : L.length ≤ 1000000 := by have := HLL.out; have := HLT.out; omega
          clear hc
          gi_wp2_with (first
            | (refine ⟨trivial, ?_⟩; gi_at_call 12; refine (CallsIn.inRound l (callsIn_wide.2 CHK.out)).mono ?_; rintro e w5 ⟨rfl, h5⟩; have B5 := Lib.hid h5; have T5 := Lib.hid ((h5.block tb (lt_of_heap T3.out)).trans T3.out); clear h5 t0 t1 t2 t3 t4; have t0 := cellAt T5.out 0 rfl; have t1 := cellAt T5.out 1 rfl; have t2 := cellAt T5.out 2 rfl; have t3 := cellAt T5.out 3 rfl; have t4 := cellAt T5.out 4 rfl)
            | (refine ⟨trivial, ?_⟩; gi_at_call 14; refine (CallsIn.inRound l (callsIn_wide.2 (LIN.out _ B5.out))).mono ?_; rintro e w4 ⟨rfl, h4⟩; have B34 := Lib.hid (B5.out.trans (h4.mono B5.out.size)); have B4 := Lib.hid (B3.out.trans (B34.out.mono B3.out.size)); have T4 := Lib.hid ((h4.block tb (lt_of_heap T5.out)).trans T5.out); have I4 := Lib.hid (INV.out.stay (by omega) B4.out); clear h4 t0 t1 t2 t3 t4; have t0 := cellAt T4.out 0 rfl; have t1 := cellAt T4.out 1 rfl; have t2 := cellAt T4.out 2 rfl; have t3 := cellAt T4.out 3 rfl; have t4 := cellAt T4.out 4 rfl; have hs4 := B4.out.size; have p3 : w4.cell? ⟨b3, 0, none⟩ = some (.slice va L.length vc) := by { rw [E3.out]; exact cellAt I4.out.c3 0 rfl })
            | (gi_at_builtin; refine apXIn rfl (.tmp 32) (.tmp 34) rfl (b + 7) _ L c w4.heap.size rfl (I4.out.own.stay ((Below.refl _ _).alloc (Nat.le_refl _) _)).own rfl (by rw [CC.out]; exact heapNew _ _) CD.out LL6 (by simp; omega) ?_; intro v' w6 hown hg; have O6 := Lib.hid hown; have G6 := Lib.hid hg; obtain ⟨va', vc', hv', -, -⟩ := hown.row; subst hv'; have x6 : w6.heap[b3]? = some (.cells #[.slice va L.length vc] 23 (0, 0)) := (by { rw [E3.out]; exact (I4.out.key6 hg (by omega) _ (by omega)).trans I4.out.c3 }); have y3 := cellAt x6 0 rfl; have yf := freeAt x6; clear hown hg x6))
          have O4 := Lib.hid (show Own w4 (b + 7) c.dv c.d from (CO.out.below B34.out (fun k hk => (row_lt CO.out k hk).2)).mono (by omega))
          have NEW := Lib.hid (I4.out.more O6.out G6.out O4.out COK.out COF.out GOOD.out HLT.out (by omega))
          have e9 : (L ++ [c]).length = L.length + 1 := by simp
          rw [e9] at NEW
          rw [E3.out]
          refine ⟨by rw [E4.out, HSZ.out]; exact NEW.out.2.pre (by omega) (by omega) B4.out, Lib.hid ⟨_, _, NEW.out.1⟩⟩
        · have hcmp : (y == x) = false := by rw [beq_eq_false_iff_ne]; exact hyx
          have NG := Lib.hid (show ¬ GoodL x from fun ⟨g1, g2, n', a', p', g3, g4, g5⟩ => hyx (by
            rw [HA.out] at g3
            injection g3 with e1 g3
            injection g3 with e2 g3
            injection g3 with e3 g3
            injection g3 with e4 g3
            subst e2 e3 e4
            rw [HY.out, HK.out]
            exact g5))
          have BAD := Lib.hid (show ReadBad s pre 3 from ⟨x, rest, HLN.out, INV.out.good, .inr ⟨HLT.out, NG.out, rfl⟩⟩)
          clear hyx
          gi_wp2_with (first
            | (refine ⟨trivial, ?_⟩; gi_at_call 12; refine (CallsIn.inRound l (callsIn_wide.2 CHK.out)).mono ?_; rintro e w5 ⟨rfl, h5⟩; have B5 := Lib.hid h5; have T5 := Lib.hid ((h5.block tb (lt_of_heap T3.out)).trans T3.out); clear h5 t0 t1 t2 t3 t4; have t0 := cellAt T5.out 0 rfl; have t1 := cellAt T5.out 1 rfl; have t2 := cellAt T5.out 2 rfl; have t3 := cellAt T5.out 3 rfl; have t4 := cellAt T5.out 4 rfl)
            | (refine ⟨trivial, ?_⟩; gi_at_call 14; refine (CallsIn.inRound l (callsIn_wide.2 (LIN.out _ B5.out))).mono ?_; rintro e w4 ⟨rfl, h4⟩; have B4 := Lib.hid (B3.out.trans ((B5.out.trans (h4.mono B5.out.size)).mono B3.out.size)); have T4 := Lib.hid ((h4.block tb (lt_of_heap T5.out)).trans T5.out); clear h4 t0 t1 t2 t3 t4))
          have I4 := INV.out.stay (by omega) B4.out
          have p3 : w4.cell? ⟨b3, 0, none⟩ = some (.slice va L.length vc) := by rw [E3.out]; exact cellAt I4.c3 0 rfl
          have p0 : w4.cell? ⟨b, 0, none⟩ = some (.slice none 0 0) := cellAt I4.c0 0 rfl
          have p1 : w4.cell? ⟨b1, 0, none⟩ = some (.int .i64 0) := by rw [E1.out]; exact cellAt I4.c1 0 rfl
          have p2 : w4.cell? ⟨b2, 0, none⟩ = some (.int .i64 0) := by rw [E2.out]; exact cellAt I4.c2 0 rfl
          have f0 := freeAt I4.c0
          have f1 : ∀ o, w4.frozen? ⟨b1, o, none⟩ = false := by rw [E1.out]; exact freeAt I4.c1
          have f2 : ∀ o, w4.frozen? ⟨b2, o, none⟩ = false := by rw [E2.out]; exact freeAt I4.c2
          have f3 : ∀ o, w4.frozen? ⟨b3, o, none⟩ = false := by rw [E3.out]; exact freeAt I4.c3
          have FIN := Lib.hid (I4.stop E1.out E2.out (show (L.length : Int) = pre.length by rw [HLL.out]) BAD.out)
          clear I4
          gi_wp2
          gi_region_with_o (fail)
          all_goals
            gi_wp2
            exact ⟨by rw [E4.out, HSZ.out]; exact FIN.out.1.pre (by omega) (by omega) B4.out, rfl, Lib.hid ⟨pre, 3, FIN.out.2⟩⟩
      · have hcb : (c != 0) = true := by rw [bne_iff_ne]; exact hc0
        have NG := Lib.hid (show ¬ GoodL x from fun ⟨g1, g2, n', a', p', g3, g4, g5⟩ => hc0 (by
          rw [HA.out] at g3
          injection g3 with e1 g3
          injection g3 with e2 g3
          injection g3 with e3 g3
          injection g3 with e4 g3
          subst e2 e3 e4
          rw [hc.1 (by rw [HK.out]; exact g1), HK.out]
          exact g4))
        have BAD := Lib.hid (show ReadBad s pre 3 from ⟨x, rest, HLN.out, INV.out.good, .inr ⟨HLT.out, NG.out, rfl⟩⟩)
        have CHK := hc.2.2
        clear hc hc0
        gi_wp2_with (refine ⟨trivial, ?_⟩; gi_at_call 12; refine (CallsIn.inRound l (callsIn_wide.2 CHK.out)).mono ?_; rintro e w4 ⟨rfl, h4⟩; have B4 := Lib.hid (B3.out.trans (h4.mono B3.out.size)); clear h4)
        refine ⟨trivial, ?_⟩
        have I4 := INV.out.stay (by omega) B4.out
        have p3 : w4.cell? ⟨b3, 0, none⟩ = some (.slice va L.length vc) := by rw [E3.out]; exact cellAt I4.c3 0 rfl
        have p0 : w4.cell? ⟨b, 0, none⟩ = some (.slice none 0 0) := cellAt I4.c0 0 rfl
        have p1 : w4.cell? ⟨b1, 0, none⟩ = some (.int .i64 0) := by rw [E1.out]; exact cellAt I4.c1 0 rfl
        have p2 : w4.cell? ⟨b2, 0, none⟩ = some (.int .i64 0) := by rw [E2.out]; exact cellAt I4.c2 0 rfl
        have f0 := freeAt I4.c0
        have f1 : ∀ o, w4.frozen? ⟨b1, o, none⟩ = false := by rw [E1.out]; exact freeAt I4.c1
        have f2 : ∀ o, w4.frozen? ⟨b2, o, none⟩ = false := by rw [E2.out]; exact freeAt I4.c2
        have f3 : ∀ o, w4.frozen? ⟨b3, o, none⟩ = false := by rw [E3.out]; exact freeAt I4.c3
        have FIN := Lib.hid (I4.stop E1.out E2.out (show (L.length : Int) = pre.length by rw [HLL.out]) BAD.out)
        clear I4
        gi_wp2
        gi_region_with_o (fail)
        all_goals
          gi_wp2
          exact ⟨by rw [E4.out, HSZ.out]; exact FIN.out.1.pre (by omega) (by omega) B4.out, rfl, Lib.hid ⟨pre, 3, FIN.out.2⟩⟩
  case done =>
    rintro W hI hK
    obtain ⟨v, L, HI⟩ := hI.out
    obtain ⟨va, vc, rfl, -, -⟩ := HI.own.own.row
    have p3 : W.cell? ⟨b3, 0, none⟩ = some (.slice va L.length vc) := by rw [E3.out]; exact cellAt HI.c3 0 rfl
    have p0 : W.cell? ⟨b, 0, none⟩ = some (.slice none 0 0) := cellAt HI.c0 0 rfl
    have p1 : W.cell? ⟨b1, 0, none⟩ = some (.int .i64 0) := by rw [E1.out]; exact cellAt HI.c1 0 rfl
    have p2 : W.cell? ⟨b2, 0, none⟩ = some (.int .i64 0) := by rw [E2.out]; exact cellAt HI.c2 0 rfl
    have f0 := freeAt HI.c0
    have f1 : ∀ o, W.frozen? ⟨b1, o, none⟩ = false := by rw [E1.out]; exact freeAt HI.c1
    have f2 : ∀ o, W.frozen? ⟨b2, o, none⟩ = false := by rw [E2.out]; exact freeAt HI.c2
    have INV := Lib.hid HI
    have HKK := Lib.hid hK
    clear HI hI hK
    gi_wp2
    obtain ⟨z0, z1, z2, z3, z4⟩ := INV.out.fin (.deferred none)
    rw [← E1.out, ← E2.out, show b + 5 = w1.heap.size from HSZ.out.symm] at z0 z1 z2 z3 z4
    have hd : (((W.setCell ⟨b, 0, none⟩ (.slice va L.length vc)).setCell ⟨b1, 0, none⟩ (.int .i64 0)).setCell ⟨b2, 0, none⟩ (.int .i64 0)).heap[w1.heap.size]? = some (.deferred (some [])) :=
      (heapSet_ne _ _ (by have := HSZ.out; have := E2.out; omega)).trans ((heapSet_ne _ _ (by have := HSZ.out; have := E1.out; omega)).trans ((heapSet_ne _ _ (by have := HSZ.out; omega)).trans HKK.out))
    refine ⟨by simp, .inl ⟨_, _, rfl, run_takeDeferred hd, ?_⟩⟩
    generalize World.putObj _ _ _ = W9 at z0 z1 z2 z3 z4 ⊢
    have y0 := cellAt z0 0 rfl
    have y1 := cellAt z1 0 rfl
    have y2 := cellAt z2 0 rfl
    refine ⟨.tuple #[.slice va L.length vc, .int .i64 0, .int .i64 0], ?_, ?_⟩
    · simp [results, Tryd.results8, go_sem, y0, y1, y2]
    · rw [HB.out] at z3 z4
      exact ⟨_, _, _, rfl, z3, .inr (.inr ⟨INV.out.good, INV.out.len, rfl, rfl, L, z4, INV.out.acts⟩)⟩
  case stop =>
    rintro c pre W ⟨rfl, hI⟩ hK
    obtain ⟨p, k, HI⟩ := hI.out
    have INV := Lib.hid HI
    have HKK := Lib.hid hK
    clear HI hI hK
    gi_wp2
    obtain ⟨z0, z1, z2, z3⟩ := INV.out.fin (.deferred none)
    rw [show b + 5 = w1.heap.size from HSZ.out.symm] at z0 z1 z2 z3
    rw [← E1.out] at z1
    rw [← E2.out] at z2
    refine ⟨by simp, .inl ⟨_, _, rfl, run_takeDeferred HKK.out, ?_⟩⟩
    generalize World.putObj _ _ _ = W9 at z0 z1 z2 z3 ⊢
    have y0 := cellAt z0 0 rfl
    have y1 := cellAt z1 0 rfl
    have y2 := cellAt z2 0 rfl
    refine ⟨.tuple #[.slice none 0 0, .int .i64 p.length, .int .i64 k], ?_, ?_⟩
    · simp [results, Tryd.results8, go_sem, y0, y1, y2]
    · rw [HB.out] at z3
      exact ⟨_, _, _, rfl, z3, .inr (.inl ⟨p, INV.out.bad, rfl, rfl⟩)⟩
end Go.Proofs.YtcbmmkhbfookjaaDoor
