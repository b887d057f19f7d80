/-
  The walk of conclavekeep.done.
-/
import Derived.Test.YtocdnochnjlhlaaDoorVDo
import Derived.Test.YtocdnochnjlhlaaDoorVaD
import Derived.Test.YtocdnochnjlhlaaDoorCmd
import Derived.Test.YtocdnochnjlhlaaDoorFrW
import Derived.Maps.AppendAt
set_option linter.unusedVariables false
set_option linter.unusedSimpArgs false
namespace Go.Con
def ansCells (a : Int × Int) : List Value := [.int .i64 a.1, .int .i64 a.2]
/-- the answers of commands, one behind the other -/
def Sto.answers (s : Sto) : List Cmd → List (Int × Int)
  | [] => []
  | c :: l => s.answer c :: (s.next c).answers l
theorem Sto.answers_snoc (s : Sto) (l : List Cmd) (c : Cmd) : s.answers (l ++ [c]) = s.answers l ++ [(s.all l).answer c] := by
  induction l generalizing s with
  | nil => rfl
  | cons d l ih => exact congrArg (s.answer d :: ·) (ih (s.next d))
theorem Sto.answers_length (s : Sto) (l : List Cmd) : (s.answers l).length = l.length := by
  induction l generalizing s with
  | nil => rfl
  | cons d l ih => show _ + 1 = _ + 1; rw [ih]
end Go.Con
namespace Go.Proofs.YtocdnochnjlhlaaDoor
open Go.RowKit Go.Con
/-- a row of commands of the call's own -/
def OwnC (w : World) (base : Nat) (v : Value) (l : List Cmd) : Prop := w.ownsRow base 42 5 v l.length (l.flatMap wishCells)
/-- a row of answers of the call's own -/
def OwnA (w : World) (base : Nat) (v : Value) (l : List (Int × Int)) : Prop := w.ownsRow base 26 2 v l.length (l.flatMap ansCells)
theorem infoCmd : (Tryd.prog.info? 42).map (fun i => (i.zero, i.size, i.bytes)) = some (some (.agg #[.int .i64 0, .int .i64 0, .int .i64 0, .int .i64 0, .int .i64 0]), 5, 40) := by kernel_rfl
theorem infoAns : (Tryd.prog.info? 26).map (fun i => (i.zero, i.size, i.bytes)) = some (some (.agg #[.int .i64 0, .int .i64 0]), 2, 16) := by kernel_rfl
theorem info_part {P : Program} {t : TypeId} {z : Option Value} {s b : Nat} (h : (P.info? t).map (fun i => (i.zero, i.size, i.bytes)) = some (z, s, b)) : ∃ i, P.info? t = some i ∧ i.zero = z ∧ i.size = s ∧ i.bytes = b := by
  cases hi : P.info? t with
  | none => rw [hi] at h; cases h
  | some i => rw [hi] at h; simp at h; exact ⟨i, rfl, h.1, h.2.1, h.2.2⟩
section
variable {ops : Array Oper} {rest : List Oper} {o : Oper} {a : Act} {Q : Exit → Act → World → Prop} {w : World}
/-- append(own commands, one more) -/
theorem apC (hgd : o.guard = none) (s x : Operand) (ho : o.op = .call { callee := .builtin .append, args := #[s, x], argTypes := #[31, 31] })
    (base : Nat) (v : Value) (l : List Cmd) (c : Cmd) (g : Nat) (hs : a.eval s = v) (hown : OwnC w base v l) (hx : a.eval x = .slice (some ⟨g, 0, none⟩) 1 1) (hsrc : w.heap[g]? = some (.cells (wishCells c).toArray 42 (0, 0))) (hlen : l.length ≤ 1000000) (hbase : base ≤ w.heap.size)
    (h : ∀ v' w', OwnC w' base v' (l ++ [c]) → w.grownBy w' v.ownBlock → (v'.ownBlock = v.ownBlock ∨ v'.ownBlock = some w.heap.size) → wpList Tryd.prog ops Q rest (a.put o.dst v') w') : wpList Tryd.prog ops Q (o :: rest) a w := by
  obtain ⟨i, hi, hz, hsz, hb⟩ := info_part infoCmd
  refine wpList_append_own_at w hgd s x 31 ho base 42 i _ 5 40 Tryd.underlying31 hi hz hsz hb rfl (by decide) v l.length (l.flatMap wishCells) hs hown ⟨g, 0, none⟩ 1 1 (wishCells c) hx rfl (fun j u hu => ?_) (fun u hu => ?_) (by unfold maxLen; omega) (by omega) hbase ?_
  · have hj := cellAt hsrc j (by simpa using hu)
    rw [Addr.add_mid, Nat.zero_add]; exact hj
  · simp [wishCells] at hu
    rcases hu with rfl | rfl | rfl | rfl | rfl <;> rfl
  · intro v' w' h1 h2 _ h4
    refine h v' w' ?_ h2 h4
    unfold OwnC
    rw [List.length_append, List.flatMap_append]
    simpa using h1
theorem apA (hgd : o.guard = none) (s x : Operand) (ho : o.op = .call { callee := .builtin .append, args := #[s, x], argTypes := #[32, 32] })
    (base : Nat) (v : Value) (l : List (Int × Int)) (c : Int × Int) (g : Nat) (hs : a.eval s = v) (hown : OwnA w base v l) (hx : a.eval x = .slice (some ⟨g, 0, none⟩) 1 1) (hsrc : w.heap[g]? = some (.cells (ansCells c).toArray 26 (0, 0))) (hlen : l.length ≤ 1000000) (hbase : base ≤ w.heap.size)
    (h : ∀ v' w', OwnA w' base v' (l ++ [c]) → w.grownBy w' v.ownBlock → (v'.ownBlock = v.ownBlock ∨ v'.ownBlock = some w.heap.size) → wpList Tryd.prog ops Q rest (a.put o.dst v') w') : wpList Tryd.prog ops Q (o :: rest) a w := by
  obtain ⟨i, hi, hz, hsz, hb⟩ := info_part infoAns
  refine wpList_append_own_at w hgd s x 32 ho base 26 i _ 2 16 Tryd.underlying32 hi hz hsz hb rfl (by decide) v l.length (l.flatMap ansCells) hs hown ⟨g, 0, none⟩ 1 1 (ansCells c) hx rfl (fun j u hu => ?_) (fun u hu => ?_) (by unfold maxLen; omega) (by omega) hbase ?_
  · have hj := cellAt hsrc j (by simpa using hu)
    rw [Addr.add_mid, Nat.zero_add]; exact hj
  · simp [ansCells] at hu
    rcases hu with rfl | rfl <;> rfl
  · intro v' w' h1 h2 _ h4
    refine h v' w' ?_ h2 h4
    unfold OwnA
    rw [List.length_append, List.flatMap_append]
    simpa using h1
end
/-- what a loop of 'done' keeps: the store's block, the two rows -/
structure DoneInv (b : Nat) (w wr : World) (l : List Cmd) (cv av : Value) : Prop where
  sto : wr.heap[b]? = some (.cells (Sto.zero.all l).cells.toArray 30 (0, 0))
  cs : OwnC wr (b + 1) cv l
  an : OwnA wr (b + 1) av (Sto.zero.answers l)
  apart : ∀ k, cv.ownBlock = some k → av.ownBlock ≠ some k
  below : Below b w wr
  room : b < wr.heap.size
  few : (Sto.zero.all l).Few
  all : ∀ c ∈ l, c.Few
/-- one more -/
theorem wish_cells (b off i : Nat) (w : World) (x : Cmd) (h : ∀ j, j < 5 → w.cell? ⟨b, off + (5 * i + j), none⟩ = (wishCells x)[j]?) :
    w.cell? ⟨b, off + i * 5, none⟩ = some (.int .i64 x.kind) ∧ w.cell? ⟨b, off + i * 5 + 1, none⟩ = some (.int .i64 x.client) ∧ w.cell? ⟨b, off + i * 5 + 2, none⟩ = some (.int .i64 x.seq) ∧ w.cell? ⟨b, off + i * 5 + 3, none⟩ = some (.int .i64 x.name) ∧ w.cell? ⟨b, off + i * 5 + 4, none⟩ = some (.int .i64 x.value) := by
  have e : ∀ j, off + i * 5 + j = off + (5 * i + j) := fun j => by omega
  refine ⟨?_, ?_, ?_, ?_, ?_⟩
  · rw [show off + i * 5 = off + (5 * i + 0) by omega]; exact h 0 (by decide)
  · rw [e]; exact h 1 (by decide)
  · rw [e]; exact h 2 (by decide)
  · rw [e]; exact h 3 (by decide)
  · rw [e]; exact h 4 (by decide)
theorem there_new0 (w : World) (Z : Array Value) (t : TypeId) (A : Obj) (m : Nat) (hz : Z.size = m) : ((w.alloc (.cells Z t)).alloc A).there w.heap.size 0 m := there_of (heapNew0 w _ A) hz
theorem stage1 {wr w1 w2 wz : World} {C A : Obj} {Z : Array Value} {t : TypeId} {cs : List Value} (B1 : Below wr.heap.size wr w1) (B2 : Below (w1.alloc C).heap.size (w1.alloc C) w2)
    (hW : ((w2.alloc (.cells Z t)).alloc A).setCells w2.heap.size 0 cs = wz) (hz : Z.size = cs.length) :
    Below wr.heap.size wr wz ∧ wz.heap[w1.heap.size]? = some C ∧ wz.heap[w2.heap.size]? = some (.cells cs.toArray t (0, 0)) ∧ wz.heap[w2.heap.size + 1]? = some A ∧ wz.heap.size = w2.heap.size + 2 ∧ wr.heap.size ≤ w1.heap.size ∧ w1.heap.size + 1 ≤ w2.heap.size := by
  have h1 := B1.size
  have h2 : w1.heap.size + 1 ≤ w2.heap.size := by simpa using B2.size
  subst hW
  refine ⟨?_, ?_, ?_, ?_, ?_, h1, h2⟩
  · exact below_setCells (by omega) _ _ _ ((((B1.alloc h1 C).trans (B2.mono (by simp; omega))).alloc (by omega) _).alloc (by simp; omega) _)
  · rw [heap_setCells_ne (by omega), heapOld _ _ _ (by simp; omega), heapOld _ _ _ (by omega), B2.block _ (by simp)]; exact heapNew _ _
  · exact storedRow (heapNew0 _ _ _) hz
  · rw [heap_setCells_ne (by omega)]; exact heapNew1 _ _ _
  · rw [size_setCells]; simp
theorem stage2 {wr wz wy : World} {b8 n1 n2 : Nat} {C : Obj} {S' : Sto} {t8 ta : TypeId} {Z8 : Array Value} {u v : Value} (hB : Below wr.heap.size wr wz) (h8 : wz.heap[b8]? = some (.cells Z8 t8 (0, 0))) (h8s : Z8.size = 40) (h8l : b8 < wr.heap.size) (hn1 : wr.heap.size ≤ n1) (hn2 : n1 < n2)
    (hC : wz.heap[n1]? = some C) (hA : wz.heap[n2 + 1]? = some (.cells #[.int .i64 0, .int .i64 0] ta (0, 0))) (hs : S'.cells.length = 40)
    (hW : ((wz.setCell ⟨n2 + 1, 0, none⟩ u).setCell ⟨n2 + 1, 1, none⟩ v).setCells b8 0 S'.cells = wy) :
    wy.heap[b8]? = some (.cells S'.cells.toArray t8 (0, 0)) ∧ wy.heap[n1]? = some C ∧ wy.heap[n2 + 1]? = some (.cells #[u, v] ta (0, 0)) ∧ Below b8 wr wy ∧ (∀ k, k < wr.heap.size → k ≠ b8 → wy.heap[k]? = wr.heap[k]?) ∧ wy.heap.size = wz.heap.size := by
  subst hW
  have e8 : ((wz.setCell ⟨n2 + 1, 0, none⟩ u).setCell ⟨n2 + 1, 1, none⟩ v).heap[b8]? = some (.cells Z8 t8 (0, 0)) := by rw [heapSet_ne _ _ (by omega), heapSet_ne _ _ (by omega)]; exact h8
  refine ⟨storedRow e8 (by rw [h8s, hs]), ?_, ?_, ?_, fun k hk hne => ?_, ?_⟩
  · rw [heap_setCells_ne (by omega), heapSet_ne _ _ (by omega), heapSet_ne _ _ (by omega)]; exact hC
  · rw [heap_setCells_ne (by omega)]; exact heapSet (heapSet hA _) _
  · exact below_setCells (Nat.le_refl _) _ _ _ (((hB.mono (by omega)).setCell (by show b8 ≤ n2 + 1; omega) _).setCell (by show b8 ≤ n2 + 1; omega) _)
  · rw [heap_setCells_ne hne, heapSet_ne _ _ (by omega), heapSet_ne _ _ (by omega)]; exact hB.block k hk
  · rw [size_setCells]; simp [World.setCell]
theorem take_succ_getD (l : List Cmd) (k : Nat) (h : k < l.length) : l.take (k + 1) = l.take k ++ [l.getD k Cmd.zero] := by
  rw [List.take_add_one]
  simp [h]
theorem OwnC.below {w w' : World} {base B : Nat} {v : Value} {l : List Cmd} (h : OwnC w base v l) (hb : Below B w w') (hB : w.heap.size ≤ B) : OwnC w' base v l := by
  obtain ⟨h1, h2⟩ := h
  refine ⟨h1, ?_⟩
  rcases h2 with h2 | ⟨g, cap, cur, hv, hg, hh, r⟩
  · exact .inl h2
  · exact .inr ⟨g, cap, cur, hv, hg, by rw [hb.block g (Nat.lt_of_lt_of_le (lt_of_heap hh) hB)]; exact hh, r⟩
theorem OwnA.below {w w' : World} {base B : Nat} {v : Value} {l : List (Int × Int)} (h : OwnA w base v l) (hb : Below B w w') (hB : w.heap.size ≤ B) : OwnA w' base v l := by
  obtain ⟨h1, h2⟩ := h
  refine ⟨h1, ?_⟩
  rcases h2 with h2 | ⟨g, cap, cur, hv, hg, hh, r⟩
  · exact .inl h2
  · exact .inr ⟨g, cap, cur, hv, hg, by rw [hb.block g (Nat.lt_of_lt_of_le (lt_of_heap hh) hB)]; exact hh, r⟩
theorem row_ofHeap {w w' : World} {base size : Nat} {e : TypeId} {v : Value} {n : Nat} {xs : List Value} (h : w.ownsRow base e size v n xs) (hh : ∀ k, v.ownBlock = some k → w'.heap[k]? = w.heap[k]?) : w'.ownsRow base e size v n xs := by
  obtain ⟨h1, h2⟩ := h
  refine ⟨h1, ?_⟩
  rcases h2 with h2 | ⟨g, cap, cur, rfl, hg, hh2, r⟩
  · exact .inl h2
  · exact .inr ⟨g, cap, cur, rfl, hg, by rw [hh g rfl]; exact hh2, r⟩
theorem row_mono {w : World} {base base' size : Nat} {e : TypeId} {v : Value} {n : Nat} {xs : List Value} (h : w.ownsRow base e size v n xs) (hb : base' ≤ base) : w.ownsRow base' e size v n xs := by
  obtain ⟨h1, h2⟩ := h
  refine ⟨h1, ?_⟩
  rcases h2 with h2 | ⟨g, cap, cur, hv, hg, r⟩
  · exact .inl h2
  · exact .inr ⟨g, cap, cur, hv, by omega, r⟩
theorem row_lt {w : World} {base size : Nat} {e : TypeId} {v : Value} {n : Nat} {xs : List Value} (h : w.ownsRow base e size v n xs) : ∀ k, v.ownBlock = some k → base ≤ k ∧ k < w.heap.size := by
  intro k hk
  obtain ⟨h1, h2⟩ := h
  rcases h2 with ⟨rfl, _⟩ | ⟨g, cap, cur, rfl, hg, hh2, r⟩
  · cases hk
  · injection hk with e; subst e; exact ⟨hg, lt_of_heap hh2⟩
theorem stage3c {b8 : Nat} {w0 wr wy : World} {L : List Cmd} {cv av : Value} (HI : DoneInv b8 w0 wr L cv av) (hk : ∀ k, k < wr.heap.size → k ≠ b8 → wy.heap[k]? = wr.heap[k]?) : OwnC wy (b8 + 1) cv L ∧ OwnA wy (b8 + 1) av (Sto.zero.answers L) := by
  refine ⟨row_ofHeap HI.cs (fun k hk2 => ?_), row_ofHeap HI.an (fun k hk2 => ?_)⟩
  · have := row_lt HI.cs k hk2; exact hk k this.2 (by omega)
  · have := row_lt HI.an k hk2; exact hk k this.2 (by omega)
theorem stage3a {b8 : Nat} {w0 wr wy w5 : World} {L : List Cmd} {cv av : Value} {o1 : Obj} (HI : DoneInv b8 w0 wr L cv av) (hk : ∀ k, k < wr.heap.size → k ≠ b8 → wy.heap[k]? = wr.heap[k]?) (gc : (wy.alloc o1).grownBy w5 cv.ownBlock) : OwnA w5 (b8 + 1) av (Sto.zero.answers L) :=
  World.ownsRow.kept (World.ownsRow.alloc (stage3c HI hk).2 o1) gc (by
    cases hv : av.ownBlock with
    | none => exact .inl rfl
    | some k => exact .inr (fun e => HI.apart k e.symm hv))
theorem stage3 {b8 : Nat} {w0 wr wy w5 w6 : World} {L : List Cmd} {cv av cv' av' : Value} {c : Cmd} {an : Int × Int} {S' : Sto} {o1 o2 : Obj} (HI : DoneInv b8 w0 wr L cv av) (h8 : wy.heap[b8]? = some (.cells S'.cells.toArray 30 (0, 0)))
    (hk : ∀ k, k < wr.heap.size → k ≠ b8 → wy.heap[k]? = wr.heap[k]?) (hB : Below b8 wr wy) (hs : wr.heap.size ≤ wy.heap.size)
    (oc : OwnC w5 (b8 + 1) cv' (L ++ [c])) (gc : (wy.alloc o1).grownBy w5 cv.ownBlock) (atc : cv'.ownBlock = cv.ownBlock ∨ cv'.ownBlock = some (wy.alloc o1).heap.size)
    (oa : OwnA w6 (b8 + 1) av' (Sto.zero.answers L ++ [an])) (ga : (w5.alloc o2).grownBy w6 av.ownBlock) (ata : av'.ownBlock = av.ownBlock ∨ av'.ownBlock = some (w5.alloc o2).heap.size)
    (hall : Sto.zero.all (L ++ [c]) = S') (hans : Sto.zero.answers (L ++ [c]) = Sto.zero.answers L ++ [an]) (hfew : c.Few) (hfew' : S'.Few) : DoneInv b8 w0 w6 (L ++ [c]) cv' av' := by
  have rm := HI.room
  have lc := row_lt HI.cs
  have la := row_lt HI.an
  have s1 : wy.heap.size + 1 ≤ w5.heap.size := by have := gc.size; simpa using this
  have s2 : w5.heap.size + 1 ≤ w6.heap.size := by have := ga.size; simpa using this
  have e1 : (wy.alloc o1).heap.size = wy.heap.size + 1 := by simp
  have e2 : (w5.alloc o2).heap.size = w5.heap.size + 1 := by simp
  have l5 := row_lt oc
  have hca : ∀ k, cv'.ownBlock = some k → av.ownBlock ≠ some k := by
    intro k hk1 hk2
    rcases atc with h | h
    · exact HI.apart k (h.symm.trans hk1) hk2
    · rw [h] at hk1; injection hk1 with e
      have := la k hk2
      omega
  refine ⟨?_, ?_, ?_, ?_, ?_, by omega, by rw [hall]; exact hfew', ?_⟩
  · rw [ga.block b8 (by omega) (fun e => by have := la b8 e.symm; omega), heapOld _ _ _ (by omega), gc.block b8 (by omega) (fun e => by have := lc b8 e.symm; omega), heapOld _ _ _ (by omega), h8, hall]
  · refine World.ownsRow.kept (World.ownsRow.alloc oc o2) ga ?_
    cases hv : cv'.ownBlock with
    | none => exact .inl rfl
    | some k => exact .inr (fun e => hca k hv e.symm)
  · rw [hans]; exact oa
  · intro k hk1 hk2
    rcases ata with h | h
    · exact hca k hk1 (h.symm.trans hk2)
    · rw [h] at hk2; injection hk2 with e
      have := l5 k hk1
      omega
  · exact Below.grown (Below.alloc (Below.grown (Below.alloc (HI.below.trans hB) (by omega) o1) gc (by omega) (fun k hk => by have := lc k hk; omega)) (by omega) o2) ga (by omega) (fun k hk => by have := la k hk; omega)
  · intro d hd
    rw [List.mem_append] at hd
    rcases hd with hd | hd
    · exact HI.all d hd
    · rw [List.mem_singleton] at hd; rw [hd]; exact hfew
theorem results_cttt {P : Program} {fn : Func} {tmps : Array Value} {w : World} {a b c d : Nat} {t : TypeId} {ad : Addr} {v : Value} (hr : fn.results = #[.cell a t, .tmp b, .tmp c, .tmp d]) (ht : tmps.getD a undef = .pointer (some ad))
    (hl : (loadVar t ad).run P w = .ok v w) : (results fn tmps).run P w = .ok (.tuple #[v, tmps.getD b undef, tmps.getD c undef, tmps.getD d undef]) w := by
  unfold results
  rw [hr]
  simp only [Array.getD_eq_getD_getElem?] at ht
  generalize loadVar = L at hl ⊢
  simp [ht, hl, go_sem]
theorem done_end {w w0 wr wf : World} {b8 : Nat} {L : List Cmd} {M : List Cmd} {S : Sto} {cv av : Value} {a : Act} (hL : L = M) (hS : S = Sto.zero.all L) (hok : S.Ok) (HI : DoneInv b8 w0 wr L cv av) (h8 : b8 = w.heap.size + 1)
    (f4 : wf.heap[w.heap.size]? = some (.cells S.cells.toArray 30 (0, 0))) (fk : ∀ k, k < wr.heap.size → k ≠ w.heap.size → wf.heap[k]? = wr.heap[k]?) (fb : Below w.heap.size w wf)
    (ht4 : a.tmps.getD 4 undef = .pointer (some ⟨w.heap.size, 0, none⟩)) (h5 : a.tmps.getD 5 undef = cv) (h6 : a.tmps.getD 6 undef = av) (h7 : a.tmps.getD 7 undef = .bool true) (hd : a.defers = []) :
    bodyPost Tryd.prog Tryd.f5 (fun e w' => ∃ cv av, e = .returned (.tuple #[.agg (Sto.zero.all M).cells.toArray, cv, av, .bool true]) ∧ OwnC w' w.heap.size cv M ∧ OwnA w' w.heap.size av (Sto.zero.answers M) ∧ Below w.heap.size w w') .ret a wf := by
  subst hL hS
  have l1 := run_loadVar_mid (P := Tryd.prog) wf w.heap.size 0 30 _ _ (range_of f4) Tryd.underlying30 rfl (by rw [stoLen hok]; exact stoSz)
  have hr := results_cttt (P := Tryd.prog) Tryd.results5 ht4 l1
  rw [h5, h6, h7] at hr
  refine bodyPost_ret hr hd ⟨_, _, rfl, ?_, ?_, fb⟩
  · refine row_mono (row_ofHeap HI.cs (fun k hk => ?_)) (show w.heap.size ≤ b8 + 1 by omega)
    have := row_lt HI.cs k hk
    exact fk k this.2 (by omega)
  · refine row_mono (row_ofHeap HI.an (fun k hk => ?_)) (show w.heap.size ≤ b8 + 1 by omega)
    have := row_lt HI.an k hk
    exact fk k this.2 (by omega)
set_option maxRecDepth 100000 in
set_option maxHeartbeats 800000 in
theorem done_any (v : Value) (l : List Cmd) (most : Nat) (w : World) (hv : RdWishes w v l) (hm : most ≤ 1000) :
    Calls Tryd.prog 5 #[v, .int .i64 most] w fun e w' => ∃ cv av, e = .returned (.tuple #[.agg (Sto.zero.all ((l.take most).map cmdOf)).cells.toArray, cv, av, .bool true]) ∧ OwnC w' w.heap.size cv ((l.take most).map cmdOf) ∧ OwnA w' w.heap.size av (Sto.zero.answers ((l.take most).map cmdOf)) ∧ Below w.heap.size w w' := by
  obtain ⟨ad, cap, rfl, hlc, hcm, hok, hcell⟩ := hv
  have HOK := Lib.hid hok
  have HCELL := Lib.hid hcell
  obtain ⟨n, hn⟩ : ∃ n, n = l.length := ⟨_, rfl⟩
  rw [← hn]
  have HN := Lib.hid hn
  have ez : (#[.int .i64 0, .int .i64 0, .int .i64 0, .int .i64 0, .int .i64 0, .int .i64 0, .int .i64 0, .int .i64 0, .int .i64 0, .int .i64 0, .int .i64 0, .int .i64 0, .int .i64 0, .int .i64 0, .int .i64 0, .int .i64 0, .int .i64 0, .int .i64 0, .int .i64 0, .int .i64 0, .int .i64 0, .int .i64 0, .int .i64 0, .int .i64 0, .int .i64 0, .int .i64 0, .int .i64 0, .int .i64 0, .int .i64 0, .int .i64 0, .int .i64 0, .int .i64 0, .bool false, .bool false, .bool false, .bool false, .bool false, .bool false, .bool false, .bool false] : Array Value) = Sto.zero.cells.toArray := by kernel_rfl
  have EZ := Lib.hid ez
  clear hok hcell hn ez
  go_enter Tryd.func5, Tryd.ntmps5
  go_wp2_with fail
  rw [EZ.out]
  generalize hW : World.alloc _ _ = w0
  have x4 : w0.heap[w.heap.size]? = some (.cells Sto.zero.cells.toArray 30 (0, 0)) := by rw [← hW]; exact heapNew0 _ _ _
  have x8 : w0.heap[w.heap.size + 1]? = some (.cells Sto.zero.cells.toArray 30 (0, 0)) := by rw [← hW]; exact heapNew1 _ _ _
  have y0 : Below w.heap.size w w0 := by rw [← hW]; exact ((Below.refl _ _).alloc (Nat.le_refl _) _).alloc (by simp) _
  have X4 := Lib.hid x4
  have Y0 := Lib.hid y0
  have inv0 : DoneInv (w.heap.size + 1) w0 w0 [] (.slice none 0 0) (.slice none 0 0) := ⟨x8, World.ownsRow_nil _ _ _ _, World.ownsRow_nil _ _ _ _, (fun k h => by cases h), Below.refl _ _, lt_of_heap x8, Sto.zero_few, (fun c h => by cases h)⟩
  have INV0 := Lib.hid inv0
  clear hW x4 x8 y0 inv0
  obtain ⟨b8, hb8⟩ : ∃ b, b = w.heap.size + 1 := ⟨_, rfl⟩
  rw [← hb8] at INV0 ⊢
  have HB8 := Lib.hid hb8
  clear hb8
  go_loopw [9, 10, 11] (fun cv av i wr => ∃ k : Nat, k ≤ n ∧ k ≤ most ∧ i = .int .i64 k ∧ Hid (DoneInv b8 w0 wr ((l.take k).map cmdOf) cv av)) (fun _ _ i _ => n - (intOf i).toNat)
  case atStart => exact ⟨0, by omega, by omega, rfl, INV0⟩
  case round =>
    obtain ⟨k, hkn, hkm, rfl, HI⟩ := hrel
    by_cases hlt : k < n ∧ k < most
    · obtain ⟨h1, h2⟩ := hlt
      have hd1 : decide ((k : Int) < n) = true := by rw [decide_eq_true_eq]; omega
      have hd2 : decide ((k : Int) < most) = true := by rw [decide_eq_true_eq]; omega
      obtain ⟨x, hx⟩ : ∃ x, x = l.getD k Cmd.zero := ⟨_, rfl⟩
      have hxm : x ∈ l := by rw [hx, getD_lt _ _ _ (by have := HN.out; omega)]; exact List.getElem_mem _
      have hwx := HOK.out x hxm
      obtain ⟨b, off, rfl, hcl⟩ := HCELL.out (fun e => by rw [e] at hxm; cases hxm)
      have hcl2 := hcl k (by have := HN.out; omega)
      rw [← hx] at hcl2
      have hbl : b < w.heap.size := World.block_lt_of_cell? w ⟨b, off + (5 * k + 0), none⟩ ((hcl2 0 (by decide)).trans rfl)
      have hcw : ∀ j, j < 5 → wr.cell? ⟨b, off + (5 * k + j), none⟩ = (wishCells x)[j]? := fun j hj => by
        rw [← hcl2 j hj]
        exact World.cell?_of_block (w := w) ((HI.out.below.block b (by have := HB8.out; omega)).trans (Y0.out.block b hbl))
      obtain ⟨e0, e1, e2, e3, e4⟩ := wish_cells b off k wr x hcw
      have hcmd := fun W => Command_any x W hwx
      obtain ⟨c, hc⟩ : ∃ c, c = cmdOf x := ⟨_, rfl⟩
      rw [← hc] at hcmd
      have hcmd2 : ∀ W, Calls Tryd.prog 9 #[.agg #[.int .i64 x.kind, .int .i64 x.client, .int .i64 x.seq, .int .i64 x.name, .int .i64 x.value]] W fun e w' => e = .returned (.agg #[.int .i64 c.kind, .int .i64 c.client, .int .i64 c.seq, .int .i64 c.name, .int .i64 c.value]) ∧ Below W.heap.size W w' := hcmd
      have hfew : c.Few := by rw [hc]; exact (cmdOf_few x).1
      have hchk : checkC c = 0 := by rw [hc]; exact cmdOf_check x
      have hls : (l.take (k + 1)).map cmdOf = (l.take k).map cmdOf ++ [c] := by rw [take_succ_getD l k (by have := HN.out; omega), List.map_append, ← hx, hc]; rfl
      obtain ⟨L, hL⟩ : ∃ L, L = (l.take k).map cmdOf := ⟨_, rfl⟩
      rw [← hL] at hls HI
      have hLlen : L.length ≤ 1000 := by rw [hL]; simp; omega
      obtain ⟨S, hS⟩ : ∃ S, S = Sto.zero.all L := ⟨_, rfl⟩
      have hsok : S.Ok := by rw [hS]; exact HI.out.few.ok
      have hdo := fun W => Do_any S hsok c hchk W
      obtain ⟨S', hS'⟩ : ∃ S', S' = S.next c := ⟨_, rfl⟩
      obtain ⟨an, han⟩ : ∃ an, an = S.answer c := ⟨_, rfl⟩
      rw [← hS', ← han] at hdo
      have hdo2 : ∀ W, Calls Tryd.prog 10 #[.agg S.cells.toArray, .agg #[.int .i64 c.kind, .int .i64 c.client, .int .i64 c.seq, .int .i64 c.name, .int .i64 c.value]] W fun e w' => e = .returned (.tuple #[.agg S'.cells.toArray, .agg #[.int .i64 an.1, .int .i64 an.2], .int .i64 0]) ∧ Below W.heap.size W w' := hdo
      have hsok' : S'.Ok := by rw [hS']; exact S.next_ok hsok c hchk
      have hall' : Sto.zero.all (L ++ [c]) = S' := by rw [Sto.all_snoc, ← hS, ← hS']
      have hans' : Sto.zero.answers (L ++ [c]) = Sto.zero.answers L ++ [an] := by rw [Sto.answers_snoc, ← hS, ← han]
      have hfew' : S'.Few := by rw [hS']; exact S.next_few (by rw [hS]; exact HI.out.few) c hfew
      have hst := HI.out.sto
      rw [← hS] at hst
      have ST := Lib.hid hst
      have HCMD := Lib.hid hcmd2
      have HDO := Lib.hid hdo2
      have SOK := Lib.hid hsok
      have SOK' := Lib.hid hsok'
      have HLS := Lib.hid hls
      have ALL' := Lib.hid hall'
      have ANS' := Lib.hid hans'
      have FEW := Lib.hid hfew
      have FEW' := Lib.hid hfew'
      have LLEN := Lib.hid hLlen
      have RM := HI.out.room
      have LEN := Lib.hid (show (Tryd.prog.info? 30).map (fun x => x.size) = some S.cells.length by rw [stoLen hsok]; exact stoSz)
      have LEN' := Lib.hid (show (Tryd.prog.info? 30).map (fun x => x.size) = some S'.cells.length by rw [stoLen hsok']; exact stoSz)
      have SZZ := Lib.hid (show (Tryd.prog.info? 30).map (fun x => x.size) = some S'.cells.toArray.size by rw [stoSize hsok']; exact stoSz)
      clear hxm hwx hcl hcl2 hcw hcmd hcmd2 hfew hchk hls hdo hdo2 hsok hsok' hall' hans' hfew' hst hS hS' han hL hLlen hc hx
      go_wp2_with (first
        | (go_at_call 9; refine (HCMD.out _).mono ?_; rintro e w1 ⟨rfl, hb1⟩; have B1 := Lib.hid hb1; have ZZ1 := hb1.size; have RG1 := Lib.hid (show ∀ o, (w1.alloc o).rangeAt b8 0 S.cells from fun o => range_of ((heapOld _ _ _ (by omega)).trans ((hb1.block b8 RM).trans ST.out))); clear hb1)
        | (go_at_call 10; refine (HDO.out _).mono ?_; rintro e w2 ⟨rfl, hb2⟩; have B2 := Lib.hid hb2; have ZZ2 := hb2.size; clear hb2)
        | (refine wpList_load_mid rfl 30 (.tmp 8) rfl b8 0 rfl S.cells _ ?_ Tryd.underlying30 rfl LEN.out ?_; (with_reducible exact RG1.out _))
        | (refine wpList_store_mid rfl 30 (.tmp 13) (.tmp 36) rfl w2.heap.size 0 S'.cells.toArray rfl rfl ?_ SZZ.out (stoOne _) ?_; (exact there_new0 _ _ _ _ _ (by rw [stoSize SOK'.out]; rfl)); generalize hW : World.setCells _ _ _ _ = wz; have G1 := Lib.hid (stage1 B1.out B2.out hW (by rw [stoLen SOK'.out]; rfl)); have z14 := cellAt G1.out.2.2.2.1 0 rfl; have z15 := cellAt G1.out.2.2.2.1 1 rfl; have zf := freeAt G1.out.2.2.2.1; have zlt := lt_of_heap G1.out.2.2.1; have RG2 := Lib.hid (show ∀ u v, ((wz.setCell ⟨w2.heap.size + 1, 0, none⟩ u).setCell ⟨w2.heap.size + 1, 1, none⟩ v).rangeAt w2.heap.size 0 S'.cells from fun u v => range_of ((heapSet_ne _ _ (by omega)).trans ((heapSet_ne _ _ (by omega)).trans G1.out.2.2.1))); have TH2 := Lib.hid (show ∀ u v, ((wz.setCell ⟨w2.heap.size + 1, 0, none⟩ u).setCell ⟨w2.heap.size + 1, 1, none⟩ v).there b8 0 S'.cells.toArray.size from fun u v => (by rw [stoSize SOK'.out]; exact there_of ((heapSet_ne _ _ (by have := G1.out.2.2.2.2.2; omega)).trans ((heapSet_ne _ _ (by have := G1.out.2.2.2.2.2; omega)).trans ((G1.out.1.block b8 RM).trans ST.out))) (stoSize SOK.out))); clear hW)
        | (refine wpList_load_mid rfl 30 (.tmp 13) rfl w2.heap.size 0 rfl S'.cells _ ?_ Tryd.underlying30 rfl LEN'.out ?_; (with_reducible exact RG2.out _ _))
        | (refine wpList_store_mid rfl 30 (.tmp 8) (.tmp 44) rfl b8 0 S'.cells.toArray rfl rfl ?_ SZZ.out (stoOne _) ?_; (with_reducible exact TH2.out _ _); generalize hW : World.setCells _ _ _ _ = wy; have G2 := Lib.hid (stage2 G1.out.1 ((G1.out.1.block b8 RM).trans ST.out) (stoSize SOK.out) RM G1.out.2.2.2.2.2.1 G1.out.2.2.2.2.2.2 G1.out.2.1 G1.out.2.2.2.1 (stoLen SOK'.out) hW); have g0 : wy.cell? ⟨w1.heap.size, 0, none⟩ = some (.int .i64 c.kind) := cellAt G2.out.2.1 0 rfl; have g1 : wy.cell? ⟨w1.heap.size, 1, none⟩ = some (.int .i64 c.client) := cellAt G2.out.2.1 1 rfl; have g2 : wy.cell? ⟨w1.heap.size, 2, none⟩ = some (.int .i64 c.seq) := cellAt G2.out.2.1 2 rfl; have g3 : wy.cell? ⟨w1.heap.size, 3, none⟩ = some (.int .i64 c.name) := cellAt G2.out.2.1 3 rfl; have g4 : wy.cell? ⟨w1.heap.size, 4, none⟩ = some (.int .i64 c.value) := cellAt G2.out.2.1 4 rfl; have SY : wr.heap.size + 2 ≤ wy.heap.size := Nat.le_trans (by have := G1.out.2.2.2.2; omega) (Nat.le_of_eq G2.out.2.2.2.2.2.symm); have OC := Lib.hid (stage3c HI.out G2.out.2.2.2.2.1).1; clear hW z14 z15 zf zlt)
        | (at_builtin; refine apC rfl (.tmp 45) (.tmp 47) rfl (b8 + 1) _ L c wy.heap.size rfl (World.ownsRow.alloc OC.out _) rfl (heapNew _ _) (by have := LLEN.out; omega) (by simp; omega) ?_; intro cv' w5 ho5 hg5 hat5; have OA := Lib.hid (stage3a HI.out G2.out.2.2.2.2.1 hg5); have S5 := hg5.size; have O5 := Lib.hid ho5; have K5 := Lib.hid hg5; have A5 := Lib.hid hat5; have lc := row_lt HI.out.cs; have i0 : w5.heap[w2.heap.size + 1]? = _ := (hg5.block (w2.heap.size + 1) (by have := lt_of_heap G2.out.2.2.1; simp; omega) (fun e => (by have h1 := (lc _ e.symm).2; have h2 := G1.out.2.2.2.2; omega))).trans ((heapOld _ _ _ (lt_of_heap G2.out.2.2.1)).trans G2.out.2.2.1); have i1 := cellAt i0 0 rfl; have i2 := cellAt i0 1 rfl; clear ho5 hg5 hat5 lc i0)
        | (at_builtin; refine apA rfl (.tmp 49) (.tmp 51) rfl (b8 + 1) _ (Sto.zero.answers L) an w5.heap.size rfl (World.ownsRow.alloc OA.out _) rfl (heapNew _ _) (by rw [Sto.answers_length]; have := LLEN.out; omega) (by simp at S5 ⊢; omega) ?_; intro av' w6 ho6 hg6 hat6; have INV := Lib.hid (stage3 HI.out G2.out.1 G2.out.2.2.2.2.1 G2.out.2.2.2.1 (by omega) O5.out K5.out A5.out ho6 hg6 hat6 ALL'.out ANS'.out FEW.out FEW'.out); clear ho6 hg6 hat6))
      go_roundw
      case rel => exact ⟨k + 1, by omega, by omega, by go_num, by rw [HLS.out]; exact INV⟩
      case measure => simp [intOf]; omega
    · have hk : k = n ∨ k = most := by omega
      have hL : (l.take k).map cmdOf = (l.take most).map cmdOf := by
        rcases hk with h | h
        · rw [h, HN.out, List.take_length, List.take_of_length_le (by have := HN.out; omega)]
        · rw [h]
      rw [hL] at HI
      obtain ⟨L, hLL⟩ : ∃ L, L = (l.take most).map cmdOf := ⟨_, rfl⟩
      rw [← hLL] at HI
      obtain ⟨S, hS0⟩ : ∃ S, S = Sto.zero.all L := ⟨_, rfl⟩
      have hst := HI.out.sto
      rw [← hS0] at hst
      have hsok : S.Ok := by rw [hS0]; exact HI.out.few.ok
      have ST := Lib.hid hst
      have SOK := Lib.hid hsok
      have LEN := Lib.hid (show (Tryd.prog.info? 30).map (fun x => x.size) = some S.cells.length by rw [stoLen hsok]; exact stoSz)
      have SZZ := Lib.hid (show (Tryd.prog.info? 30).map (fun x => x.size) = some S.cells.toArray.size by rw [stoSize hsok]; exact stoSz)
      have HLL := Lib.hid hLL
      have HS0 := Lib.hid hS0
      have hx4 : wr.heap[w.heap.size]? = _ := (HI.out.below.block w.heap.size (by have := HB8.out; omega)).trans X4.out
      have HX4 := Lib.hid hx4
      have YR := Lib.hid (show Below w.heap.size w wr from Y0.out.trans (HI.out.below.mono (by have := HB8.out; omega)))
      clear hL hLL hS0 hst hsok hx4
      have hcond : (decide (k < n) = true ∧ decide ((k : Int) < n) = true ∧ decide (k < most) = false ∧ decide ((k : Int) < most) = false) ∨ (decide (k < n) = false ∧ decide ((k : Int) < n) = false) := by
        simp only [decide_eq_true_eq, decide_eq_false_iff_not]; omega
      rcases hcond with ⟨hd1, hd2, hd3, hd4⟩ | ⟨hd1, hd2⟩
      all_goals
        clear hk hlt
        go_wp2_with fail
        refine wp_region_held_drew (S := fun W => W.heap[b8]? = wr.heap[b8]?) (by kernel_rfl) rfl (fun hS => ?_)
        refine wpAnyH_take (i := 0) (oi := { dst := some 53, op := _, type := _, pos := _, after := _, guard := none }) (v := _) rfl (by kernel_rfl) (by kernel_rfl) (by kernel_rfl) (fun _ _ _ h => h) (yieldsIf_load_mid (by rfl) 30 (.tmp 8) rfl b8 0 rfl S.cells _ (fun _ h => range_of (h.trans ST.out)) Tryd.underlying30 rfl LEN.out) hS ?_
        try simp only [Act.put, List.setIfInBounds_toArray, List.set_cons_zero, List.set_cons_succ]
        refine wpAnyH_take (i := 1) (oi := { dst := some 54, op := _, type := _, pos := _, after := _, guard := none }) (v := u9) rfl (by kernel_rfl) (by kernel_rfl) (by kernel_rfl) (fun _ _ _ h => h) (Or.inl ⟨by rfl, fun W hw => ?_⟩) hS ?_
        · go_simp
        try simp only [Act.put, List.setIfInBounds_toArray, List.set_cons_zero, List.set_cons_succ]
        refine wpAnyH_take (i := 2) (oi := { dst := some 55, op := _, type := _, pos := _, after := _, guard := none }) (v := u10) rfl (by kernel_rfl) (by kernel_rfl) (by kernel_rfl) (fun _ _ _ h => h) (Or.inl ⟨by rfl, fun W hw => ?_⟩) hS ?_
        · go_simp
        try simp only [Act.put, List.setIfInBounds_toArray, List.set_cons_zero, List.set_cons_succ]
        refine wpAnyH_take (i := 3) (oi := { dst := some 56, op := _, type := _, pos := _, after := _, guard := none }) (v := _) rfl (by kernel_rfl) (by kernel_rfl) (by kernel_rfl) (fun _ _ _ h => h) (yieldsIf_load_mid (by rfl) 30 (.tmp 8) rfl b8 0 rfl S.cells _ (fun _ h => range_of (h.trans ST.out)) Tryd.underlying30 rfl LEN.out) hS ?_
        try simp only [Act.put, List.setIfInBounds_toArray, List.set_cons_zero, List.set_cons_succ]
        refine wpAnyH_ready (rs := [4]) (by kernel_rfl) (by simp) ?_
        refine AllReadyH.cons (o := { dst := some 57, op := _, type := _, pos := _, after := _, guard := none }) rfl (fun K hK => ?_) AllReadyH.nil
        · go_simp
          refine (stoCheck_ok S SOK.out _).mono ?_
          rintro e w7 ⟨rfl, hb7⟩
          go_wp2_with fail
          have p7 : w7.heap[b8]? = wr.heap[b8]? := hb7.block b8 HI.out.room
          refine hK.out _ _ p7 (fun hS2 => ?_)
          clear hK K
          have x7 : w7.heap[w.heap.size]? = _ := (hb7.block w.heap.size (by have h1 := HB8.out; have h2 := HI.out.room; show w.heap.size < wr.heap.size; omega)).trans HX4.out
          have k7 : ∀ k, k < wr.heap.size → w7.heap[k]? = wr.heap[k]? := fun k hk => hb7.block k hk
          have y7 : Below w.heap.size w w7 := YR.out.drew.trans (hb7.mono (by have h1 := HB8.out; have h2 := HI.out.room; show w.heap.size ≤ wr.heap.size; omega))
          try simp only [Act.put, List.setIfInBounds_toArray, List.set_cons_zero, List.set_cons_succ]
          refine wpAnyH_take (i := 5) (oi := { dst := some 58, op := _, type := _, pos := _, after := _, guard := none }) (v := .bool true) rfl (by kernel_rfl) (by kernel_rfl) (by kernel_rfl) (fun _ _ _ h => h) (Or.inl ⟨by rfl, fun W hw => ?_⟩) hS2 ?_
          · go_simp
          try simp only [Act.put, List.setIfInBounds_toArray, List.set_cons_zero, List.set_cons_succ]
          refine wpAnyH_ready (rs := [6]) (by kernel_rfl) (by simp) ?_
          refine AllReadyH.cons (o := { dst := none, op := .store 30 (.tmp 4) (.tmp 53), type := _, pos := _, after := _, guard := none }) rfl (fun K hK => ?_) AllReadyH.nil
          rw [if_pos (by rfl)]
          refine wp_store_mid 30 (.tmp 4) (.tmp 53) rfl w.heap.size 0 S.cells.toArray rfl rfl ?_ SZZ.out (stoOne _) ?_
          · rw [stoSize SOK.out]; exact there_of x7 (stoSize Sto.zero_ok)
          generalize hW : World.setCells _ _ _ _ = wz
          have v4 : wz.heap[w.heap.size]? = some (.cells S.cells.toArray 30 (0, 0)) := by rw [← hW]; exact storedRow (vs := S.cells) x7 (by rw [stoSize Sto.zero_ok, stoLen SOK.out])
          have vk : ∀ k, k ≠ w.heap.size → wz.heap[k]? = w7.heap[k]? := fun k hk => by rw [← hW, heap_setCells_ne hk]
          have vb : Below w.heap.size w wz := by rw [← hW]; exact below_setCells (Nat.le_refl _) _ _ _ y7
          have vs : wz.heap.size = w7.heap.size := by rw [← hW, size_setCells]
          refine hK.out _ _ ?_ (fun hS3 => ?_)
          · exact (vk b8 (by have := HB8.out; omega)).trans p7
          clear hK K hW
          try simp only [Act.put, List.setIfInBounds_toArray, List.set_cons_zero, List.set_cons_succ]
          refine wpAnyH_take (i := 7) (oi := { dst := some 5, op := _, type := _, pos := _, after := _, guard := none }) (v := u9) rfl (by kernel_rfl) (by kernel_rfl) (by kernel_rfl) (fun _ _ _ h => h) (Or.inl ⟨by rfl, fun W hw => ?_⟩) hS3 ?_
          · go_simp
          try simp only [Act.put, List.setIfInBounds_toArray, List.set_cons_zero, List.set_cons_succ]
          refine wpAnyH_take (i := 8) (oi := { dst := some 6, op := _, type := _, pos := _, after := _, guard := none }) (v := u10) rfl (by kernel_rfl) (by kernel_rfl) (by kernel_rfl) (fun _ _ _ h => h) (Or.inl ⟨by rfl, fun W hw => ?_⟩) hS3 ?_
          · go_simp
          try simp only [Act.put, List.setIfInBounds_toArray, List.set_cons_zero, List.set_cons_succ]
          refine wpAnyH_take (i := 9) (oi := { dst := some 7, op := _, type := _, pos := _, after := _, guard := none }) (v := .bool true) rfl (by kernel_rfl) (by kernel_rfl) (by kernel_rfl) (fun _ _ _ h => h) (Or.inl ⟨by rfl, fun W hw => ?_⟩) hS3 ?_
          · go_simp
          try simp only [Act.put, List.setIfInBounds_toArray, List.set_cons_zero, List.set_cons_succ]
          refine wpAnyH_done (by kernel_rfl) ?_ _
          go_wp2_with fail
          exact done_end HLL.out HS0.out SOK.out HI.out HB8.out v4 (fun k h1 h2 => (vk k h2).trans (k7 k h1)) vb rfl rfl rfl rfl rfl
end Go.Proofs.YtocdnochnjlhlaaDoor
