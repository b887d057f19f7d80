/-
  Rows of acts of the call's own, and their growing.
-/
import Derived.Test.YtcbmmkhbfookjaaDoorLnS
import Derived.Test.YtcbmmkhbfookjaaDoorAcO
import Derived.Maps.AppendAt
set_option linter.unusedVariables false
set_option linter.unusedSimpArgs false
namespace Go.Proofs.YtcbmmkhbfookjaaDoor
open Go.RowKit Go.Con
/-- a row of acts of the call's own -/
def OwnX (w : World) (base : Nat) (v : Value) (l : List Acx) : Prop := w.ownsRow base 32 5 v l.length (l.flatMap acxCells)
theorem OwnX.row {w : World} {base : Nat} {v : Value} {l : List Acx} (h : OwnX w base v l) : RdRow 5 acxCells Acx.zero w v l := RdRow.ofOwn (fun _ => rfl) h
theorem infoActT : (Tryd.prog.info? 32).map (fun i => (i.zero, i.size, i.bytes)) = some (some (.agg #[.int .i64 0, .int .i64 0, .int .i64 0, .int .i64 0, .slice none 0 0]), 5, 56) := by kernel_rfl
section
variable {ops : Array Oper} {rest : List Oper} {o : Oper} {a : Act} {Q : Exit → Act → World → Prop} {w : World}
/-- append(own acts, one more) -/
theorem apX (hgd : o.guard = none) (s x : Operand) (ho : o.op = .call { callee := .builtin .append, args := #[s, x], argTypes := #[23, 23] })
    (base : Nat) (v : Value) (l : List Acx) (c : Acx) (g : Nat) (hs : a.eval s = v) (hown : OwnX w base v l) (hx : a.eval x = .slice (some ⟨g, 0, none⟩) 1 1) (hsrc : w.heap[g]? = some (.cells (acxCells c).toArray 32 (0, 0))) (hone : c.dv.oneCell' = true) (hlen : l.length ≤ 1000000) (hbase : base ≤ w.heap.size)
    (h : ∀ v' w', OwnX w' base v' (l ++ [c]) → w.grownBy w' v.ownBlock → (v'.ownBlock = v.ownBlock ∨ v'.ownBlock = some w.heap.size) → wpList Tryd.prog ops Q rest (a.put o.dst v') w') : wpList Tryd.prog ops Q (o :: rest) a w := by
  obtain ⟨i, hi, hz, hsz, hb⟩ := info_part infoActT
  refine wpList_append_own_at w hgd s x 23 ho base 32 i _ 5 56 Tryd.underlying23 hi hz hsz hb rfl (by decide) v l.length (l.flatMap acxCells) hs hown ⟨g, 0, none⟩ 1 1 (acxCells c) hx rfl (fun j u hu => by
    have hj := cellAt hsrc j (by simpa using hu)
    rw [Addr.add_mid, Nat.zero_add]; exact hj) (fun u hu => by
    simp [acxCells] at hu
    rcases hu with rfl | rfl | rfl | rfl | rfl
    · rfl
    · rfl
    · rfl
    · rfl
    · exact hone) (by unfold maxLen; omega) (by omega) hbase ?_
  intro v' w' h1 h2 _ h4
  refine h v' w' ?_ h2 h4
  unfold OwnX
  rw [List.length_append, List.flatMap_append]
  simpa using h1
end
/-- a row of acts of the call's own, that may be, and their bytes: all beyond a place, the bytes in blocks of bytes -/
structure AllX (w : World) (base : Nat) (v : Value) (l : List Acx) : Prop where
  own : OwnX w base v l
  each : ∀ x ∈ l, Own w base x.dv x.d ∧ x.Ok
theorem typ_act8 : (32 : TypeId) ≠ 5 := by decide
theorem AllX.acts {w : World} {base : Nat} {v : Value} {l : List Acx} (h : AllX w base v l) : RdActs w v l := ⟨h.own.row, fun x hx => (h.each x hx).1.rd⟩
theorem AllX.ok {w : World} {base : Nat} {v : Value} {l : List Acx} (h : AllX w base v l) : ∀ x ∈ l, x.Ok := fun x hx => (h.each x hx).2
theorem AllX.nil (w : World) (base : Nat) : AllX w base (.slice none 0 0) [] := ⟨World.ownsRow_nil _ _ _ _, fun x hx => by cases hx⟩
theorem AllX.heap {w w' : World} {base : Nat} {v : Value} {l : List Acx} (h : AllX w base v l) (hh : ∀ k, base ≤ k → k < w.heap.size → w'.heap[k]? = w.heap[k]?) : AllX w' base v l :=
  ⟨row_ofHeap h.own (fun k hk => hh k (row_lt h.own k hk).1 (row_lt h.own k hk).2), fun x hx => ⟨Own.ofHeapO (h.each x hx).1 (fun k hk => hh k (row_lt (h.each x hx).1 k hk).1 (row_lt (h.each x hx).1 k hk).2), (h.each x hx).2⟩⟩
theorem AllX.stay {w w' : World} {base : Nat} {v : Value} {l : List Acx} (h : AllX w base v l) (hb : Below w.heap.size w w') : AllX w' base v l := h.heap (fun k _ hk => hb.block k hk)
/-- one more is put behind them -/
theorem AllX.grown {w w' : World} {base : Nat} {v v' : Value} {l : List Acx} {c : Acx} (h : AllX w base v l) (hown : OwnX w' base v' (l ++ [c])) (hg : w.grownBy w' v.ownBlock) (hc : Own w base c.dv c.d) (hok : c.Ok) : AllX w' base v' (l ++ [c]) := by
  refine ⟨hown, fun x hx => ?_⟩
  have hx' : Own w base x.dv x.d ∧ x.Ok := (List.mem_append.1 hx).elim (h.each x) (fun hx => (List.mem_singleton.1 hx) ▸ ⟨hc, hok⟩)
  refine ⟨Own.ofHeapO hx'.1 (fun k hk => ?_), hx'.2⟩
  refine hg.block k (row_lt hx'.1 k hk).2 (fun e => ?_)
  obtain ⟨-, h2⟩ := hx'.1
  obtain ⟨-, h3⟩ := id h.own
  rcases h2 with ⟨h4, -⟩ | ⟨g, cap, cur, h4, -, h5, -⟩
  · rw [h4] at hk; cases hk
  · rw [h4] at hk
    have hgk : g = k := Option.some.inj hk
    rcases h3 with ⟨h6, -⟩ | ⟨g2, cap2, cur2, h6, -, h7, -⟩
    · rw [h6] at e; cases e
    · rw [h6] at e
      have hg2 : k = g2 := Option.some.inj e
      rw [hgk, hg2, h7] at h5
      injection (Option.some.inj h5) with h8 h9
      exact typ_act8 h9
end Go.Proofs.YtcbmmkhbfookjaaDoor
