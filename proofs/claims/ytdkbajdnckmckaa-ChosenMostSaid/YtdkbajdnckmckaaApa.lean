/-
  Rows of acceptors, each with its votes.
-/
import Derived.Test.YtdkbajdnckmckaaApP
set_option linter.unusedVariables false
set_option linter.unusedSimpArgs false
namespace Go.Con
open Go
/-- an acceptor, and the slice of its votes -/
structure Acr where
  a : Apr
  ad : Option Addr
  n : Nat
  c : Nat
def Acr.zero : Acr := ⟨Apr.zero, none, 0, 0⟩
def accCells (x : Acr) : List Value := [.int .i64 x.a.p.1, .int .i64 x.a.p.2, .slice x.ad x.n x.c]
end Go.Con
namespace Go.Proofs.Ytdkbajdnckmckaa
open Go.RowKit Go.Con
abbrev RdA := RdRow 3 accCells Acr.zero
/-- a row of acceptors of the call's own -/
def OwnA (w : World) (base : Nat) (v : Value) (l : List Acr) : Prop := w.ownsRow base 39 3 v l.length (l.flatMap accCells)
theorem OwnA.row {w : World} {base : Nat} {v : Value} {l : List Acr} (h : OwnA w base v l) : RdA w v l := RdRow.ofOwn (fun _ => rfl) h
theorem infoAcr : (Try.prog.info? 39).map (fun i => (i.zero, i.size, i.bytes)) = some (some (.agg #[.int .i64 0, .int .i64 0, .slice none 0 0]), 3, 40) := by kernel_rfl
theorem accCells_one (l : List Acr) : ∀ u ∈ l.flatMap accCells, u.oneCell' = true := by
  intro u hu
  obtain ⟨e, he, hu⟩ := List.mem_flatMap.1 hu
  simp [accCells] at hu
  rcases hu with rfl | rfl | rfl <;> rfl
section
variable {ops : Array Oper} {rest : List Oper} {o : Oper} {a : Act} {Q : Exit → Act → World → Prop} {w : World}
/-- append(own acceptors, one more) -/
theorem apA (hgd : o.guard = none) (s x : Operand) (ho : o.op = .call { callee := .builtin .append, args := #[s, x], argTypes := #[50, 50] })
    (base : Nat) (v : Value) (l : List Acr) (c : Acr) (g : Nat) (hs : a.eval s = v) (hown : OwnA w base v l) (hx : a.eval x = .slice (some ⟨g, 0, none⟩) 1 1) (hsrc : w.heap[g]? = some (.cells (accCells c).toArray 39 (0, 0))) (hlen : l.length ≤ 1000000) (hbase : base ≤ w.heap.size)
    (h : ∀ v' w', OwnA w' base v' (l ++ [c]) → w.grownBy w' v.ownBlock → (v'.ownBlock = v.ownBlock ∨ v'.ownBlock = some w.heap.size) → wpList Try.prog ops Q rest (a.put o.dst v') w') : wpList Try.prog ops Q (o :: rest) a w := by
  obtain ⟨i, hi, hz, hsz, hb⟩ := info_part infoAcr
  refine wpList_append_own_at w hgd s x 50 ho base 39 i _ 3 40 Try.underlying50 hi hz hsz hb rfl (by decide) v l.length (l.flatMap accCells) hs hown ⟨g, 0, none⟩ 1 1 (accCells c) hx rfl (fun j u hu => by
    have hj := cellAt hsrc j (by simpa using hu)
    rw [Addr.add_mid, Nat.zero_add]; exact hj) (fun u hu => by
    simp [accCells] at hu
    rcases hu with rfl | rfl | rfl <;> rfl) (by unfold maxLen; omega) (by omega) hbase ?_
  intro v' w' h1 h2 _ h4
  refine h v' w' ?_ h2 h4
  unfold OwnA
  rw [List.length_append, List.flatMap_append]
  simpa using h1
end
/-- votes can still be read -/
theorem votesHeap {w w' : World} {v : Value} {l : List Vot} (h : Votes w v l) (hh : l ≠ [] → ∀ k, v.ownBlock = some k → k < w.heap.size → w'.heap[k]? = w.heap[k]?) : Votes w' v l := by
  obtain ⟨⟨a, c, rfl, h1, h2, h3⟩, h4⟩ := h
  refine ⟨⟨a, c, rfl, h1, h2, fun hl => ?_⟩, h4⟩
  obtain ⟨b, off, rfl, hb, hc⟩ := h3 hl
  have e := hh hl b rfl hb
  have hb' : b < w'.heap.size := by
    have h5 : w.heap[b]? = some w.heap[b] := Array.getElem?_eq_getElem hb
    exact lt_of_heap (e.trans h5)
  exact ⟨b, off, rfl, hb', fun i hi j hj => (World.cell?_of_block (w := w) e).trans (hc i hi j hj)⟩
theorem votesLt {w : World} {v : Value} {l : List Vot} (h : Votes w v l) (hl : l ≠ []) : ∀ k, v.ownBlock = some k → k < w.heap.size := by
  obtain ⟨⟨a, c, rfl, h1, h2, h3⟩, h4⟩ := h
  obtain ⟨b, off, rfl, hb, hc⟩ := h3 hl
  intro k hk
  injection hk with hk
  subst hk
  exact hb
/-- an acceptor in a row -/
structure AccAt (w : World) (lo : Nat) (q : Option Nat) (x : Acr) : Prop where
  ok : x.a.ok = true
  vs : Votes w (.slice x.ad x.n x.c) x.a.l
  ne : x.a.l ≠ [] → ∀ k, (Value.slice x.ad x.n x.c).ownBlock = some k → lo ≤ k ∧ some k ≠ q
/-- a row of acceptors of the call's own, and their votes -/
structure AllA (w : World) (base : Nat) (v : Value) (l : List Acr) : Prop where
  own : OwnA w base v l
  each : ∀ x ∈ l, AccAt w base v.ownBlock x
theorem AllA.heap {w w' : World} {base : Nat} {v : Value} {l : List Acr} (h : AllA w base v l) (hh : ∀ k, base ≤ k → k < w.heap.size → w'.heap[k]? = w.heap[k]?) : AllA w' base v l :=
  ⟨row_ofHeap h.own (fun k hk => hh k (row_lt h.own k hk).1 (row_lt h.own k hk).2), fun x hx => ⟨(h.each x hx).ok, votesHeap (h.each x hx).vs (fun hl k hk hkl => hh k ((h.each x hx).ne hl k hk).1 hkl), (h.each x hx).ne⟩⟩
theorem AllA.stay {w w' : World} {base : Nat} {v : Value} {l : List Acr} (h : AllA w base v l) (hb : Below w.heap.size w w') : AllA w' base v l := h.heap (fun k _ hk => hb.block k hk)
theorem AllA.mono {w : World} {base base' : Nat} {v : Value} {l : List Acr} (h : AllA w base v l) (hb : base' ≤ base) : AllA w base' v l :=
  ⟨row_mono h.own hb, fun x hx => ⟨(h.each x hx).ok, (h.each x hx).vs, fun hl k hk => ⟨Nat.le_trans hb ((h.each x hx).ne hl k hk).1, ((h.each x hx).ne hl k hk).2⟩⟩⟩
/-- one more is put behind them -/
theorem AllA.grown {w w' : World} {base : Nat} {v v' : Value} {l : List Acr} {c : Acr} (h : AllA w base v l) (hown : OwnA w' base v' (l ++ [c])) (hg : w.grownBy w' v.ownBlock) (hat : v'.ownBlock = v.ownBlock ∨ v'.ownBlock = some w.heap.size) (hc : AccAt w base v.ownBlock c) : AllA w' base v' (l ++ [c]) := by
  refine ⟨hown, fun x hx => ?_⟩
  have hx' : AccAt w base v.ownBlock x := (List.mem_append.1 hx).elim (h.each x) (fun hx => (List.mem_singleton.1 hx) ▸ hc)
  refine ⟨hx'.ok, votesHeap hx'.vs (fun hl k hk hkl => hg.block k hkl (hx'.ne hl k hk).2), fun hl k hk => ⟨(hx'.ne hl k hk).1, ?_⟩⟩
  rcases hat with e | e
  · rw [e]; exact (hx'.ne hl k hk).2
  · rw [e]
    have := votesLt hx'.vs hl k hk
    intro hne
    injection hne with hne
    omega
/-- the cells of an acceptor in a row -/
theorem RdA_cells {w : World} {v : Value} {l : List Acr} (h : RdA w v l) (hl : l ≠ []) : ∃ b off c, v = .slice (some ⟨b, off, none⟩) l.length c ∧ l.length ≤ c ∧ c ≤ maxLen ∧ b < w.heap.size ∧ ∀ i x, l[i]? = some x → w.cell? ⟨b, off + i * 3, none⟩ = some (.int .i64 x.a.p.1) ∧ w.cell? ⟨b, off + i * 3 + 1, none⟩ = some (.int .i64 x.a.p.2) ∧ w.cell? ⟨b, off + i * 3 + 2, none⟩ = some (.slice x.ad x.n x.c) := by
  obtain ⟨a, c, rfl, h1, h2, h3⟩ := h
  obtain ⟨b, off, rfl, hb, hc⟩ := h3 hl
  refine ⟨b, off, c, rfl, h1, h2, hb, fun i x hx => ?_⟩
  have hi : i < l.length := (List.getElem?_eq_some_iff.1 hx).1
  have e : l.getD i Acr.zero = x := by rw [List.getD_eq_getElem?_getD, hx]; rfl
  have f := fun j hj => hc i hi j hj
  rw [e] at f
  have f0 := f 0 (by decide)
  have f1 := f 1 (by decide)
  have f2 := f 2 (by decide)
  rw [show off + (3 * i + 0) = off + i * 3 by omega] at f0
  rw [show off + (3 * i + 1) = off + i * 3 + 1 by omega] at f1
  rw [show off + (3 * i + 2) = off + i * 3 + 2 by omega] at f2
  exact ⟨f0, f1, f2⟩
end Go.Proofs.Ytdkbajdnckmckaa
