/-
  Texts put together: Apa, VoW, Blw, Tap, San.
-/
import Derived.Test.YtdkbajdnckmckaaDoorMg9
import Derived.Test.YtdkbajdnckmckaaDoorMg8
import Derived.Test.YtdkbajdnckmckaaDoorMg10
set_option linter.unusedVariables false
set_option linter.unusedSimpArgs false
namespace Go.Con
open Go
/-- an acceptor, and the slice of its votes -/
structure Acr where
  a : Apr
  ad : Option Addr
  n : Nat
  c : Nat
def Acr.zero : Acr := ⟨Apr.zero, none, 0, 0⟩
def accCells (x : Acr) : List Value := [.int .i64 x.a.p.1, .int .i64 x.a.p.2, .slice x.ad x.n x.c]
end Go.Con
namespace Go.Proofs.YtdkbajdnckmckaaDoor
open Go.RowKit Go.Con
abbrev RdA := RdRow 3 accCells Acr.zero
/-- a row of acceptors of the call's own -/
def OwnA (w : World) (base : Nat) (v : Value) (l : List Acr) : Prop := w.ownsRow base 45 3 v l.length (l.flatMap accCells)
theorem OwnA.row {w : World} {base : Nat} {v : Value} {l : List Acr} (h : OwnA w base v l) : RdA w v l := RdRow.ofOwn (fun _ => rfl) h
theorem infoAcr : (Tryd.prog.info? 45).map (fun i => (i.zero, i.size, i.bytes)) = some (some (.agg #[.int .i64 0, .int .i64 0, .slice none 0 0]), 3, 40) := by kernel_rfl
theorem accCells_one (l : List Acr) : ∀ u ∈ l.flatMap accCells, u.oneCell' = true := by
  intro u hu
  obtain ⟨e, he, hu⟩ := List.mem_flatMap.1 hu
  simp [accCells] at hu
  rcases hu with rfl | rfl | rfl <;> rfl
section
variable {ops : Array Oper} {rest : List Oper} {o : Oper} {a : Act} {Q : Exit → Act → World → Prop} {w : World}
/-- append(own acceptors, one more) -/
theorem apA (hgd : o.guard = none) (s x : Operand) (ho : o.op = .call { callee := .builtin .append, args := #[s, x], argTypes := #[40, 40] })
    (base : Nat) (v : Value) (l : List Acr) (c : Acr) (g : Nat) (hs : a.eval s = v) (hown : OwnA w base v l) (hx : a.eval x = .slice (some ⟨g, 0, none⟩) 1 1) (hsrc : w.heap[g]? = some (.cells (accCells c).toArray 45 (0, 0))) (hlen : l.length ≤ 1000000) (hbase : base ≤ w.heap.size)
    (h : ∀ v' w', OwnA w' base v' (l ++ [c]) → w.grownBy w' v.ownBlock → (v'.ownBlock = v.ownBlock ∨ v'.ownBlock = some w.heap.size) → wpList Tryd.prog ops Q rest (a.put o.dst v') w') : wpList Tryd.prog ops Q (o :: rest) a w := by
  obtain ⟨i, hi, hz, hsz, hb⟩ := info_part infoAcr
  refine wpList_append_own_at w hgd s x 40 ho base 45 i _ 3 40 Tryd.underlying40 hi hz hsz hb rfl (by decide) v l.length (l.flatMap accCells) hs hown ⟨g, 0, none⟩ 1 1 (accCells c) hx rfl (fun j u hu => by
    have hj := cellAt hsrc j (by simpa using hu)
    rw [Addr.add_mid, Nat.zero_add]; exact hj) (fun u hu => by
    simp [accCells] at hu
    rcases hu with rfl | rfl | rfl <;> rfl) (by unfold maxLen; omega) (by omega) hbase ?_
  intro v' w' h1 h2 _ h4
  refine h v' w' ?_ h2 h4
  unfold OwnA
  rw [List.length_append, List.flatMap_append]
  simpa using h1
end
/-- votes can still be read -/
theorem votesHeap {w w' : World} {v : Value} {l : List Vot} (h : Votes w v l) (hh : l ≠ [] → ∀ k, v.ownBlock = some k → k < w.heap.size → w'.heap[k]? = w.heap[k]?) : Votes w' v l := by
  obtain ⟨⟨a, c, rfl, h1, h2, h3⟩, h4⟩ := h
  refine ⟨⟨a, c, rfl, h1, h2, fun hl => ?_⟩, h4⟩
  obtain ⟨b, off, rfl, hb, hc⟩ := h3 hl
  have e := hh hl b rfl hb
  have hb' : b < w'.heap.size := by
    have h5 : w.heap[b]? = some w.heap[b] := Array.getElem?_eq_getElem hb
    exact lt_of_heap (e.trans h5)
  exact ⟨b, off, rfl, hb', fun i hi j hj => (World.cell?_of_block (w := w) e).trans (hc i hi j hj)⟩
theorem votesLt {w : World} {v : Value} {l : List Vot} (h : Votes w v l) (hl : l ≠ []) : ∀ k, v.ownBlock = some k → k < w.heap.size := by
  obtain ⟨⟨a, c, rfl, h1, h2, h3⟩, h4⟩ := h
  obtain ⟨b, off, rfl, hb, hc⟩ := h3 hl
  intro k hk
  injection hk with hk
  subst hk
  exact hb
/-- an acceptor in a row -/
structure AccAt (w : World) (lo : Nat) (q : Option Nat) (x : Acr) : Prop where
  ok : x.a.ok = true
  vs : Votes w (.slice x.ad x.n x.c) x.a.l
  ne : x.a.l ≠ [] → ∀ k, (Value.slice x.ad x.n x.c).ownBlock = some k → lo ≤ k ∧ some k ≠ q
/-- a row of acceptors of the call's own, and their votes -/
structure AllA (w : World) (base : Nat) (v : Value) (l : List Acr) : Prop where
  own : OwnA w base v l
  each : ∀ x ∈ l, AccAt w base v.ownBlock x
theorem AllA.heap {w w' : World} {base : Nat} {v : Value} {l : List Acr} (h : AllA w base v l) (hh : ∀ k, base ≤ k → k < w.heap.size → w'.heap[k]? = w.heap[k]?) : AllA w' base v l :=
  ⟨row_ofHeap h.own (fun k hk => hh k (row_lt h.own k hk).1 (row_lt h.own k hk).2), fun x hx => ⟨(h.each x hx).ok, votesHeap (h.each x hx).vs (fun hl k hk hkl => hh k ((h.each x hx).ne hl k hk).1 hkl), (h.each x hx).ne⟩⟩
theorem AllA.stay {w w' : World} {base : Nat} {v : Value} {l : List Acr} (h : AllA w base v l) (hb : Below w.heap.size w w') : AllA w' base v l := h.heap (fun k _ hk => hb.block k hk)
theorem AllA.mono {w : World} {base base' : Nat} {v : Value} {l : List Acr} (h : AllA w base v l) (hb : base' ≤ base) : AllA w base' v l :=
  ⟨row_mono h.own hb, fun x hx => ⟨(h.each x hx).ok, (h.each x hx).vs, fun hl k hk => ⟨Nat.le_trans hb ((h.each x hx).ne hl k hk).1, ((h.each x hx).ne hl k hk).2⟩⟩⟩
/-- one more is put behind them -/
theorem AllA.grown {w w' : World} {base : Nat} {v v' : Value} {l : List Acr} {c : Acr} (h : AllA w base v l) (hown : OwnA w' base v' (l ++ [c])) (hg : w.grownBy w' v.ownBlock) (hat : v'.ownBlock = v.ownBlock ∨ v'.ownBlock = some w.heap.size) (hc : AccAt w base v.ownBlock c) : AllA w' base v' (l ++ [c]) := by
  refine ⟨hown, fun x hx => ?_⟩
  have hx' : AccAt w base v.ownBlock x := (List.mem_append.1 hx).elim (h.each x) (fun hx => (List.mem_singleton.1 hx) ▸ hc)
  refine ⟨hx'.ok, votesHeap hx'.vs (fun hl k hk hkl => hg.block k hkl (hx'.ne hl k hk).2), fun hl k hk => ⟨(hx'.ne hl k hk).1, ?_⟩⟩
  rcases hat with e | e
  · rw [e]; exact (hx'.ne hl k hk).2
  · rw [e]
    have := votesLt hx'.vs hl k hk
    intro hne
    injection hne with hne
    omega
/-- the cells of an acceptor in a row -/
theorem RdA_cells {w : World} {v : Value} {l : List Acr} (h : RdA w v l) (hl : l ≠ []) : ∃ b off c, v = .slice (some ⟨b, off, none⟩) l.length c ∧ l.length ≤ c ∧ c ≤ maxLen ∧ b < w.heap.size ∧ ∀ i x, l[i]? = some x → w.cell? ⟨b, off + i * 3, none⟩ = some (.int .i64 x.a.p.1) ∧ w.cell? ⟨b, off + i * 3 + 1, none⟩ = some (.int .i64 x.a.p.2) ∧ w.cell? ⟨b, off + i * 3 + 2, none⟩ = some (.slice x.ad x.n x.c) := by
  obtain ⟨a, c, rfl, h1, h2, h3⟩ := h
  obtain ⟨b, off, rfl, hb, hc⟩ := h3 hl
  refine ⟨b, off, c, rfl, h1, h2, hb, fun i x hx => ?_⟩
  have hi : i < l.length := (List.getElem?_eq_some_iff.1 hx).1
  have e : l.getD i Acr.zero = x := by rw [List.getD_eq_getElem?_getD, hx]; rfl
  have f := fun j hj => hc i hi j hj
  rw [e] at f
  have f0 := f 0 (by decide)
  have f1 := f 1 (by decide)
  have f2 := f 2 (by decide)
  rw [show off + (3 * i + 0) = off + i * 3 by omega] at f0
  rw [show off + (3 * i + 1) = off + i * 3 + 1 by omega] at f1
  rw [show off + (3 * i + 2) = off + i * 3 + 2 by omega] at f2
  exact ⟨f0, f1, f2⟩
end Go.Proofs.YtdkbajdnckmckaaDoor

set_option linter.unusedVariables false
set_option linter.unusedSimpArgs false
namespace Go.Proofs.YtdkbajdnckmckaaDoor
open Go.RowKit Go.Con
structure Later (T : Prop) : Prop where
  out : T
theorem cutTo {T G : Prop} (h : Later T → G) (t : T) : G := h ⟨t⟩
theorem alloc2Q {w w0 : World} {A B : Obj} (h : (w.alloc A).alloc B = w0) : w0.heap[w.heap.size]? = some A ∧ w0.heap[w.heap.size + 1]? = some B ∧ Below w.heap.size w w0 ∧ w0.heap.size = w.heap.size + 2 := by
  subst h
  have e1 : (w.alloc A).heap.size = w.heap.size + 1 := by simp
  refine ⟨by rw [heapOld _ _ _ (by simp)]; exact heapNew _ _, ?_, ((Below.refl w.heap.size w).alloc (Nat.le_refl _) _).alloc (by simp) _, by simp⟩
  have := heapNew (w.alloc A) B
  rwa [e1] at this
end Go.Proofs.YtdkbajdnckmckaaDoor

set_option linter.unusedVariables false
set_option linter.unusedSimpArgs false
namespace Go.Proofs.YtdkbajdnckmckaaDoor
open Go.RowKit Go.Con
set_option maxRecDepth 100000 in
set_option maxHeartbeats 1000000 in
theorem below_to (r n s m : Int) (c : Bool) (w : World) (h : Hid (decide (cmpB (r, n) (s, m) < 0) = c)) :
    Calls Tryd.prog 25 #[.agg #[.int .i64 r, .int .i64 n], .agg #[.int .i64 s, .int .i64 m]] w fun e w' => e = .returned (.bool c) ∧ Below w.heap.size w w' := by
  have hc : (decide (r < s) = true ∧ c = true) ∨ (decide (r < s) = false ∧ (r == s) = false ∧ c = false) ∨ (decide (r < s) = false ∧ (r == s) = true ∧ decide (n < m) = true ∧ c = true) ∨ (decide (r < s) = false ∧ (r == s) = true ∧ decide (n < m) = false ∧ c = false) := by
    have h2 := h.out
    rw [← h2]
    simp only [decide_eq_true_eq, decide_eq_false_iff_not, beq_iff_eq, beq_eq_false_iff_ne, ne_eq, cmpB_low]
    omega
  rcases hc with ⟨h1, rfl⟩ | ⟨h1, h2, rfl⟩ | ⟨h1, h2, h3, rfl⟩ | ⟨h1, h2, h3, rfl⟩
  all_goals
    go_enter Tryd.func25, Tryd.ntmps25
    go_wp2_with fail
    go_ret
    exact ⟨rfl, ((Below.refl _ _).alloc (Nat.le_refl _) _).alloc (by simp) _⟩
theorem okV_zero {s : Int} {b : Int × Int} (h0 : 0 ≤ s) (h1 : s < 40) (hb : okB b = true) : okV ⟨s, b, Cmd.zero⟩ = true := by
  unfold okV
  have hc : checkC Cmd.zero = 0 := by decide
  rw [hb, hc]
  simp
  omega
theorem okV_get {s q : Int} {b : Int × Int} (h0 : 0 ≤ s) (h1 : s < 40) (hb : okB b = true) (hq0 : 0 ≤ q) (hq : q < 1000) : okV ⟨s, b, ⟨2, 0, q, 0, 0⟩⟩ = true := by
  have hcc : checkC ⟨2, 0, q, 0, 0⟩ = 0 := by
    unfold checkC
    rw [if_neg (show ¬ ((2 : Int) = 0) by decide), if_pos (show (1 : Int) ≤ 2 ∧ (2 : Int) ≤ 3 by decide)]
    have hr : inRange ⟨2, 0, q, 0, 0⟩ = true := by unfold inRange; rw [decide_eq_true_eq]; simp; omega
    rw [if_neg (by rw [hr]; decide), if_neg (show ¬ ((2 : Int) ≠ 1 ∧ (0 : Int) ≠ 0) by decide)]
  unfold okV
  rw [hb, hcc]
  simp
  omega
/-- an acceptor in a variable -/
def AccIn (w : World) (b : Nat) (r n : Int) (v : Value) : Prop := w.heap[b]? = some (.cells #[.int .i64 r, .int .i64 n, v] 45 (0, 0))
theorem AccIn.cells {w : World} {b : Nat} {r n : Int} {v : Value} (h : AccIn w b r n v) : w.cell? ⟨b, 0, none⟩ = some (.int .i64 r) ∧ w.cell? ⟨b, 1, none⟩ = some (.int .i64 n) ∧ w.cell? ⟨b, 2, none⟩ = some v := ⟨cellAt h 0 rfl, cellAt h 1 rfl, cellAt h 2 rfl⟩
theorem AccIn.stay {w w' : World} {b : Nat} {r n : Int} {v : Value} (h : AccIn w b r n v) (hb : Below w.heap.size w w') : AccIn w' b r n v := (hb.block b (lt_of_heap h)).trans h
def BalIn (w : World) (b : Nat) (r n : Int) : Prop := w.heap[b]? = some (.cells #[.int .i64 r, .int .i64 n] 24 (0, 0))
theorem BalIn.cells {w : World} {b : Nat} {r n : Int} (h : BalIn w b r n) : w.cell? ⟨b, 0, none⟩ = some (.int .i64 r) ∧ w.cell? ⟨b, 1, none⟩ = some (.int .i64 n) := ⟨cellAt h 0 rfl, cellAt h 1 rfl⟩
theorem BalIn.stay {w w' : World} {b : Nat} {r n : Int} (h : BalIn w b r n) (hb : Below w.heap.size w w') : BalIn w' b r n := (hb.block b (lt_of_heap h)).trans h
theorem RdWishes.stay {w w' : World} {v : Value} {l : List Cmd} (h : RdWishes w v l) (hb : Below w.heap.size w w') : RdWishes w' v l := by
  obtain ⟨a, c, rfl, h1, h2, h3, h4⟩ := h
  refine ⟨a, c, rfl, h1, h2, h3, fun hl => ?_⟩
  obtain ⟨b, off, rfl, hc⟩ := h4 hl
  refine ⟨b, off, rfl, fun i hi j hj => ?_⟩
  have h5 := hc i hi j hj
  rw [← h5]
  have h6 : (wishCells (l.getD i Cmd.zero))[j]? = some ((wishCells (l.getD i Cmd.zero))[j]'hj) := List.getElem?_eq_getElem hj
  rw [h6] at h5
  exact World.cell?_of_block (w := w) (hb.block b (World.block_lt_of_cell? w _ h5))
end Go.Proofs.YtdkbajdnckmckaaDoor

set_option linter.unusedVariables false
set_option linter.unusedSimpArgs false
namespace Go.Proofs.YtdkbajdnckmckaaDoor
open Go.RowKit Go.Con
/-- a tape, and the acceptors on the way -/
structure TapOf (w : World) (base n : Nat) (D : List UInt8) (l : List Acr) (tv av : Value) : Prop where
  tv : Own w base tv D
  all : AllA w base av l
  tap : ∃ L a, Tap Apr.zero D L a ∧ l.map (·.a) = L ++ [a] ∧ a.p.1 ≤ 9
  len : D.length ≤ 38 * n
  pos0 : n = 0 ∨ 0 < D.length
  one : l.length = 1 ∨ 0 < D.length
  few : l.length ≤ n + 1
/-- what 'taped' gives -/
def TapedPost (w : World) (n : Nat) (e : Ending) (w' : World) : Prop :=
  ∃ D l tv av, e = .returned (.tuple #[.agg #[tv, .int .i64 0], av, .bool true]) ∧ TapOf w' w.heap.size (min n 20) D l tv av ∧ Below w.heap.size w w'
structure TpIn (w wr : World) (q : Nat) (D : List UInt8) (l : List Acr) (tv av : Value) : Prop where
  below : Below w.heap.size w wr
  rb : wr.heap[w.heap.size]? = some (.cells #[.slice none 0 0, .int .i64 0] 27 (0, 0))
  tb : wr.heap[w.heap.size + 1]? = some (.cells #[tv, .int .i64 0] 27 (0, 0))
  of : TapOf wr (w.heap.size + 2) q D l tv av
  tne : ∀ k, tv.ownBlock = some k → some k ≠ av.ownBlock
theorem TapOf.last {w : World} {base n : Nat} {D : List UInt8} {l : List Acr} {tv av : Value} (h : TapOf w base n D l tv av) : ∃ x L, l[l.length - 1]? = some x ∧ 0 < l.length ∧ Tap Apr.zero D L x.a ∧ l.map (·.a) = L ++ [x.a] ∧ x.a.p.1 ≤ 9 ∧ x.a.ok = true ∧ Votes w (.slice x.ad x.n x.c) x.a.l := by
  obtain ⟨L, a, h1, h2, h3⟩ := h.tap
  have hl : l.length = L.length + 1 := by have := congrArg List.length h2; simpa using this
  have hx : l[L.length]? = some (l[L.length]'(by omega)) := List.getElem?_eq_getElem (by omega)
  obtain ⟨x, hxx⟩ : ∃ x, x = l[L.length]'(by omega) := ⟨_, rfl⟩
  rw [← hxx] at hx
  have e : (l.map (·.a))[L.length]? = some x.a := by rw [List.getElem?_map, hx]; rfl
  rw [h2, List.getElem?_append_right (Nat.le_refl _), Nat.sub_self] at e
  have e2 : a = x.a := by injection e
  have hm : x ∈ l := List.mem_of_getElem? hx
  have hal := h.all.each x hm
  exact ⟨x, L, by rw [hl]; exact hx, by omega, e2 ▸ h1, e2 ▸ h2, e2 ▸ h3, hal.ok, hal.vs⟩
theorem TpIn.stay {w wr w' : World} {q : Nat} {D : List UInt8} {l : List Acr} {tv av : Value} (h : TpIn w wr q D l tv av) (hb : Below wr.heap.size wr w') : TpIn w w' q D l tv av :=
  ⟨bel_trans h.below hb, (hb.block _ (lt_of_heap h.rb)).trans h.rb, (hb.block _ (lt_of_heap h.tb)).trans h.tb,
    ⟨h.of.tv.ofHeapK (fun k hk => hb.block k (h.of.tv.lt k hk).2), h.of.all.stay hb, h.of.tap, h.of.len, h.of.pos0, h.of.one, h.of.few⟩, h.tne⟩
theorem TpIn.skip {w wr : World} {q : Nat} {D : List UInt8} {l : List Acr} {tv av : Value} (h : TpIn w wr q D l tv av) (h0 : 0 < D.length) : TpIn w wr (q + 1) D l tv av :=
  ⟨h.below, h.rb, h.tb, ⟨h.of.tv, h.of.all, h.of.tap, by have := h.of.len; omega, .inr h0, h.of.one, by have := h.of.few; omega⟩, h.tne⟩
/-- the world in which the next acceptor is put behind the others -/
theorem TpIn.mid {w wr wA : World} {q : Nat} {D : List UInt8} {l : List Acr} {tv av v0 : Value} (h : TpIn w wr q D l tv av) (B : Below wr.heap.size wr wA) (o : Obj) :
    AllA (((wA.setCell ⟨w.heap.size + 1, 0, none⟩ v0).setCell ⟨w.heap.size + 1, 1, none⟩ (.int .i64 0)).alloc o) (w.heap.size + 2) av l :=
  h.of.all.heap (fun k hk1 hk2 => (heapOld _ _ _ (by have := B.size; simp; omega)).trans ((heapSet_ne 1 _ (by omega)).trans ((heapSet_ne 0 _ (by omega)).trans (B.block k hk2))))
/-- one more record, one more acceptor -/
theorem TpIn.next {w wr wA w' : World} {q : Nat} {D b : List UInt8} {l : List Acr} {tv av tv' av' : Value} {o : Obj} {x c : Acr} {L : List Apr} (h : TpIn w wr q D l tv av) (B : Below wr.heap.size wr wA)
    (hx : Tap Apr.zero D L x.a) (hL : l.map (·.a) = L ++ [x.a]) (hap : applyB x.a b = some c.a) (hb : b.length ≤ 33) (hok : c.a.ok = true) (h9 : c.a.p.1 ≤ 9)
    (ht : Own wA wr.heap.size tv' (D ++ Tp.frame b)) (hv : OwnV wA wr.heap.size (.slice c.ad c.n c.c) c.a.l)
    (hown : OwnA w' (w.heap.size + 2) av' (l ++ [c])) (hg : (((wA.setCell ⟨w.heap.size + 1, 0, none⟩ tv').setCell ⟨w.heap.size + 1, 1, none⟩ (.int .i64 0)).alloc o).grownBy w' av.ownBlock)
    (hat : av'.ownBlock = av.ownBlock ∨ av'.ownBlock = some (((wA.setCell ⟨w.heap.size + 1, 0, none⟩ tv').setCell ⟨w.heap.size + 1, 1, none⟩ (.int .i64 0)).alloc o).heap.size) :
    TpIn w w' (q + 1) (D ++ Tp.frame b) (l ++ [c]) tv' av' := by
  obtain ⟨wC, hC⟩ : ∃ wC, wC = ((wA.setCell ⟨w.heap.size + 1, 0, none⟩ tv').setCell ⟨w.heap.size + 1, 1, none⟩ (.int .i64 0)).alloc o := ⟨_, rfl⟩
  rw [← hC] at hg hat
  have hmid := h.mid (v0 := tv') B o
  rw [← hC] at hmid
  have hrt := lt_of_heap h.tb
  have hAs := B.size
  have hCs : wC.heap.size = wA.heap.size + 1 := by rw [hC]; simp
  have eC : ∀ k, k < wA.heap.size → k ≠ w.heap.size + 1 → wC.heap[k]? = wA.heap[k]? := fun k hk hne => by
    rw [hC]; exact (heapOld _ _ _ (by simp; omega)).trans ((heapSet_ne 1 _ hne).trans (heapSet_ne 0 _ hne))
  have hal : ∀ k, av.ownBlock = some k → w.heap.size + 2 ≤ k ∧ k < wr.heap.size := row_lt h.of.all.own
  have hvl := row_lt hv
  have htl := ht.lt
  have eG : ∀ k, k < wC.heap.size → some k ≠ av.ownBlock → w'.heap[k]? = wC.heap[k]? := fun k hk hne => hg.block k hk hne
  have hne : ∀ k, wr.heap.size ≤ k → some k ≠ av.ownBlock := fun k hk e => by have := (hal k e.symm).2; omega
  have hlo : ∀ k, k < w.heap.size + 2 → some k ≠ av.ownBlock := fun k hk e => by have := (hal k e.symm).1; omega
  have tb0 : wA.heap[w.heap.size + 1]? = some (.cells #[tv, .int .i64 0] 27 (0, 0)) := (B.block _ hrt).trans h.tb
  have tbC : wC.heap[w.heap.size + 1]? = some (.cells #[tv', .int .i64 0] 27 (0, 0)) := by
    rw [hC]; exact (heapOld _ _ _ (by simp; omega)).trans (heapSet (o := 1) (heapSet (o := 0) tb0 tv') (.int .i64 0))
  have hacc : AccAt wC (w.heap.size + 2) av.ownBlock c := by
    refine ⟨hok, votesHeap hv.votes (fun _ k hk hkl => eC k hkl (by have := (hvl k hk).1; omega)), fun _ k hk => ⟨by have := (hvl k hk).1; omega, hne k (hvl k hk).1⟩⟩
  have bC : Below w.heap.size w wC := by
    rw [hC]; exact (((bel_trans h.below B).setCell (by show w.heap.size ≤ w.heap.size + 1; omega) _).setCell (by show w.heap.size ≤ w.heap.size + 1; omega) _).alloc (by have := h.below.size; simp; omega) _
  have hfl : 0 < (D ++ Tp.frame b).length := by rw [List.length_append, frame_len]; omega
  refine ⟨bC.grown hg (by have := h.below.size; omega) (fun k hk => by have := (hal k hk).1; omega), (eG _ (by omega) (hlo _ (by omega))).trans ((eC _ (by omega) (by omega)).trans ((B.block _ (by omega)).trans h.rb)), (eG _ (by omega) (hlo _ (by omega))).trans tbC,
    ⟨(ht.mono (by omega)).ofHeapK (fun k hk => (eG k (by have := (htl k hk).2; omega) (hne k (htl k hk).1)).trans (eC k (htl k hk).2 (by have := (htl k hk).1; omega))), hmid.grown hown hg hat hacc,
      ⟨l.map (·.a), c.a, hL ▸ Tap.add hx (by omega) hap, by simp, h9⟩, by have := h.of.len; rw [List.length_append, frame_len]; omega, .inr hfl, .inr hfl, by have := h.of.few; simp; omega⟩, fun k hk e => ?_⟩
  rcases hat with e2 | e2
  · rw [e2] at e; exact hne k (htl k hk).1 e
  · rw [e2] at e; injection e with e; have := (htl k hk).2; omega
theorem _root_.Go.Proofs.YtdkbajdnckmckaaDoor.Tap.nil {a0 a : Apr} {D : List UInt8} {L : List Apr} (h : Tap a0 D L a) (h0 : D.length = 0) : a = a0 := by
  cases h with
  | zero => rfl
  | add _ _ _ => rw [List.length_append, frame_len] at h0; omega
theorem newA1 (w : World) (base : Nat) (x : Acr) (h : w.heap[base]? = some (.cells (accCells x).toArray 45 (0, 0))) : OwnA w base (.slice (some ⟨base, 0, none⟩) 1 1) [x] :=
  ⟨by simp [accCells], .inr ⟨base, 1, (accCells x).toArray, rfl, Nat.le_refl _, h, Nat.le_refl _, by decide, rfl, by simp [accCells]⟩⟩
set_option maxRecDepth 100000 in
set_option maxHeartbeats 8000000 in
theorem taped_any (v : Value) (l : List Cmd) (w : World) (hv : RdWishes w v l) (hk : Kn w) :
    Calls Tryd.prog 13 #[v] w (TapedPost w l.length) := by
  obtain ⟨ea, ec, rfl, hle, hcm, hwok, hcell⟩ := hv
  obtain ⟨n, hn⟩ : ∃ n, n = l.length := ⟨_, rfl⟩
  rw [← hn] at hle hcell ⊢
  have hcm2 : ec ≤ 9223372036854775807 := hcm
  have HWOK := Lib.hid hwok
  have HCELL := Lib.hid hcell
  have HN := Lib.hid hn
  have HK := Lib.hid hk
  obtain ⟨m, hm⟩ : ∃ m, m = min n 20 := ⟨_, rfl⟩
  have hmn : m ≤ n := by omega
  have hm30 : m ≤ 20 := by omega
  have HM := Lib.hid hm
  clear hwok hcell hn hm hk
  go_enter Tryd.func13, Tryd.ntmps13
  go_wp2_with fail
  generalize hW : World.alloc _ _ = w1
  have inv0 : Hid (∃ D l tv av, (Value.slice (some ⟨w.heap.size + 1 + 1, 0, none⟩) 1 1) = av ∧ TpIn w w1 0 D l tv av) := Lib.hid (by
    obtain ⟨g1, g2, g3, g4⟩ := alloc3T hW
    refine ⟨[], [Acr.zero], .slice none 0 0, _, rfl, g4, g1, g2, ⟨Own.nil _ _, ⟨newA1 _ _ _ g3, ?_⟩, ⟨[], Apr.zero, Tap.zero, rfl, by decide⟩, Nat.zero_le _, .inl rfl, .inl rfl, Nat.le_refl _⟩, fun k hk => by cases hk⟩
    intro x hx
    rw [List.mem_singleton] at hx
    subst hx
    exact ⟨by decide, votes_nil _, fun h => absurd rfl h⟩)
  clear hW
  go_loopw [6, 7, 8, 9, 10, 11, 12, 13, 14] (fun av i _ _ _ _ _ _ _ wr => ∃ q : Nat, q ≤ m ∧ i = .int .i64 q ∧ Hid (∃ D l tv, TpIn w wr q D l tv av)) (fun _ i _ _ _ _ _ _ _ _ => m - (intOf i).toNat)
  case atStart => exact ⟨0, by omega, rfl, Lib.hid (by obtain ⟨D, l, tv, av, rfl, h⟩ := inv0.out; exact ⟨D, l, tv, h⟩)⟩
  case round =>
    clear inv0
    obtain ⟨q, hqm, rfl, HI⟩ := hrel
    by_cases h1 : q < m
    · have hd1 : decide ((q : Int) < n) = true := by rw [decide_eq_true_eq]; omega
      have hd1n : decide (q < n) = true := by rw [decide_eq_true_eq]; omega
      have hd2 : decide ((q : Int) < 20) = true := by rw [decide_eq_true_eq]; omega
      have hd2n : decide (q < 20) = true := by rw [decide_eq_true_eq]; omega
      have hqn : q < n := by omega
      have hql : q < l.length := by rw [← HN.out]; omega
      obtain ⟨eb, eoff, rfl, hc⟩ := HCELL.out (by intro h; rw [h] at hql; cases hql)
      obtain ⟨y, hy⟩ : ∃ y, y = l.getD q Cmd.zero := ⟨_, rfl⟩
      have hebl : eb < w.heap.size := by
        have h2 := hc q (by omega) 0 (by decide)
        exact World.block_lt_of_cell? w _ h2
      have hyok : WishOk y := HWOK.out y (by rw [hy, List.getD_eq_getElem?_getD, List.getElem?_eq_getElem hql]; exact List.getElem_mem _)
      obtain ⟨D, al, tv, hinv⟩ := HI.out
      have INV := Lib.hid hinv
      have hcr : ∀ p, p < 5 → w.cell? ⟨eb, eoff + (5 * q + p), none⟩ = (wishCells y)[p]? := fun p hp => by
        have h2 := hc q (by omega) p hp
        rw [← hy] at h2
        exact h2
      obtain ⟨pk, pno, pp, ps, pv⟩ := y
      have X := Lib.hid (show ∀ W, Below w.heap.size w W → W.cell? ⟨eb, eoff + q * 5, none⟩ = some (.int .i64 pk) ∧ W.cell? ⟨eb, eoff + q * 5 + 1, none⟩ = some (.int .i64 pno) ∧ W.cell? ⟨eb, eoff + q * 5 + 2, none⟩ = some (.int .i64 pp) ∧ W.cell? ⟨eb, eoff + q * 5 + 3, none⟩ = some (.int .i64 ps) ∧ W.cell? ⟨eb, eoff + q * 5 + 4, none⟩ = some (.int .i64 pv) from fun W hW => by
        have e : ∀ o, W.cell? ⟨eb, o, none⟩ = w.cell? ⟨eb, o, none⟩ := fun o => World.cell?_of_block (w := w) (hW.block eb hebl)
        refine ⟨(e _).trans ?_, (e _).trans ?_, (e _).trans ?_, (e _).trans ?_, (e _).trans ?_⟩
        · rw [show eoff + q * 5 = eoff + (5 * q + 0) by omega]; exact hcr 0 (by decide)
        · rw [show eoff + q * 5 + 1 = eoff + (5 * q + 1) by omega]; exact hcr 1 (by decide)
        · rw [show eoff + q * 5 + 2 = eoff + (5 * q + 2) by omega]; exact hcr 2 (by decide)
        · rw [show eoff + q * 5 + 3 = eoff + (5 * q + 3) by omega]; exact hcr 3 (by decide)
        · rw [show eoff + q * 5 + 4 = eoff + (5 * q + 4) by omega]; exact hcr 4 (by decide))
      obtain ⟨⟨k1, k2⟩, ⟨n1, n2⟩, ⟨p1, p2⟩, ⟨s1, s2⟩, ⟨v1, v2⟩⟩ := hyok
      dsimp only at k1 k2 n1 n2 p1 p2 s1 s2 v1 v2
      obtain ⟨an, han⟩ : ∃ x, x = pick pno 5 := ⟨_, rfl⟩
      obtain ⟨asl, has⟩ : ∃ x, x = pick ps 5 := ⟨_, rfl⟩
      obtain ⟨sq, hav⟩ : ∃ x, x = pick pv 50 := ⟨_, rfl⟩
      obtain ⟨ap, hap⟩ : ∃ x, x = pick pp 9 := ⟨_, rfl⟩
      obtain ⟨ak, hak⟩ : ∃ x, x = pick pk 2 := ⟨_, rfl⟩
      have an0 : 0 ≤ an := by rw [han]; exact pick_nonneg pno 5 (by omega)
      have an5 : an < 5 := by rw [han]; exact pick_lt pno 5 (by omega)
      have as0 : 0 ≤ asl := by rw [has]; exact pick_nonneg ps 5 (by omega)
      have as5 : asl < 5 := by rw [has]; exact pick_lt ps 5 (by omega)
      have av0 : 0 ≤ sq := by rw [hav]; exact pick_nonneg pv 50 (by omega)
      have av5 : sq < 50 := by rw [hav]; exact pick_lt pv 50 (by omega)
      have ap0 : 0 ≤ ap := by rw [hap]; exact pick_nonneg pp 9 (by omega)
      have ap9 : ap < 9 := by rw [hap]; exact pick_lt pp 9 (by omega)
      have ak0 : 0 ≤ ak := by rw [hak]; exact pick_nonneg pk 2 (by omega)
      have ak2 : ak < 2 := by rw [hak]; exact pick_lt pk 2 (by omega)
      have PAN := Lib.hid han.symm
      have PAS := Lib.hid has.symm
      have PAV := Lib.hid hav.symm
      have PAP := Lib.hid hap.symm
      have PAK := Lib.hid hak.symm
      have hw1 : IntKind.i64.wrap (1 + ap) = 1 + ap := IntWalk.i64_in _ (by omega)
      -- the last acceptor
      obtain ⟨x, L, hxl, hal0, htap, hmapL, hp9, hxok, hvts⟩ := hinv.of.last
      have hne : al ≠ [] := fun h => by rw [h] at hal0; cases hal0
      obtain ⟨b0, off0, ac, hav', hac1, hac2, hbl, hcells⟩ := RdA_cells hinv.of.all.own.row hne
      subst hav'
      obtain ⟨na, hna⟩ : ∃ na, na = al.length := ⟨_, rfl⟩
      obtain ⟨z, hz⟩ : ∃ z, z = al.length - 1 := ⟨_, rfl⟩
      obtain ⟨hq0, hq1, hq2⟩ := hcells _ _ hxl
      rw [← hz] at hq0 hq1 hq2
      rw [← hna] at INV hac1 ⊢
      have hzi : (na : Int) - 1 = (z : Int) := by omega
      have hzn : z < na := by omega
      have HNA := Lib.hid hna
      have HNE := Lib.hid hne
      obtain ⟨⟨⟨pr, pn⟩, VL⟩, xa, xn, xc⟩ := x
      dsimp only at hq0 hq1 hq2 hxok hvts hp9
      have TAP := Lib.hid htap
      have MAPL := Lib.hid hmapL
      have XOK := Lib.hid (show okA (pr, pn) VL = true from hxok)
      have VTS := Lib.hid hvts
      have hac3 : ac ≤ 9223372036854775807 := hac2
      have HACZ : Hid (na < 1000000) := Lib.hid (by
        have h2 := hinv.of.few
        omega)
      clear hc hcr hy han has hav hap hak hql hinv hal0 htap hmapL hcells hne hxl hxok hvts hna hz hac2 HI
      go_upto_region 7 with fail
      generalize hW : World.alloc _ _ = wa
      have AA := Lib.hid (show wa.heap[wr.heap.size]? = some (.cells #[.int .i64 pr, .int .i64 pn, .slice xa xn xc] 45 (0, 0)) by rw [← hW]; exact heapNew _ _)
      have BA := Lib.hid (show Below wr.heap.size wr wa by rw [← hW]; exact bel_alloc (Below.refl _ _))
      have hsa : wr.heap.size < wa.heap.size := lt_of_heap AA.out
      obtain ⟨x0, x1, x2, x3, x4⟩ := X.out wa (bel_trans INV.out.below BA.out)
      clear hW hq0 hq1 hq2 x0 x3 x4
      refine' cutTo (fun key => _) _
      rotate_left 1
      · skip
        go_region_held3 (fun w' => w'.cell? ⟨eb, eoff + q * 5 + 1, none⟩ = some (.int .i64 pno) ∧ w'.cell? ⟨eb, eoff + q * 5 + 2, none⟩ = some (.int .i64 pp)) (go_keep) (first
          | (go_at_call 8; refine (picked_toP _ _ _ _ (by assumption) (by assumption) (by decide) (by assumption)).mono ?_; rintro e _ ⟨rfl, rfl⟩))
        all_goals exact key.out
      generalize hW : World.drew _ = w2
      have T9 := Lib.hid (show w2.heap[wa.heap.size]? = some (.cells #[.int .i64 (1 + ap), .int .i64 an] 24 (0, 0)) by rw [← hW]; exact heapNew wa _)
      have B2 := Lib.hid (show Below wr.heap.size wr w2 by rw [← hW]; exact bel_trans BA.out (bel_drew (bel_alloc (Below.refl _ _))))
      have A2 := Lib.hid (show w2.heap[wr.heap.size]? = some (.cells #[.int .i64 pr, .int .i64 pn, .slice xa xn xc] 45 (0, 0)) by rw [← hW]; exact (heapOld _ _ _ hsa).trans AA.out)
      clear hW x1 x2 BA
      obtain ⟨bb, hbb⟩ : ∃ b, b = wa.heap.size := ⟨_, rfl⟩
      rw [← hbb] at T9 hsa ⊢
      have hs2 : bb < w2.heap.size := lt_of_heap T9.out
      clear hbb AA
      obtain ⟨x0, x1, x2, x3, x4⟩ := X.out w2 (bel_trans INV.out.below B2.out)
      have t0 := cellAt T9.out 0 rfl
      have t1 := cellAt T9.out 1 rfl
      clear x0 x1 x2
      go_upto_region 8 with fail
      refine' cutTo (fun key => _) _
      rotate_left 1
      · skip
        go_region_held3 (fun w' => w'.cell? ⟨eb, eoff + q * 5 + 3, none⟩ = some (.int .i64 ps) ∧ w'.cell? ⟨eb, eoff + q * 5 + 4, none⟩ = some (.int .i64 pv) ∧ w'.cell? ⟨bb, 0, none⟩ = some (.int .i64 (1 + ap)) ∧ w'.cell? ⟨bb, 1, none⟩ = some (.int .i64 an)) (go_keep) (first
          | (go_at_call 8; refine (picked_toP _ _ _ _ (by assumption) (by assumption) (by decide) (by assumption)).mono ?_; rintro e _ ⟨rfl, rfl⟩))
        all_goals exact key.out
      generalize hW : World.drew _ = w3
      have T10 := Lib.hid (show w3.heap[w2.heap.size]? = some (.cells #[.int .i64 asl, .int .i64 (1 + ap), .int .i64 an, .int .i64 2, .int .i64 0, .int .i64 sq, .int .i64 0, .int .i64 0] 35 (0, 0)) by rw [← hW]; exact heapNew w2 _)
      have B3 := Lib.hid (show Below wr.heap.size wr w3 by rw [← hW]; exact bel_trans B2.out (bel_drew (bel_alloc (Below.refl _ _))))
      have A3 := Lib.hid (show w3.heap[wr.heap.size]? = some (.cells #[.int .i64 pr, .int .i64 pn, .slice xa xn xc] 45 (0, 0)) by rw [← hW]; exact (heapOld _ _ _ (by omega)).trans A2.out)
      have U9 := Lib.hid (show w3.heap[bb]? = some (.cells #[.int .i64 (1 + ap), .int .i64 an] 24 (0, 0)) by rw [← hW]; exact (heapOld _ _ _ hs2).trans T9.out)
      clear hW x3 x4 t0 t1 T9 A2
      obtain ⟨vb, hvb⟩ : ∃ b, b = w2.heap.size := ⟨_, rfl⟩
      rw [← hvb] at T10 hs2 ⊢
      have hs3 : vb < w3.heap.size := lt_of_heap T10.out
      clear hvb B2
      have OKB := Lib.hid (show okB (1 + ap, an) = true by unfold okB; simp; omega)
      obtain ⟨ta, tc, htv, _, _⟩ := INV.out.of.tv.rd.slice
      subst htv
      obtain ⟨nd, hnd⟩ : ∃ k, k = D.length := ⟨_, rfl⟩
      have HND := Lib.hid hnd
      rw [← hnd] at INV
      clear hnd
      have t0 := cellAt U9.out 0 rfl
      have t1 := cellAt U9.out 1 rfl
      have a0 := cellAt A3.out 0 rfl
      have a1 := cellAt A3.out 1 rfl
      have a2 := cellAt A3.out 2 rfl
      by_cases hlow : cmpB (1 + ap, an) (pr, pn) < 0
      · have LOWB := Lib.hid (show decide (cmpB (1 + ap, an) (pr, pn) < 0) = true by rw [decide_eq_true_eq]; exact hlow)
        have HDP := Lib.hid (show 0 < D.length by
          rcases Nat.eq_zero_or_pos D.length with h0 | h0
          · have h := TAP.out.nil h0
            have hp : (pr, pn) = ((0 : Int), (0 : Int)) := congrArg Apr.p h
            rw [hp] at hlow
            have := cmpB_zero OKB.out
            omega
          · exact h0)
        clear hlow
        go_wp2_with (go_at_call 25; refine (below_to _ _ _ _ _ _ LOWB).mono ?_; rintro e w4 ⟨rfl, hb4⟩; have B4 := Lib.hid hb4; clear hb4)
        have NEW := Lib.hid ((INV.out.stay (bel_trans B3.out B4.out)).skip HDP.out)
        go_roundw
        case rel => exact ⟨q + 1, by omega, by go_num, Lib.hid ⟨_, _, _, NEW.out⟩⟩
        case measure => simp [intOf]; omega
      · have LOW := Lib.hid (Int.not_lt.1 hlow)
        have LOWB := Lib.hid (show decide (cmpB (1 + ap, an) (pr, pn) < 0) = false by rw [decide_eq_false_iff_not]; exact hlow)
        clear hlow
        go_upto_region 10 with (go_at_call 25; refine (below_to _ _ _ _ _ _ LOWB).mono ?_; rintro e w4 ⟨rfl, hb4⟩; have B4 := Lib.hid hb4; clear hb4)
        clear t0 t1 a0 a1 a2
        have hs4 : w3.heap.size ≤ w4.heap.size := B4.out.size
        go_upto_region 14 with fail
        generalize hW : World.alloc _ _ = w5
        obtain ⟨X5, Y5, hb5, hz5⟩ := alloc2T hW
        have HX5 := Lib.hid X5
        have HY5 := Lib.hid Y5
        have B5 := Lib.hid (bel_trans B3.out (bel_trans B4.out hb5))
        have b35 := bel_trans B4.out hb5
        have A5 := Lib.hid ((b35.block _ (by omega)).trans A3.out)
        have U5 := Lib.hid ((b35.block _ (by omega)).trans U9.out)
        have T5 := Lib.hid ((b35.block _ (by omega)).trans T10.out)
        obtain ⟨xb, hxb⟩ : ∃ b, b = w4.heap.size := ⟨_, rfl⟩
        rw [← hxb] at HX5 HY5 hz5 hs4 ⊢
        have HZ5 := Lib.hid hz5
        have I5 := Lib.hid (INV.out.stay B5.out)
        clear hW X5 Y5 hb5 hz5 b35 A3 U9 T10 B3 B4 hxb
        obtain ⟨x0, x1, x2, x3, x4⟩ := X.out w5 I5.out.below
        clear x1 x2 x3 x4
        have hk2 : ak = 0 ∨ ak = 1 := by omega
        clear ak0 ak2
        rcases hk2 with rfl | rfl
        · go_upto_region 15 with (go_at_call 8; refine (picked_toP _ _ _ _ (by assumption) (by assumption) (by decide) (by assumption)).mono ?_; rintro e _ ⟨rfl, rfl⟩)
          have a0 := cellAt A5.out 0 rfl
          have a1 := cellAt A5.out 1 rfl
          have a2 := cellAt A5.out 2 rfl
          have t0 := cellAt U5.out 0 rfl
          have t1 := cellAt U5.out 1 rfl
          have v0 := cellAt HX5.out 0 rfl
          have v1 := cellAt HX5.out 1 rfl
          have v2 := cellAt HX5.out 2 rfl
          have vf := freeAt HX5.out
          have LEN := Lib.hid (okA_len XOK.out)
          have VT5 := Lib.hid (VTS.out.stay B5.out)
          have hs5 := lt_of_heap HY5.out
          go_upto_region 16 with (go_at_call 16; refine (Promise_high _ _ _ _ _ VL _ VT5.out XOK.out OKB.out LEN.out LOW).mono ?_; rintro e w6 ⟨sa, sc, sa2, sc2, rfl, ho6, -, hb6⟩; have y0 := (hb6.block xb (by omega)).trans HX5.out; have z0 := cellAt y0 0 rfl; have z1 := cellAt y0 1 rfl; have z2 := cellAt y0 2 rfl; have zf := freeAt y0; have Y0 := Lib.hid y0; have B6 := Lib.hid hb6; have O6 := Lib.hid ho6; clear hb6 ho6 y0)
          clear a0 a1 a2 t0 t1 v0 v1 v2 vf z0 z1 z2 zf x0
          generalize hW : World.setCell _ _ _ = w7
          have hx7 : w7.heap[xb]? = some (.cells #[.int .i64 (1 + ap), .int .i64 an, .slice sa VL.length sc] 45 (0, 0)) := by rw [← hW]; exact heapSet (o := 2) (heapSet (o := 1) (heapSet (o := 0) Y0.out _) _) _
          have e7 : ∀ k, k ≠ xb → w7.heap[k]? = w6.heap[k]? := fun k hne => by rw [← hW]; exact (heapSet_ne 2 _ hne).trans ((heapSet_ne 1 _ hne).trans (heapSet_ne 0 _ hne))
          have hs67 : w7.heap.size = w6.heap.size := by rw [← hW]; simp
          have hs56 := B6.out.size
          have b7 : Below wr.heap.size wr w7 := by rw [← hW]; exact (((bel_trans B5.out B6.out).setCell (by show wr.heap.size ≤ xb; omega) _).setCell (by show wr.heap.size ≤ xb; omega) _).setCell (by show wr.heap.size ≤ xb; omega) _
          have hy7 := (e7 (xb + 1) (by omega)).trans ((B6.out.block (xb + 1) (by omega)).trans HY5.out)
          have OV7 := Lib.hid (ownV_move O6.out (Nat.le_refl _) (fun k hk0 hk => e7 k (by omega)))
          have HX7 := Lib.hid hx7
          have HY7 := Lib.hid hy7
          have B7 := Lib.hid b7
          have t57 : ∀ k, k < w5.heap.size → k ≠ xb → w7.heap[k]? = w5.heap[k]? := fun k hk hne => (e7 k hne).trans (B6.out.block k hk)
          have U7 := Lib.hid ((t57 bb (by omega) (by omega)).trans U5.out)
          have t0 := cellAt U7.out 0 rfl
          have t1 := cellAt U7.out 1 rfl
          have I7 := Lib.hid (INV.out.stay B7.out)
          clear hW hx7 hy7 b7 e7 t57
          have c0 := cellAt I7.out.tb 0 rfl
          have c1 := cellAt I7.out.tb 1 rfl
          have v0 := cellAt HY7.out 0 rfl
          have v1 := cellAt HY7.out 1 rfl
          have vf := freeAt HY7.out
          have HK7 := Lib.hid (HK.out.stay I7.out.below)
          have HD := Lib.hid (show D.length ≤ 760 by have := INV.out.of.len; omega)
          obtain ⟨nd2, hnd2⟩ : ∃ k, k = nd + 14 := ⟨_, rfl⟩
          have HND2 := Lib.hid (show (D ++ Tp.frame (Tp.proB (1 + ap) an)).length = nd2 by rw [List.length_append, frame_len, proB_len, hnd2, HND.out])
          have hnd3 : nd < nd2 := by omega
          clear hnd2
          go_upto_region 19 with (go_at_call 9; refine (sPromise_ok _ D 0 _ _ _ (show Rd w7 (.slice ta nd tc) D from I7.out.of.tv.rd) (by decide) (Int.natCast_nonneg _) (by have := HD.out; omega) OKB.out HK7.out).mono ?_; rintro e w8 ⟨v8, rfl, ho8, hb8⟩; obtain ⟨ya, yc, rfl, _, _⟩ := ho8.rd.sliceN nd2 HND2.out; have y0 := (hb8.block (xb + 1) (by omega)).trans HY7.out; have z0 := cellAt y0 0 rfl; have z1 := cellAt y0 1 rfl; have zf := freeAt y0; have Y0b := Lib.hid y0; have B8 := Lib.hid hb8; have O8 := Lib.hid ho8; clear hb8 ho8 y0)
          clear t0 t1 c0 c1 v0 v1 vf z0 z1 zf
          generalize hW : World.setCell _ _ _ = wA
          have hyA : wA.heap[xb + 1]? = some (.cells #[.slice ya nd2 yc, .int .i64 0] 27 (0, 0)) := by rw [← hW]; exact heapSet (o := 1) (heapSet (o := 0) Y0b.out _) _
          have eA : ∀ k, k ≠ xb + 1 → wA.heap[k]? = w8.heap[k]? := fun k hne => by rw [← hW]; exact (heapSet_ne 1 _ hne).trans (heapSet_ne 0 _ hne)
          have hs8 : wA.heap.size = w8.heap.size := by rw [← hW]; simp
          have hs78 := B8.out.size
          have BA := Lib.hid (show Below wr.heap.size wr wA by rw [← hW]; exact ((bel_trans B7.out B8.out).setCell (by show wr.heap.size ≤ xb + 1; omega) _).setCell (by show wr.heap.size ≤ xb + 1; omega) _)
          have OA := Lib.hid ((O8.out.mono (base' := wr.heap.size) (by omega)).ofHeapK (w' := wA) (fun k hk => eA k (by have := (O8.out.lt k hk).1; omega)))
          have OVA := Lib.hid (ownV_move (w' := wA) (base' := wr.heap.size) OV7.out (by omega) (fun k hk0 hk => (eA k (by omega)).trans (B8.out.block k (by omega))))
          have HXA := Lib.hid ((eA xb (by omega)).trans ((B8.out.block xb (by omega)).trans HX7.out))
          have HYA := Lib.hid hyA
          clear hW hyA eA
          have IA := Lib.hid (INV.out.stay BA.out)
          have c0 := cellAt IA.out.tb 0 rfl
          have c1 := cellAt IA.out.tb 1 rfl
          have cf := freeAt IA.out.tb
          have v0 := cellAt HYA.out 0 rfl
          have v1 := cellAt HYA.out 1 rfl
          have hdl : decide ((nd2 : Int) ≤ (nd : Int)) = false := by rw [decide_eq_false_iff_not]; omega
          have hdln : decide (nd2 ≤ nd) = false := by rw [decide_eq_false_iff_not]; omega
          have hsw := lt_of_heap INV.out.tb
          have hnx : ¬ (xb + 1 = w.heap.size + 1) := by omega
          have hnx2 : ¬ (w.heap.size + 1 = xb + 1) := by omega
          have hnx3 : ¬ (xb = w.heap.size) := by omega
          go_upto_region 22 with fail
          have u0 : ((wA.setCell ⟨w.heap.size + 1, 0, none⟩ (.slice ya nd2 yc)).setCell ⟨w.heap.size + 1, 1, none⟩ (.int .i64 0)).heap[xb]? = wA.heap[xb]? := (heapSet_ne 1 _ (by omega)).trans (heapSet_ne 0 _ (by omega))
          have MIDO := Lib.hid (fun o => (INV.out.mid (v0 := .slice ya nd2 yc) BA.out o).own)
          obtain ⟨wB, hB⟩ : ∃ W, W = (wA.setCell ⟨w.heap.size + 1, 0, none⟩ (.slice ya nd2 yc)).setCell ⟨w.heap.size + 1, 1, none⟩ (.int .i64 0) := ⟨_, rfl⟩
          rw [← hB] at u0 MIDO ⊢
          have HB := Lib.hid hB
          have hsB : wB.heap.size = wA.heap.size := by rw [hB]; simp
          have hxB := u0.trans HXA.out
          have q0 := cellAt hxB 0 rfl
          have q1 := cellAt hxB 1 rfl
          have q2 := cellAt hxB 2 rfl
          clear hB u0 c0 c1 cf v0 v1
          go_upto_region 5 with (at_builtin; refine apA rfl (.tmp 116) (.tmp 118) rfl (w.heap.size + 2) _ al ⟨⟨(1 + ap, an), VL⟩, sa, VL.length, sc⟩ wB.heap.size rfl (MIDO.out _) (by simp [go_sem]) (heapNew _ _) (by have := HACZ.out; have := HNA.out; omega) (by have := BA.out.size; have := INV.out.below.size; simp; omega) ?_; intro v9 w9 ho9 hg9 hat9; have O9 := Lib.hid ho9; have G9 := Lib.hid hg9; have A9 := Lib.hid hat9; clear ho9 hg9 hat9)
          have NEW := Lib.hid (INV.out.next (x := ⟨⟨(pr, pn), VL⟩, xa, xn, xc⟩) (b := (Tp.proB (1 + ap) an)) (tv' := .slice ya nd2 yc) (av' := v9) (w' := w9) (L := L) (c := ⟨⟨(1 + ap, an), VL⟩, sa, VL.length, sc⟩) BA.out TAP.out MAPL.out (show applyB ⟨(pr, pn), VL⟩ (Tp.proB (1 + ap) an) = some ⟨(1 + ap, an), VL⟩ by rw [show Tp.proB (1 + ap) an = Tp.proB (1 + ap, an).1 (1 + ap, an).2 from rfl, applyB_pro _ OKB.out, proA, if_pos ⟨OKB.out, Int.not_lt.2 LOW.out⟩]) (by rw [proB_len]; omega) (okA_higher XOK.out OKB.out (Int.not_lt.2 LOW.out)) (by show 1 + ap ≤ 9; omega) OA.out OVA.out O9.out (by rw [← HB.out]; exact G9.out) (by rw [← HB.out]; exact A9.out))
          clear q0 q1 q2
          go_wp2_with fail
          go_roundw
          case rel => exact ⟨q + 1, by omega, by go_num, Lib.hid ⟨_, _, _, NEW.out⟩⟩
          case measure => simp [intOf]; omega
        · have OKY := Lib.hid (show okV ⟨asl, (1 + ap, an), ⟨2, 0, sq, 0, 0⟩⟩ = true from okV_get as0 (by omega) OKB.out av0 (by omega))
          go_upto_region 17 with (go_at_call 8; refine (picked_toP _ _ _ _ (by assumption) (by assumption) (by decide) (by assumption)).mono ?_; rintro e _ ⟨rfl, rfl⟩)
          have a0 := cellAt A5.out 0 rfl
          have a1 := cellAt A5.out 1 rfl
          have a2 := cellAt A5.out 2 rfl
          have t0 := cellAt T5.out 0 rfl
          have t1 := cellAt T5.out 1 rfl
          have t2 := cellAt T5.out 2 rfl
          have t3 := cellAt T5.out 3 rfl
          have t4 := cellAt T5.out 4 rfl
          have t5 := cellAt T5.out 5 rfl
          have t6 := cellAt T5.out 6 rfl
          have t7 := cellAt T5.out 7 rfl
          have v0 := cellAt HX5.out 0 rfl
          have v1 := cellAt HX5.out 1 rfl
          have v2 := cellAt HX5.out 2 rfl
          have vf := freeAt HX5.out
          have LEN := Lib.hid (okA_len XOK.out)
          have VT5 := Lib.hid (VTS.out.stay B5.out)
          have hs5 := lt_of_heap HY5.out
          go_upto_region 18 with (go_at_call 23; refine (Accept_high _ _ _ _ _ _ _ _ _ _ _ VL _ VT5.out XOK.out OKY.out LEN.out LOW).mono ?_; rintro e w6 ⟨sa, sc, sn, hsn, rfl, ho6, hb6⟩; have HSN := Lib.hid hsn; clear hsn; have y0 := (hb6.block xb (by omega)).trans HX5.out; have z0 := cellAt y0 0 rfl; have z1 := cellAt y0 1 rfl; have z2 := cellAt y0 2 rfl; have zf := freeAt y0; have Y0 := Lib.hid y0; have B6 := Lib.hid hb6; have O6 := Lib.hid ho6; clear hb6 ho6 y0)
          clear a0 a1 a2 t0 t1 t2 t3 t4 t5 t6 t7 v0 v1 v2 vf z0 z1 z2 zf x0
          generalize hW : World.setCell _ _ _ = w7
          have hx7 : w7.heap[xb]? = some (.cells #[.int .i64 (1 + ap), .int .i64 an, .slice sa sn sc] 45 (0, 0)) := by rw [← hW]; exact heapSet (o := 2) (heapSet (o := 1) (heapSet (o := 0) Y0.out _) _) _
          have e7 : ∀ k, k ≠ xb → w7.heap[k]? = w6.heap[k]? := fun k hne => by rw [← hW]; exact (heapSet_ne 2 _ hne).trans ((heapSet_ne 1 _ hne).trans (heapSet_ne 0 _ hne))
          have hs67 : w7.heap.size = w6.heap.size := by rw [← hW]; simp
          have hs56 := B6.out.size
          have b7 : Below wr.heap.size wr w7 := by rw [← hW]; exact (((bel_trans B5.out B6.out).setCell (by show wr.heap.size ≤ xb; omega) _).setCell (by show wr.heap.size ≤ xb; omega) _).setCell (by show wr.heap.size ≤ xb; omega) _
          have hy7 := (e7 (xb + 1) (by omega)).trans ((B6.out.block (xb + 1) (by omega)).trans HY5.out)
          have OV7 := Lib.hid (ownV_move O6.out (Nat.le_refl _) (fun k hk0 hk => e7 k (by omega)))
          have HX7 := Lib.hid hx7
          have HY7 := Lib.hid hy7
          have B7 := Lib.hid b7
          have t57 : ∀ k, k < w5.heap.size → k ≠ xb → w7.heap[k]? = w5.heap[k]? := fun k hk hne => (e7 k hne).trans (B6.out.block k hk)
          have U7 := Lib.hid ((t57 vb (by omega) (by omega)).trans T5.out)
          have t0 := cellAt U7.out 0 rfl
          have t1 := cellAt U7.out 1 rfl
          have t2 := cellAt U7.out 2 rfl
          have t3 := cellAt U7.out 3 rfl
          have t4 := cellAt U7.out 4 rfl
          have t5 := cellAt U7.out 5 rfl
          have t6 := cellAt U7.out 6 rfl
          have t7 := cellAt U7.out 7 rfl
          have I7 := Lib.hid (INV.out.stay B7.out)
          clear hW hx7 hy7 b7 e7 t57
          have c0 := cellAt I7.out.tb 0 rfl
          have c1 := cellAt I7.out.tb 1 rfl
          have v0 := cellAt HY7.out 0 rfl
          have v1 := cellAt HY7.out 1 rfl
          have vf := freeAt HY7.out
          have HK7 := Lib.hid (HK.out.stay I7.out.below)
          have HD := Lib.hid (show D.length ≤ 760 by have := INV.out.of.len; omega)
          obtain ⟨nd2, hnd2⟩ : ∃ k, k = nd + 38 := ⟨_, rfl⟩
          have HND2 := Lib.hid (show (D ++ Tp.frame (Tp.voB asl (1 + ap) an 2 0 sq 0 0)).length = nd2 by rw [List.length_append, frame_len, voB_len, hnd2, HND.out])
          have hnd3 : nd < nd2 := by omega
          clear hnd2
          go_upto_region 19 with (go_at_call 10; refine (sVote_ok _ D 0 _ _ _ _ _ _ _ _ _ (show Rd w7 (.slice ta nd tc) D from I7.out.of.tv.rd) (by decide) (Int.natCast_nonneg _) (by have := HD.out; omega) OKY.out HK7.out).mono ?_; rintro e w8 ⟨v8, rfl, ho8, hb8⟩; obtain ⟨ya, yc, rfl, _, _⟩ := ho8.rd.sliceN nd2 HND2.out; have y0 := (hb8.block (xb + 1) (by omega)).trans HY7.out; have z0 := cellAt y0 0 rfl; have z1 := cellAt y0 1 rfl; have zf := freeAt y0; have Y0b := Lib.hid y0; have B8 := Lib.hid hb8; have O8 := Lib.hid ho8; clear hb8 ho8 y0)
          clear t0 t1 t2 t3 t4 t5 t6 t7 c0 c1 v0 v1 vf z0 z1 zf
          generalize hW : World.setCell _ _ _ = wA
          have hyA : wA.heap[xb + 1]? = some (.cells #[.slice ya nd2 yc, .int .i64 0] 27 (0, 0)) := by rw [← hW]; exact heapSet (o := 1) (heapSet (o := 0) Y0b.out _) _
          have eA : ∀ k, k ≠ xb + 1 → wA.heap[k]? = w8.heap[k]? := fun k hne => by rw [← hW]; exact (heapSet_ne 1 _ hne).trans (heapSet_ne 0 _ hne)
          have hs8 : wA.heap.size = w8.heap.size := by rw [← hW]; simp
          have hs78 := B8.out.size
          have BA := Lib.hid (show Below wr.heap.size wr wA by rw [← hW]; exact ((bel_trans B7.out B8.out).setCell (by show wr.heap.size ≤ xb + 1; omega) _).setCell (by show wr.heap.size ≤ xb + 1; omega) _)
          have OA := Lib.hid ((O8.out.mono (base' := wr.heap.size) (by omega)).ofHeapK (w' := wA) (fun k hk => eA k (by have := (O8.out.lt k hk).1; omega)))
          have OVA := Lib.hid (ownV_move (w' := wA) (base' := wr.heap.size) OV7.out (by omega) (fun k hk0 hk => (eA k (by omega)).trans (B8.out.block k (by omega))))
          have HXA := Lib.hid ((eA xb (by omega)).trans ((B8.out.block xb (by omega)).trans HX7.out))
          have HYA := Lib.hid hyA
          clear hW hyA eA
          have IA := Lib.hid (INV.out.stay BA.out)
          have c0 := cellAt IA.out.tb 0 rfl
          have c1 := cellAt IA.out.tb 1 rfl
          have cf := freeAt IA.out.tb
          have v0 := cellAt HYA.out 0 rfl
          have v1 := cellAt HYA.out 1 rfl
          have hdl : decide ((nd2 : Int) ≤ (nd : Int)) = false := by rw [decide_eq_false_iff_not]; omega
          have hdln : decide (nd2 ≤ nd) = false := by rw [decide_eq_false_iff_not]; omega
          have hsw := lt_of_heap INV.out.tb
          have hnx : ¬ (xb + 1 = w.heap.size + 1) := by omega
          have hnx2 : ¬ (w.heap.size + 1 = xb + 1) := by omega
          have hnx3 : ¬ (xb = w.heap.size) := by omega
          go_upto_region 22 with fail
          have u0 : ((wA.setCell ⟨w.heap.size + 1, 0, none⟩ (.slice ya nd2 yc)).setCell ⟨w.heap.size + 1, 1, none⟩ (.int .i64 0)).heap[xb]? = wA.heap[xb]? := (heapSet_ne 1 _ (by omega)).trans (heapSet_ne 0 _ (by omega))
          have MIDO := Lib.hid (fun o => (INV.out.mid (v0 := .slice ya nd2 yc) BA.out o).own)
          obtain ⟨wB, hB⟩ : ∃ W, W = (wA.setCell ⟨w.heap.size + 1, 0, none⟩ (.slice ya nd2 yc)).setCell ⟨w.heap.size + 1, 1, none⟩ (.int .i64 0) := ⟨_, rfl⟩
          rw [← hB] at u0 MIDO ⊢
          have HB := Lib.hid hB
          have hsB : wB.heap.size = wA.heap.size := by rw [hB]; simp
          have hxB := u0.trans HXA.out
          have q0 := cellAt hxB 0 rfl
          have q1 := cellAt hxB 1 rfl
          have q2 := cellAt hxB 2 rfl
          clear hB u0 c0 c1 cf v0 v1
          go_upto_region 5 with (at_builtin; refine apA rfl (.tmp 116) (.tmp 118) rfl (w.heap.size + 2) _ al ⟨⟨(1 + ap, an), (putV ⟨asl, (1 + ap, an), ⟨2, 0, sq, 0, 0⟩⟩ VL)⟩, sa, sn, sc⟩ wB.heap.size rfl (MIDO.out _) (by simp [go_sem]) (heapNew _ _) (by have := HACZ.out; have := HNA.out; omega) (by have := BA.out.size; have := INV.out.below.size; simp; omega) ?_; intro v9 w9 ho9 hg9 hat9; have O9 := Lib.hid ho9; have G9 := Lib.hid hg9; have A9 := Lib.hid hat9; clear ho9 hg9 hat9)
          have NEW := Lib.hid (INV.out.next (x := ⟨⟨(pr, pn), VL⟩, xa, xn, xc⟩) (b := (Tp.voB asl (1 + ap) an 2 0 sq 0 0)) (tv' := .slice ya nd2 yc) (av' := v9) (w' := w9) (L := L) (c := ⟨⟨(1 + ap, an), (putV ⟨asl, (1 + ap, an), ⟨2, 0, sq, 0, 0⟩⟩ VL)⟩, sa, sn, sc⟩) BA.out TAP.out MAPL.out (show applyB ⟨(pr, pn), VL⟩ (Tp.voB asl (1 + ap) an 2 0 sq 0 0) = some ⟨(1 + ap, an), putV ⟨asl, (1 + ap, an), ⟨2, 0, sq, 0, 0⟩⟩ VL⟩ from (applyB_vot ⟨(pr, pn), VL⟩ (y := ⟨asl, (1 + ap, an), ⟨2, 0, sq, 0, 0⟩⟩) OKY.out).trans (by rw [votA, if_pos ⟨OKY.out, Int.not_lt.2 LOW.out⟩])) (by rw [voB_len]; omega) (okA_put XOK.out OKY.out (Int.not_lt.2 LOW.out)) (by show 1 + ap ≤ 9; omega) OA.out OVA.out O9.out (by rw [← HB.out]; exact G9.out) (by rw [← HB.out]; exact A9.out))
          clear q0 q1 q2
          go_wp2_with fail
          go_roundw
          case rel => exact ⟨q + 1, by omega, by go_num, Lib.hid ⟨_, _, _, NEW.out⟩⟩
          case measure => simp [intOf]; omega
    · have hex : (decide (q < n) = false ∧ decide ((q : Int) < n) = false) ∨ (decide (q < n) = true ∧ decide ((q : Int) < n) = true ∧ decide (q < 20) = false ∧ decide ((q : Int) < 20) = false) := by
        have := HM.out
        simp only [decide_eq_true_eq, decide_eq_false_iff_not]
        omega
      obtain rfl : q = m := by omega
      obtain ⟨D, al, tv, hinv⟩ := HI.out
      have INV := Lib.hid hinv
      obtain ⟨ta, tc, htv, _, _⟩ := hinv.of.tv.rd.slice
      subst htv
      obtain ⟨nd, hnd⟩ : ∃ k, k = D.length := ⟨_, rfl⟩
      have HND := Lib.hid hnd
      rw [← hnd] at INV
      have c0 := cellAt INV.out.tb 0 rfl
      have c1 := cellAt INV.out.tb 1 rfl
      have r0 := cellAt INV.out.rb 0 rfl
      have r1 := cellAt INV.out.rb 1 rfl
      have rf := freeAt INV.out.rb
      clear hnd hinv HI
      rcases hex with ⟨he1, he2⟩ | ⟨he1, he2, he3, he4⟩
      all_goals
        go_wp2_with fail
        have z5 := heapSet (o := 1) (heapSet (o := 0) INV.out.rb (.slice ta nd tc)) (.int .i64 0)
        have b5 : Below w.heap.size w ((wr.setCell ⟨w.heap.size, 0, none⟩ (.slice ta nd tc)).setCell ⟨w.heap.size, 1, none⟩ (.int .i64 0)) := (INV.out.below.setCell (Nat.le_refl _) _).setCell (Nat.le_refl _) _
        have e5 : ∀ k, k ≠ w.heap.size → ((wr.setCell ⟨w.heap.size, 0, none⟩ (.slice ta nd tc)).setCell ⟨w.heap.size, 1, none⟩ (.int .i64 0)).heap[k]? = wr.heap[k]? := fun k hne => (heapSet_ne 1 _ hne).trans (heapSet_ne 0 _ hne)
        generalize hW : World.setCell _ _ _ = w5 at z5 b5 e5 ⊢
        have o5 : TapOf w5 w.heap.size (min n 20) D al (.slice ta nd tc) _ := ⟨(INV.out.of.tv.mono (by omega)).ofHeapK (fun k hk => e5 k (by have := (INV.out.of.tv.lt k hk).1; omega)), (INV.out.of.all.heap (fun k hk1 hk2 => e5 k (by omega))).mono (by omega), INV.out.of.tap, by rw [← HM.out]; exact INV.out.of.len, by rw [← HM.out]; exact INV.out.of.pos0, INV.out.of.one, by rw [← HM.out]; exact INV.out.of.few⟩
        have hl := run_loadVar_mid (P := Tryd.prog) w5 w.heap.size 0 27 [.slice ta nd tc, .int .i64 0] _ (range_of z5) Tryd.underlying27 rfl tapeSz
        refine bodyPost_ret (v := .tuple #[.agg #[.slice ta nd tc, .int .i64 0], _, .bool true]) (results_ctt Tryd.results13 rfl hl) rfl ⟨D, al, _, _, rfl, o5, b5⟩
end Go.Proofs.YtdkbajdnckmckaaDoor

set_option linter.unusedVariables false
set_option linter.unusedSimpArgs false
namespace Go.Proofs.YtdkbajdnckmckaaDoor
open Go.RowKit Go.Con
theorem wpQuiet_neq {P : Program} {ops : Array Oper} {C : World → Prop} {Q : Act → Prop} {rest : List Oper} {o : Oper} {a : Act} (hw : Region.wanted o (yielded ops a.tmps) = true) (t t2 : TypeId) (x y : Operand) (ho : o.op = .binOp .neq t x y t2)
    (X Y : Array Value) (hx : a.eval x = .agg X) (hy : a.eval y = .agg Y) (b : Bool) (hg : P.eqGuardType P.depth t = false) (he : ∀ w, (Op.equalIn 10000 t (.agg X) (.agg Y)).run P w = .ok b w)
    (h : wpQuiet P ops C Q rest (a.put o.dst (.bool !b))) : wpQuiet P ops C Q (o :: rest) a := by
  unfold wpQuiet
  rw [if_pos hw]
  refine ⟨_, fun w hcw => ?_, h⟩
  unfold Oper.quietAt
  generalize a.eval = ev at hx hy
  unfold execOp
  simp [ho, hx, hy, go_sem, eqGuard, hg, he, Oper.quietUpon]
set_option maxRecDepth 100000 in
set_option maxHeartbeats 4000000 in
theorem sameAcc_any (r1 m1 r2 m2 : Int) (a1 a2 : Option Addr) (n1 n2 c1 c2 : Nat) (l1 l2 : List Vot) (w : World) (h1 : RdV w (.slice a1 n1 c1) l1) (h2 : RdV w (.slice a2 n2 c2) l2) :
    Calls Tryd.prog 15 #[.agg #[.int .i64 r1, .int .i64 m1, .slice a1 n1 c1], .agg #[.int .i64 r2, .int .i64 m2, .slice a2 n2 c2]] w fun e w' => e = .returned (.bool (decide (r1 = r2 ∧ m1 = m2 ∧ l1 = l2))) ∧ Below w.heap.size w w' := by
  have H1 := Lib.hid h1
  have H2 := Lib.hid h2
  have hn1 := h1.cells.1
  have hn2 := h2.cells.1
  have HN1 := Lib.hid hn1
  have HN2 := Lib.hid hn2
  have hc1 : c1 ≤ 9223372036854775807 := by obtain ⟨a, c, e, -, h, -⟩ := h1; injection e with e1 e2 e3; rw [e3]; exact h
  have hc2 : c2 ≤ 9223372036854775807 := by obtain ⟨a, c, e, -, h, -⟩ := h2; injection e with e1 e2 e3; rw [e3]; exact h
  have hnc1 := h1.cells.2.1
  have hnc2 := h2.cells.2.1
  obtain ⟨R, hR⟩ : ∃ R, R = decide (r1 = r2 ∧ m1 = m2 ∧ l1 = l2) := ⟨_, rfl⟩
  rw [← hR]
  have HR := Lib.hid hR
  clear h1 h2 hn1 hn2 hR
  go_enter Tryd.func15, Tryd.ntmps15
  go_upto_region 1 with fail
  generalize hW : World.alloc _ _ = w1
  have G := alloc2T hW
  have z1 := Lib.hid G.1
  have z2 := Lib.hid G.2.1
  have B1 := Lib.hid G.2.2.1
  clear hW G
  have x0 := cellAt z1.out 0 rfl
  have x1 := cellAt z1.out 1 rfl
  have x2 := cellAt z1.out 2 rfl
  have y0 := cellAt z2.out 0 rfl
  have y1 := cellAt z2.out 1 rfl
  have y2 := cellAt z2.out 2 rfl
  by_cases hp : r1 = r2 ∧ m1 = m2
  · obtain ⟨rfl, rfl⟩ := hp
    by_cases hn : n1 = n2
    · subst hn
      clear hnc2
      go_wp2_with fail
      go_loopw [5] (fun i wr => ∃ q : Nat, q ≤ n1 ∧ i = .int .i64 q ∧ Hid (∃ k, wr = w1.drewN k ∧ l1.take q = l2.take q)) (fun i _ => n1 - (intOf i).toNat)
      case atStart => exact ⟨0, by omega, rfl, Lib.hid ⟨0, rfl, rfl⟩⟩
      case round =>
        obtain ⟨q, hqn, rfl, HK⟩ := hrel
        obtain ⟨k, hk, htk⟩ := HK.out
        have HT := Lib.hid htk
        clear HK htk
        subst hk
        by_cases hq : q < n1
        · have hd1 : decide ((q : Int) < n1) = true := by rw [decide_eq_true_eq]; omega
          have hd1n : decide (q < n1) = true := by rw [decide_eq_true_eq]; omega
          obtain ⟨eb, eoff, rfl, hel, hec⟩ := H1.out.cells.2.2 q hq
          obtain ⟨fb, foff, rfl, hfl, hfc⟩ := H2.out.cells.2.2 q hq
          obtain ⟨v, hv⟩ : ∃ v, v = l1.getD q Vot.zero := ⟨_, rfl⟩
          obtain ⟨u, hu⟩ : ∃ u, u = l2.getD q Vot.zero := ⟨_, rfl⟩
          have hq1 : q < l1.length := by rw [← HN1.out]; exact hq
          have hq2 : q < l2.length := by rw [← HN2.out]; exact hq
          have g1 : l1[q]? = some v := by rw [hv, List.getD_eq_getElem?_getD, List.getElem?_eq_getElem hq1]; rfl
          have g2 : l2[q]? = some u := by rw [hu, List.getD_eq_getElem?_getD, List.getElem?_eq_getElem hq2]; rfl
          have HG1 := Lib.hid g1
          have HG2 := Lib.hid g2
          rw [← hv] at hec
          rw [← hu] at hfc
          have hecr : ∀ p, p < 8 → w1.cell? ⟨eb, eoff + (8 * q + p), none⟩ = (votCells v)[p]? := fun p hp => by rw [← hec p hp]; exact World.cell?_of_block (w := w) (B1.out.block eb hel)
          have hfcr : ∀ p, p < 8 → w1.cell? ⟨fb, foff + (8 * q + p), none⟩ = (votCells u)[p]? := fun p hp => by rw [← hfc p hp]; exact World.cell?_of_block (w := w) (B1.out.block fb hfl)
          clear hec hfc hel hfl g1 g2 hv hu hq1 hq2
          by_cases hvu : v = u
          · subst hvu
            have HT2 := Lib.hid (show l1.take (q + 1) = l2.take (q + 1) by rw [List.take_add_one, List.take_add_one, HT.out, HG1.out, HG2.out])
            obtain ⟨sl, ⟨br, bn⟩, ⟨ck, cl, sq, nm, vl⟩⟩ := v
            obtain ⟨e0, e1, e2, e3, e4, e5, e6, e7⟩ := cellsV hecr
            obtain ⟨f0, f1, f2, f3, f4, f5, f6, f7⟩ := cellsV hfcr
            dsimp only at e0 e1 e2 e3 e4 e5 e6 e7 f0 f1 f2 f3 f4 f5 f6 f7
            clear hecr hfcr
            go_wp2_with fail
            refine wp_region_quiet_lit (by kernel_rfl) (by kernel_rfl) ?_
            repeat (go_big_quiet_step (fail))
            refine wpQuiet_nil ?_
            intro w9 hw9
            obtain ⟨nq, rfl⟩ := hw9
            go_wp2_with fail
            go_roundw
            case rel => exact ⟨q + 1, by omega, by go_num, Lib.hid ⟨_, rfl, HT2.out⟩⟩
            case measure => simp [intOf]; omega
          · have HF := Lib.hid (show R = false by
              rw [HR.out, decide_eq_false_iff_not]
              rintro ⟨-, -, e⟩
              have h2 := HG2.out
              rw [← e, HG1.out] at h2
              injection h2 with h2
              exact hvu h2)
            obtain ⟨sl, ⟨br, bn⟩, ⟨ck, cl, sq, nm, vl⟩⟩ := v
            obtain ⟨tl, ⟨cr, cn⟩, ⟨dk, dl, tq, om, wl⟩⟩ := u
            obtain ⟨e0, e1, e2, e3, e4, e5, e6, e7⟩ := cellsV hecr
            obtain ⟨f0, f1, f2, f3, f4, f5, f6, f7⟩ := cellsV hfcr
            dsimp only at e0 e1 e2 e3 e4 e5 e6 e7 f0 f1 f2 f3 f4 f5 f6 f7
            clear hecr hfcr
            have eqV : ∀ W, (Op.equalIn 10000 35 (.agg #[.int .i64 sl, .int .i64 br, .int .i64 bn, .int .i64 ck, .int .i64 cl, .int .i64 sq, .int .i64 nm, .int .i64 vl]) (.agg #[.int .i64 tl, .int .i64 cr, .int .i64 cn, .int .i64 dk, .int .i64 dl, .int .i64 tq, .int .i64 om, .int .i64 wl])).run Tryd.prog W = .ok false W := fun W => by
              simp only [Vot.mk.injEq, Prod.mk.injEq, Cmd.mk.injEq] at hvu
              simp [go_sem]
              repeat' split
              all_goals first | rfl | omega
            have EQV := Lib.hid eqV
            clear hvu eqV
            go_wp2_with fail
            refine wp_region_quiet_lit (by kernel_rfl) (by kernel_rfl) ?_
            iterate 10 (go_big_quiet_step (fail))
            refine wpQuiet_neq (by kernel_rfl) 35 35 (.tmp 31) (.tmp 36) rfl _ _ rfl rfl false (by kernel_rfl) EQV.out ?_
            refine wpQuiet_nil ?_
            intro w9 hw9
            obtain ⟨nq, rfl⟩ := hw9
            go_wp2_with fail
            go_ret
            exact ⟨by rw [HF.out]; rfl, below_drewN B1.out _⟩
        · have hd1 : decide ((q : Int) < n1) = false := by rw [decide_eq_false_iff_not]; omega
          have hd1n : decide (q < n1) = false := by rw [decide_eq_false_iff_not]; omega
          obtain rfl : q = n1 := by omega
          have HF := Lib.hid (show R = true by
            rw [HR.out, decide_eq_true_eq]
            simp only [true_and]
            have h := HT.out
            rw [List.take_of_length_le (by have := HN1.out; omega), List.take_of_length_le (by have := HN2.out; omega)] at h
            exact h)
          go_wp2_with fail
          go_ret
          exact ⟨by rw [HF.out]; rfl, below_drewN B1.out k⟩
    · have hnb : ((n1 : Int) != n2) = true := by simp; omega
      have HF := Lib.hid (show R = false by
        rw [HR.out, decide_eq_false_iff_not]
        rintro ⟨-, -, e⟩
        apply hn
        rw [HN1.out, HN2.out, e])
      go_wp2_with fail
      go_ret
      exact ⟨by rw [HF.out]; rfl, B1.out⟩
  · have hpb : ((r1 == r2) && (m1 == m2)) = false := by
      cases h : ((r1 == r2) && (m1 == m2)) with
      | false => rfl
      | true => simp at h; exact absurd h hp
    have HF := Lib.hid (show R = false by
      rw [HR.out, decide_eq_false_iff_not]
      rintro ⟨e1, e2, -⟩
      exact hp ⟨e1, e2⟩)
    go_wp2_with fail
    all_goals
      go_ret
      exact ⟨by rw [HF.out]; rfl, B1.out⟩
end Go.Proofs.YtdkbajdnckmckaaDoor
