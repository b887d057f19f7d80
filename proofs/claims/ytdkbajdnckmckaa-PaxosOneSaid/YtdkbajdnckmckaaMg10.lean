/-
  Texts put together: Apa, MpV, Cnt, Cho, Pik.
-/
import Derived.Test.YtdkbajdnckmckaaMg9
import Derived.Test.YtdkbajdnckmckaaMg6
import Derived.Maps.RangeWalk
import Derived.Maps.OwnOps
import Derived.Maps.Views
import Derived.WideKeyEntry
import Derived.DeepKeys4
set_option linter.unusedVariables false
set_option linter.unusedSimpArgs false
namespace Go.Con
open Go
/-- an acceptor, and the slice of its votes -/
structure Acr where
  a : Apr
  ad : Option Addr
  n : Nat
  c : Nat
def Acr.zero : Acr := ⟨Apr.zero, none, 0, 0⟩
def accCells (x : Acr) : List Value := [.int .i64 x.a.p.1, .int .i64 x.a.p.2, .slice x.ad x.n x.c]
end Go.Con
namespace Go.Proofs.Ytdkbajdnckmckaa
open Go.RowKit Go.Con
abbrev RdA := RdRow 3 accCells Acr.zero
/-- a row of acceptors of the call's own -/
def OwnA (w : World) (base : Nat) (v : Value) (l : List Acr) : Prop := w.ownsRow base 39 3 v l.length (l.flatMap accCells)
theorem OwnA.row {w : World} {base : Nat} {v : Value} {l : List Acr} (h : OwnA w base v l) : RdA w v l := RdRow.ofOwn (fun _ => rfl) h
theorem infoAcr : (Try.prog.info? 39).map (fun i => (i.zero, i.size, i.bytes)) = some (some (.agg #[.int .i64 0, .int .i64 0, .slice none 0 0]), 3, 40) := by kernel_rfl
theorem accCells_one (l : List Acr) : ∀ u ∈ l.flatMap accCells, u.oneCell' = true := by
  intro u hu
  obtain ⟨e, he, hu⟩ := List.mem_flatMap.1 hu
  simp [accCells] at hu
  rcases hu with rfl | rfl | rfl <;> rfl
section
variable {ops : Array Oper} {rest : List Oper} {o : Oper} {a : Act} {Q : Exit → Act → World → Prop} {w : World}
/-- append(own acceptors, one more) -/
theorem apA (hgd : o.guard = none) (s x : Operand) (ho : o.op = .call { callee := .builtin .append, args := #[s, x], argTypes := #[50, 50] })
    (base : Nat) (v : Value) (l : List Acr) (c : Acr) (g : Nat) (hs : a.eval s = v) (hown : OwnA w base v l) (hx : a.eval x = .slice (some ⟨g, 0, none⟩) 1 1) (hsrc : w.heap[g]? = some (.cells (accCells c).toArray 39 (0, 0))) (hlen : l.length ≤ 1000000) (hbase : base ≤ w.heap.size)
    (h : ∀ v' w', OwnA w' base v' (l ++ [c]) → w.grownBy w' v.ownBlock → (v'.ownBlock = v.ownBlock ∨ v'.ownBlock = some w.heap.size) → wpList Try.prog ops Q rest (a.put o.dst v') w') : wpList Try.prog ops Q (o :: rest) a w := by
  obtain ⟨i, hi, hz, hsz, hb⟩ := info_part infoAcr
  refine wpList_append_own_at w hgd s x 50 ho base 39 i _ 3 40 Try.underlying50 hi hz hsz hb rfl (by decide) v l.length (l.flatMap accCells) hs hown ⟨g, 0, none⟩ 1 1 (accCells c) hx rfl (fun j u hu => by
    have hj := cellAt hsrc j (by simpa using hu)
    rw [Addr.add_mid, Nat.zero_add]; exact hj) (fun u hu => by
    simp [accCells] at hu
    rcases hu with rfl | rfl | rfl <;> rfl) (by unfold maxLen; omega) (by omega) hbase ?_
  intro v' w' h1 h2 _ h4
  refine h v' w' ?_ h2 h4
  unfold OwnA
  rw [List.length_append, List.flatMap_append]
  simpa using h1
end
/-- votes can still be read -/
theorem votesHeap {w w' : World} {v : Value} {l : List Vot} (h : Votes w v l) (hh : l ≠ [] → ∀ k, v.ownBlock = some k → k < w.heap.size → w'.heap[k]? = w.heap[k]?) : Votes w' v l := by
  obtain ⟨⟨a, c, rfl, h1, h2, h3⟩, h4⟩ := h
  refine ⟨⟨a, c, rfl, h1, h2, fun hl => ?_⟩, h4⟩
  obtain ⟨b, off, rfl, hb, hc⟩ := h3 hl
  have e := hh hl b rfl hb
  have hb' : b < w'.heap.size := by
    have h5 : w.heap[b]? = some w.heap[b] := Array.getElem?_eq_getElem hb
    exact lt_of_heap (e.trans h5)
  exact ⟨b, off, rfl, hb', fun i hi j hj => (World.cell?_of_block (w := w) e).trans (hc i hi j hj)⟩
theorem votesLt {w : World} {v : Value} {l : List Vot} (h : Votes w v l) (hl : l ≠ []) : ∀ k, v.ownBlock = some k → k < w.heap.size := by
  obtain ⟨⟨a, c, rfl, h1, h2, h3⟩, h4⟩ := h
  obtain ⟨b, off, rfl, hb, hc⟩ := h3 hl
  intro k hk
  injection hk with hk
  subst hk
  exact hb
/-- an acceptor in a row -/
structure AccAt (w : World) (lo : Nat) (q : Option Nat) (x : Acr) : Prop where
  ok : x.a.ok = true
  vs : Votes w (.slice x.ad x.n x.c) x.a.l
  ne : x.a.l ≠ [] → ∀ k, (Value.slice x.ad x.n x.c).ownBlock = some k → lo ≤ k ∧ some k ≠ q
/-- a row of acceptors of the call's own, and their votes -/
structure AllA (w : World) (base : Nat) (v : Value) (l : List Acr) : Prop where
  own : OwnA w base v l
  each : ∀ x ∈ l, AccAt w base v.ownBlock x
theorem AllA.heap {w w' : World} {base : Nat} {v : Value} {l : List Acr} (h : AllA w base v l) (hh : ∀ k, base ≤ k → k < w.heap.size → w'.heap[k]? = w.heap[k]?) : AllA w' base v l :=
  ⟨row_ofHeap h.own (fun k hk => hh k (row_lt h.own k hk).1 (row_lt h.own k hk).2), fun x hx => ⟨(h.each x hx).ok, votesHeap (h.each x hx).vs (fun hl k hk hkl => hh k ((h.each x hx).ne hl k hk).1 hkl), (h.each x hx).ne⟩⟩
theorem AllA.stay {w w' : World} {base : Nat} {v : Value} {l : List Acr} (h : AllA w base v l) (hb : Below w.heap.size w w') : AllA w' base v l := h.heap (fun k _ hk => hb.block k hk)
theorem AllA.mono {w : World} {base base' : Nat} {v : Value} {l : List Acr} (h : AllA w base v l) (hb : base' ≤ base) : AllA w base' v l :=
  ⟨row_mono h.own hb, fun x hx => ⟨(h.each x hx).ok, (h.each x hx).vs, fun hl k hk => ⟨Nat.le_trans hb ((h.each x hx).ne hl k hk).1, ((h.each x hx).ne hl k hk).2⟩⟩⟩
/-- one more is put behind them -/
theorem AllA.grown {w w' : World} {base : Nat} {v v' : Value} {l : List Acr} {c : Acr} (h : AllA w base v l) (hown : OwnA w' base v' (l ++ [c])) (hg : w.grownBy w' v.ownBlock) (hat : v'.ownBlock = v.ownBlock ∨ v'.ownBlock = some w.heap.size) (hc : AccAt w base v.ownBlock c) : AllA w' base v' (l ++ [c]) := by
  refine ⟨hown, fun x hx => ?_⟩
  have hx' : AccAt w base v.ownBlock x := (List.mem_append.1 hx).elim (h.each x) (fun hx => (List.mem_singleton.1 hx) ▸ hc)
  refine ⟨hx'.ok, votesHeap hx'.vs (fun hl k hk hkl => hg.block k hkl (hx'.ne hl k hk).2), fun hl k hk => ⟨(hx'.ne hl k hk).1, ?_⟩⟩
  rcases hat with e | e
  · rw [e]; exact (hx'.ne hl k hk).2
  · rw [e]
    have := votesLt hx'.vs hl k hk
    intro hne
    injection hne with hne
    omega
/-- the cells of an acceptor in a row -/
theorem RdA_cells {w : World} {v : Value} {l : List Acr} (h : RdA w v l) (hl : l ≠ []) : ∃ b off c, v = .slice (some ⟨b, off, none⟩) l.length c ∧ l.length ≤ c ∧ c ≤ maxLen ∧ b < w.heap.size ∧ ∀ i x, l[i]? = some x → w.cell? ⟨b, off + i * 3, none⟩ = some (.int .i64 x.a.p.1) ∧ w.cell? ⟨b, off + i * 3 + 1, none⟩ = some (.int .i64 x.a.p.2) ∧ w.cell? ⟨b, off + i * 3 + 2, none⟩ = some (.slice x.ad x.n x.c) := by
  obtain ⟨a, c, rfl, h1, h2, h3⟩ := h
  obtain ⟨b, off, rfl, hb, hc⟩ := h3 hl
  refine ⟨b, off, c, rfl, h1, h2, hb, fun i x hx => ?_⟩
  have hi : i < l.length := (List.getElem?_eq_some_iff.1 hx).1
  have e : l.getD i Acr.zero = x := by rw [List.getD_eq_getElem?_getD, hx]; rfl
  have f := fun j hj => hc i hi j hj
  rw [e] at f
  have f0 := f 0 (by decide)
  have f1 := f 1 (by decide)
  have f2 := f 2 (by decide)
  rw [show off + (3 * i + 0) = off + i * 3 by omega] at f0
  rw [show off + (3 * i + 1) = off + i * 3 + 1 by omega] at f1
  rw [show off + (3 * i + 2) = off + i * 3 + 2 by omega] at f2
  exact ⟨f0, f1, f2⟩
end Go.Proofs.Ytdkbajdnckmckaa

set_option linter.unusedVariables false
set_option linter.unusedSimpArgs false
namespace Go.Proofs.Ytdkbajdnckmckaa
open Go.RowKit Go.Con
theorem votLaw : WideMaps.KeyLaw Try.prog 32 := deep_law_laid (by kernel_rfl) (m := 6) (by decide) (of_decide_eq_true (by kernel_rfl)) (by kernel_rfl) (by kernel_rfl)
theorem votKeyed : Go.Maps.Keyed Try.prog 32 := Go.Maps.Keyed.of_law votLaw
def I64 (x : Int) : Prop := -9223372036854775808 ≤ x ∧ x ≤ 9223372036854775807
theorem wf64 {x : Int} (h : I64 x) : (Lit.int .i64 x).wf = true := WalkArith.wf_i64 h
structure VotI (y : Vot) : Prop where
  a0 : I64 y.slot
  a1 : I64 y.bal.1
  a2 : I64 y.bal.2
  a3 : I64 y.what.kind
  a4 : I64 y.what.client
  a5 : I64 y.what.seq
  a6 : I64 y.what.name
  a7 : I64 y.what.value
theorem cells1 : Try.prog.cellsOf 3 = 1 := by kernel_rfl
theorem cells2 : Try.prog.cellsOf 28 = 2 := by kernel_rfl
theorem cells5 : Try.prog.cellsOf 30 = 5 := by kernel_rfl
theorem cells8 : Try.prog.cellsOf 32 = 8 := by kernel_rfl
theorem keyLit_int (d : Nat) {x : Int} (h : I64 x) : Try.prog.keyLits (d + 1) 3 [.int .i64 x] = some [.int .i64 x] := by
  unfold Program.keyLits
  rw [Try.underlying3]
  simp [wf64 h]
theorem keyLit_bal (d : Nat) {a b : Int} (ha : I64 a) (hb : I64 b) : Try.prog.keyLits (d + 1 + 1) 28 [.int .i64 a, .int .i64 b] = some [.int .i64 a, .int .i64 b] := by
  unfold Program.keyLits
  rw [Try.underlying28]
  simp [cells1, cells2, keyLit_int d ha, keyLit_int d hb]
theorem keyLit_cmd (d : Nat) {c : Cmd} (h3 : I64 c.kind) (h4 : I64 c.client) (h5 : I64 c.seq) (h6 : I64 c.name) (h7 : I64 c.value) : Try.prog.keyLits (d + 1 + 1) 30 [.int .i64 c.kind, .int .i64 c.client, .int .i64 c.seq, .int .i64 c.name, .int .i64 c.value] = some [.int .i64 c.kind, .int .i64 c.client, .int .i64 c.seq, .int .i64 c.name, .int .i64 c.value] := by
  unfold Program.keyLits
  rw [Try.underlying30]
  simp [cells1, cells5, keyLit_int d h3, keyLit_int d h4, keyLit_int d h5, keyLit_int d h6, keyLit_int d h7]
theorem keyLit_vot (d : Nat) {y : Vot} (h : VotI y) : ∃ ls, Try.prog.keyLits (d + 1 + 1 + 1) 32 (votCells y) = some ls := by
  unfold Program.keyLits
  rw [Try.underlying32]
  simp [votCells, cells1, cells2, cells5, cells8, keyLit_int (d + 1) h.a0, keyLit_bal d h.a1 h.a2, keyLit_cmd d h.a3 h.a4 h.a5 h.a6 h.a7]
/-- a vote is a key -/
theorem votKey {y : Vot} (h : VotI y) : ∃ kl, keyOf Try.prog 32 (votV y) = some kl := by
  obtain ⟨d, hd⟩ : ∃ d, Try.prog.types.size + 1 = d + 1 + 1 + 1 := ⟨Try.prog.types.size - 2, by have : decide (2 ≤ Try.prog.types.size) = true := (by kernel_rfl); have := of_decide_eq_true this; omega⟩
  obtain ⟨ls, hls⟩ := keyLit_vot d h
  have h1 : (Try.prog.keyType 32 && (votV y).formed Try.prog 32) = true := by kernel_rfl
  unfold keyOf
  rw [Try.underlying32]
  simp only [h1, if_true, hd]
  rw [show (votV y).cells.toList = votCells y from rfl, hls]
  exact ⟨_, rfl⟩
theorem votKey_inj {x y : Vot} {kl : Lit} (hx : keyOf Try.prog 32 (votV x) = some kl) (hy : keyOf Try.prog 32 (votV y) = some kl) : x = y := by
  have h := votLaw.inj hx hy
  obtain ⟨a0, ⟨a1, a2⟩, ⟨a3, a4, a5, a6, a7⟩⟩ := x
  obtain ⟨b0, ⟨b1, b2⟩, ⟨b3, b4, b5, b6, b7⟩⟩ := y
  simp [votV, votCells] at h
  obtain ⟨h0, h1, h2, h3, h4, h5, h6, h7⟩ := h
  subst h0 h1 h2 h3 h4 h5 h6 h7
  rfl
end Go.Proofs.Ytdkbajdnckmckaa

set_option linter.unusedVariables false
set_option linter.unusedSimpArgs false
namespace Go.Proofs.Ytdkbajdnckmckaa
open Go.RowKit Go.Con Go.ChangeMaps Go.WideMaps Go.WideElems
/-- the counts of some votes, in a map -/
def CntM (w : World) (B n : Nat) (S : List Vot) : Prop := ∃ D : DataW Unit, w.ownsMap Try.prog 32 (plainElem Try.prog 3) B n D ∧ (∀ y kl, keyOf Try.prog 32 (votV y) = some kl → D.atKey kl (.lit (.int .i64 0)) = .lit (.int .i64 (S.count y : Nat))) ∧ (∀ kl, Go.Maps.has D kl = true → ∃ y, y ∈ S ∧ keyOf Try.prog 32 (votV y) = some kl)
theorem CntM.lt {w : World} {B n : Nat} {S : List Vot} (h : CntM w B n S) : B < w.heap.size := by obtain ⟨D, h, _⟩ := h; exact h.lt
theorem CntM.kept {w w' : World} {B n : Nat} {S : List Vot} (h : CntM w B n S) (hb : w'.heap[B]? = w.heap[B]?) : CntM w' B n S := by
  obtain ⟨D, ⟨es, clock, h1, h2⟩, h3⟩ := h
  exact ⟨D, ⟨es, clock, hb.trans h1, h2⟩, h3⟩
theorem zeroInt (u : World) : (zeroValue 3).run Try.prog u = .ok (.int .i64 0) u := by kernel_rfl
theorem grown_setBlock {w : World} {b : Nat} {es : Array MapEntry} {clock : Nat} {o' : Obj} (hb : w.heap[b]? = some (.map es clock)) : w.grownBy (setBlock w b o') (some b) := ⟨rfl, rfl, rfl, by simp [setBlock], fun i _ hi => heap_setBlock_other hb _ (fun e => hi (by rw [e]))⟩
/-- 'count[y]++': the entry, the count, the store, in whatever order -/
theorem cnt_entry {w : World} {B n : Nat} {S : List Vot} (h : CntM w B n S) (y : Vot) (hy : VotI y) (hn : n < 1000000) (hS : S.length ≤ 1000000) :
    ∃ (st : Nat) (w1 w2 : World), (Instr.mapEntry 73 (.map (some B)) (votV y)).run Try.prog w = .ok (.tuple #[.int .i64 (S.count y : Nat), goInt st]) w1 ∧
      (Instr.lookup 73 (.map (some B)) (votV y) false).run Try.prog w = .ok (.int .i64 (S.count y : Nat)) w ∧
      (Instr.lookup 73 (.map (some B)) (votV y) false).run Try.prog w1 = .ok (.int .i64 (S.count y : Nat)) w1 ∧
      (Instr.entryStore 73 (.map (some B)) (goInt st) (.int .i64 ((S.count y : Nat) + 1))).run Try.prog w1 = .ok () w2 ∧
      w.grownBy w1 (some B) ∧ w.grownBy w2 (some B) ∧ CntM w2 B (n + 1) (S ++ [y]) := by
  obtain ⟨kl, hkl⟩ := votKey hy
  obtain ⟨D, hown, hat, hhas⟩ := h
  have hc := hat y kl hkl
  have hcb : S.count y ≤ S.length := List.count_le_length
  have hmt := Try.underlying73
  have hown0 := hown
  obtain ⟨es, clock, hb, F, hs, hD⟩ := hown0
  obtain ⟨v0, st, es1, clock1, hrun, hv0, hst⟩ := entry_then_store votLaw hmt zeroInt hb F hkl
  obtain ⟨c0, hl0, ha0, -⟩ := hown.lookup_int votKeyed hmt Try.underlying3 (zeroInt w) hkl
  have hc0 : c0 = (S.count y : Nat) := by rw [hc] at ha0; injection ha0 with ha0; injection ha0 with _ ha0; exact ha0.symm
  subst hc0
  have hb1 : (setBlock w B (.map es1 clock1)).heap[B]? = some (.map es1 clock1) := heap_setBlock_same hb _
  -- the map behind the entry's making
  have hown1 : ∃ n1 D1, (setBlock w B (.map es1 clock1)).ownsMap Try.prog 32 (plainElem (H := Unit) Try.prog 3) B n1 D1 ∧ D1.atKey kl (.lit (.int .i64 0)) = D.atKey kl (.lit (.int .i64 0)) ∧ v0 = .int .i64 (S.count y : Nat) := by
    rcases votLaw.find w hkl es.toList F.keys with ⟨h1, h2⟩ | ⟨j, e0, h1, h2, h3⟩
    · have hr2 : (Instr.mapEntry 73 (.map (some B)) (votV y)).run Try.prog w = .ok (.tuple #[.int .i64 0, goInt clock]) (setBlock w B (.map (es.push ⟨votV y, .int .i64 0, clock⟩) (clock + 1))) := by
        simp [Instr.mapEntry, run_underlying hmt, MapKept.run_getObj_map hb, votLaw.check w false hkl, h1, zeroInt, MapKept.run_setObj_map _ hb, Result.andThen, setBlock]
      have hr3 : (Instr.mapUpdate 73 (.map (some B)) (votV y) (.int .i64 0)).run Try.prog w = .ok () (setBlock w B (.map (es.push ⟨votV y, .int .i64 0, clock⟩) (clock + 1))) := by
        simp [Instr.mapUpdate, run_underlying hmt, MapKept.run_getObj_map hb, votLaw.check w false hkl, h1, MapKept.run_setObj_map _ hb, Result.andThen, setBlock]
      rw [hr2] at hrun
      injection hrun with e1 e2
      have ev : v0 = .int .i64 0 := by
        injection e1 with e1
        have := congrArg (fun a : Array Value => a[0]?) e1
        simpa using this.symm
      obtain ⟨w', hu1, hu2, -⟩ := hown.update votKeyed hmt (by unfold maxLen; omega) hkl (plainElem_int Try.underlying3 (by decide) : plainElem (H := Unit) Try.prog 3 (.int .i64 0) = _)
      rw [hr3] at hu1
      injection hu1 with _ hu1
      have hz : D.atKey kl (.lit (.int .i64 0)) = .lit (.int .i64 0) := by
        rcases Go.Maps.fit_look (H := Unit) false votKeyed hmt (zeroInt w) hb F hkl with ⟨_, _, h5⟩ | ⟨e5, _, h5, h6, _⟩
        · rw [hD]; exact h5 _
        · exact absurd h6 (h2 e5 h5)
      have hcz : S.count y = 0 := by rw [hc] at hz; injection hz with hz; injection hz with _ hz; omega
      refine ⟨n + 1, _, by rw [← e2, hu1]; exact hu2, ?_, by rw [ev, hcz]; rfl⟩
      rw [Go.Maps.atKey_put_same hown.isMap (votKeyed.key hkl), hz]
    · have hj : es[j]? = some e0 := by simpa using h2
      have hsame : es.modify j (fun e => { e with key := votV y }) = es := by
        apply Array.ext'
        rw [Array.toList_modify, modify_eq_set _ _ _ _ h2]
        have : ({ e0 with key := votV y } : MapEntry) = e0 := by rw [← h3]
        rw [this]
        exact set_self _ _ _ h2
      have hr2 : (Instr.mapEntry 73 (.map (some B)) (votV y)).run Try.prog w = .ok (.tuple #[e0.val, goInt e0.born]) (setBlock w B (.map es clock)) := by
        simp [Instr.mapEntry, run_underlying hmt, MapKept.run_getObj_map hb, votLaw.check w false hkl, h1, hj, h3, votLaw.stays w hkl, hsame, MapKept.run_setObj_map _ hb, Result.andThen, setBlock]
      have hr4 : (Instr.lookup 73 (.map (some B)) (votV y) false).run Try.prog w = .ok e0.val w := by
        simp [Instr.lookup, run_underlying hmt, MapKept.run_getObj_map hb, votLaw.check w _ hkl, h1, Result.andThen]
      rw [hr4] at hl0
      injection hl0 with hl0
      rw [hr2] at hrun
      injection hrun with e1 e2
      have ev : v0 = e0.val := by
        injection e1 with e1
        have := congrArg (fun a : Array Value => a[0]?) e1
        simpa using this.symm
      refine ⟨n, D, ?_, rfl, by rw [ev, hl0]⟩
      rw [← e2]
      exact ⟨es, clock, heap_setBlock_same hb _, F, hs, hD⟩
  obtain ⟨n1, D1, ho1, ha1, rfl⟩ := hown1
  obtain ⟨c1, hl1, hb1c, -⟩ := ho1.lookup_int votKeyed hmt Try.underlying3 (zeroInt _) hkl
  have hc1 : c1 = (S.count y : Nat) := by rw [ha1, hc] at hb1c; injection hb1c with hb1c; injection hb1c with _ hb1c; exact hb1c.symm
  subst hc1
  obtain ⟨es', clock', hs1, hs2⟩ := hst (setBlock w B (.map es1 clock1)) (.int .i64 ((S.count y : Nat) + 1)) hb1
  obtain ⟨w', hu1, hu2, hu3⟩ := hown.update votKeyed hmt (by unfold maxLen; omega) hkl (plainElem_int Try.underlying3 (WalkArith.wf_i64 (by omega)) : plainElem (H := Unit) Try.prog 3 (.int .i64 ((S.count y : Nat) + 1)) = _)
  rw [hs2] at hu1
  injection hu1 with _ hu1
  have hB2 : (setBlock (setBlock w B (.map es1 clock1)) B (.map es' clock')).heap[B]? = w'.heap[B]? := by
    rw [heap_setBlock_same hb1, ← hu1, heap_setBlock_same hb]
  refine ⟨st, _, _, hrun, hl0, hl1, hs1, grown_setBlock hb, ?_, D.put kl (.lit (.int .i64 ((S.count y : Nat) + 1))), ?_, fun y' kl' hk' => ?_, fun kl' hh => ?_⟩
  · exact (grown_setBlock hb).trans (grown_setBlock hb1)
  · obtain ⟨es2, clock2, q1, q2⟩ := hu2
    exact ⟨es2, clock2, hB2.trans q1, q2⟩
  · by_cases hyy : y' = y
    · subst hyy
      have : kl' = kl := by rw [hkl] at hk'; injection hk' with hk'; exact hk'.symm
      subst this
      rw [Go.Maps.atKey_put_same hown.isMap (votKeyed.key hkl), List.count_append, List.count_singleton_self]
      rfl
    · have hne : kl' ≠ kl := fun e => hyy (votKey_inj (e ▸ hk') hkl)
      rw [Go.Maps.atKey_put_other hne, hat y' kl' hk', List.count_append, List.count_singleton, beq_false_of_ne (fun e => hyy e.symm)]
      simp
  · by_cases hkk : kl' = kl
    · exact ⟨y, by simp, by rw [hkk]; exact hkl⟩
    · rw [Go.Maps.has_put_other hkk] at hh
      obtain ⟨y', h1, h2⟩ := hhas kl' hh
      exact ⟨y', List.mem_append_left _ h1, h2⟩
end Go.Proofs.Ytdkbajdnckmckaa

set_option linter.unusedVariables false
set_option linter.unusedSimpArgs false
namespace Go.Con
open Go
/-- the votes for a slot -/
def slotV (slot : Int) (al : List Acr) : List Vot := al.flatMap fun x => x.a.l.filter fun y => decide (y.slot = slot)
theorem slotV_take (slot : Int) (al : List Acr) (i : Nat) (x : Acr) (h : al[i]? = some x) : slotV slot (al.take (i + 1)) = slotV slot (al.take i) ++ x.a.l.filter fun y => decide (y.slot = slot) := by
  unfold slotV
  rw [List.take_add_one, h, List.flatMap_append]
  simp
end Go.Con
namespace Go.Proofs.Ytdkbajdnckmckaa
open Go.RowKit Go.Con
theorem slotV_len (slot : Int) : ∀ (l : List Acr), (∀ x ∈ l, x.a.ok = true) → (slotV slot l).length ≤ 1000 * l.length
  | [], _ => Nat.le_refl _
  | x :: l, h => by
    have h1 := slotV_len slot l (fun y hy => h y (List.mem_cons_of_mem _ hy))
    have h2 := okA_len (p := x.a.p) (l := x.a.l) (h x (List.mem_cons_self ..))
    have h3 : (x.a.l.filter fun y => decide (y.slot = slot)).length ≤ x.a.l.length := List.length_filter_le _ _
    show (List.flatMap _ (x :: l)).length ≤ _
    rw [List.flatMap_cons, List.length_append, List.length_cons]
    show _ + (slotV slot l).length ≤ _
    omega
theorem cmdSz : (Try.prog.info? 30).map (fun x => x.size) = some 5 := by kernel_rfl
/-- what the counting keeps -/
structure CInv (w wr : World) (S : List Vot) : Prop where
  below : Below w.heap.size w wr
  res : wr.heap[w.heap.size]? = some (.cells #[.int .i64 0, .int .i64 0, .int .i64 0, .int .i64 0, .int .i64 0] 30 (0, 0))
  cnt : ∃ n, n ≤ S.length ∧ CntM wr (w.heap.size + 1) n S
theorem CInv.stay {w wr w' : World} {S : List Vot} (h : CInv w wr S) (hb : Below wr.heap.size wr w') : CInv w w' S := by
  obtain ⟨h1, h2, n, h3, h4⟩ := h
  exact ⟨h1.trans (hb.mono h1.size), (hb.block _ (lt_of_heap h2)).trans h2, n, h3, h4.kept (hb.block _ h4.lt)⟩
theorem okV_I {y : Vot} (h : okV y = true) : VotI y := by
  obtain ⟨h1, h2, h3, h4⟩ := okV_parts h
  have hb : (1 ≤ y.bal.1 ∧ y.bal.1 ≤ 65536) ∧ (0 ≤ y.bal.2 ∧ y.bal.2 < 5) := by simp [okB] at h3; omega
  have f := fld_nonneg y.what h4
  have f0 : 0 ≤ y.what.kind ∧ y.what.kind ≤ 1073741824 := f 0
  have f1 : 0 ≤ y.what.client ∧ y.what.client ≤ 1073741824 := f 1
  have f2 : 0 ≤ y.what.seq ∧ y.what.seq ≤ 1073741824 := f 2
  have f3 : 0 ≤ y.what.name ∧ y.what.name ≤ 1073741824 := f 3
  have f4 : 0 ≤ y.what.value ∧ y.what.value ≤ 1073741824 := f 4
  exact ⟨⟨by omega, by omega⟩, ⟨by omega, by omega⟩, ⟨by omega, by omega⟩, ⟨by omega, by omega⟩, ⟨by omega, by omega⟩, ⟨by omega, by omega⟩, ⟨by omega, by omega⟩, ⟨by omega, by omega⟩⟩
theorem okVs_mem {p : Int × Int} : ∀ {l : List Vot} {last : Int}, okVs p last l = true → ∀ y ∈ l, okV y = true
  | [], _, _, y, hy => by cases hy
  | v :: l, last, h, y, hy => by
    have h' : (okV v && decide (last < v.slot) && decide (cmpB v.bal p ≤ 0) && okVs p v.slot l) = true := h
    simp only [Bool.and_eq_true, decide_eq_true_eq] at h'
    obtain ⟨⟨⟨q1, q2⟩, _⟩, q3⟩ := h'
    rcases List.mem_cons.1 hy with rfl | hy
    · exact q1
    · exact okVs_mem q3 y hy
theorem okA_mem {p : Int × Int} {l : List Vot} (h : okA p l = true) : ∀ y ∈ l, okV y = true := by
  unfold okA at h
  simp only [Bool.and_eq_true] at h
  exact okVs_mem h.2
set_option maxRecDepth 100000 in
set_option maxHeartbeats 4000000 in
theorem Chosen_ok (al : List Acr) (v : Value) (slot : Int) (w : World) (hv : RdA w v al) (hvs : ∀ x ∈ al, Votes w (.slice x.ad x.n x.c) x.a.l) (hok : ∀ x ∈ al, x.a.ok = true) (h0 : 0 ≤ slot) (h1 : slot < 40) (hn0 : 1 ≤ al.length) (hn5 : al.length ≤ 5) :
    Calls Try.prog 18 #[v, .int .i64 slot] w fun e w' => Below w.heap.size w w' ∧ ((∃ y, al.length < 2 * (slotV slot al).count y ∧ e = .returned (.tuple #[cmdV y.what, .int .i64 0])) ∨ ((∀ y, ¬ al.length < 2 * (slotV slot al).count y) ∧ e = .returned (.tuple #[cmdV Cmd.zero, .int .i64 9]))) := by
  have hne : al ≠ [] := fun h => by rw [h] at hn0; cases hn0
  obtain ⟨b0, off0, vc, rfl, hc1, hc2, hbl, hcells⟩ := RdA_cells hv hne
  obtain ⟨n, hn⟩ : ∃ n, n = al.length := ⟨_, rfl⟩
  rw [← hn] at hn0 hn5 hc1 ⊢
  have HN := Lib.hid hn
  have HCELLS := Lib.hid hcells
  have HVS := Lib.hid hvs
  have HOK := Lib.hid hok
  have hc3 : vc ≤ 9223372036854775807 := hc2
  have d1 : decide (slot < 0) = false := by rw [decide_eq_false_iff_not]; omega
  have d2 : decide ((40 : Int) ≤ slot) = false := by rw [decide_eq_false_iff_not]; omega
  have d3 : decide ((n : Int) < 1) = false := by rw [decide_eq_false_iff_not]; omega
  have d3n : decide (n < 1) = false := by rw [decide_eq_false_iff_not]; omega
  have d4 : decide ((5 : Int) < n) = false := by rw [decide_eq_false_iff_not]; omega
  have d4n : decide (5 < n) = false := by rw [decide_eq_false_iff_not]; omega
  have hmm := @run_makeMap Try.prog
  clear hn hcells hvs hok hv hne hc2
  go_enter Try.func18, Try.ntmps18
  go_wp2_with fail
  generalize hW : World.alloc _ _ = w1
  have inv0 : Hid (CInv w w1 []) := Lib.hid (by
    obtain ⟨g1, g2, g3, g4⟩ := alloc2T hW
    refine ⟨g3, g1, 0, Nat.le_refl _, .map [], ⟨#[], 0, g2, ⟨by simp, MapKept.stamped_empty 0, by simp⟩, Nat.le_refl _, rfl⟩, fun y kl _ => rfl, fun kl hh => by simp [Go.Maps.has] at hh⟩)
  clear hW
  go_loopw [34] (fun i wr => ∃ j : Nat, j ≤ n ∧ i = .int .i64 j ∧ Hid (CInv w wr (slotV slot (al.take j)))) (fun i _ => n - (intOf i).toNat)
  case atStart => exact ⟨0, by omega, rfl, by simpa [slotV] using inv0⟩
  case round =>
    clear inv0
    obtain ⟨j, hjn, rfl, HI⟩ := hrel
    by_cases hj : j < n
    · have hd1 : decide ((j : Int) < n) = true := by rw [decide_eq_true_eq]; omega
      have hd1n : decide (j < n) = true := by rw [decide_eq_true_eq]; omega
      have hjl : j < al.length := by rw [← HN.out]; exact hj
      obtain ⟨x, hx⟩ : ∃ x, x = al[j] := ⟨_, rfl⟩
      have hxq : al[j]? = some x := by rw [hx]; exact List.getElem?_eq_getElem hjl
      have hxm := List.mem_of_getElem? hxq
      obtain ⟨q0, q1, q2⟩ := HCELLS.out j x hxq
      have e0 := (HI.out.below.cell (p := ⟨b0, off0 + j * 3, none⟩) hbl).trans q0
      have e1 := (HI.out.below.cell (p := ⟨b0, off0 + j * 3 + 1, none⟩) hbl).trans q1
      have e2 := (HI.out.below.cell (p := ⟨b0, off0 + j * 3 + 2, none⟩) hbl).trans q2
      have HTK := Lib.hid (slotV_take slot al j x hxq)
      have HXV := Lib.hid ((HVS.out x hxm).stay HI.out.below)
      have HXO := Lib.hid (HOK.out x hxm)
      have HVW := Lib.hid (HVS.out x hxm).1
      obtain ⟨⟨⟨p1, p2⟩, VL⟩, xa, xn, xc⟩ := x
      dsimp only at e0 e1 e2 HXV HXO HTK HVW
      have hxn : xn = VL.length := HXV.out.1.cells.1
      have HXN := Lib.hid hxn
      have hxnc := HXV.out.1.cells.2.1
      have hxcm : xc ≤ 9223372036854775807 := by obtain ⟨a, c, e, -, h, -⟩ := HXV.out.1; injection e with e1 e2 e3; rw [e3]; exact h
      clear hjl hx hxq hxm q0 q1 q2 hxn
      have HCHK := Lib.hid (fun w0 (h0 : RdV w0 (.slice xa xn xc) VL) => (show Calls Try.prog 12 #[.agg #[.int .i64 p1, .int .i64 p2, .slice xa xn xc]] w0 fun e w' => e = .returned (.int .i64 0) ∧ Below w0.heap.size w0 w' from (accCheck_any (p1, p2) (.slice xa xn xc) VL w0 h0).mono fun e w' ⟨h1, h2⟩ => ⟨by rw [h1, if_pos (show okA (p1, p2) VL = true from HXO.out)], h2⟩))
      have hnew : ∀ W : World, W.alloc (.cells #[.int .i64 p1, .int .i64 p2, .slice xa xn xc] 39) = W.alloc (.cells #[.int .i64 p1, .int .i64 p2, .slice xa xn xc] 39) := fun _ => rfl
      go_upto_region 7 with fail
      generalize hW : World.alloc _ _ = w2
      have hx2 : w2.heap[wr.heap.size]? = some (.cells #[.int .i64 p1, .int .i64 p2, .slice xa xn xc] 39 (0, 0)) := by rw [← hW]; exact heapNew _ _
      have b2 : Below wr.heap.size wr w2 := by rw [← hW]; exact (Below.refl _ _).alloc (Nat.le_refl _) _
      obtain ⟨xb, hxb⟩ : ∃ b, b = wr.heap.size := ⟨_, rfl⟩
      rw [← hxb] at hx2 ⊢
      have HX2 := Lib.hid hx2
      have HV2 := Lib.hid (HXV.out.1.stay b2)
      have HI2 := Lib.hid (HI.out.stay b2)
      have c0 := cellAt hx2 0 rfl
      have c1 := cellAt hx2 1 rfl
      have c2 := cellAt hx2 2 rfl
      clear hW hx2 b2 hxb e0 e1 e2 HI HXV hnew
      go_upto_region 10 with (go_at_call 12; refine (HCHK.out _ HV2.out).mono ?_; rintro e w3 ⟨rfl, hb3⟩; have B3 := Lib.hid hb3; clear hb3)
      clear c0 c1 c2
      have hx3 := (B3.out.block _ (lt_of_heap HX2.out)).trans HX2.out
      have HV3 := Lib.hid (HV2.out.stay B3.out)
      have HI3 := Lib.hid (HI2.out.stay B3.out)
      have c2 := cellAt hx3 2 rfl
      clear hx3 B3 HV2 HI2 HX2 HCHK
      go_wp2_with fail
      clear c2
      go_loopw [47] (fun i wr => ∃ q : Nat, q ≤ xn ∧ i = .int .i64 q ∧ Hid (CInv w wr (slotV slot (al.take j) ++ (VL.take q).filter fun y => decide (y.slot = slot)))) (fun i _ => xn - (intOf i).toNat)
      case atStart => exact ⟨0, by omega, rfl, Lib.hid (by simpa using HI3.out)⟩
      case round =>
        clear HI3 HV3
        obtain ⟨q, hqn, rfl, HJ⟩ := hrel
        by_cases hq : q < xn
        · have hd1 : decide ((q : Int) < xn) = true := by rw [decide_eq_true_eq]; omega
          have hd1n : decide (q < xn) = true := by rw [decide_eq_true_eq]; omega
          obtain ⟨eb, eoff, rfl, hel, hec⟩ := (show RdV wr (.slice xa xn xc) VL from RdRow.stay HVW.out HJ.out.below).cells.2.2 q hq
          have hql : q < VL.length := by rw [← HXN.out]; exact hq
          obtain ⟨y, hy⟩ : ∃ y, y = VL.getD q Vot.zero := ⟨_, rfl⟩
          rw [← hy] at hec
          have hyg : VL[q]? = some y := by rw [hy, List.getD_eq_getElem?_getD, List.getElem?_eq_getElem hql]; rfl
          have HOV := Lib.hid (okA_mem (p := (p1, p2)) HXO.out y (List.mem_of_getElem? hyg))
          have HTQ := Lib.hid (show (VL.take (q + 1)).filter (fun y => decide (y.slot = slot)) = (VL.take q).filter (fun y => decide (y.slot = slot)) ++ [y].filter (fun y => decide (y.slot = slot)) by rw [List.take_add_one, hyg, List.filter_append]; rfl)
          have HI := HJ
          have LENS := Lib.hid (show (slotV slot (al.take j) ++ (VL.take q).filter fun y => decide (y.slot = slot)).length ≤ 100000 by
            have h2 := okA_len (p := (p1, p2)) (l := VL) HXO.out
            have h3 : ((VL.take q).filter fun y => decide (y.slot = slot)).length ≤ (VL.take q).length := List.length_filter_le _ _
            have h4 := slotV_len slot (al.take j) (fun x hx => HOK.out x (List.mem_of_mem_take hx))
            have h5 : (al.take j).length ≤ j := by simp; omega
            rw [List.length_append]
            rw [List.length_take] at h3
            have h6 : 1000 * (al.take j).length ≤ 1000 * j := Nat.mul_le_mul_left _ h5
            omega)
          obtain ⟨sl, ⟨br, bn⟩, ⟨ck, cl, sq, nm, vl⟩⟩ := y
          obtain ⟨f0, f1, f2, f3, f4, f5, f6, f7⟩ := cellsV hec
          dsimp only at f0 f1 f2 f3 f4 f5 f6 f7
          clear hec hel hql hy hyg HJ
          go_upto_region 13 with fail
          generalize hW : World.alloc _ _ = w4
          have hx4 : w4.heap[wr.heap.size]? = some (.cells #[.int .i64 sl, .int .i64 br, .int .i64 bn, .int .i64 ck, .int .i64 cl, .int .i64 sq, .int .i64 nm, .int .i64 vl] 32 (0, 0)) := by rw [← hW]; exact heapNew _ _
          have b4 : Below wr.heap.size wr w4 := by rw [← hW]; exact (Below.refl _ _).alloc (Nat.le_refl _) _
          have hB4 := HI.out.res
          obtain ⟨vb, hvb⟩ : ∃ b, b = wr.heap.size := ⟨_, rfl⟩
          have HX4 := Lib.hid hx4
          rw [← hvb] at HX4 ⊢
          have HI4 := Lib.hid (HI.out.stay b4)
          have hvB : w.heap.size + 1 < vb := by
            obtain ⟨n1, -, hc⟩ := HI.out.cnt
            have := hc.lt
            omega
          clear hW hx4 b4 hB4 hvb f0 f1 f2 f3 f4 f5 f6 f7 HI
          have t0 := cellAt HX4.out 0 rfl
          have t1 := cellAt HX4.out 1 rfl
          have t2 := cellAt HX4.out 2 rfl
          have t3 := cellAt HX4.out 3 rfl
          have t4 := cellAt HX4.out 4 rfl
          have t5 := cellAt HX4.out 5 rfl
          have t6 := cellAt HX4.out 6 rfl
          have t7 := cellAt HX4.out 7 rfl
          by_cases hs : sl = slot
          · subst hs
            go_upto_region 14 with fail
            obtain ⟨n1, hn1, hcnt⟩ := HI4.out.cnt
            have hS5 : (slotV sl (al.take j) ++ (VL.take q).filter fun y => decide (y.slot = sl)).length ≤ 100000 := LENS.out
            obtain ⟨st, w5, w6, r1, r2, r3, r4, g5, g6, hc6⟩ := cnt_entry (show CntM w4.drew (w.heap.size + 1) n1 _ from hcnt) ⟨sl, (br, bn), ⟨ck, cl, sq, nm, vl⟩⟩ (okV_I HOV.out) (by omega) (by omega)
            obtain ⟨c, hc⟩ : ∃ c : Nat, c = (slotV sl (al.take j) ++ (VL.take q).filter fun y => decide (y.slot = sl)).count ⟨sl, (br, bn), ⟨ck, cl, sq, nm, vl⟩⟩ := ⟨_, rfl⟩
            rw [← hc] at r1 r2 r3 r4
            have hcl : c ≤ 100000 := by rw [hc]; exact Nat.le_trans List.count_le_length hS5
            have r1' : (Instr.mapEntry 73 (.map (some (w.heap.size + 1))) (.agg #[.int .i64 sl, .int .i64 br, .int .i64 bn, .int .i64 ck, .int .i64 cl, .int .i64 sq, .int .i64 nm, .int .i64 vl])).run Try.prog w4.drew = .ok (.tuple #[.int .i64 (c : Int), .int .i64 (st : Int)]) w5 := r1
            have r2' : (Instr.lookup 73 (.map (some (w.heap.size + 1))) (.agg #[.int .i64 sl, .int .i64 br, .int .i64 bn, .int .i64 ck, .int .i64 cl, .int .i64 sq, .int .i64 nm, .int .i64 vl]) false).run Try.prog w4.drew = .ok (.int .i64 (c : Int)) w4.drew := r2
            have r3' : (Instr.lookup 73 (.map (some (w.heap.size + 1))) (.agg #[.int .i64 sl, .int .i64 br, .int .i64 bn, .int .i64 ck, .int .i64 cl, .int .i64 sq, .int .i64 nm, .int .i64 vl]) false).run Try.prog w5 = .ok (.int .i64 (c : Int)) w5 := r3
            have r4' : (Instr.entryStore 73 (.map (some (w.heap.size + 1))) (.int .i64 (st : Int)) (.int .i64 ((c : Int) + 1))).run Try.prog w5 = .ok () w6 := r4
            have hwc : IntKind.i64.wrap ((c : Int) + 1) = (c : Int) + 1 := IntWalk.i64_in _ (by omega)
            have R := Lib.hid HI4.out.res
            have NEW := Lib.hid (show CInv w w6 (slotV sl (al.take j) ++ (VL.take (q + 1)).filter fun y => decide (y.slot = sl)) by
              rw [HTQ.out, ← List.append_assoc]
              refine ⟨Below.grown (w := w4.drew) HI4.out.below.drew g6 HI4.out.below.size (fun k hk => by injection hk with hk; omega), (g6.block _ (lt_of_heap (w := w4) HI4.out.res) (fun e => by injection e with e; omega)).trans HI4.out.res, n1 + 1, ?_, by simpa using hc6⟩
              simp
              simp at hn1
              omega)
            clear r1 r2 r3 r4 g5 g6 hc6 hcnt hn1 hS5 hc HI4 R
            go_region
            all_goals
              go_wp2_with fail
              go_roundw
              case rel => exact ⟨q + 1, by omega, by go_num, NEW⟩
              case measure => simp [intOf]; omega
          · have hsb : (sl == slot) = false := by rw [beq_eq_false_iff_ne]; exact hs
            have NEW := Lib.hid (show CInv w w4 (slotV slot (al.take j) ++ (VL.take (q + 1)).filter fun y => decide (y.slot = slot)) by
              rw [HTQ.out]
              simp [hs]
              exact HI4.out)
            clear t1 t2 t3 t4 t5 t6 t7
            go_wp2_with fail
            go_roundw
            case rel => exact ⟨q + 1, by omega, by go_num, NEW⟩
            case measure => simp [intOf]; omega
        · have hd1 : decide ((q : Int) < xn) = false := by rw [decide_eq_false_iff_not]; omega
          have hd1n : decide (q < xn) = false := by rw [decide_eq_false_iff_not]; omega
          have NEW := Lib.hid (show CInv w wr (slotV slot (al.take (j + 1))) by
            have h := HJ.out
            rw [List.take_of_length_le (l := VL) (by have := HXN.out; omega)] at h
            rw [HTK.out]
            exact h)
          clear HJ
          go_wp2_with fail
          go_roundw
          case rel => exact ⟨j + 1, by omega, by go_num, NEW⟩
          case measure => simp [intOf]; omega
    · have hd1 : decide ((j : Int) < n) = false := by rw [decide_eq_false_iff_not]; omega
      have hd1n : decide (j < n) = false := by rw [decide_eq_false_iff_not]; omega
      have hje : j = n := by omega
      have hinv := HI.out
      rw [hje, HN.out, List.take_length] at hinv
      obtain ⟨S, hS⟩ : ∃ S, S = slotV slot al := ⟨_, rfl⟩
      rw [← hS] at hinv
      have HSS := Lib.hid hS
      have SI := Lib.hid (show ∀ y ∈ S, VotI y from fun y hy => by
        rw [hS] at hy
        obtain ⟨x, hx, hy⟩ := List.mem_flatMap.1 hy
        have h := HOK.out x hx
        exact okV_I (okA_mem (p := x.a.p) h y (List.mem_filter.1 hy).1))
      obtain ⟨B1, R1, N, hN, D, hown, hat, hhas⟩ := hinv
      have HAT := Lib.hid hat
      have HHAS := Lib.hid hhas
      have HB1 := Lib.hid B1
      have HR1 := Lib.hid R1
      have hbs := B1.size
      have HOK2 := HOK
      clear hS hje HI hat hhas HOK HVS HCELLS
      go_wp2_with (first
        | (at_range; refine wpList_range_own _ rfl _ 73 rfl 32 3 votKeyed Try.underlying73 _ (w.heap.size + 1) N D rfl hown ?_; intro w0 hrg0 hg0 hs0)
        | go_in)
      go_frame
      obtain ⟨rr, hrr⟩ : ∃ r, r = wr.heap.size := ⟨_, rfl⟩
      rw [← hrr] at hrg0 hs0 ⊢
      have h00 : rr ≠ w.heap.size ∧ rr ≠ w.heap.size + 1 ∧ w.heap.size ≤ rr := by
        have h1 := hown.lt
        omega
      obtain ⟨hr0, hr1, hr2⟩ := h00
      have hb0 : Below w.heap.size w w0 := HB1.out.grown hg0 hbs (fun k hk => by cases hk)
      have hz0 := (hg0.block _ (lt_of_heap HR1.out) (by simp)).trans HR1.out
      have inv0 : Hid (∃ left cnt, w0.ranges Try.prog 32 (plainElem (H := Unit) Try.prog 3) (w.heap.size + 1) rr N D left cnt ∧ (∀ y kl, keyOf Try.prog 32 (votV y) = some kl → y ∈ S → left kl = false → ¬ n < 2 * S.count y) ∧ Below w.heap.size w w0 ∧ w0.heap[w.heap.size]? = some (.cells #[.int .i64 0, .int .i64 0, .int .i64 0, .int .i64 0, .int .i64 0] 30 (0, 0))) := Lib.hid (by
        refine ⟨_, _, hrg0, fun y kl hk hy hl => ?_, hb0, hz0⟩
        exfalso
        have h1 := HAT.out y kl hk
        rw [Go.Maps.atKey_of_not_has hl] at h1
        injection h1 with h1
        injection h1 with _ h1
        have h2 : 0 < S.count y := List.count_pos_iff.2 hy
        omega)
      clear hrg0 hg0 hs0 hb0 hz0 hown HB1 HR1 hbs hrr
      go_loopw [13] (fun _ wr => ∃ left cnt, wr.ranges Try.prog 32 (plainElem (H := Unit) Try.prog 3) (w.heap.size + 1) rr N D left cnt ∧ (∀ y kl, keyOf Try.prog 32 (votV y) = some kl → y ∈ S → left kl = false → ¬ n < 2 * S.count y) ∧ Below w.heap.size w wr ∧ wr.heap[w.heap.size]? = some (.cells #[.int .i64 0, .int .i64 0, .int .i64 0, .int .i64 0, .int .i64 0] 30 (0, 0))) (fun _ wr => wr.rangeLeft (w.heap.size + 1) rr)
      case atStart => exact inv0.out
      case round =>
        clear inv0
        obtain ⟨left, cnt, hrg, hno, hb, hz⟩ := hrel
        go_wp2_with (first
          | (at_next; refine wpList_next_ranges _ rfl _ rfl 32 votKeyed (plainElem (H := Unit) Try.prog 3) (Subtype.val : {x : Value // ∃ kl, keyOf Try.prog 32 x = some kl} → Value) (Value.int .i64) (fun key kl hkey => ⟨⟨key, kl, hkey⟩, rfl⟩) (fun v y hv => by obtain ⟨c, h1, _⟩ := plainElem_int_inv Try.underlying3 hv; exact ⟨c, h1⟩) (w.heap.size + 1) rr N D left cnt rfl hrg ?_ ?_)
          | go_in)
        · intro hc0 hl0
          have NO := Lib.hid (show ∀ y, ¬ al.length < 2 * (slotV slot al).count y from fun y => by
            rw [← HSS.out, ← HN.out]
            by_cases hy : y ∈ S
            · obtain ⟨kl, hkl⟩ := votKey (SI.out y hy)
              exact hno y kl hkl hy (hl0 kl)
            · rw [List.count_eq_zero.2 hy]; omega)
          have f0 := cellAt hz 0 rfl
          have f1 := cellAt hz 1 rfl
          have f2 := cellAt hz 2 rfl
          have f3 := cellAt hz 3 rfl
          have f4 := cellAt hz 4 rfl
          have ff := freeAt hz
          have HZ := Lib.hid hz
          have HB := Lib.hid hb
          clear hno hz hb hrg hc0 hl0
          go_wp2_with fail
          have z5 := heapSet (o := 4) (heapSet (o := 3) (heapSet (o := 2) (heapSet (o := 1) (heapSet (o := 0) HZ.out (.int .i64 0)) (.int .i64 0)) (.int .i64 0)) (.int .i64 0)) (.int .i64 0)
          have b5 := ((((HB.out.setCell (p := ⟨w.heap.size, 0, none⟩) (Nat.le_refl _) (.int .i64 0)).setCell (p := ⟨w.heap.size, 1, none⟩) (Nat.le_refl _) (.int .i64 0)).setCell (p := ⟨w.heap.size, 2, none⟩) (Nat.le_refl _) (.int .i64 0)).setCell (p := ⟨w.heap.size, 3, none⟩) (Nat.le_refl _) (.int .i64 0)).setCell (p := ⟨w.heap.size, 4, none⟩) (Nat.le_refl _) (.int .i64 0)
          generalize hW : World.setCell _ _ _ = w5 at z5 b5 ⊢
          have hl := run_loadVar_mid (P := Try.prog) w5 w.heap.size 0 30 [.int .i64 0, .int .i64 0, .int .i64 0, .int .i64 0, .int .i64 0] _ (range_of z5) Try.underlying30 rfl cmdSz
          exact bodyPost_ret (v := .tuple #[.agg #[.int .i64 0, .int .i64 0, .int .i64 0, .int .i64 0, .int .i64 0], .int .i64 9]) (results_ct Try.results18 rfl hl) rfl ⟨b5, .inr ⟨by rw [HN.out]; exact NO.out, rfl⟩⟩
        · intro x kl0 hx0 c kl dd pl w1 cnt1 hkx hlx hvc hat1 hrg1 hlt hg1 hs1 hen
          clear hx0 kl0
          obtain ⟨y, hyS, hyk⟩ := HHAS.out kl (Go.Maps.has_true_of_atKey hat1)
          have hxe : x = votV y := votLaw.inj hkx hyk
          obtain ⟨k, hkk⟩ : ∃ k, k = S.count y := ⟨_, rfl⟩
          have hce : c = (k : Int) := by
            obtain ⟨c', h1, h2, _⟩ := plainElem_int_inv Try.underlying3 hvc
            injection h1 with _ h1
            have h3 := HAT.out y kl hyk
            injection h2 with h2 _
            rw [hat1, h2] at h3
            injection h3 with h3
            injection h3 with _ h3
            rw [h1, h3, hkk]
          have hk1 : k ≤ 100000 := by
            have h3 := slotV_len slot al HOK2.out
            have h4 : S.count y ≤ S.length := List.count_le_length
            rw [HSS.out] at h4
            rw [hkk, HSS.out]
            have := HN.out
            omega
          subst hxe hce
          have KK := Lib.hid hkk
          have hwk : IntKind.i64.wrap (2 * (k : Int)) = 2 * (k : Int) := IntWalk.i64_in _ (by omega)
          have b1 : Below w.heap.size w w1 := hb.grown hg1 hb.size (fun j hj => by injection hj with hj; omega)
          have hz1 := (hg1.block _ (lt_of_heap hz) (fun e => by injection e with e; omega)).trans hz
          have NO1 := Lib.hid (show ∀ y' kl', keyOf Try.prog 32 (votV y') = some kl' → y' ∈ S → (left kl' && !kl'.sameKey kl) = false → (¬ n < 2 * k) → ¬ n < 2 * S.count y' from fun y' kl' h1 h2 h3 h4 => by
            cases h5 : left kl' with
            | false => exact hno y' kl' h1 h2 h5
            | true =>
              rw [h5, Bool.true_and] at h3
              have h6 : kl' = kl := by
                rcases Classical.em (kl' = kl) with h | h
                · exact h
                · rw [Go.Maps.sameKey_ne h] at h3; cases h3
              have h7 : y' = y := votKey_inj (h6 ▸ h1) hyk
              rw [h7, ← hkk]; exact h4)
          have YS := Lib.hid hyS
          obtain ⟨sl, ⟨br, bn⟩, ⟨ck, cl, sq, nm, vl⟩⟩ := y
          have hen' : (Instr.entry (.pointer (some ⟨rr, 0, none⟩))).run Try.prog w1 = .ok (.tuple #[.agg #[.int .i64 sl, .int .i64 br, .int .i64 bn, .int .i64 ck, .int .i64 cl, .int .i64 sq, .int .i64 nm, .int .i64 vl], .int .i64 (k : Int)]) w1 := hen
          rw [show votV ⟨sl, (br, bn), ⟨ck, cl, sq, nm, vl⟩⟩ = .agg #[.int .i64 sl, .int .i64 br, .int .i64 bn, .int .i64 ck, .int .i64 cl, .int .i64 sq, .int .i64 nm, .int .i64 vl] from rfl]
          have HRG := Lib.hid hrg
          obtain ⟨left2, hl2⟩ : ∃ f, f = (fun z : Lit => left z && !z.sameKey kl) := ⟨_, rfl⟩
          rw [← hl2] at hrg1
          have HL2 := Lib.hid hl2
          have HRG1 := Lib.hid hrg1
          clear hl2
          have HB := Lib.hid b1
          have HZ := Lib.hid hz1
          clear hno hkk hen hrg hrg1 hg1 hs1 hz hb b1 hz1 hat1 hvc hlx hyS hyk hkx
          by_cases hmore : n < 2 * k
          · have hd1 : decide ((n : Int) < 2 * (k : Int)) = true := by rw [decide_eq_true_eq]; omega
            have hd1n : decide (n < 2 * k) = true := by rw [decide_eq_true_eq]; exact hmore
            go_upto_region 21 with fail
            generalize hW : World.alloc _ _ = w2
            have b2 : Below w1.heap.size w1 w2 := by rw [← hW]; exact (Below.refl _ _).alloc (Nat.le_refl _) _
            have hx2 : w2.heap[w1.heap.size]? = some (.cells #[.int .i64 sl, .int .i64 br, .int .i64 bn, .int .i64 ck, .int .i64 cl, .int .i64 sq, .int .i64 nm, .int .i64 vl] 32 (0, 0)) := by rw [← hW]; exact heapNew _ _
            have hz2 := (b2.block _ (lt_of_heap HZ.out)).trans HZ.out
            have hB2 : Below w.heap.size w w2 := HB.out.trans (b2.mono HB.out.size)
            have hlz := lt_of_heap HZ.out
            obtain ⟨vb, hvb⟩ : ∃ b, b = w1.heap.size := ⟨_, rfl⟩
            rw [← hvb] at hx2 ⊢
            have hvn : ¬ (vb = w.heap.size) := by omega
            have hvn' : ¬ (w.heap.size = vb) := by omega
            have s3 := cellAt hx2 3 rfl
            have s4 := cellAt hx2 4 rfl
            have s5 := cellAt hx2 5 rfl
            have s6 := cellAt hx2 6 rfl
            have s7 := cellAt hx2 7 rfl
            have f0 := cellAt hz2 0 rfl
            have f1 := cellAt hz2 1 rfl
            have f2 := cellAt hz2 2 rfl
            have f3 := cellAt hz2 3 rfl
            have f4 := cellAt hz2 4 rfl
            have ff := freeAt hz2
            have HZ2 := Lib.hid hz2
            have HB2 := Lib.hid hB2
            have RES := Lib.hid (show al.length < 2 * (slotV slot al).count ⟨sl, (br, bn), ⟨ck, cl, sq, nm, vl⟩⟩ by rw [← HSS.out, ← KK.out, ← HN.out]; exact hmore)
            clear hW b2 hx2 hz2 hB2 hvb HZ HB HRG HRG1 HL2 NO1 KK
            go_wp2_with fail
            have z5 := heapSet (o := 4) (heapSet (o := 3) (heapSet (o := 2) (heapSet (o := 1) (heapSet (o := 0) HZ2.out (.int .i64 ck)) (.int .i64 cl)) (.int .i64 sq)) (.int .i64 nm)) (.int .i64 vl)
            have b5 := ((((HB2.out.setCell (p := ⟨w.heap.size, 0, none⟩) (Nat.le_refl _) (.int .i64 ck)).setCell (p := ⟨w.heap.size, 1, none⟩) (Nat.le_refl _) (.int .i64 cl)).setCell (p := ⟨w.heap.size, 2, none⟩) (Nat.le_refl _) (.int .i64 sq)).setCell (p := ⟨w.heap.size, 3, none⟩) (Nat.le_refl _) (.int .i64 nm)).setCell (p := ⟨w.heap.size, 4, none⟩) (Nat.le_refl _) (.int .i64 vl)
            generalize hW : World.setCell _ _ _ = w5 at z5 b5 ⊢
            have hl := run_loadVar_mid (P := Try.prog) w5 w.heap.size 0 30 [.int .i64 ck, .int .i64 cl, .int .i64 sq, .int .i64 nm, .int .i64 vl] _ (range_of z5) Try.underlying30 rfl cmdSz
            exact bodyPost_ret (v := .tuple #[.agg #[.int .i64 ck, .int .i64 cl, .int .i64 sq, .int .i64 nm, .int .i64 vl], .int .i64 0]) (results_ct Try.results18 rfl hl) rfl ⟨b5, .inl ⟨_, by rw [HN.out]; exact RES.out, rfl⟩⟩
          · have hd1 : decide ((n : Int) < 2 * (k : Int)) = false := by rw [decide_eq_false_iff_not]; omega
            have hd1n : decide (n < 2 * k) = false := by rw [decide_eq_false_iff_not]; exact hmore
            go_wp2_with fail
            generalize hW : World.alloc _ _ = w2
            have hrg2 : w2.ranges Try.prog 32 (plainElem (H := Unit) Try.prog 3) (w.heap.size + 1) rr N D left2 cnt1 := by rw [← hW]; exact HRG1.out.alloc _
            have b2 : Below w.heap.size w w2 := by rw [← hW]; exact HB.out.alloc HB.out.size _
            have hz2 : w2.heap[w.heap.size]? = some (.cells #[.int .i64 0, .int .i64 0, .int .i64 0, .int .i64 0, .int .i64 0] 30 (0, 0)) := by rw [← hW]; exact (heapOld _ _ _ (lt_of_heap HZ.out)).trans HZ.out
            clear hW
            go_roundw
            case rel => exact ⟨_, cnt1, hrg2, fun y' kl' h1 h2 h3 => NO1.out y' kl' h1 h2 (by rw [HL2.out] at h3; exact h3) hmore, b2, hz2⟩
            case measure => rw [hrg2.left_eq, HRG.out.left_eq]; exact hlt
end Go.Proofs.Ytdkbajdnckmckaa

set_option linter.unusedVariables false
set_option linter.unusedSimpArgs false
namespace Go.Con
open Go Go.RowKit
/-- of two votes the better one for a slot -/
def better (s : Int) (b v : Vot) : Vot := if v.slot = s ∧ 0 < cmpB v.bal b.bal then v else b
def bestV (s : Int) (b : Vot) (l : List Vot) : Vot := l.foldl (better s) b
theorem bestV_snoc (s : Int) (b : Vot) (l : List Vot) (v : Vot) : bestV s b (l ++ [v]) = better s (bestV s b l) v := by
  unfold bestV; rw [List.foldl_append]; rfl
theorem bestV_append (s : Int) (b : Vot) (l m : List Vot) : bestV s b (l ++ m) = bestV s (bestV s b l) m := by
  unfold bestV; rw [List.foldl_append]
/-- a slice that shows rows of votes -/
def RdLs (w : World) (v : Value) (ls : List (List Vot)) : Prop :=
  ∃ a c, v = .slice a ls.length c ∧ ls.length ≤ c ∧ c ≤ maxLen ∧ (ls ≠ [] → ∃ b off, a = some ⟨b, off, none⟩ ∧ b < w.heap.size ∧ ∀ i, i < ls.length → ∃ x, w.cell? ⟨b, off + i, none⟩ = some x ∧ RdRow 8 votCells Vot.zero w x (ls.getD i []))
theorem RdLs.stay {w w' : World} {v : Value} {ls : List (List Vot)} (h : RdLs w v ls) (hb : Below w.heap.size w w') : RdLs w' v ls := by
  obtain ⟨a, c, rfl, h1, h2, h3⟩ := h
  refine ⟨a, c, rfl, h1, h2, fun hl => ?_⟩
  obtain ⟨b, off, rfl, hbl, hc⟩ := h3 hl
  refine ⟨b, off, rfl, Nat.lt_of_lt_of_le hbl hb.size, fun i hi => ?_⟩
  obtain ⟨x, hx, hr⟩ := hc i hi
  refine ⟨x, ?_, hr.heap (fun q _ hq => hb.block q hq)⟩
  rw [← hx]
  exact World.cell?_of_block (w := w) (hb.block b hbl)
/-- what Pick's loops keep -/
structure PickInv (t30 t32 : TypeId) (w wr : World) (b : Vot) : Prop where
  out : wr.heap[w.heap.size]? = some (.cells #[.int .i64 0, .int .i64 0, .int .i64 0, .int .i64 0, .int .i64 0] t30 (0, 0))
  best : wr.heap[w.heap.size + 1]? = some (.cells (votCells b).toArray t32 (0, 0))
  below : Below w.heap.size w wr
  room : w.heap.size + 1 < wr.heap.size
end Go.Con
namespace Go.Proofs.Ytdkbajdnckmckaa
open Go.RowKit Go.Con
abbrev PInv := PickInv 30 32
set_option maxRecDepth 100000 in
set_option maxHeartbeats 4000000 in
theorem Pick_any (v : Value) (ls : List (List Vot)) (s : Int) (w : World) (hv : RdLs w v ls) (hs0 : 0 ≤ s) (hs1 : s < 40) (hok : ∀ l ∈ ls, ∀ x ∈ l, okV x = true) :
    Calls Try.prog 11 #[v, .int .i64 s] w fun e w' => e = .returned (.tuple #[cmdV (bestV s Vot.zero ls.flatten).what, .bool (decide (0 < (bestV s Vot.zero ls.flatten).bal.1)), .int .i64 0]) ∧ Below w.heap.size w w' := by
  obtain ⟨ea, ec, rfl, hle, hcm, -⟩ := id hv
  obtain ⟨n, hn⟩ : ∃ n, n = ls.length := ⟨_, rfl⟩
  rw [← hn] at hv hle ⊢
  have hcm2 : ec ≤ 9223372036854775807 := hcm
  obtain ⟨R, hR⟩ : ∃ R, R = bestV s Vot.zero ls.flatten := ⟨_, rfl⟩
  rw [← hR]
  have HV := Lib.hid hv
  have HN := Lib.hid hn
  have HR := Lib.hid hR
  have HOK := Lib.hid hok
  have d0 : decide (s < 0) = false := by rw [decide_eq_false_iff_not]; omega
  have d1 : decide (40 ≤ s) = false := by rw [decide_eq_false_iff_not]; omega
  clear hv hn hR hok
  go_enter Try.func11, Try.ntmps11
  go_wp2_with fail
  generalize hW : World.alloc _ _ = w1
  have inv0 : PInv w w1 (bestV s Vot.zero (ls.take 0).flatten) := by
    rw [← hW]
    refine ⟨?_, ?_, ((Below.refl _ _).alloc (Nat.le_refl _) _).alloc (by simp) _, by simp⟩
    · rw [heapOld _ _ _ (by simp)]; exact heapNew _ _
    · have h := heapNew (w.alloc (.cells #[.int .i64 0, .int .i64 0, .int .i64 0, .int .i64 0, .int .i64 0] 30)) (.cells #[.int .i64 0, .int .i64 0, .int .i64 0, .int .i64 0, .int .i64 0, .int .i64 0, .int .i64 0, .int .i64 0] 32)
      have e : (w.alloc (.cells #[.int .i64 0, .int .i64 0, .int .i64 0, .int .i64 0, .int .i64 0] 30)).heap.size = w.heap.size + 1 := by simp
      rw [e] at h
      exact h
  have INV0 := Lib.hid inv0
  clear inv0 hW
  go_loopw [21] (fun i wr => ∃ j : Nat, j ≤ n ∧ i = .int .i64 j ∧ Hid (PInv w wr (bestV s Vot.zero (ls.take j).flatten))) (fun i _ => n - (intOf i).toNat)
  case atStart => exact ⟨0, by omega, rfl, INV0⟩
  case round =>
    obtain ⟨j, hjn, rfl, HI⟩ := hrel
    by_cases h1 : j < n
    · have hd1 : decide ((j : Int) < n) = true := by rw [decide_eq_true_eq]; omega
      have hd1n : decide (j < n) = true := by rw [decide_eq_true_eq]; omega
      obtain ⟨a', c', he, -, -, hcells⟩ := HV.out
      injection he with e1 e2 e3
      subst e1
      obtain ⟨eb, eoff, rfl, hel, hec⟩ := hcells (by intro h; have h2 := HN.out; rw [h] at h2; simp at h2; omega)
      have hjl : j < ls.length := by rw [← HN.out]; exact h1
      obtain ⟨x, hx, hrx⟩ := hec j hjl
      obtain ⟨l, hl⟩ : ∃ l, l = ls.getD j [] := ⟨_, rfl⟩
      rw [← hl] at hrx
      have htk : (ls.take (j + 1)).flatten = (ls.take j).flatten ++ l := by
        rw [List.take_add_one, List.getElem?_eq_getElem hjl, hl, List.getD_eq_getElem?_getD, List.getElem?_eq_getElem hjl, List.flatten_append]; simp
      have hokl : ∀ y ∈ l, okV y = true := HOK.out l (by rw [hl, List.getD_eq_getElem?_getD, List.getElem?_eq_getElem hjl]; exact List.getElem_mem _)
      have hxr : wr.cell? ⟨eb, eoff + j, none⟩ = some x := by
        rw [← hx]; exact World.cell?_of_block (w := w) (HI.out.below.block eb hel)
      obtain ⟨la, lc, rfl, hlc, hlm, -⟩ := id hrx
      obtain ⟨m, hm⟩ : ∃ m, m = l.length := ⟨_, rfl⟩
      rw [← hm] at hlc hxr hrx
      have hlm2 : lc ≤ 9223372036854775807 := hlm
      have HRX := Lib.hid hrx
      have HM := Lib.hid hm
      have HTK := Lib.hid htk
      have HOKL := Lib.hid hokl
      clear hcells hec hx hrx hl htk hokl hm hel e2 e3
      go_wp2_with fail
      clear hxr
      obtain ⟨B0, hB0⟩ : ∃ b, b = bestV s Vot.zero (ls.take j).flatten := ⟨_, rfl⟩
      rw [← hB0] at HI
      have HB0 := Lib.hid hB0
      clear hB0
      have inv1 : Hid (PInv w wr (bestV s B0 (l.take 0))) := Lib.hid HI.out
      go_loopw [27] (fun i wr => ∃ q : Nat, q ≤ m ∧ i = .int .i64 q ∧ Hid (PInv w wr (bestV s B0 (l.take q)))) (fun i _ => m - (intOf i).toNat)
      case atStart => exact ⟨0, by omega, rfl, inv1⟩
      case round =>
        clear inv1 HI
        obtain ⟨q, hqm, rfl, HI⟩ := hrel
        by_cases h2 : q < m
        · have hd2 : decide ((q : Int) < m) = true := by rw [decide_eq_true_eq]; omega
          have hd2n : decide (q < m) = true := by rw [decide_eq_true_eq]; omega
          obtain ⟨fb, foff, rfl, hfl, hfc⟩ := HRX.out.cells.2.2 q h2
          have hql : q < l.length := by rw [← HM.out]; exact h2
          obtain ⟨v, hv⟩ : ∃ v, v = l.getD q Vot.zero := ⟨_, rfl⟩
          rw [← hv] at hfc
          have hvok : okV v = true := HOKL.out v (by rw [hv, List.getD_eq_getElem?_getD, List.getElem?_eq_getElem hql]; exact List.getElem_mem _)
          have hBn : bestV s B0 (l.take (q + 1)) = better s (bestV s B0 (l.take q)) v := by
            rw [← bestV_snoc, List.take_add_one, List.getElem?_eq_getElem hql, hv, List.getD_eq_getElem?_getD, List.getElem?_eq_getElem hql]; rfl
          obtain ⟨B, hB⟩ : ∃ b, b = bestV s B0 (l.take q) := ⟨_, rfl⟩
          rw [← hB] at HI hBn
          have hfcr : ∀ p, p < 8 → wr.cell? ⟨fb, foff + (8 * q + p), none⟩ = (votCells v)[p]? := fun p hp => by
            rw [← hfc p hp]
            exact World.cell?_of_block (w := w) (HI.out.below.block fb hfl)
          have RM1 := HI.out.room
          obtain ⟨sl, ⟨br, bn⟩, ⟨k, cl, sq, nm, vl⟩⟩ := v
          obtain ⟨tl, ⟨tr, tn⟩, ⟨tk, tcl, tsq, tnm, tvl⟩⟩ := B
          obtain ⟨x0, x1, x2, x3, x4, x5, x6, x7⟩ := cellsV hfcr
          dsimp only at x0 x1 x2 x3 x4 x5 x6 x7 hBn
          obtain ⟨c2, hc2⟩ : ∃ c, c = cmpB (br, bn) (tr, tn) := ⟨_, rfl⟩
          have HC2 := Lib.hid hc2.symm
          have HVOK := Lib.hid hvok
          have hcase : ((sl == s) = false ∧ bestV s B0 (l.take (q + 1)) = ⟨tl, (tr, tn), ⟨tk, tcl, tsq, tnm, tvl⟩⟩) ∨ ((sl == s) = true ∧ decide (0 < c2) = false ∧ bestV s B0 (l.take (q + 1)) = ⟨tl, (tr, tn), ⟨tk, tcl, tsq, tnm, tvl⟩⟩) ∨ ((sl == s) = true ∧ decide (0 < c2) = true ∧ bestV s B0 (l.take (q + 1)) = ⟨sl, (br, bn), ⟨k, cl, sq, nm, vl⟩⟩) := by
            rw [hBn]
            unfold better
            dsimp only
            rw [← hc2]
            by_cases q1 : sl = s
            · by_cases q2 : 0 < c2
              · exact .inr (.inr ⟨by simpa using q1, by simpa using q2, if_pos ⟨q1, q2⟩⟩)
              · exact .inr (.inl ⟨by simpa using q1, by simpa using q2, if_neg (fun h => q2 h.2)⟩)
            · exact .inl ⟨by simpa using q1, if_neg (fun h => q1 h.1)⟩
          clear hfc hfcr hv hvok hBn hB hc2 hql hfl
          rcases hcase with ⟨q1, q3⟩ | ⟨q1, q2, q3⟩ | ⟨q1, q2, q3⟩
          · have Q3 := Lib.hid q3
            clear q3
            go_wp2_with (first
              | (go_at_call 20; refine (vote_to _ _ _ _ _ _ _ _ _ _ (by assumption)).mono ?_; rintro e w2 ⟨rfl, hb2⟩; have B2 := Lib.hid (((Below.refl wr.heap.size wr).alloc (Nat.le_refl _) (.cells #[.int .i64 sl, .int .i64 br, .int .i64 bn, .int .i64 k, .int .i64 cl, .int .i64 sq, .int .i64 nm, .int .i64 vl] 32)).trans (hb2.mono (by simp))); have g5 := (hb2.block wr.heap.size (by simp)).trans (heapNew _ _); have u0 := cellAt g5 0 rfl; clear hb2 g5))
            have INV : Hid (PInv w w2 (bestV s B0 (l.take (q + 1)))) := Lib.hid (by
              rw [Q3.out]
              refine ⟨(B2.out.block _ (by omega)).trans HI.out.out, (B2.out.block _ RM1).trans HI.out.best, HI.out.below.trans (B2.out.mono (by omega)), Nat.lt_of_lt_of_le RM1 B2.out.size⟩)
            go_roundw
            case rel => exact ⟨q + 1, by omega, by go_num, INV⟩
            case measure => simp [intOf]; omega
          · have Q3 := Lib.hid q3
            clear q3
            go_wp2_with (first
              | (go_at_call 20; refine (vote_to _ _ _ _ _ _ _ _ _ _ (by assumption)).mono ?_; rintro e w2 ⟨rfl, hb2⟩; have B2 := Lib.hid (((Below.refl wr.heap.size wr).alloc (Nat.le_refl _) (.cells #[.int .i64 sl, .int .i64 br, .int .i64 bn, .int .i64 k, .int .i64 cl, .int .i64 sq, .int .i64 nm, .int .i64 vl] 32)).trans (hb2.mono (by simp))); have g5 := (hb2.block wr.heap.size (by simp)).trans (heapNew _ _); have G5 := Lib.hid g5; have g7 := (B2.out.block _ RM1).trans HI.out.best; have G7 := Lib.hid g7; have u0 := cellAt g5 0 rfl; have u1 := cellAt g5 1 rfl; have u2 := cellAt g5 2 rfl; have p1 := cellAt g7 1 rfl; have p2 := cellAt g7 2 rfl; clear hb2 g5 g7)
              | (go_at_call 21; refine (compare_to _ _ _ _ _ _ (by assumption)).mono ?_; rintro e w3 ⟨rfl, hb3⟩; have B3 := Lib.hid (B2.out.trans (hb3.mono B2.out.size)); clear hb3))
            have INV : Hid (PInv w w3 (bestV s B0 (l.take (q + 1)))) := Lib.hid (by
              rw [Q3.out]
              refine ⟨(B3.out.block _ (by omega)).trans HI.out.out, (B3.out.block _ RM1).trans HI.out.best, HI.out.below.trans (B3.out.mono (by omega)), Nat.lt_of_lt_of_le RM1 B3.out.size⟩)
            go_roundw
            case rel => exact ⟨q + 1, by omega, by go_num, INV⟩
            case measure => simp [intOf]; omega
          · have Q3 := Lib.hid q3
            clear q3
            go_upto_region 14 with (first
              | (go_at_call 20; refine (vote_to _ _ _ _ _ _ _ _ _ _ (by assumption)).mono ?_; rintro e w2 ⟨rfl, hb2⟩; have B2 := Lib.hid (((Below.refl wr.heap.size wr).alloc (Nat.le_refl _) (.cells #[.int .i64 sl, .int .i64 br, .int .i64 bn, .int .i64 k, .int .i64 cl, .int .i64 sq, .int .i64 nm, .int .i64 vl] 32)).trans (hb2.mono (by simp))); have g5 := (hb2.block wr.heap.size (by simp)).trans (heapNew _ _); have G5 := Lib.hid g5; have g7 := (B2.out.block _ RM1).trans HI.out.best; have G7 := Lib.hid g7; have u0 := cellAt g5 0 rfl; have u1 := cellAt g5 1 rfl; have u2 := cellAt g5 2 rfl; have p1 := cellAt g7 1 rfl; have p2 := cellAt g7 2 rfl; clear hb2 g5 g7)
              | (go_at_call 21; refine (compare_to _ _ _ _ _ _ (by assumption)).mono ?_; rintro e w3 ⟨rfl, hb3⟩; have B3 := Lib.hid (B2.out.trans (hb3.mono B2.out.size)); have k5 := (hb3.block _ (lt_of_heap G5.out)).trans G5.out; have k7 := (hb3.block _ (lt_of_heap G7.out)).trans G7.out; have K7 := Lib.hid k7; have y0 := cellAt k5 0 rfl; have y1 := cellAt k5 1 rfl; have y2 := cellAt k5 2 rfl; have y3 := cellAt k5 3 rfl; have y4 := cellAt k5 4 rfl; have y5 := cellAt k5 5 rfl; have y6 := cellAt k5 6 rfl; have y7 := cellAt k5 7 rfl; have z0 := cellAt k7 0 rfl; have z1 := cellAt k7 1 rfl; have z2 := cellAt k7 2 rfl; have z3 := cellAt k7 3 rfl; have z4 := cellAt k7 4 rfl; have z5 := cellAt k7 5 rfl; have z6 := cellAt k7 6 rfl; have z7 := cellAt k7 7 rfl; have zf := freeAt k7; clear hb3 k5 k7))
            generalize hW : World.setCell _ _ _ = w4
            have INV : Hid (PInv w w4 (bestV s B0 (l.take (q + 1)))) := Lib.hid (by
              rw [Q3.out, ← hW]
              have hne : w.heap.size ≠ w.heap.size + 1 := by omega
              have hle : w.heap.size ≤ w.heap.size + 1 := by omega
              have b3 := HI.out.below.trans (B3.out.mono (by omega))
              refine ⟨?_, ?_, ?_, ?_⟩
              · rw [heapSet_ne _ _ hne, heapSet_ne _ _ hne, heapSet_ne _ _ hne, heapSet_ne _ _ hne, heapSet_ne _ _ hne, heapSet_ne _ _ hne, heapSet_ne _ _ hne, heapSet_ne _ _ hne]
                exact (B3.out.block _ (by omega)).trans HI.out.out
              · exact heapSet (heapSet (heapSet (heapSet (heapSet (heapSet (heapSet (heapSet K7.out _) _) _) _) _) _) _) _
              · exact (((((((b3.setCell hle _).setCell hle _).setCell hle _).setCell hle _).setCell hle _).setCell hle _).setCell hle _).setCell hle _
              · simp; exact Nat.lt_of_lt_of_le RM1 B3.out.size)
            clear hW
            clear z0 z1 z2 z3 z4 z5 z6 z7 zf y0 y1 y2 y3 y4 y5 y6 y7
            go_wp2_with fail
            go_roundw
            case rel => exact ⟨q + 1, by omega, by go_num, INV⟩
            case measure => simp [intOf]; omega
        · have hqm2 : q = m := by omega
          have hd2 : decide ((q : Int) < m) = false := by rw [decide_eq_false_iff_not]; omega
          have hd2n : decide (q < m) = false := by rw [decide_eq_false_iff_not]; omega
          have INV : Hid (PInv w wr (bestV s Vot.zero (ls.take (j + 1)).flatten)) := Lib.hid (by
            have h := HI.out
            rw [show l.take q = l by rw [hqm2, HM.out, List.take_length], HB0.out, ← bestV_append, ← HTK.out] at h
            exact h)
          clear hqm2
          go_wp2_with fail
          go_roundw
          case rel => exact ⟨j + 1, by omega, by go_num, INV⟩
          case measure => simp [intOf]; omega
    · have hjn2 : j = n := by omega
      have hd1 : decide ((j : Int) < n) = false := by rw [decide_eq_false_iff_not]; omega
      have hd1n : decide (j < n) = false := by rw [decide_eq_false_iff_not]; omega
      have INV : Hid (PInv w wr R) := Lib.hid (by
        have h := HI.out
        rw [show ls.take j = ls by rw [hjn2, HN.out, List.take_length], ← HR.out] at h
        exact h)
      clear hjn2
      obtain ⟨tl, ⟨tr, tn⟩, ⟨tk, tcl, tsq, tnm, tvl⟩⟩ := R
      have k7 := INV.out.best
      have k5 := INV.out.out
      have z1 : wr.cell? ⟨w.heap.size + 1, 1, none⟩ = some (.int .i64 tr) := cellAt k7 1 rfl
      have z3 : wr.cell? ⟨w.heap.size + 1, 3, none⟩ = some (.int .i64 tk) := cellAt k7 3 rfl
      have z4 : wr.cell? ⟨w.heap.size + 1, 4, none⟩ = some (.int .i64 tcl) := cellAt k7 4 rfl
      have z5 : wr.cell? ⟨w.heap.size + 1, 5, none⟩ = some (.int .i64 tsq) := cellAt k7 5 rfl
      have z6 : wr.cell? ⟨w.heap.size + 1, 6, none⟩ = some (.int .i64 tnm) := cellAt k7 6 rfl
      have z7 : wr.cell? ⟨w.heap.size + 1, 7, none⟩ = some (.int .i64 tvl) := cellAt k7 7 rfl
      have y0 : wr.cell? ⟨w.heap.size, 0, none⟩ = some (.int .i64 0) := cellAt k5 0 rfl
      have y1 : wr.cell? ⟨w.heap.size, 1, none⟩ = some (.int .i64 0) := cellAt k5 1 rfl
      have y2 : wr.cell? ⟨w.heap.size, 2, none⟩ = some (.int .i64 0) := cellAt k5 2 rfl
      have y3 : wr.cell? ⟨w.heap.size, 3, none⟩ = some (.int .i64 0) := cellAt k5 3 rfl
      have y4 : wr.cell? ⟨w.heap.size, 4, none⟩ = some (.int .i64 0) := cellAt k5 4 rfl
      have yf := freeAt k5
      clear k5 k7
      go_wp2_with fail
      go_region_held3 (fun w' => w'.cell? ⟨w.heap.size + 1, 1, none⟩ = some (.int .i64 tr) ∧ w'.cell? ⟨w.heap.size + 1, 3, none⟩ = some (.int .i64 tk) ∧ w'.cell? ⟨w.heap.size + 1, 4, none⟩ = some (.int .i64 tcl) ∧ w'.cell? ⟨w.heap.size + 1, 5, none⟩ = some (.int .i64 tsq) ∧ w'.cell? ⟨w.heap.size + 1, 6, none⟩ = some (.int .i64 tnm) ∧ w'.cell? ⟨w.heap.size + 1, 7, none⟩ = some (.int .i64 tvl)) (go_keep) (fail)
      all_goals go_wp2_with fail
      generalize hW : World.drew _ = w5
      have z5' : w5.heap[w.heap.size]? = some (.cells #[.int .i64 tk, .int .i64 tcl, .int .i64 tsq, .int .i64 tnm, .int .i64 tvl] 30 (0, 0)) := by
        rw [← hW]; exact heapSet (heapSet (heapSet (heapSet (heapSet INV.out.out _) _) _) _) _
      have b5 : Below w.heap.size w w5 := by
        have hle : w.heap.size ≤ w.heap.size := Nat.le_refl _
        rw [← hW]; exact (((((INV.out.below.setCell hle _).setCell hle _).setCell hle _).setCell hle _).setCell hle _).drew
      clear hW z1 z3 z4 z5 z6 z7 y0 y1 y2 y3 y4 yf
      have a0 : w5.cell? ⟨w.heap.size, 0, none⟩ = some (.int .i64 tk) := cellAt z5' 0 rfl
      have a1 : w5.cell? ⟨w.heap.size, 1, none⟩ = some (.int .i64 tcl) := cellAt z5' 1 rfl
      have a2 : w5.cell? ⟨w.heap.size, 2, none⟩ = some (.int .i64 tsq) := cellAt z5' 2 rfl
      have a3 : w5.cell? ⟨w.heap.size, 3, none⟩ = some (.int .i64 tnm) := cellAt z5' 3 rfl
      have a4 : w5.cell? ⟨w.heap.size, 4, none⟩ = some (.int .i64 tvl) := cellAt z5' 4 rfl
      refine bodyPost_ret (v := .tuple #[.agg #[.int .i64 tk, .int .i64 tcl, .int .i64 tsq, .int .i64 tnm, .int .i64 tvl], .bool (decide (0 < tr)), .int .i64 0]) ?_ rfl ⟨rfl, b5⟩
      simp [results, Try.results11, go_sem, a0, a1, a2, a3, a4]
end Go.Proofs.Ytdkbajdnckmckaa
