/-
  The walk of vault.Chain.
-/
import Derived.Test.YtocdnochnjlhlaaDoorDon
import Derived.Test.YtocdnochnjlhlaaDoorLnk
import Derived.Test.YtocdnochnjlhlaaDoorStp
import Derived.Deep.RegionHeld3
set_option linter.unusedVariables false
set_option linter.unusedSimpArgs false
namespace Go.Con
open Go
/-- an entry of a chain: the command, the answer, and where its sum lies -/
structure Ent where
  what : Cmd
  ans : Int × Int
  sum : Value
def entCells (e : Ent) : List Value := [.int .i64 e.what.kind, .int .i64 e.what.client, .int .i64 e.what.seq, .int .i64 e.what.name, .int .i64 e.what.value, .int .i64 e.ans.1, .int .i64 e.ans.2, e.sum]
/-- the last sum behind commands -/
def Sto.tip (s : Sto) (h : List UInt8) : List Cmd → List UInt8
  | [] => h
  | c :: l => (s.next c).tip (linkB h c (s.answer c)) l
/-- the sums of a chain -/
def Sto.sums (s : Sto) (h : List UInt8) : List Cmd → List (List UInt8)
  | [] => []
  | c :: l => linkB h c (s.answer c) :: (s.next c).sums (linkB h c (s.answer c)) l
theorem Sto.tip_snoc (s : Sto) (h : List UInt8) (l : List Cmd) (c : Cmd) : s.tip h (l ++ [c]) = linkB (s.tip h l) c ((s.all l).answer c) := by
  induction l generalizing s h with
  | nil => rfl
  | cons d l ih => exact ih (s.next d) (linkB h d (s.answer d))
theorem Sto.sums_snoc (s : Sto) (h : List UInt8) (l : List Cmd) (c : Cmd) : s.sums h (l ++ [c]) = s.sums h l ++ [linkB (s.tip h l) c ((s.all l).answer c)] := by
  induction l generalizing s h with
  | nil => rfl
  | cons d l ih => exact congrArg (linkB h d (s.answer d) :: ·) (ih (s.next d) (linkB h d (s.answer d)))
theorem Sto.sums_length (s : Sto) (h : List UInt8) (l : List Cmd) : (s.sums h l).length = l.length := by
  induction l generalizing s h with
  | nil => rfl
  | cons d l ih => exact congrArg (· + 1) (ih (s.next d) (linkB h d (s.answer d)))
theorem linkB_length (h : List UInt8) (c : Cmd) (a : Int × Int) : (linkB h c a).length = 32 := Sha.sum_length _
theorem Sto.tip_length (s : Sto) (h : List UInt8) (hh : h.length = 32) (l : List Cmd) : (s.tip h l).length = 32 := by
  induction l generalizing s h with
  | nil => exact hh
  | cons d l ih => exact ih (s.next d) _ (linkB_length _ _ _)
theorem Sto.answer_nonneg (s : Sto) (h : s.Ok) (c : Cmd) (hc : checkC c = 0) : 0 ≤ (s.answer c).1 ∧ 0 ≤ (s.answer c).2 := by
  rcases checkC_real hc with rfl | hr
  · rw [(Sto.next_noop s).2]; exact ⟨by decide, by decide⟩
  · have c0 := hr.c0
    have c7 := hr.c7
    have n0 := hr.n0
    have n7 := hr.n7
    have v0 := hr.v0
    have ht : 0 ≤ s.told c := by
      unfold Sto.told
      split
      · exact v0
      · split
        · exact h.val0 _ (by omega)
        · exact Int.le_refl _
    unfold Sto.answer
    split
    · exact ⟨by decide, by decide⟩
    split
    · exact ⟨by dsimp only; rw [h.code0 _ (by omega)]; decide, h.av0 _ (by omega)⟩
    split
    · exact ⟨by decide, by decide⟩
    split
    · exact ⟨by decide, by decide⟩
    exact ⟨Int.le_refl _, ht⟩
end Go.Con
namespace Go.Proofs.YtocdnochnjlhlaaDoor
open Go.RowKit Go.Con
/-- a row of entries of the call's own -/
def OwnE (w : World) (base : Nat) (v : Value) (l : List Ent) : Prop := w.ownsRow base 45 8 v l.length (l.flatMap entCells)
theorem infoEnt : (Tryd.prog.info? 45).map (fun i => (i.zero, i.size, i.bytes)) = some (some (.agg #[.int .i64 0, .int .i64 0, .int .i64 0, .int .i64 0, .int .i64 0, .int .i64 0, .int .i64 0, .slice none 0 0]), 8, 80) := by kernel_rfl
section
variable {ops : Array Oper} {o : Oper} {a : Act} {w : World} {K : Act → World → Prop} {Q : Exit → Act → World → Prop} {E : Prop}
theorem step_apE (hg : o.guard = none) (s x : Operand) (ho : o.op = .call { callee := .builtin .append, args := #[s, x], argTypes := #[35, 35] })
    (base : Nat) (v : Value) (l : List Ent) (c : Ent) (g : Nat) (hs : a.eval s = v) (hown : OwnE w base v l) (hx : a.eval x = .slice (some ⟨g, 0, none⟩) 1 1) (hsrc : w.heap[g]? = some (.cells (entCells c).toArray 45 (0, 0))) (h1c : c.sum.oneCell' = true) (hlen : l.length ≤ 1000000) (hbase : base ≤ w.heap.size)
    (h : ∀ v' w', OwnE w' base v' (l ++ [c]) → w.grownBy w' v.ownBlock → (v'.ownBlock = v.ownBlock ∨ v'.ownBlock = some w.heap.size) → K (a.put o.dst v') w') : if Region.wanted o (yielded ops a.tmps) = true then Oper.wp Tryd.prog o a w K Q else E := by
  have hw : Region.wanted o (yielded ops a.tmps) = true := by simp [Region.wanted, hg]
  rw [if_pos hw]
  obtain ⟨i, hi, hz, hsz, hb⟩ := info_part infoEnt
  obtain ⟨v', w', hr, h2, h3, h4, h5⟩ := run_append_own_at (P := Tryd.prog) w base 35 o.type 45 i _ 8 80 Tryd.underlying35 hi hz hsz hb rfl (by decide) v l.length (l.flatMap entCells) hown ⟨g, 0, none⟩ 1 1 (entCells c) rfl (fun j u hu => by
    have hj := cellAt hsrc j (by simpa using hu)
    rw [Addr.add_mid, Nat.zero_add]; exact hj) (fun u hu => by
    simp [entCells] at hu
    rcases hu with rfl | rfl | rfl | rfl | rfl | rfl | rfl | rfl <;> first | rfl | exact h1c) (by unfold maxLen; omega) (by omega) hbase
  refine Lib.wp_append_run w s x _ _ ho _ _ hs hx v' w' hr (h v' w' ?_ h3 h5)
  unfold OwnE
  rw [List.length_append, List.flatMap_append]
  simpa using h2
end
/-- what Chain's loop keeps -/
structure ChainInv (b : Nat) (w wr : World) (l : List Cmd) (h0 : List UInt8) (ov hv : Value) (es : List Ent) : Prop where
  sto : wr.heap[b]? = some (.cells (Sto.zero.all l).cells.toArray 30 (0, 0))
  own : OwnE wr (b + 1) ov es
  len : es.length = l.length
  what : ∀ i e, es[i]? = some e → e.what = l.getD i Cmd.zero ∧ e.ans = (Sto.zero.answers l).getD i (0, 0) ∧ Rd wr e.sum ((Sto.zero.sums h0 l).getD i []) ∧ ∀ k, e.sum.ownBlock = some k → b < k ∧ k < wr.heap.size ∧ ov.ownBlock ≠ some k
  cur : Rd wr hv (Sto.zero.tip h0 l)
  curA : ∀ k, hv.ownBlock = some k → b < k ∧ k < wr.heap.size ∧ ov.ownBlock ≠ some k
  below : Below b w wr
  room : b < wr.heap.size
  ok : (Sto.zero.all l).Ok
  dis : ∀ (i j : Nat) (e e' : Ent), es[i]? = some e → es[j]? = some e' → i ≠ j → ∀ q, e.sum.ownBlock = some q → e'.sum.ownBlock ≠ some q
  free : ∀ (i : Nat) (e : Ent), es[i]? = some e → ∀ q, e.sum.ownBlock = some q → ∃ cur t, wr.heap[q]? = some (.cells cur t (0, 0))
theorem Rd.ofHeap {w w' : World} {v : Value} {l : List UInt8} (h : Rd w v l) (hh : ∀ k, v.ownBlock = some k → k < w.heap.size → w'.heap[k]? = w.heap[k]?) : Rd w' v l := by
  obtain ⟨a, c, rfl, h1, h2, h0, h3⟩ := h
  refine ⟨a, c, rfl, h1, h2, h0, fun hl => ?_⟩
  obtain ⟨b, off, rfl, hc⟩ := h3 hl
  refine ⟨b, off, rfl, fun i hi => ?_⟩
  have h4 := hc i hi
  rw [← h4]
  exact World.cell?_of_block (w := w) (hh b rfl (World.block_lt_of_cell? w _ h4))
theorem own_free {w : World} {base : Nat} {v : Value} {l : List UInt8} (h : Own w base v l) : ∀ k, v.ownBlock = some k → ∃ cur t, w.heap[k]? = some (.cells cur t (0, 0)) := by
  intro k hk
  obtain ⟨-, h2⟩ := h
  rcases h2 with ⟨rfl, hn⟩ | ⟨g, cap, cur, rfl, hb, hg, r⟩
  · cases hk
  · injection hk with e; subst e; exact ⟨cur, _, hg⟩
theorem snoc_get {α : Type} {l : List α} {x e : α} {i : Nat} (h : (l ++ [x])[i]? = some e) : (i < l.length ∧ l[i]? = some e) ∨ (i = l.length ∧ e = x) := by
  rcases Nat.lt_trichotomy i l.length with h1 | h1 | h1
  · rw [List.getElem?_append_left h1] at h; exact .inl ⟨h1, h⟩
  · subst h1
    rw [List.getElem?_append_right (Nat.le_refl _), Nat.sub_self] at h
    injection h with h
    exact .inr ⟨rfl, h.symm⟩
  · rw [List.getElem?_append_right (by omega), List.getElem?_eq_none (by simp; omega)] at h
    cases h
/-- one more entry -/
theorem ChainInv.more {b : Nat} {w wr w4 w5 : World} {l : List Cmd} {h0 : List UInt8} {ov hv ov' hv' sv : Value} {es : List Ent} {c : Cmd} {S' : Sto} {an : Int × Int} {tp : List UInt8} {o1 : Obj} (HI : ChainInv b w wr l h0 ov hv es)
    (h8 : w4.heap[b]? = some (.cells S'.cells.toArray 30 (0, 0))) (hk : ∀ k, k < wr.heap.size → k ≠ b → w4.heap[k]? = wr.heap[k]?) (hB : Below b wr w4) (hs : wr.heap.size ≤ w4.heap.size)
    (hcur : Rd w4 hv' tp) (hcurA : ∀ k, hv'.ownBlock = some k → wr.heap.size ≤ k ∧ k < w4.heap.size) (hsum : Rd w4 sv tp) (hsumA : ∀ k, sv.ownBlock = some k → wr.heap.size ≤ k ∧ k < w4.heap.size) (hsumF : ∀ k, sv.ownBlock = some k → ∃ cur t, w4.heap[k]? = some (.cells cur t (0, 0)))
    (oe : OwnE w5 (b + 1) ov' (es ++ [⟨c, an, sv⟩])) (ge : (w4.alloc o1).grownBy w5 ov.ownBlock) (ate : ov'.ownBlock = ov.ownBlock ∨ ov'.ownBlock = some (w4.alloc o1).heap.size)
    (hall : Sto.zero.all (l ++ [c]) = S') (hans : Sto.zero.answers (l ++ [c]) = Sto.zero.answers l ++ [an]) (htip : Sto.zero.tip h0 (l ++ [c]) = tp) (hsums : Sto.zero.sums h0 (l ++ [c]) = Sto.zero.sums h0 l ++ [tp]) (hok : S'.Ok) : ChainInv b w w5 (l ++ [c]) h0 ov' hv' (es ++ [⟨c, an, sv⟩]) := by
  have rm := HI.room
  have lo := row_lt HI.own
  have e1 : (w4.alloc o1).heap.size = w4.heap.size + 1 := by simp
  have s5 : w4.heap.size + 1 ≤ w5.heap.size := by rw [← e1]; exact ge.size
  have st : ∀ k, k < w4.heap.size → ov.ownBlock ≠ some k → w5.heap[k]? = w4.heap[k]? := fun k h1 h2 => (ge.block k (by omega) (fun e => h2 e.symm)).trans (heapOld _ _ _ h1)
  have ap : ∀ k, k < w4.heap.size → ov.ownBlock ≠ some k → ov'.ownBlock ≠ some k := by
    intro k h1 h2 h3
    rcases ate with h | h
    · exact h2 (h.symm.trans h3)
    · rw [h] at h3; injection h3 with h4; omega
  have nb : ∀ k, wr.heap.size ≤ k → ov.ownBlock ≠ some k := fun k h1 h2 => by have := (lo k h2).2; omega
  refine ⟨?_, oe, by simp [HI.len], ?_, ?_, ?_, ?_, by omega, by rw [hall]; exact hok, ?_, ?_⟩
  · rw [st b (by omega) (fun h => by have := (lo b h).1; omega), h8, hall]
  · intro i e he
    by_cases hi : i < es.length
    · rw [List.getElem?_append_left hi] at he
      obtain ⟨q1, q2, q3, q4⟩ := HI.what i e he
      have hi2 : i < l.length := by rw [← HI.len]; exact hi
      refine ⟨?_, ?_, ?_, fun k hk2 => ?_⟩
      · rw [q1, List.getD_eq_getElem?_getD, List.getD_eq_getElem?_getD, List.getElem?_append_left hi2]
      · rw [q2, hans, List.getD_eq_getElem?_getD, List.getD_eq_getElem?_getD, List.getElem?_append_left (by rw [Sto.answers_length]; exact hi2)]
      · rw [hsums]
        have e3 : (Sto.zero.sums h0 l ++ [tp]).getD i [] = (Sto.zero.sums h0 l).getD i [] := by
          rw [List.getD_eq_getElem?_getD, List.getD_eq_getElem?_getD, List.getElem?_append_left (by rw [Sto.sums_length]; exact hi2)]
        rw [e3]
        exact q3.ofHeap (fun k h1 h2 => by have h3 := q4 k h1; rw [st k (by omega) h3.2.2]; exact hk k h2 (by omega))
      · have h3 := q4 k hk2
        exact ⟨h3.1, by omega, ap k (by omega) h3.2.2⟩
    · have hi2 : i = es.length := by
        have := (List.getElem?_eq_some_iff.1 he).1
        simp at this; omega
      subst hi2
      rw [List.getElem?_append_right (Nat.le_refl _), Nat.sub_self] at he
      injection he with he
      subst he
      refine ⟨?_, ?_, ?_, fun k hk2 => ?_⟩
      · rw [HI.len]; simp
      · rw [hans, HI.len, ← Sto.answers_length Sto.zero l]; simp
      · rw [hsums, HI.len, ← Sto.sums_length Sto.zero h0 l]
        simp
        exact hsum.ofHeap (fun k h1 h2 => st k h2 (nb k (hsumA k h1).1))
      · have h3 := hsumA k hk2
        exact ⟨by omega, by omega, ap k h3.2 (nb k h3.1)⟩
  · rw [htip]
    exact hcur.ofHeap (fun k h1 h2 => st k h2 (nb k (hcurA k h1).1))
  · intro k hk2
    have h3 := hcurA k hk2
    exact ⟨by omega, by omega, ap k h3.2 (nb k h3.1)⟩
  · exact Below.grown (Below.alloc (HI.below.trans hB) (by omega) o1) ge (by omega) (fun k hk2 => by have := (lo k hk2).1; omega)
  · intro i j e e' hi hj hij q hq1 hq2
    rcases snoc_get hi with ⟨a1, a2⟩ | ⟨a1, rfl⟩ <;> rcases snoc_get hj with ⟨b1, b2⟩ | ⟨b1, rfl⟩
    · exact HI.dis i j e e' a2 b2 hij q hq1 hq2
    · have h1 := ((HI.what i e a2).2.2.2 q hq1).2.1
      have h2 := (hsumA q hq2).1
      omega
    · have h1 := ((HI.what j e' b2).2.2.2 q hq2).2.1
      have h2 := (hsumA q hq1).1
      omega
    · exact hij (a1.trans b1.symm)
  · intro i e hi q hq
    rcases snoc_get hi with ⟨a1, a2⟩ | ⟨a1, rfl⟩
    · obtain ⟨cur, t, hc⟩ := HI.free i e a2 q hq
      have h3 := (HI.what i e a2).2.2.2 q hq
      exact ⟨cur, t, by rw [st q (by omega) h3.2.2, hk q h3.2.1 (by omega)]; exact hc⟩
    · obtain ⟨cur, t, hc⟩ := hsumF q hq
      have h3 := hsumA q hq
      exact ⟨cur, t, by rw [st q h3.2 (nb q h3.1)]; exact hc⟩
theorem OwnC.wishes {w : World} {base : Nat} {v : Value} {l : List Cmd} (h : OwnC w base v l) (hok : ∀ c ∈ l, WishOk c) : RdWishes w v l := by
  obtain ⟨h1, h2⟩ := h
  rcases h2 with ⟨rfl, hn⟩ | ⟨g, cap, cur, rfl, hb, hg, hnc, hcm, hcs, htake⟩
  · have : l = [] := List.eq_nil_of_length_eq_zero hn
    subst this
    exact ⟨none, 0, rfl, Nat.le_refl _, Nat.zero_le _, (fun x h => by cases h), fun h => absurd rfl h⟩
  · refine ⟨some ⟨g, 0, none⟩, cap, rfl, hnc, hcm, hok, fun _ => ⟨g, 0, rfl, fun i hi j hj => ?_⟩⟩
    have hfl : ∀ (l : List Cmd) (i : Nat), i < l.length → ∀ j, j < 5 → (l.flatMap wishCells)[5 * i + j]? = (wishCells (l.getD i Cmd.zero))[j]? := by
      intro l
      induction l with
      | nil => intro i hi; cases hi
      | cons c l ih =>
        intro i hi j hj
        rw [List.flatMap_cons]
        cases i with
        | zero =>
          rw [Nat.mul_zero, Nat.zero_add, List.getElem?_append_left (by simp [wishCells]; exact hj)]; rfl
        | succ i =>
          rw [List.getElem?_append_right (by simp [wishCells]; omega)]
          have e : 5 * (i + 1) + j - (wishCells c).length = 5 * i + j := by simp [wishCells]; omega
          rw [e]
          exact ih i (by simpa using hi) j hj
    rw [Nat.zero_add]
    have h5 := hfl l i hi j hj
    rw [← h5]
    have hlt : 5 * i + j < (l.flatMap wishCells).length := by rw [h1]; omega
    have hcur : cur[5 * i + j]? = (l.flatMap wishCells)[5 * i + j]? := by
      rw [← htake, List.getElem?_take, if_pos (by omega)]; simp
    rw [List.getElem?_eq_getElem hlt] at hcur ⊢
    exact cellAt hg _ hcur
/-- what Chain hands back -/
structure ChainPost (w wf : World) (l : List Cmd) (h0 : List UInt8) (ov : Value) (es : List Ent) : Prop where
  own : OwnE wf w.heap.size ov es
  len : es.length = l.length
  what : ∀ i e, es[i]? = some e → e.what = l.getD i Cmd.zero ∧ e.ans = (Sto.zero.answers l).getD i (0, 0) ∧ Rd wf e.sum ((Sto.zero.sums h0 l).getD i []) ∧ ∀ k, e.sum.ownBlock = some k → w.heap.size ≤ k ∧ k < wf.heap.size
  below : Below w.heap.size w wf
  dis : ∀ (i j : Nat) (e e' : Ent), es[i]? = some e → es[j]? = some e' → i ≠ j → ∀ q, e.sum.ownBlock = some q → e'.sum.ownBlock ≠ some q
  free : ∀ (i : Nat) (e : Ent), es[i]? = some e → ∀ q, e.sum.ownBlock = some q → ov.ownBlock ≠ some q ∧ ∃ cur t, wf.heap[q]? = some (.cells cur t (0, 0))
theorem alloc3 (w : World) (A B C : Obj) : (((w.alloc A).alloc B).alloc C).heap[w.heap.size]? = some A ∧ (((w.alloc A).alloc B).alloc C).heap[w.heap.size + 1]? = some B ∧ (((w.alloc A).alloc B).alloc C).heap[w.heap.size + 1 + 1]? = some C ∧ Below w.heap.size w (((w.alloc A).alloc B).alloc C) := by
  have h := frame4 (Below.refl _ ((((w.alloc A).alloc B).alloc C).alloc A))
  have e : (((w.alloc A).alloc B).alloc C).heap.size = w.heap.size + 3 := by simp
  refine ⟨?_, ?_, ?_, ?_⟩
  · have := h.1; rwa [heapOld _ _ _ (by omega)] at this
  · have := h.2.1; rwa [heapOld _ _ _ (by omega)] at this
  · have := h.2.2.1; rwa [heapOld _ _ _ (by omega)] at this
  · exact (((Below.refl w.heap.size w).alloc (Nat.le_refl _) _).alloc (by simp) _).alloc (by simp; omega) _
theorem results_tct {P : Program} {fn : Func} {tmps : Array Value} {w : World} {a b c : Nat} {t : TypeId} {ad : Addr} {v : Value} (hr : fn.results = #[.tmp a, .cell b t, .tmp c]) (ht : tmps.getD b undef = .pointer (some ad))
    (hl : (loadVar t ad).run P w = .ok v w) : (results fn tmps).run P w = .ok (.tuple #[tmps.getD a undef, v, tmps.getD c undef]) w := by
  unfold results
  rw [hr]
  simp only [Array.getD_eq_getD_getElem?] at ht
  generalize loadVar = L at hl ⊢
  simp [ht, hl, go_sem]
theorem chain_end {w w0 wr wf : World} {b5 : Nat} {L : List Cmd} {h0 : List UInt8} {S : Sto} {ov hv : Value} {es : List Ent} {a : Act} (hS : S = Sto.zero.all L) (hok : S.Ok) (HI : ChainInv b5 w0 wr L h0 ov hv es) (h5 : b5 = w.heap.size + 1)
    (f4 : wf.heap[w.heap.size]? = some (.cells S.cells.toArray 30 (0, 0))) (fk : ∀ k, k < wr.heap.size → k ≠ w.heap.size → wf.heap[k]? = wr.heap[k]?) (fs : wf.heap.size = wr.heap.size) (fb : Below w.heap.size w wf)
    (ht3 : a.tmps.getD 3 undef = .pointer (some ⟨w.heap.size, 0, none⟩)) (h2 : a.tmps.getD 2 undef = ov) (h4 : a.tmps.getD 4 undef = .int .i64 0) (hd : a.defers = []) :
    bodyPost Tryd.prog Tryd.f6 (fun e w' => ∃ ov es, e = .returned (.tuple #[ov, .agg (Sto.zero.all L).cells.toArray, .int .i64 0]) ∧ ChainPost w w' L h0 ov es) .ret a wf := by
  subst hS
  have l1 := run_loadVar_mid (P := Tryd.prog) wf w.heap.size 0 30 _ _ (range_of f4) Tryd.underlying30 rfl (by rw [stoLen hok]; exact stoSz)
  have hr := results_tct (P := Tryd.prog) Tryd.results6 ht3 l1
  rw [h2, h4] at hr
  refine bodyPost_ret hr hd ⟨_, es, rfl, ⟨?_, HI.len, ?_, fb, HI.dis, ?_⟩⟩
  · refine row_mono (row_ofHeap HI.own (fun k hk => ?_)) (show w.heap.size ≤ b5 + 1 by omega)
    have := row_lt HI.own k hk
    exact fk k this.2 (by omega)
  · intro i e he
    obtain ⟨q1, q2, q3, q4⟩ := HI.what i e he
    refine ⟨q1, q2, q3.ofHeap (fun k h1 h2 => ?_), fun k hk => ?_⟩
    · have h3 := q4 k h1
      exact fk k h2 (by omega)
    · have h3 := q4 k hk
      exact ⟨by omega, by omega⟩
  · intro i e he q hq
    have h3 := (HI.what i e he).2.2.2 q hq
    obtain ⟨cur, t, hc⟩ := HI.free i e he q hq
    exact ⟨h3.2.2, cur, t, by rw [fk q h3.2.1 (by omega)]; exact hc⟩
set_option maxRecDepth 100000 in
set_option maxHeartbeats 1000000 in
theorem Chain_any (v : Value) (l : List Cmd) (w : World) (hv : RdWishes w v l) (hck : ∀ c ∈ l, checkC c = 0) (hlen : l.length ≤ 200) (hK : Kn w) :
    Calls Tryd.prog 6 #[v] w fun e w' => ∃ ov es, e = .returned (.tuple #[ov, .agg (Sto.zero.all l).cells.toArray, .int .i64 0]) ∧ ChainPost w w' l (List.replicate 32 0) ov es := by
  obtain ⟨ad, cap, rfl, hlc, hcm, hok, hcell⟩ := hv
  have HCELL := Lib.hid hcell
  have HCK := Lib.hid hck
  obtain ⟨n, hn⟩ : ∃ n, n = l.length := ⟨_, rfl⟩
  rw [← hn] at hlen ⊢
  have HN := Lib.hid hn
  have HK := Lib.hid hK
  obtain ⟨h0, hh0⟩ : ∃ h0, h0 = List.replicate 32 (0 : UInt8) := ⟨_, rfl⟩
  rw [← hh0]
  have hh0l : h0.length = 32 := by rw [hh0]; rfl
  have HH0 := Lib.hid hh0
  have HH0L := Lib.hid hh0l
  have hd0 : decide ((200 : Int) < (n : Int)) = false := by rw [decide_eq_false_iff_not]; omega
  have hd0n : decide (200 < n) = false := by rw [decide_eq_false_iff_not]; omega
  have hmk : ∀ W : World, (Instr.makeSlice 43 (.int .i64 32) (.int .i64 32)).run Tryd.prog W = .ok (.slice (some ⟨W.heap.size, 0, none⟩) 32 32) (W.alloc (.cells (Array.replicate 32 (.int .u8 0)) 5)) := fun _ => by kernel_rfl
  have ez : (#[.int .i64 0, .int .i64 0, .int .i64 0, .int .i64 0, .int .i64 0, .int .i64 0, .int .i64 0, .int .i64 0, .int .i64 0, .int .i64 0, .int .i64 0, .int .i64 0, .int .i64 0, .int .i64 0, .int .i64 0, .int .i64 0, .int .i64 0, .int .i64 0, .int .i64 0, .int .i64 0, .int .i64 0, .int .i64 0, .int .i64 0, .int .i64 0, .int .i64 0, .int .i64 0, .int .i64 0, .int .i64 0, .int .i64 0, .int .i64 0, .int .i64 0, .int .i64 0, .bool false, .bool false, .bool false, .bool false, .bool false, .bool false, .bool false, .bool false] : Array Value) = Sto.zero.cells.toArray := by kernel_rfl
  have EZ := Lib.hid ez
  clear hok hcell hck hn hK hh0 hh0l ez
  go_enter Tryd.func6, Tryd.ntmps6
  go_wp2_with fail
  rw [EZ.out]
  generalize hW : World.alloc _ _ = w0
  have hx3 : w0.heap[w.heap.size]? = some (.cells Sto.zero.cells.toArray 30 (0, 0)) := by rw [← hW]; exact (alloc3 _ _ _ _).1
  have hx5 : w0.heap[w.heap.size + 1]? = some (.cells Sto.zero.cells.toArray 30 (0, 0)) := by rw [← hW]; exact (alloc3 _ _ _ _).2.1
  have hx7 : w0.heap[w.heap.size + 1 + 1]? = some (.cells (Array.replicate 32 (.int .u8 0)) 5 (0, 0)) := by rw [← hW]; exact (alloc3 _ _ _ _).2.2.1
  have y0 : Below w.heap.size w w0 := by rw [← hW]; exact (alloc3 _ _ _ _).2.2.2
  have ow : Own w0 (w.heap.size + 1 + 1) (.slice (some ⟨w.heap.size + 1 + 1, 0, none⟩) 32 32) h0 := by rw [HH0.out]; exact ⟨by simp, .inr ⟨_, 32, _, by simp, Nat.le_refl _, hx7, by simp, by decide, by simp, rfl⟩⟩
  have inv0 : ChainInv (w.heap.size + 1) w0 w0 [] h0 (.slice none 0 0) (.slice (some ⟨w.heap.size + 1 + 1, 0, none⟩) 32 32) [] :=
    ⟨hx5, World.ownsRow_nil _ _ _ _, rfl, (fun i e h => by simp at h), ow.rd, (fun k h => by injection h with h; subst h; exact ⟨by show w.heap.size + 1 < w.heap.size + 1 + 1; omega, lt_of_heap hx7, by simp [Value.ownBlock]⟩), Below.refl _ _, lt_of_heap hx5, Sto.zero_ok, (fun i j e e' h => by simp at h), (fun i e h => by simp at h)⟩
  have INV0 := Lib.hid inv0
  have X3 := Lib.hid hx3
  have Y0 := Lib.hid y0
  clear hW hx3 hx5 hx7 y0 ow inv0 hmk
  obtain ⟨b5, hb5⟩ : ∃ b, b = w.heap.size + 1 := ⟨_, rfl⟩
  rw [← hb5] at INV0 ⊢
  have HB5 := Lib.hid hb5
  clear hb5
  go_loopw [6, 7, 20] (fun ov hv i wr => ∃ (k : Nat) (es : List Ent), k ≤ n ∧ i = .int .i64 k ∧ Hid (ChainInv b5 w0 wr (l.take k) h0 ov hv es)) (fun _ _ i _ => n - (intOf i).toNat)
  case atStart => exact ⟨0, [], by omega, rfl, INV0⟩
  case round =>
    obtain ⟨k, es, hkn, rfl, HI⟩ := hrel
    by_cases h1 : k < n
    · have hd1 : decide ((k : Int) < n) = true := by rw [decide_eq_true_eq]; omega
      have hd2 : decide (k < n) = true := by rw [decide_eq_true_eq]; omega
      obtain ⟨c, hc⟩ : ∃ c, c = l.getD k Cmd.zero := ⟨_, rfl⟩
      have hcm2 : c ∈ l := by rw [hc, getD_lt _ _ _ (by have := HN.out; omega)]; exact List.getElem_mem _
      have hchk := HCK.out c hcm2
      obtain ⟨b, off, rfl, hcl⟩ := HCELL.out (fun e => by rw [e] at hcm2; cases hcm2)
      have hcl2 := hcl k (by have := HN.out; omega)
      rw [← hc] at hcl2
      have hbl : b < w.heap.size := World.block_lt_of_cell? w ⟨b, off + (5 * k + 0), none⟩ ((hcl2 0 (by decide)).trans rfl)
      have hcw : ∀ j, j < 5 → wr.cell? ⟨b, off + (5 * k + j), none⟩ = (wishCells c)[j]? := fun j hj => by
        rw [← hcl2 j hj]
        exact World.cell?_of_block (w := w) ((HI.out.below.block b (by have := HB5.out; omega)).trans (Y0.out.block b hbl))
      obtain ⟨e0, e1, e2, e3, e4⟩ := wish_cells b off k wr c hcw
      have hls : l.take (k + 1) = l.take k ++ [c] := by rw [take_succ_getD l k (by have := HN.out; omega), ← hc]
      obtain ⟨L, hL⟩ : ∃ L, L = l.take k := ⟨_, rfl⟩
      rw [← hL] at hls HI
      have hLlen : L.length ≤ 1000 := by rw [hL]; simp; omega
      have hes : es.length ≤ 1000000 := by rw [HI.out.len]; omega
      obtain ⟨S, hS⟩ : ∃ S, S = Sto.zero.all L := ⟨_, rfl⟩
      have hsok : S.Ok := by rw [hS]; exact HI.out.ok
      have hdo := fun W => Do_any S hsok c hchk W
      obtain ⟨S', hS'⟩ : ∃ S', S' = S.next c := ⟨_, rfl⟩
      obtain ⟨an, han⟩ : ∃ an, an = S.answer c := ⟨_, rfl⟩
      rw [← hS', ← han] at hdo
      have hdo2 : ∀ W, Calls Tryd.prog 10 #[.agg S.cells.toArray, .agg #[.int .i64 c.kind, .int .i64 c.client, .int .i64 c.seq, .int .i64 c.name, .int .i64 c.value]] W fun e w' => e = .returned (.tuple #[.agg S'.cells.toArray, .agg #[.int .i64 an.1, .int .i64 an.2], .int .i64 0]) ∧ Below W.heap.size W w' := hdo
      have hsok' : S'.Ok := by rw [hS']; exact S.next_ok hsok c hchk
      have hall' : Sto.zero.all (L ++ [c]) = S' := by rw [Sto.all_snoc, ← hS, ← hS']
      have hans' : Sto.zero.answers (L ++ [c]) = Sto.zero.answers L ++ [an] := by rw [Sto.answers_snoc, ← hS, ← han]
      obtain ⟨tp0, htp0⟩ : ∃ t, t = Sto.zero.tip h0 L := ⟨_, rfl⟩
      have htl0 : tp0.length = 32 := by rw [htp0]; exact Sto.tip_length _ _ HH0L.out _
      obtain ⟨tp, htp⟩ : ∃ t, t = linkB tp0 c an := ⟨_, rfl⟩
      have htl : tp.length = 32 := by rw [htp]; exact linkB_length _ _ _
      have htip : Sto.zero.tip h0 (L ++ [c]) = tp := by rw [Sto.tip_snoc, ← hS, ← han, ← htp0, ← htp]
      have hsums : Sto.zero.sums h0 (L ++ [c]) = Sto.zero.sums h0 L ++ [tp] := by rw [Sto.sums_snoc, ← hS, ← han, ← htp0, ← htp]
      have hnn := S.answer_nonneg hsok c hchk
      rw [← han] at hnn
      have hlk : ∀ (v : Value) (W : World), Rd W v tp0 → Kn W → Calls Tryd.prog 12 #[v, .agg #[.int .i64 c.kind, .int .i64 c.client, .int .i64 c.seq, .int .i64 c.name, .int .i64 c.value], .agg #[.int .i64 an.1, .int .i64 an.2]] W (FreshB W tp) := fun v W h1 h2 => by rw [htp]; exact link_any v tp0 c an.1 an.2 W h1 htl0 hchk hnn.1 hnn.2 h2
      have hst := HI.out.sto
      rw [← hS] at hst
      have hcur := HI.out.cur
      rw [← htp0] at hcur
      have ST := Lib.hid hst
      have CUR := Lib.hid hcur
      have HDO := Lib.hid hdo2
      have HLK := Lib.hid hlk
      have SOK := Lib.hid hsok
      have SOK' := Lib.hid hsok'
      have HLS := Lib.hid hls
      have ALL' := Lib.hid hall'
      have ANS' := Lib.hid hans'
      have TIP' := Lib.hid htip
      have SUM' := Lib.hid hsums
      have HTL := Lib.hid htl
      have HES := Lib.hid hes
      have RM := HI.out.room
      have LEN := Lib.hid (show (Tryd.prog.info? 30).map (fun x => x.size) = some S.cells.length by rw [stoLen hsok]; exact stoSz)
      have LEN' := Lib.hid (show (Tryd.prog.info? 30).map (fun x => x.size) = some S'.cells.length by rw [stoLen hsok']; exact stoSz)
      have SZZ := Lib.hid (show (Tryd.prog.info? 30).map (fun x => x.size) = some S'.cells.toArray.size by rw [stoSize hsok']; exact stoSz)
      have RG1 := Lib.hid (show ∀ o, (wr.alloc o).rangeAt b5 0 S.cells from fun o => range_of ((heapOld _ _ _ RM).trans hst))
      clear hcm2 hchk hcl hcl2 hcw hls hdo hdo2 hsok hsok' hall' hans' hst hS hS' han hL hLlen hc htp0 htl0 htp htl htip hsums hnn hlk hcur hes
      go_wp2_with (first
        | (go_at_call 10; refine (HDO.out _).mono ?_; rintro e w2 ⟨rfl, hb2⟩; have B2 := Lib.hid hb2; have ZZ2 := hb2.size; clear hb2)
        | (refine wpList_load_mid rfl 30 (.tmp 5) rfl b5 0 rfl S.cells _ ?_ Tryd.underlying30 rfl LEN.out ?_; (with_reducible exact RG1.out _))
        | (refine wpList_store_mid rfl 30 (.tmp 10) (.tmp 28) rfl w2.heap.size 0 S'.cells.toArray rfl rfl ?_ SZZ.out (stoOne _) ?_; (exact there_new0 _ _ _ _ _ (by rw [stoSize SOK'.out]; rfl)); generalize hW : World.setCells _ _ _ _ = wz; have G1 := Lib.hid (stage1 (Below.refl wr.heap.size wr) B2.out hW (by rw [stoLen SOK'.out]; rfl)); have z14 := cellAt G1.out.2.2.2.1 0 rfl; have z15 := cellAt G1.out.2.2.2.1 1 rfl; have zf := freeAt G1.out.2.2.2.1; have zlt := lt_of_heap G1.out.2.2.1; have RG2 := Lib.hid (show ∀ u v, ((wz.setCell ⟨w2.heap.size + 1, 0, none⟩ u).setCell ⟨w2.heap.size + 1, 1, none⟩ v).rangeAt w2.heap.size 0 S'.cells from fun u v => range_of ((heapSet_ne _ _ (by omega)).trans ((heapSet_ne _ _ (by omega)).trans G1.out.2.2.1))); have TH2 := Lib.hid (show ∀ u v, ((wz.setCell ⟨w2.heap.size + 1, 0, none⟩ u).setCell ⟨w2.heap.size + 1, 1, none⟩ v).there b5 0 S'.cells.toArray.size from fun u v => (by rw [stoSize SOK'.out]; exact there_of ((heapSet_ne _ _ (by have := G1.out.2.2.2.2.2; omega)).trans ((heapSet_ne _ _ (by have := G1.out.2.2.2.2.2; omega)).trans ((G1.out.1.block b5 RM).trans ST.out))) (stoSize SOK.out))); clear hW)
        | (refine wpList_load_mid rfl 30 (.tmp 10) rfl w2.heap.size 0 rfl S'.cells _ ?_ Tryd.underlying30 rfl LEN'.out ?_; (with_reducible exact RG2.out _ _))
        | (refine wpList_store_mid rfl 30 (.tmp 5) (.tmp 35) rfl b5 0 S'.cells.toArray rfl rfl ?_ SZZ.out (stoOne _) ?_; (with_reducible exact TH2.out _ _); generalize hW : World.setCells _ _ _ _ = wy; have G2 := Lib.hid (stage2 G1.out.1 ((G1.out.1.block b5 RM).trans ST.out) (stoSize SOK.out) RM G1.out.2.2.2.2.2.1 G1.out.2.2.2.2.2.2 G1.out.2.1 G1.out.2.2.2.1 (stoLen SOK'.out) hW); have g0 : wy.cell? ⟨wr.heap.size, 0, none⟩ = some (.int .i64 c.kind) := cellAt G2.out.2.1 0 rfl; have g1 : wy.cell? ⟨wr.heap.size, 1, none⟩ = some (.int .i64 c.client) := cellAt G2.out.2.1 1 rfl; have g2 : wy.cell? ⟨wr.heap.size, 2, none⟩ = some (.int .i64 c.seq) := cellAt G2.out.2.1 2 rfl; have g3 : wy.cell? ⟨wr.heap.size, 3, none⟩ = some (.int .i64 c.name) := cellAt G2.out.2.1 3 rfl; have g4 : wy.cell? ⟨wr.heap.size, 4, none⟩ = some (.int .i64 c.value) := cellAt G2.out.2.1 4 rfl; have g5 : wy.cell? ⟨w2.heap.size + 1, 0, none⟩ = some (.int .i64 an.1) := cellAt G2.out.2.2.1 0 rfl; have g6 : wy.cell? ⟨w2.heap.size + 1, 1, none⟩ = some (.int .i64 an.2) := cellAt G2.out.2.2.1 1 rfl; clear hW z14 z15 zf zlt)
        | (go_at_call 12; refine (HLK.out _ wy (CUR.out.ofHeap (fun q h1 h2 => G2.out.2.2.2.2.1 q h2 (by have h3 := (HI.out.curA q h1).1; omega))) (HK.out.stay (Y0.out.trans ((HI.out.below.mono (by have := HB5.out; omega)).trans (G2.out.2.2.2.1.mono (by have := HB5.out; omega)))))).mono ?_; rintro e w3 ⟨vl, rfl, hol, hb3⟩; have OL := Lib.hid hol; have B3 := Lib.hid hb3; clear hol hb3 g0 g1 g2 g3 g4 g5 g6))
      obtain ⟨hg, hgc, hvl, hg1, hg2, hg3, hg4⟩ := OL.out.shape (by intro h; have := HTL.out; rw [h] at this; cases this)
      rw [HTL.out] at hvl hg3
      subst hvl
      have C9 := Lib.hid ((B3.out.block _ (lt_of_heap G2.out.2.1)).trans G2.out.2.1)
      have CA := Lib.hid ((B3.out.block _ (lt_of_heap G2.out.2.2.1)).trans G2.out.2.2.1)
      have S0d : w3.drew.cell? ⟨wr.heap.size, 0, none⟩ = some (.int .i64 c.kind) ∧ w3.drew.cell? ⟨wr.heap.size, 1, none⟩ = some (.int .i64 c.client) ∧ w3.drew.cell? ⟨wr.heap.size, 2, none⟩ = some (.int .i64 c.seq) ∧ w3.drew.cell? ⟨wr.heap.size, 3, none⟩ = some (.int .i64 c.name) ∧ w3.drew.cell? ⟨wr.heap.size, 4, none⟩ = some (.int .i64 c.value) ∧ w3.drew.cell? ⟨w2.heap.size + 1, 0, none⟩ = some (.int .i64 an.1) ∧ w3.drew.cell? ⟨w2.heap.size + 1, 1, none⟩ = some (.int .i64 an.2) := ⟨cellAt C9.out 0 rfl, cellAt C9.out 1 rfl, cellAt C9.out 2 rfl, cellAt C9.out 3 rfl, cellAt C9.out 4 rfl, cellAt CA.out 0 rfl, cellAt CA.out 1 rfl⟩
      have RH := Lib.hid (show Rd w3.drew (.slice (some ⟨hg, 0, none⟩) 32 hgc) tp from OL.out.rd)
      have SY : wr.heap.size + 2 ≤ wy.heap.size := Nat.le_trans (by have := G1.out.2.2.2.2; omega) (Nat.le_of_eq G2.out.2.2.2.2.2.symm)
      have hlo := Lib.hid (row_lt HI.out.own)
      go_region_held3 (fun w' => w'.cell? ⟨wr.heap.size, 0, none⟩ = some (.int .i64 c.kind) ∧ w'.cell? ⟨wr.heap.size, 1, none⟩ = some (.int .i64 c.client) ∧ w'.cell? ⟨wr.heap.size, 2, none⟩ = some (.int .i64 c.seq) ∧ w'.cell? ⟨wr.heap.size, 3, none⟩ = some (.int .i64 c.name) ∧ w'.cell? ⟨wr.heap.size, 4, none⟩ = some (.int .i64 c.value) ∧ w'.cell? ⟨w2.heap.size + 1, 0, none⟩ = some (.int .i64 an.1) ∧ w'.cell? ⟨w2.heap.size + 1, 1, none⟩ = some (.int .i64 an.2)) (first | with_reducible exact S0d | with_reducible exact S4 | with_reducible exact S4a _ | with_reducible exact S5) (first
        | (go_at_call 13; refine (cln_any ⟨hg, 0, none⟩ 32 hgc tp w3.drew RH.out HTL.out (by decide)).mono ?_; rintro e w4 ⟨vs, rfl, hos, hb4⟩; obtain ⟨sg, sc, hvs, hs1, hs2, hs3, hs4⟩ := hos.shape (by intro h; have := HTL.out; rw [h] at this; cases this); rw [HTL.out] at hvs; subst hvs; have OS := Lib.hid hos; have B4 := Lib.hid (show Below w3.heap.size w3 w4 from (Below.refl _ _).drew.trans hb4); have y9 := (B4.out.block _ (lt_of_heap C9.out)).trans C9.out; have ya := (B4.out.block _ (lt_of_heap CA.out)).trans CA.out; have L9 := Lib.hid (lt_of_heap y9); have LA := Lib.hid (lt_of_heap ya); have Y9 := Lib.hid y9; have YA := Lib.hid ya; have K4 := Lib.hid (show ∀ q, q < wr.heap.size → q ≠ b5 → w4.heap[q]? = wr.heap[q]? from fun q h1 h2 => (B4.out.block q (by have h3 := B3.out.size; omega)).trans ((B3.out.block q (by omega)).trans (G2.out.2.2.2.2.1 q h1 h2))); have OE4 := Lib.hid (show ∀ o, OwnE (w4.alloc o) (b5 + 1) _ es from fun o => World.ownsRow.alloc (row_ofHeap HI.out.own (fun q hq => K4.out q (hlo.out q hq).2 (by have h3 := (hlo.out q hq).1; omega))) o); have S4 : w4.cell? ⟨wr.heap.size, 0, none⟩ = some (.int .i64 c.kind) ∧ w4.cell? ⟨wr.heap.size, 1, none⟩ = some (.int .i64 c.client) ∧ w4.cell? ⟨wr.heap.size, 2, none⟩ = some (.int .i64 c.seq) ∧ w4.cell? ⟨wr.heap.size, 3, none⟩ = some (.int .i64 c.name) ∧ w4.cell? ⟨wr.heap.size, 4, none⟩ = some (.int .i64 c.value) ∧ w4.cell? ⟨w2.heap.size + 1, 0, none⟩ = some (.int .i64 an.1) ∧ w4.cell? ⟨w2.heap.size + 1, 1, none⟩ = some (.int .i64 an.2) := ⟨cellAt y9 0 rfl, cellAt y9 1 rfl, cellAt y9 2 rfl, cellAt y9 3 rfl, cellAt y9 4 rfl, cellAt ya 0 rfl, cellAt ya 1 rfl⟩; have S4a : ∀ o, (w4.alloc o).cell? ⟨wr.heap.size, 0, none⟩ = some (.int .i64 c.kind) ∧ (w4.alloc o).cell? ⟨wr.heap.size, 1, none⟩ = some (.int .i64 c.client) ∧ (w4.alloc o).cell? ⟨wr.heap.size, 2, none⟩ = some (.int .i64 c.seq) ∧ (w4.alloc o).cell? ⟨wr.heap.size, 3, none⟩ = some (.int .i64 c.name) ∧ (w4.alloc o).cell? ⟨wr.heap.size, 4, none⟩ = some (.int .i64 c.value) ∧ (w4.alloc o).cell? ⟨w2.heap.size + 1, 0, none⟩ = some (.int .i64 an.1) ∧ (w4.alloc o).cell? ⟨w2.heap.size + 1, 1, none⟩ = some (.int .i64 an.2) := fun o => ⟨cellAt ((heapOld w4 o _ L9.out).trans Y9.out) 0 rfl, cellAt ((heapOld w4 o _ L9.out).trans Y9.out) 1 rfl, cellAt ((heapOld w4 o _ L9.out).trans Y9.out) 2 rfl, cellAt ((heapOld w4 o _ L9.out).trans Y9.out) 3 rfl, cellAt ((heapOld w4 o _ L9.out).trans Y9.out) 4 rfl, cellAt ((heapOld w4 o _ LA.out).trans YA.out) 0 rfl, cellAt ((heapOld w4 o _ LA.out).trans YA.out) 1 rfl⟩; clear hos hb4 hs1 hs2 hs3 hs4 y9 ya)
        | (refine step_apE rfl (.tmp 40) (.tmp 46) rfl (b5 + 1) _ es ⟨c, an, .slice (some ⟨sg, 0, none⟩) 32 sc⟩ w4.heap.size rfl (OE4.out _) rfl (heapNew _ _) rfl HES.out (by have h3 := L9.out; simp; omega) ?_; intro ov' w5 ho5 hg5 hat5; have S5 : w5.cell? ⟨wr.heap.size, 0, none⟩ = some (.int .i64 c.kind) ∧ w5.cell? ⟨wr.heap.size, 1, none⟩ = some (.int .i64 c.client) ∧ w5.cell? ⟨wr.heap.size, 2, none⟩ = some (.int .i64 c.seq) ∧ w5.cell? ⟨wr.heap.size, 3, none⟩ = some (.int .i64 c.name) ∧ w5.cell? ⟨wr.heap.size, 4, none⟩ = some (.int .i64 c.value) ∧ w5.cell? ⟨w2.heap.size + 1, 0, none⟩ = some (.int .i64 an.1) ∧ w5.cell? ⟨w2.heap.size + 1, 1, none⟩ = some (.int .i64 an.2) := ⟨cellAt ((hg5.block _ (Nat.lt_of_lt_of_le L9.out (by simp)) (fun e => by have h3 := (hlo.out _ e.symm).2; omega)).trans ((heapOld w4 _ _ L9.out).trans Y9.out)) 0 rfl, cellAt ((hg5.block _ (Nat.lt_of_lt_of_le L9.out (by simp)) (fun e => by have h3 := (hlo.out _ e.symm).2; omega)).trans ((heapOld w4 _ _ L9.out).trans Y9.out)) 1 rfl, cellAt ((hg5.block _ (Nat.lt_of_lt_of_le L9.out (by simp)) (fun e => by have h3 := (hlo.out _ e.symm).2; omega)).trans ((heapOld w4 _ _ L9.out).trans Y9.out)) 2 rfl, cellAt ((hg5.block _ (Nat.lt_of_lt_of_le L9.out (by simp)) (fun e => by have h3 := (hlo.out _ e.symm).2; omega)).trans ((heapOld w4 _ _ L9.out).trans Y9.out)) 3 rfl, cellAt ((hg5.block _ (Nat.lt_of_lt_of_le L9.out (by simp)) (fun e => by have h3 := (hlo.out _ e.symm).2; omega)).trans ((heapOld w4 _ _ L9.out).trans Y9.out)) 4 rfl, cellAt ((hg5.block _ (Nat.lt_of_lt_of_le LA.out (by simp)) (fun e => by have h3 := (hlo.out _ e.symm).2; have h4 := G1.out.2.2.2.2; omega)).trans ((heapOld w4 _ _ LA.out).trans YA.out)) 0 rfl, cellAt ((hg5.block _ (Nat.lt_of_lt_of_le LA.out (by simp)) (fun e => by have h3 := (hlo.out _ e.symm).2; have h4 := G1.out.2.2.2.2; omega)).trans ((heapOld w4 _ _ LA.out).trans YA.out)) 1 rfl⟩; have OE5 := Lib.hid ho5; have GE5 := Lib.hid hg5; have AT5 := Lib.hid hat5; clear ho5 hg5 hat5))
      have FIN := Lib.hid (HI.out.more (B4.out.block b5 (by have h3 := B3.out.size; omega) |>.trans ((B3.out.block b5 (by omega)).trans G2.out.1)) K4.out ((G2.out.2.2.2.1.trans (B3.out.mono (by omega))).trans (B4.out.mono (by have h3 := B3.out.size; omega))) (by have h3 := B3.out.size; have h4 := B4.out.size; omega)
        (OL.out.rd.stay B4.out) (fun q h => by have h5 := OL.out.lt q h; exact ⟨by omega, by have h4 := B4.out.size; omega⟩) OS.out.rd (fun q h => by have h5 := OS.out.lt q h; exact ⟨by have h3 := B3.out.size; have h6 := h5.1; simp at h6; omega, h5.2⟩) (own_free OS.out) OE5.out GE5.out AT5.out ALL'.out ANS'.out TIP'.out SUM'.out SOK'.out)
      go_wp2_with fail
      go_roundw
      case rel => exact ⟨k + 1, es ++ [_], by omega, by go_num, by rw [HLS.out]; exact FIN⟩
      case measure => simp [intOf]; omega
    · have hk : k = n := by omega
      subst hk
      have hL : l.take k = l := by rw [HN.out, List.take_length]
      rw [hL] at HI
      obtain ⟨S, hS0⟩ : ∃ S, S = Sto.zero.all l := ⟨_, rfl⟩
      have hst := HI.out.sto
      rw [← hS0] at hst
      have hsok : S.Ok := by rw [hS0]; exact HI.out.ok
      have ST := Lib.hid hst
      have SOK := Lib.hid hsok
      have LEN := Lib.hid (show (Tryd.prog.info? 30).map (fun x => x.size) = some S.cells.length by rw [stoLen hsok]; exact stoSz)
      have SZZ := Lib.hid (show (Tryd.prog.info? 30).map (fun x => x.size) = some S.cells.toArray.size by rw [stoSize hsok]; exact stoSz)
      have HS0 := Lib.hid hS0
      have hx4 : wr.heap[w.heap.size]? = _ := (HI.out.below.block w.heap.size (by have := HB5.out; omega)).trans X3.out
      have HX4 := Lib.hid hx4
      have YR := Lib.hid (show Below w.heap.size w wr from Y0.out.trans (HI.out.below.mono (by have := HB5.out; omega)))
      have hd1 : decide ((k : Int) < k) = false := by rw [decide_eq_false_iff_not]; omega
      have hd2 : decide (k < k) = false := by rw [decide_eq_false_iff_not]; omega
      clear hL hS0 hst hsok hx4
      go_wp2_with fail
      refine wp_region_held_drew (S := fun W => W.heap[b5]? = wr.heap[b5]?) (by kernel_rfl) rfl (fun hS => ?_)
      refine wpAnyH_take (i := 0) (oi := { dst := some 49, op := _, type := _, pos := _, after := _, guard := none }) (v := u6) rfl (by kernel_rfl) (by kernel_rfl) (by kernel_rfl) (fun _ _ _ h => h) (Or.inl ⟨by rfl, fun W hw => ?_⟩) hS ?_
      · go_simp
      try simp only [Act.put, List.setIfInBounds_toArray, List.set_cons_zero, List.set_cons_succ]
      refine wpAnyH_take (i := 1) (oi := { dst := some 50, op := _, type := _, pos := _, after := _, guard := none }) (v := _) rfl (by kernel_rfl) (by kernel_rfl) (by kernel_rfl) (fun _ _ _ h => h) (yieldsIf_load_mid (by rfl) 30 (.tmp 5) rfl b5 0 rfl S.cells _ (fun _ h => range_of (h.trans ST.out)) Tryd.underlying30 rfl LEN.out) hS ?_
      try simp only [Act.put, List.setIfInBounds_toArray, List.set_cons_zero, List.set_cons_succ]
      refine wpAnyH_take (i := 2) (oi := { dst := some 2, op := _, type := _, pos := _, after := _, guard := none }) (v := u6) rfl (by kernel_rfl) (by kernel_rfl) (by kernel_rfl) (fun _ _ _ h => h) (Or.inl ⟨by rfl, fun W hw => ?_⟩) hS ?_
      · go_simp
      try simp only [Act.put, List.setIfInBounds_toArray, List.set_cons_zero, List.set_cons_succ]
      refine wpAnyH_ready (rs := [3]) (by kernel_rfl) (by simp) ?_
      refine AllReadyH.cons (o := { dst := none, op := .store 30 (.tmp 3) (.tmp 50), type := _, pos := _, after := _, guard := none }) rfl (fun K hK => ?_) AllReadyH.nil
      rw [if_pos (by rfl)]
      refine wp_store_mid 30 (.tmp 3) (.tmp 50) rfl w.heap.size 0 S.cells.toArray rfl rfl ?_ SZZ.out (stoOne _) ?_
      · rw [stoSize SOK.out]; exact there_of HX4.out (stoSize Sto.zero_ok)
      generalize hW : World.setCells _ _ _ _ = wz
      have v4 : wz.heap[w.heap.size]? = some (.cells S.cells.toArray 30 (0, 0)) := by rw [← hW]; exact storedRow (vs := S.cells) HX4.out (by rw [stoSize Sto.zero_ok, stoLen SOK.out])
      have vk : ∀ k, k ≠ w.heap.size → wz.heap[k]? = wr.heap[k]? := fun k hk => by rw [← hW, heap_setCells_ne hk]; rfl
      have vb : Below w.heap.size w wz := by rw [← hW]; exact below_setCells (Nat.le_refl _) _ _ _ YR.out.drew
      have vs : wz.heap.size = wr.heap.size := by rw [← hW, size_setCells]; rfl
      refine hK.out _ _ ?_ (fun hS3 => ?_)
      · exact vk b5 (by have := HB5.out; omega)
      clear hK K hW
      try simp only [Act.put, List.setIfInBounds_toArray, List.set_cons_zero, List.set_cons_succ]
      refine wpAnyH_take (i := 4) (oi := { dst := some 4, op := _, type := _, pos := _, after := _, guard := none }) (v := .int .i64 0) rfl (by kernel_rfl) (by kernel_rfl) (by kernel_rfl) (fun _ _ _ h => h) (Or.inl ⟨by rfl, fun W hw => ?_⟩) hS3 ?_
      · go_simp
      try simp only [Act.put, List.setIfInBounds_toArray, List.set_cons_zero, List.set_cons_succ]
      refine wpAnyH_done (by kernel_rfl) ?_ _
      go_wp2_with fail
      exact chain_end HS0.out SOK.out HI.out HB5.out v4 (fun k h1 h2 => vk k h2) vs vb rfl rfl rfl rfl
end Go.Proofs.YtocdnochnjlhlaaDoor
