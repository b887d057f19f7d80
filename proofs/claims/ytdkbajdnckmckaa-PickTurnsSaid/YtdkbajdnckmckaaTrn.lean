/-
  What PickTurns' second loop keeps: votes told backwards, and one by one.
-/
import Derived.Test.YtdkbajdnckmckaaVotP
import Derived.Test.YtdkbajdnckmckaaFrY
import Derived.Deep.RegionLaw
set_option linter.unusedVariables false
set_option linter.unusedSimpArgs false
namespace Go.Con
open Go
/-- votes, the last one first -/
def revTo (V : List Vot) (q : Nat) : List Vot := (List.range q).map fun p => V.getD (V.length - 1 - p) Vot.zero
theorem revTo_succ (V : List Vot) (q : Nat) : revTo V (q + 1) = revTo V q ++ [V.getD (V.length - 1 - q) Vot.zero] := by
  unfold revTo; rw [List.range_succ, List.map_append]; rfl
theorem revTo_length (V : List Vot) (q : Nat) : (revTo V q).length = q := by unfold revTo; simp
theorem revTo_mem (V : List Vot) (v : Vot) : v ∈ revTo V V.length ↔ v ∈ V := by
  unfold revTo
  constructor
  · intro h
    obtain ⟨p, hp, rfl⟩ := List.mem_map.1 h
    have hp := List.mem_range.1 hp
    have hl : V.length - 1 - p < V.length := by omega
    rw [List.getD_eq_getElem?_getD, List.getElem?_eq_getElem hl]; exact List.getElem_mem _
  · intro h
    obtain ⟨i, hi, rfl⟩ := List.getElem_of_mem h
    refine List.mem_map.2 ⟨V.length - 1 - i, List.mem_range.2 (by omega), ?_⟩
    rw [show V.length - 1 - (V.length - 1 - i) = i by omega, List.getD_eq_getElem?_getD, List.getElem?_eq_getElem hi]; rfl
end Go.Con
namespace Go.Proofs.Ytdkbajdnckmckaa
open Go.RowKit Go.Con
theorem newd1 (w : World) (C : Obj) : (w.alloc C).drew.heap[w.heap.size]? = some C := heapNew w C
theorem OwnV.next {w : World} {base : Nat} {v : Value} {l : List Vot} (h : OwnV w base v l) (C : Obj) : OwnV (w.alloc C).drew base v l :=
  row_ofHeap h (fun k hk => heapOld w C k (row_lt h k hk).2)
/-- a fresh row of one vote -/
theorem newVr (W : World) (v : Vot) : RdV (W.alloc (.cells (votCells v).toArray 32)) (.slice (some ⟨W.heap.size, 0, none⟩) 1 1) [v] := by
  refine ⟨_, _, rfl, Nat.le_refl _, by decide, fun _ => ⟨_, _, rfl, by simp, fun i hi j hj => ?_⟩⟩
  have hi0 : i = 0 := by simpa using hi
  subst hi0
  rw [Nat.mul_zero, Nat.zero_add, Nat.zero_add]
  have hlt : j < (votCells v).length := hj
  have : (([v] : List Vot).getD 0 Vot.zero) = v := rfl
  rw [this, List.getElem?_eq_getElem hlt]
  exact cellAt (heapNew W _) j (by simp [hlt])
theorem infoVs : (Try.prog.info? 23).map (fun i => (i.zero, i.size, i.bytes)) = some (some (.slice none 0 0), 1, 24) := by kernel_rfl
section
variable {ops : Array Oper} {rest : List Oper} {o : Oper} {a : Act} {Q : Exit → Act → World → Prop} {w : World}
/-- append(own rows of votes, one more) -/
theorem apL (hgd : o.guard = none) (s x : Operand) (ho : o.op = .call { callee := .builtin .append, args := #[s, x], argTypes := #[33, 33] })
    (base : Nat) (v : Value) (n : Nat) (xs : List Value) (c : Value) (g : Nat) (hs : a.eval s = v) (hown : w.ownsRow base 23 1 v n xs) (hx : a.eval x = .slice (some ⟨g, 0, none⟩) 1 1) (hsrc : w.heap[g]? = some (.cells #[c] 23 (0, 0))) (h1c : c.oneCell' = true) (hlen : n ≤ 1000000) (hbase : base ≤ w.heap.size)
    (h : ∀ v' w', w'.ownsRow base 23 1 v' (n + 1) (xs ++ [c]) → w.grownBy w' v.ownBlock → (v'.ownBlock = v.ownBlock ∨ v'.ownBlock = some w.heap.size) → wpList Try.prog ops Q rest (a.put o.dst v') w') : wpList Try.prog ops Q (o :: rest) a w := by
  obtain ⟨i, hi, hz, hsz, hb⟩ := info_part infoVs
  refine wpList_append_own_at w hgd s x 33 ho base 23 i _ 1 24 Try.underlying33 hi hz hsz hb rfl (by decide) v n xs hs hown ⟨g, 0, none⟩ 1 1 [c] hx rfl (fun j u hu => ?_) (fun u hu => ?_) (by unfold maxLen; omega) (by omega) hbase ?_
  · have hj := cellAt hsrc j (by simpa using hu)
    rw [Addr.add_mid, Nat.zero_add]; exact hj
  · rw [List.mem_singleton.1 hu]; exact h1c
  · intro v' w' h1 h2 _ h4
    exact h v' w' h1 h2 h4
end
/-- what the second loop keeps -/
structure TurnInv (w1 wr : World) (V : List Vot) (q : Nat) (v7 v8 : Value) (xs : List Value) : Prop where
  bk : OwnV wr w1.heap.size v7 (revTo V q)
  ls : wr.ownsRow w1.heap.size 23 1 v8 q xs
  each : ∀ p x, xs[p]? = some x → ∃ g, x = .slice (some ⟨g, 0, none⟩) 1 1 ∧ wr.heap[g]? = some (.cells (votCells (V.getD (V.length - 1 - p) Vot.zero)).toArray 32 (0, 0)) ∧ w1.heap.size ≤ g ∧ v7.ownBlock ≠ some g ∧ v8.ownBlock ≠ some g
  apart : ∀ k, v7.ownBlock = some k → v8.ownBlock ≠ some k
  below : Below w1.heap.size w1 wr
theorem snocL {α : Type} {l : List α} {x e : α} {i : Nat} (h : (l ++ [x])[i]? = some e) : (i < l.length ∧ l[i]? = some e) ∨ (i = l.length ∧ e = x) := by
  rcases Nat.lt_trichotomy i l.length with h1 | h1 | h1
  · rw [List.getElem?_append_left h1] at h; exact .inl ⟨h1, h⟩
  · subst h1
    rw [List.getElem?_append_right (Nat.le_refl _), Nat.sub_self] at h
    injection h with h
    exact .inr ⟨rfl, h.symm⟩
  · rw [List.getElem?_append_right (by omega), List.getElem?_eq_none (by simp; omega)] at h
    cases h
theorem TurnInv.more {w1 wr w5 w6 : World} {V : List Vot} {q : Nat} {v7 v8 v7' v8' : Value} {xs : List Value} {x : Vot} {C1 D2 : Obj} (HI : TurnInv w1 wr V q v7 v8 xs) (hx : x = V.getD (V.length - 1 - q) Vot.zero)
    (oe : OwnV w5 w1.heap.size v7' (revTo V q ++ [x])) (ge : (wr.alloc C1).grownBy w5 v7.ownBlock) (at7 : v7'.ownBlock = v7.ownBlock ∨ v7'.ownBlock = some (wr.alloc C1).heap.size)
    (ol : w6.ownsRow w1.heap.size 23 1 v8' (q + 1) (xs ++ [.slice (some ⟨w5.heap.size, 0, none⟩) 1 1])) (gl : ((w5.alloc (.cells (votCells x).toArray 32)).alloc D2).grownBy w6 v8.ownBlock) (at8 : v8'.ownBlock = v8.ownBlock ∨ v8'.ownBlock = some ((w5.alloc (.cells (votCells x).toArray 32)).alloc D2).heap.size) :
    TurnInv w1 w6 V (q + 1) v7' v8' (xs ++ [.slice (some ⟨w5.heap.size, 0, none⟩) 1 1]) := by
  have sA : (wr.alloc C1).heap.size = wr.heap.size + 1 := by simp
  have sB : ((w5.alloc (.cells (votCells x).toArray 32)).alloc D2).heap.size = w5.heap.size + 2 := by simp
  have s5 : wr.heap.size + 1 ≤ w5.heap.size := by rw [← sA]; exact ge.size
  have l7 := row_lt HI.bk
  have l8 := row_lt HI.ls
  have l7' := row_lt oe
  have hw1 := HI.below.size
  have xl : xs.length = q := by have := HI.ls.1; omega
  have st5 : ∀ k, k < wr.heap.size → v7.ownBlock ≠ some k → w5.heap[k]? = wr.heap[k]? := fun k h1 h2 => (ge.block k (by omega) (fun e => h2 e.symm)).trans (heapOld _ _ _ h1)
  have st6 : ∀ k, k < w5.heap.size → v8.ownBlock ≠ some k → w6.heap[k]? = w5.heap[k]? := fun k h1 h2 =>
    (gl.block k (by omega) (fun e => h2 e.symm)).trans ((heapOld _ _ _ (by simp; omega)).trans (heapOld _ _ _ h1))
  refine ⟨?_, ol, ?_, ?_, ?_⟩
  · rw [revTo_succ, ← hx]
    refine row_ofHeap oe (fun k hk => st6 k (l7' k hk).2 (fun h8 => ?_))
    rcases at7 with h | h
    · exact HI.apart k (h.symm.trans hk) h8
    · rw [h] at hk; injection hk with hk; have := (l8 k h8).2; omega
  · intro p y hy
    rcases snocL hy with ⟨hp, hy⟩ | ⟨rfl, rfl⟩
    · obtain ⟨g, rfl, hg, hb, g7, g8⟩ := HI.each p y hy
      have hgl := lt_of_heap hg
      refine ⟨g, rfl, (st6 g (by omega) g8).trans ((st5 g hgl g7).trans hg), hb, ?_, ?_⟩
      · intro h
        rcases at7 with e | e
        · exact g7 (e.symm.trans h)
        · rw [e] at h; injection h with h; omega
      · intro h
        rcases at8 with e | e
        · exact g8 (e.symm.trans h)
        · rw [e] at h; injection h with h; omega
    · refine ⟨w5.heap.size, rfl, ?_, by omega, fun h => ?_, fun h => ?_⟩
      · rw [xl, ← hx]
        refine (gl.block _ (by omega) (fun e => ?_)).trans ((heapOld _ _ _ (by simp)).trans (heapNew _ _))
        have := (l8 _ e.symm).2; omega
      · have := (l7' _ h).2; omega
      · rcases at8 with e | e
        · have := (l8 _ (e.symm.trans h)).2; omega
        · rw [e] at h; injection h with h; omega
  · intro k h7 h8
    have hk := (l7' k h7).2
    rcases at8 with e | e
    · have h8' := (l8 k (e.symm.trans h8)).2
      rcases at7 with f | f
      · exact HI.apart k (f.symm.trans h7) (e.symm.trans h8)
      · rw [f] at h7; injection h7 with h7; omega
    · rw [e] at h8; injection h8 with h8; omega
  · have b5 : Below w1.heap.size w1 w5 := (HI.below.alloc hw1 _).grown ge (by rw [sA]; omega) (fun k hk => (l7 k hk).1)
    exact ((b5.alloc (by omega) _).alloc (by simp; omega) _).grown gl (by rw [sB]; omega) (fun k hk => (l8 k hk).1)
/-- a row of one vote that lies in a block -/
theorem rowOne {W : World} {g : Nat} {v : Vot} (h : W.heap[g]? = some (.cells (votCells v).toArray 32 (0, 0))) : RdV W (.slice (some ⟨g, 0, none⟩) 1 1) [v] := by
  refine ⟨_, _, rfl, Nat.le_refl _, by decide, fun _ => ⟨_, _, rfl, lt_of_heap h, fun i hi j hj => ?_⟩⟩
  have hi0 : i = 0 := by simpa using hi
  subst hi0
  rw [Nat.mul_zero, Nat.zero_add, Nat.zero_add]
  have hlt : j < (votCells v).length := hj
  have : (([v] : List Vot).getD 0 Vot.zero) = v := rfl
  rw [this, List.getElem?_eq_getElem hlt]
  exact cellAt h j (by simp [hlt])
/-- a fresh row of one row -/
theorem newLs {W : World} {v : Value} {l : List Vot} (h : RdV W v l) : RdLs (W.alloc (.cells #[v] 23)) (.slice (some ⟨W.heap.size, 0, none⟩) 1 1) [l] := by
  refine ⟨_, _, rfl, Nat.le_refl _, by decide, fun _ => ⟨_, _, rfl, by simp, fun i hi => ?_⟩⟩
  have hi0 : i = 0 := by simpa using hi
  subst hi0
  exact ⟨v, cellAt (heapNew W _) 0 rfl, RdRow.stay h ((Below.refl _ _).alloc (Nat.le_refl _) _)⟩
theorem TurnInv.lists {w1 wr : World} {V : List Vot} {q : Nat} {v7 v8 : Value} {xs : List Value} (HI : TurnInv w1 wr V q v7 v8 xs) : RdLs wr v8 ((revTo V q).map fun v => [v]) := by
  have hx : xs.length = q := by have := HI.ls.1; omega
  have hfl : xs.flatMap (fun x => [x]) = xs := by induction xs with
    | nil => rfl
    | cons a l ih => simp
  have hrow : RdRow 1 (fun x : Value => [x]) (.slice none 0 0) wr v8 xs := RdRow.ofOwn (fun _ => rfl) (base := w1.heap.size) (t := 23) (by rw [hfl, hx]; exact HI.ls)
  obtain ⟨a, c, rfl, h1, h2, h3⟩ := hrow
  have hl : ((revTo V q).map fun v => [v]).length = q := by rw [List.length_map, revTo_length]
  refine ⟨a, c, by rw [hl, hx], by rw [hl, ← hx]; exact h1, h2, fun hne => ?_⟩
  obtain ⟨b, off, rfl, hb, hc⟩ := h3 (by intro h; rw [h] at hx; apply hne; apply List.eq_nil_of_length_eq_zero; rw [hl]; exact hx.symm)
  refine ⟨b, off, rfl, hb, fun i hi => ?_⟩
  rw [hl] at hi
  have hix : i < xs.length := by omega
  have h4 := hc i hix 0 (by decide)
  have hxi : xs[i]? = some (xs.getD i (.slice none 0 0)) := by rw [List.getD_eq_getElem?_getD, List.getElem?_eq_getElem hix]; rfl
  obtain ⟨g, hg, hgh, -⟩ := HI.each i _ hxi
  refine ⟨xs.getD i (.slice none 0 0), by rw [show off + i = off + (1 * i + 0) by omega]; exact h4, ?_⟩
  have e : ((revTo V q).map fun v => [v]).getD i [] = [V.getD (V.length - 1 - i) Vot.zero] := by
    unfold revTo
    simp [hi]
  rw [e, hg]
  exact rowOne hgh
theorem flatten_ones {α : Type} (l : List α) : (l.map fun v => [v]).flatten = l := by
  induction l with
  | nil => rfl
  | cons a l ih => simpa using ih
theorem new2b (W : World) (C D : Obj) : ((W.alloc C).alloc D).heap[W.heap.size + 1]? = some D := by
  have h := heapNew (W.alloc C) D
  have e : (W.alloc C).heap.size = W.heap.size + 1 := by simp
  rwa [e] at h
end Go.Proofs.Ytdkbajdnckmckaa
