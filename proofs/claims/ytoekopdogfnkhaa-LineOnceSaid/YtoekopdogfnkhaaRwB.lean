/-
  Rows of rows of bytes: own ones, that grow.
-/
import Derived.Test.YtoekopdogfnkhaaReg
import Derived.Test.YtoekopdogfnkhaaFrm
import Derived.Test.YtoekopdogfnkhaaFrB
import Derived.Test.YtoekopdogfnkhaaPick
import Derived.Maps.AppendAt
import Derived.Deep.RegionLaw
set_option linter.unusedVariables false
set_option linter.unusedSimpArgs false
namespace Go.Proofs.Ytoekopdogfnkhaa
open Go.RowKit Go.Con
theorem rowB_ofHeap {w w' : World} {base size : Nat} {e : TypeId} {v : Value} {n : Nat} {xs : List Value} (h : w.ownsRow base e size v n xs) (hh : ∀ k, v.ownBlock = some k → w'.heap[k]? = w.heap[k]?) : w'.ownsRow base e size v n xs := by
  obtain ⟨h1, h2⟩ := h
  refine ⟨h1, ?_⟩
  rcases h2 with h2 | ⟨g, cap, cur, rfl, hg, hh2, r⟩
  · exact .inl h2
  · exact .inr ⟨g, cap, cur, rfl, hg, by rw [hh g rfl]; exact hh2, r⟩
theorem rowB_lt {w : World} {base size : Nat} {e : TypeId} {v : Value} {n : Nat} {xs : List Value} (h : w.ownsRow base e size v n xs) : ∀ k, v.ownBlock = some k → base ≤ k ∧ k < w.heap.size := by
  intro k hk
  obtain ⟨h1, h2⟩ := h
  rcases h2 with ⟨rfl, _⟩ | ⟨g, cap, cur, rfl, hg, hh2, r⟩
  · cases hk
  · injection hk with e; subst e; exact ⟨hg, lt_of_heap hh2⟩
theorem Rd.ofHeapB {w w' : World} {v : Value} {l : List UInt8} (h : Rd w v l) (hh : ∀ k, v.ownBlock = some k → k < w.heap.size → w'.heap[k]? = w.heap[k]?) : Rd w' v l := by
  obtain ⟨a, c, rfl, h1, h2, h0, h3⟩ := h
  refine ⟨a, c, rfl, h1, h2, h0, fun hl => ?_⟩
  obtain ⟨b, off, rfl, hc⟩ := h3 hl
  refine ⟨b, off, rfl, fun i hi => ?_⟩
  have h4 := hc i hi
  rw [← h4]
  exact World.cell?_of_block (w := w) (hh b rfl (World.block_lt_of_cell? w _ h4))
theorem RdRows.stay {w w' : World} {v : Value} {ls : List (List UInt8)} (h : RdRows w v ls) (hb : Below w.heap.size w w') : RdRows w' v ls := by
  obtain ⟨a, c, rfl, h1, h2, h3⟩ := h
  refine ⟨a, c, rfl, h1, h2, fun hl => ?_⟩
  obtain ⟨b, off, rfl, hc⟩ := h3 hl
  refine ⟨b, off, rfl, fun i hi => ?_⟩
  obtain ⟨x, hx, hr⟩ := hc i hi
  exact ⟨x, (World.cell?_of_block (w := w) (hb.block b (World.block_lt_of_cell? w _ hx))).trans hx, hr.stay hb⟩
theorem RdRows.at {w : World} {a : Option Addr} {n c : Nat} {ls : List (List UInt8)} (h : RdRows w (.slice a n c) ls) {i : Nat} (hi : i < ls.length) : ∃ b off x, a = some ⟨b, off, none⟩ ∧ w.cell? ⟨b, off + i, none⟩ = some x ∧ Rd w x (ls.getD i []) := by
  obtain ⟨a', c', e, h1, h2, h3⟩ := h
  injection e with e1 e2 e3
  subst e1 e3
  obtain ⟨b, off, rfl, hc⟩ := h3 (by intro h; rw [h] at hi; simp at hi)
  obtain ⟨x, hx, hr⟩ := hc i hi
  exact ⟨b, off, x, rfl, hx, hr⟩
/-- an own row of slices, each of which shows bytes -/
theorem RdRows.ofOwn {w : World} {base : Nat} {t : TypeId} {v : Value} {xs : List Value} {ls : List (List UInt8)} (h : w.ownsRow base t 1 v ls.length xs) (he : ∀ i, i < ls.length → ∀ x, xs[i]? = some x → Rd w x (ls.getD i [])) : RdRows w v ls := by
  obtain ⟨h1, h2⟩ := h
  rcases h2 with ⟨rfl, hn⟩ | ⟨g, cap, cur, rfl, hb, hg, hnc, hcm, hcs, htake⟩
  · have : ls = [] := List.eq_nil_of_length_eq_zero hn
    subst this
    exact ⟨none, 0, rfl, Nat.le_refl _, Nat.zero_le _, fun h => absurd rfl h⟩
  · refine ⟨some ⟨g, 0, none⟩, cap, rfl, hnc, hcm, fun _ => ⟨g, 0, rfl, fun i hi => ?_⟩⟩
    have hx : i < xs.length := by omega
    have hcur : cur[i]? = xs[i]? := by
      rw [← htake, List.getElem?_take, if_pos (by omega)]; simp
    rw [List.getElem?_eq_getElem hx] at hcur
    refine ⟨xs[i], ?_, he i hi _ (List.getElem?_eq_getElem hx)⟩
    rw [Nat.zero_add]
    exact cellAt hg i hcur
theorem infoBs : (Try.prog.info? 22).map (fun i => (i.zero, i.size, i.bytes)) = some (some (.slice none 0 0), 1, 24) := by kernel_rfl
section
variable {ops : Array Oper} {rest : List Oper} {o : Oper} {a : Act} {Q : Exit → Act → World → Prop} {w : World}
/-- append(own rows of bytes, one more) -/
theorem apRows (hgd : o.guard = none) (s x : Operand) (ho : o.op = .call { callee := .builtin .append, args := #[s, x], argTypes := #[23, 23] })
    (base : Nat) (v : Value) (n : Nat) (xs : List Value) (c : Value) (g : Nat) (hs : a.eval s = v) (hown : w.ownsRow base 22 1 v n xs) (hx : a.eval x = .slice (some ⟨g, 0, none⟩) 1 1) (hsrc : w.heap[g]? = some (.cells #[c] 22 (0, 0))) (h1c : c.oneCell' = true) (hlen : n ≤ 1000000) (hbase : base ≤ w.heap.size)
    (h : ∀ v' w', w'.ownsRow base 22 1 v' (n + 1) (xs ++ [c]) → w.grownBy w' v.ownBlock → (v'.ownBlock = v.ownBlock ∨ v'.ownBlock = some w.heap.size) → wpList Try.prog ops Q rest (a.put o.dst v') w') : wpList Try.prog ops Q (o :: rest) a w := by
  obtain ⟨i, hi, hz, hsz, hb⟩ : ∃ i, Try.prog.info? 22 = some i ∧ i.zero = some (.slice none 0 0) ∧ i.size = 1 ∧ i.bytes = 24 := by
    have h := infoBs
    cases hi : Try.prog.info? 22 with
    | none => rw [hi] at h; cases h
    | some i => rw [hi] at h; simp at h; exact ⟨i, rfl, h.1, h.2.1, h.2.2⟩
  refine wpList_append_own_at w hgd s x 23 ho base 22 i _ 1 24 Try.underlying23 hi hz hsz hb rfl (by decide) v n xs hs hown ⟨g, 0, none⟩ 1 1 [c] hx rfl (fun j u hu => ?_) (fun u hu => ?_) (by unfold maxLen; omega) (by omega) hbase ?_
  · have hj := cellAt hsrc j (by simpa using hu)
    rw [Addr.add_mid, Nat.zero_add]; exact hj
  · rw [List.mem_singleton.1 hu]; exact h1c
  · intro v' w' h1 h2 _ h4
    exact h v' w' h1 h2 h4
end
theorem snocB {α : Type} {l : List α} {x e : α} {i : Nat} (h : (l ++ [x])[i]? = some e) : (i < l.length ∧ l[i]? = some e) ∨ (i = l.length ∧ e = x) := by
  rcases Nat.lt_trichotomy i l.length with h1 | h1 | h1
  · rw [List.getElem?_append_left h1] at h; exact .inl ⟨h1, h⟩
  · subst h1
    rw [List.getElem?_append_right (Nat.le_refl _), Nat.sub_self] at h
    injection h with h
    exact .inr ⟨rfl, h.symm⟩
  · rw [List.getElem?_append_right (by omega), List.getElem?_eq_none (by simp; omega)] at h
    cases h
/-- the records of some plain bytes -/
def recsTo (K : List UInt8) (ps : List (List UInt8)) (n : Nat) : List (List UInt8) := (List.range n).map fun i => recB K i ((ps.getD i []).take 40)
theorem recB_ne (K : List UInt8) (s : Nat) (p : List UInt8) : recB K s p ≠ [] := by
  intro h
  have := recB_length K s p
  rw [h] at this; simp at this
theorem recsTo_length (K : List UInt8) (ps : List (List UInt8)) (n : Nat) : (recsTo K ps n).length = n := by simp [recsTo]
theorem recsTo_get (K : List UInt8) (ps : List (List UInt8)) (n i : Nat) (h : i < n) : (recsTo K ps n).getD i [] = recB K i ((ps.getD i []).take 40) := by
  simp [recsTo, h]
/-- a channel's block -/
abbrev chanC' (kg kc : Nat) (s t : Nat) (f : Nat → Bool) : Obj := .cells #[.slice (some ⟨kg, 0, none⟩) 32 kc, .int .i64 s, .int .i64 t, .bool (f 0), .bool (f 1), .bool (f 2), .bool (f 3), .bool (f 4), .bool (f 5), .bool (f 6), .bool (f 7)] 28 (0, 0)
/-- what the loop of 'sent' keeps -/
structure SentInv (w wr : World) (bc : Nat) (K : List UInt8) (ps : List (List UInt8)) (j : Nat) (v : Value) (xs : List Value) (kg kc : Nat) : Prop where
  own : wr.ownsRow w.heap.size 22 1 v j xs
  each : ∀ p x, xs[p]? = some x → Rd wr x (recB K p ((ps.getD p []).take 40)) ∧ ∀ k, x.ownBlock = some k → w.heap.size ≤ k ∧ k ≠ bc ∧ v.ownBlock ≠ some k
  chan : wr.heap[bc]? = some (chanC' kg kc j 0 fun _ => false)
  key : Rd wr (.slice (some ⟨kg, 0, none⟩) 32 kc) K
  kne : kg ≠ bc ∧ v.ownBlock ≠ some kg
  ne : v.ownBlock ≠ some bc
  low : w.heap.size ≤ bc
  below : Below w.heap.size w wr
theorem SentInv.rows {w wr : World} {bc : Nat} {K : List UInt8} {ps : List (List UInt8)} {j : Nat} {v : Value} {xs : List Value} {kg kc : Nat} (h : SentInv w wr bc K ps j v xs kg kc) : RdRows wr v (recsTo K ps j) :=
  RdRows.ofOwn (base := w.heap.size) (t := 22) (by rw [recsTo_length]; exact h.own) (fun i hi x hx => by rw [recsTo_length] at hi; rw [recsTo_get _ _ _ _ hi]; exact (h.each i x hx).1)
theorem SentInv.more {w wr wc wz w6 : World} {bc b : Nat} {K : List UInt8} {ps : List (List UInt8)} {j : Nat} {v v' rv : Value} {xs : List Value} {kg kc kg2 kc2 : Nat} {D : Obj} (H : SentInv w wr bc K ps j v xs kg kc)
    (hb : Below wr.heap.size wr wc) (hz : wz.heap[bc]? = some (chanC' kg2 kc2 (j + 1) 0 fun _ => false)) (hzs : wz.heap.size = wc.heap.size) (hzb : ∀ k, k ≠ bc → wz.heap[k]? = wc.heap[k]?) (hbz : Below w.heap.size w wz)
    (hk : Rd wc (.slice (some ⟨kg2, 0, none⟩) 32 kc2) K) (hK : K ≠ []) (hkg : wr.heap.size ≤ kg2) (hr : Rd wc rv (recB K j ((ps.getD j []).take 40))) (hrb : ∀ k, rv.ownBlock = some k → wr.heap.size ≤ k)
    (ho : w6.ownsRow w.heap.size 22 1 v' (j + 1) (xs ++ [rv])) (hg : (wz.alloc D).grownBy w6 v.ownBlock) (hat : v'.ownBlock = v.ownBlock ∨ v'.ownBlock = some (wz.alloc D).heap.size) : SentInv w w6 bc K ps (j + 1) v' (xs ++ [rv]) kg2 kc2 := by
  have sz : (wz.alloc D).heap.size = wc.heap.size + 1 := by simp [hzs]
  have sc := hb.size
  have lv := rowB_lt H.own
  have xl : xs.length = j := by have := H.own.1; omega
  have lbc := lt_of_heap H.chan
  have sw := H.below.size
  have klt : kg2 < wc.heap.size := hk.lt kg2 rfl hK
  have rlt : ∀ k, rv.ownBlock = some k → k < wc.heap.size := fun k h => hr.lt k h (recB_ne _ _ _)
  -- what stays
  have st : ∀ k, k < wc.heap.size → k ≠ bc → v.ownBlock ≠ some k → w6.heap[k]? = wc.heap[k]? := fun k h1 h2 h3 =>
    (hg.block k (by omega) (fun e => h3 e.symm)).trans ((heapOld _ _ _ (by omega)).trans (hzb k h2))
  have vb : ∀ k, v'.ownBlock = some k → k < wc.heap.size → v.ownBlock = some k := fun k h1 h2 => by
    rcases hat with e | e
    · exact e.symm.trans h1
    · rw [e] at h1; injection h1 with h1; omega
  refine ⟨ho, ?_, ?_, ?_, ⟨by omega, fun h => ?_⟩, fun h => ?_, H.low, ?_⟩
  · intro p x hx
    rcases snocB hx with ⟨hp, hx⟩ | ⟨rfl, rfl⟩
    · obtain ⟨h1, h2⟩ := H.each p x hx
      refine ⟨h1.ofHeapB (fun k hk hkl => ?_), fun k hk => ?_⟩
      · obtain ⟨a1, a2, a3⟩ := h2 k hk
        rw [st k (by omega) a2 a3]; exact hb.block k hkl
      · obtain ⟨a1, a2, a3⟩ := h2 k hk
        exact ⟨a1, a2, fun h => a3 (vb k h (by have := h1.lt k hk (recB_ne _ _ _); omega))⟩
    · rw [xl]
      refine ⟨hr.ofHeapB (fun k hk hkl => ?_), fun k hk => ?_⟩
      · have := hrb k hk
        exact st k hkl (by omega) (fun h => by have := (lv k h).2; omega)
      · have := hrb k hk
        exact ⟨by omega, by omega, fun h => by have := (lv k (vb k h (rlt k hk))).2; omega⟩
  · have : w6.heap[bc]? = wz.heap[bc]? := (hg.block bc (by omega) (fun e => H.ne e.symm)).trans (heapOld _ _ _ (by omega))
    rw [this]; exact hz
  · refine hk.ofHeapB (fun k hk2 hkl => ?_)
    have e : kg2 = k := Option.some.inj hk2
    subst e
    exact st kg2 hkl (by omega) (fun h => by have := (lv kg2 h).2; omega)
  · have := (lv kg2 (vb kg2 h klt)).2; omega
  · exact H.ne (vb bc h (by omega))
  · exact (hbz.alloc hbz.size D).grown hg (by omega) (fun k hk => (lv k hk).1)
end Go.Proofs.Ytoekopdogfnkhaa
