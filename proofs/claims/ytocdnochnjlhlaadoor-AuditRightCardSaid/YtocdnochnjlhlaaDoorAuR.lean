/-
  What the walk of AuditRight needs: a chain whose sum, or whose answer, is changed.
-/
import Derived.Test.YtocdnochnjlhlaaDoorAuC
set_option linter.unusedVariables false
set_option linter.unusedSimpArgs false
namespace Go.Proofs.YtocdnochnjlhlaaDoor
open Go.RowKit Go.Con
/-- an answer's value is small -/
theorem _root_.Go.Con.Sto.answer_most (s : Sto) (h : s.Ok) (c : Cmd) (hc : checkC c = 0) : (s.answer c).2 ≤ 1073741824 := by
  rcases checkC_real hc with rfl | hr
  · rw [(Sto.next_noop s).2]; decide
  · have c0 := hr.c0
    have c7 := hr.c7
    have n0 := hr.n0
    have n7 := hr.n7
    have v1 := hr.v1
    have ht : s.told c ≤ 1073741824 := by
      unfold Sto.told
      split
      · exact v1
      · split
        · exact h.val1 _ (by omega)
        · decide
    unfold Sto.answer
    split
    · decide
    split
    · exact h.av1 _ (by omega)
    split
    · decide
    split
    · decide
    · exact ht
theorem RdRow_set {α : Type} {k : Nat} {f : α → List Value} {d : α} {w : World} {g o n c : Nat} {l : List α} (h : RdRow k f d w (.slice (some ⟨g, o, none⟩) n c) l) (hk : k = 8) (hlen : ∀ y, (f y).length = 8) (i j : Nat) (hi : i < l.length) (hj : j < 8) (x : Value) (e : α) (hf : ∀ q, q < 8 → (f e)[q]? = if q = j then some x else (f (l.getD i d))[q]?) :
    RdRow k f d (w.setCell ⟨g, o + (8 * i + j), none⟩ x) (.slice (some ⟨g, o, none⟩) n c) (l.set i e) := by
  subst hk
  obtain ⟨a', c', h0, h1, h2, h3⟩ := h
  injection h0 with e1 e2 e3
  subst e1 e2 e3
  obtain ⟨b, off, e4, hb, hc⟩ := h3 (by intro h; rw [h] at hi; cases hi)
  injection e4 with e4
  injection e4 with e5 e6 e7
  subst e5 e6
  refine ⟨_, _, by rw [List.length_set], by rw [List.length_set]; exact h1, h2, fun _ => ⟨_, _, rfl, by simpa using hb, fun p hp q hq => ?_⟩⟩
  rw [List.length_set] at hp
  by_cases hpi : p = i
  · subst hpi
    have h2 : (l.set p e).getD p d = e := by simp [hp]
    rw [h2, hf q hq]
    by_cases hqj : q = j
    · subst hqj
      rw [if_pos rfl]
      have h5 := hc p hp q hq
      have h6 : q < (f (l.getD p d)).length := by rw [hlen]; exact hq
      rw [List.getElem?_eq_getElem h6] at h5
      exact World.cell?_setCell_same w _ _ h5
    · rw [if_neg hqj, World.cell?_setCell_other _ _ _ _ (by intro e; injection e; omega)]
      exact hc p hp q hq
  · have h2 : (l.set i e).getD p d = l.getD p d := by simp [List.getElem?_set, Ne.symm hpi]
    rw [h2, World.cell?_setCell_other _ _ _ _ (by intro e; injection e; omega)]
    exact hc p hp q hq
theorem Rd_set {w : World} {g off n c : Nat} {l : List UInt8} (h : Rd w (.slice (some ⟨g, off, none⟩) n c) l) (k : Nat) (hk : k < l.length) (x : UInt8) :
    Rd (w.setCell ⟨g, off + k, none⟩ (u8v x)) (.slice (some ⟨g, off, none⟩) n c) (l.set k x) := by
  obtain ⟨a', c', he, hlc, hcm, h0, hcell⟩ := h
  injection he with e1 e2 e3
  subst e1 e2 e3
  obtain ⟨b, o, e4, hc⟩ := hcell (by intro h; rw [h] at hk; cases hk)
  injection e4 with e4
  injection e4 with e5 e6 e7
  subst e5 e6
  refine ⟨_, _, by rw [List.length_set], by simpa using hlc, hcm, (fun h => by cases h), fun _ => ⟨_, _, rfl, fun i hi => ?_⟩⟩
  rw [List.length_set] at hi
  by_cases hik : i = k
  · subst hik
    have h1 := hc i hi
    have h2 : (l.set i x).getD i 0 = x := by simp [hi]
    rw [h2]
    exact World.cell?_setCell_same w _ _ (by rw [h1])
  · have h2 : (l.set k x).getD i 0 = l.getD i 0 := by simp [List.getElem?_set, Ne.symm hik]
    rw [h2, World.cell?_setCell_other _ _ _ _ (by intro e; injection e; omega)]
    exact hc i hi
/-- a sum is changed -/
theorem sum_turned {w : World} {g n c q o sn sc k j : Nat} {es : List Ent} {bs : Nat → List UInt8} {e0 : Ent} (hrow : RdE w (.slice (some ⟨g, 0, none⟩) n c) es) (hb : ∀ i e, es[i]? = some e → Rd w e.sum (bs i)) (hk : es[k]? = some e0) (hs : e0.sum = .slice (some ⟨q, o, none⟩) sn sc) (hj : j < (bs k).length) (hgq : g ≠ q) (hdis : ∀ (i : Nat) (e : Ent), es[i]? = some e → i ≠ k → e.sum.ownBlock ≠ some q) (x : UInt8) :
    RdE (w.setCell ⟨q, o + j, none⟩ (u8v x)) (.slice (some ⟨g, 0, none⟩) n c) es ∧ ∀ i e, es[i]? = some e → Rd (w.setCell ⟨q, o + j, none⟩ (u8v x)) e.sum (if i = k then (bs k).set j x else bs i) := by
  refine ⟨hrow.heap (fun p hp _ => ?_), fun i e he => ?_⟩
  · injection hp with hp; subst hp
    exact heapSet_ne _ _ hgq
  · by_cases hik : i = k
    · subst hik
      rw [if_pos rfl]
      obtain rfl := Option.some.inj (hk.symm.trans he)
      have h := hb i e0 he
      rw [hs] at h ⊢
      exact Rd_set h j hj x
    · rw [if_neg hik]
      refine (hb i e he).ofHeap (fun p hp _ => ?_)
      exact heapSet_ne _ _ (fun h => hdis i e he hik (by rw [hp]; exact congrArg some h))
/-- an answer is changed -/
theorem ans_turned {w : World} {g n c k : Nat} {es : List Ent} {bs : Nat → List UInt8} (hrow : RdE w (.slice (some ⟨g, 0, none⟩) n c) es) (hb : ∀ i e, es[i]? = some e → Rd w e.sum (bs i)) (hk : k < es.length) (hfree : ∀ (i : Nat) (e : Ent), es[i]? = some e → e.sum.ownBlock ≠ some g) (a : Int) :
    RdE (w.setCell ⟨g, k * 8 + 5 + 1, none⟩ (.int .i64 a)) (.slice (some ⟨g, 0, none⟩) n c) (es.set k ⟨(es.getD k ent0).what, ((es.getD k ent0).ans.1, a), (es.getD k ent0).sum⟩) ∧ ∀ i e, (es.set k ⟨(es.getD k ent0).what, ((es.getD k ent0).ans.1, a), (es.getD k ent0).sum⟩)[i]? = some e → Rd (w.setCell ⟨g, k * 8 + 5 + 1, none⟩ (.int .i64 a)) e.sum (bs i) := by
  have hget : es[k]? = some (es.getD k ent0) := by
    rw [List.getD_eq_getElem?_getD, List.getElem?_eq_getElem hk]; rfl
  refine ⟨?_, fun i e he => ?_⟩
  · have h := RdRow_set hrow rfl (fun _ => rfl) k 6 hk (by decide) (.int .i64 a) ⟨(es.getD k ent0).what, ((es.getD k ent0).ans.1, a), (es.getD k ent0).sum⟩ (fun q hq => by
      rcases q with _ | _ | _ | _ | _ | _ | _ | _ | q <;> first | rfl | omega)
    rw [show (0 : Nat) + (8 * k + 6) = k * 8 + 5 + 1 by omega] at h
    exact h
  · have hst : ∀ (i : Nat) (e : Ent), es[i]? = some e → Rd (w.setCell ⟨g, k * 8 + 5 + 1, none⟩ (.int .i64 a)) e.sum (bs i) := fun i e he =>
      (hb i e he).ofHeap (fun p hp _ => heapSet_ne _ _ (fun h => hfree i e he (by rw [hp]; exact congrArg some h)))
    by_cases hik : i = k
    · subst hik
      rw [List.getElem?_set_self hk] at he
      obtain rfl := Option.some.inj he
      exact hst i (es.getD i ent0) hget
    · rw [List.getElem?_set_ne (Ne.symm hik)] at he
      exact hst i e he
theorem picked_toR (n m q : Int) (w : World) (h1 : -9223372036854775808 ≤ n) (h2 : n ≤ 9223372036854775807) (h3 : 0 < m) (hq : Hid (pick n m = q)) :
    Calls Tryd.prog 8 #[.int .i64 n, .int .i64 m] w fun e w' => e = .returned (.int .i64 q) ∧ w' = w :=
  (picked_any n m w h1 h2 h3).mono fun e w' ⟨he, hw⟩ => ⟨by rw [he, hq.out], hw.symm⟩
/-- a chain that is right but for one entry -/
theorem right_but {es fs : List Ent} {bs : Nat → List UInt8} {L : List Cmd} {k : Nat} {z : List UInt8} (hk : k < es.length) (H : ∀ i e, es[i]? = some e → e.what = L.getD i Cmd.zero ∧ e.ans = (Sto.zero.answers L).getD i (0, 0)) (hfs : ∀ i, i < k → fs.getD i ent0 = es.getD i ent0) (hbs : ∀ i, i < k → bs i = (Sto.zero.sums z L).getD i []) :
    ∀ i, i < k → (fs.getD i ent0).what = (L.take k).getD i Cmd.zero ∧ (fs.getD i ent0).ans = (Sto.zero.answers (L.take k)).getD i (0, 0) ∧ bs i = (Sto.zero.sums z (L.take k)).getD i [] := by
  intro i hi
  have h := right_take (z := z) (Nat.le_of_lt hk) H hfs i hi
  exact ⟨h.1, h.2.1, (hbs i hi).trans h.2.2⟩
theorem u8_one (y : UInt8) : Int.ofNat (y.toNat ^^^ 1) = ((y ^^^ 1).toNat : Int) := rfl
theorem xor_one_ne (y : UInt8) : y ^^^ 1 ≠ y := by
  intro h
  have h2 : (y ^^^ 1) ^^^ y = 0 := by rw [h]; exact UInt8.xor_self
  rw [UInt8.xor_comm y 1, UInt8.xor_assoc, UInt8.xor_self] at h2
  exact absurd h2 (by decide)
theorem set_ne (l : List UInt8) (j : Nat) (hj : j < l.length) (x : UInt8) (hx : x ≠ l.getD j 0) : l.set j x ≠ l := by
  intro h
  have h2 := congrArg (fun l => l.getD j 0) h
  have h3 : (l.set j x).getD j 0 = x := by simp [hj]
  exact hx (h3.symm.trans h2)
end Go.Proofs.YtocdnochnjlhlaaDoor
