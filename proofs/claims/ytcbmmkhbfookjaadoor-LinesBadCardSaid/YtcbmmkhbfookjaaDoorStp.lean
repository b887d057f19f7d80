/-
  Appending as one step of a region that draws its order.
-/
import Derived.Test.YtcbmmkhbfookjaaDoorApZ
import Derived.Deep.RegionLaw
set_option linter.unusedVariables false
set_option linter.unusedSimpArgs false
namespace Go.Proofs.YtcbmmkhbfookjaaDoor
open Go.RowKit Go.Con
/-- A new row, written out, is the call's own. -/
theorem ownNew (w : World) (base : Nat) (l : List UInt8) (n : Nat) (hn : l.length = n) (hb : base ≤ w.heap.size) (hm : n ≤ maxLen) : Own (w.alloc (.cells (l.map u8v).toArray 5)) base (.slice (some ⟨w.heap.size, 0, none⟩) n n) l := by
  subst hn
  refine ⟨by simp, .inr ⟨w.heap.size, l.length, (l.map u8v).toArray, rfl, hb, heapNew w _, Nat.le_refl _, hm, by simp, ?_⟩⟩
  rw [List.take_of_length_le (by simp)]
theorem ownNew1 (W : World) (base : Nat) (x0 : Int) (b0 : UInt8) (h0 : x0 = b0.toNat) (hb : base ≤ W.heap.size) :
    Own (W.alloc (.cells #[.int .u8 x0] 5)) base (.slice (some ⟨W.heap.size, 0, none⟩) 1 1) [b0] := by
  subst h0; exact ownNew W base [b0] 1 rfl hb (by decide)
section
variable {ops : Array Oper} {o : Oper} {a : Act} {w : World} {K : Act → World → Prop} {Q : Exit → Act → World → Prop} {E : Prop}
theorem step_apZ (hg : o.guard = none) (s x : Operand) (ho : o.op = .call { callee := .builtin .append, args := #[s, x], argTypes := #[30, 3] })
    (base : Nat) (v : Value) (l : List UInt8) (hs : a.eval s = v) (hown : Own w base v l) (m : Nat) (M : Int) (hx : a.eval x = .int .i64 M) (hM : M = (m : Int)) (hlen : l.length + m ≤ 140737488355328) (hbase : base ≤ w.heap.size)
    (h : ∀ v' w', Own w' base v' (l ++ List.replicate m 0) → w.grownBy w' v.ownBlock → K (a.put o.dst v') w') : if Region.wanted o (yielded ops a.tmps) = true then Oper.wp Tryd.prog o a w K Q else E := by
  have hw : Region.wanted o (yielded ops a.tmps) = true := by simp [Region.wanted, hg]
  rw [if_pos hw]
  subst hM
  obtain ⟨v', w', hr, h1, h2⟩ := run_apz w base o.type v l hown m hlen hbase
  exact Lib.wp_append_run w s x _ _ ho _ _ hs hx v' w' hr (h v' w' h1 h2)
theorem step_apB (hg : o.guard = none) (s x : Operand) (ho : o.op = .call { callee := .builtin .append, args := #[s, x], argTypes := #[30, 30] })
    (base : Nat) (v src : Value) (l m : List UInt8) (hs : a.eval s = v) (hown : Own w base v l) (hx : a.eval x = src) (hsrc : Rd w src m) (hlen : l.length + m.length ≤ 140737488355328) (hbase : base ≤ w.heap.size)
    (h : ∀ v' w', Own w' base v' (l ++ m) → w.grownBy w' v.ownBlock → K (a.put o.dst v') w') : if Region.wanted o (yielded ops a.tmps) = true then Oper.wp Tryd.prog o a w K Q else E := by
  have hw : Region.wanted o (yielded ops a.tmps) = true := by simp [Region.wanted, hg]
  rw [if_pos hw]
  obtain ⟨i0, hi, hz0, hz1, hz2⟩ := info_parts Tryd.info8
  obtain ⟨ao, c, hv, _⟩ := hsrc.slice
  subst hv
  cases ao with
  | none =>
    obtain ⟨hm, hm0, hc0⟩ := hsrc.none_nil
    subst hm
    rw [hc0] at hx
    have hr := run_append_owned_none (P := Tryd.prog) (w := w) base 30 o.type 5 i0 1 Tryd.underlying30 hi v l.length (l.map u8v) hown
    exact Lib.wp_append_run w s x _ _ ho _ _ hs hx v w hr (h v w (by simpa using hown) ⟨rfl, rfl, rfl, Nat.le_refl _, fun _ _ _ => rfl⟩)
  | some ad =>
    obtain ⟨v', w', hr, h2, h3, h4⟩ := run_append_own (P := Tryd.prog) w base 30 o.type 5 i0 (.int .u8 0) 1 1 Tryd.underlying30 hi hz0 hz1 hz2 rfl (by decide) v l.length _ hown ad m.length c (m.map u8v) (by simp) (hsrc.cells ad rfl) (one8 m) (by unfold maxLen; omega) (by omega) hbase
    refine Lib.wp_append_run w s x _ _ ho _ _ hs hx v' w' hr (h v' w' ?_ h3)
    unfold Own
    rw [List.length_append, List.map_append]
    exact h2
end
end Go.Proofs.YtcbmmkhbfookjaaDoor
