/-
  What PickGreatest needs: Pick with its answer opened, rows of two rows, append of shown votes in a region that draws.
-/
import Derived.Test.YtdkbajdnckmckaaBlw
import Derived.Test.YtdkbajdnckmckaaVotP
set_option linter.unusedVariables false
set_option linter.unusedSimpArgs false
namespace Go.Con
open Go
theorem cmpB_flip {a b : Int × Int} : 0 < cmpB a b ↔ cmpB b a < 0 := by
  rw [cmpB_lt, cmpB_low]; omega
end Go.Con
namespace Go.Proofs.Ytdkbajdnckmckaa
open Go.RowKit Go.Con
theorem PickR (v : Value) (ls : List (List Vot)) (s sl r n k cl sq nm vl : Int) (rb : Bool) (w : World) (hv : RdLs w v ls) (hs0 : 0 ≤ s) (hs1 : s < 40) (hok : ∀ l ∈ ls, ∀ x ∈ l, okV x = true) (hb : Hid (bestV s Vot.zero ls.flatten = ⟨sl, (r, n), ⟨k, cl, sq, nm, vl⟩⟩)) (hr : Hid (decide (0 < r) = rb)) :
    Calls Try.prog 11 #[v, .int .i64 s] w fun e w' => e = .returned (.tuple #[.agg #[.int .i64 k, .int .i64 cl, .int .i64 sq, .int .i64 nm, .int .i64 vl], .bool rb, .int .i64 0]) ∧ Below w.heap.size w w' := by
  have h := Pick_any v ls s w hv hs0 hs1 hok
  rw [hb.out] at h
  rw [← hr.out]
  exact h
theorem newLs2 {W : World} {v1 v2 : Value} {l1 l2 : List Vot} (h1 : RdV W v1 l1) (h2 : RdV W v2 l2) : RdLs (W.alloc (.cells #[v1, v2] 23)) (.slice (some ⟨W.heap.size, 0, none⟩) 2 2) [l1, l2] := by
  refine ⟨_, _, rfl, Nat.le_refl _, by decide, fun _ => ⟨_, _, rfl, by simp, fun i hi => ?_⟩⟩
  have hi2 : i = 0 ∨ i = 1 := by have : i < 2 := hi; omega
  rcases hi2 with rfl | rfl
  · exact ⟨v1, cellAt (heapNew W _) 0 rfl, RdRow.stay h1 ((Below.refl _ _).alloc (Nat.le_refl _) _)⟩
  · exact ⟨v2, cellAt (heapNew W _) 1 rfl, RdRow.stay h2 ((Below.refl _ _).alloc (Nat.le_refl _) _)⟩
section
variable {ops : Array Oper} {o : Oper} {a : Act} {w : World} {K : Act → World → Prop} {Q : Exit → Act → World → Prop} {E : Prop}
/-- append(own votes, shown ones...), as one step of a region that draws -/
theorem step_apVs (hg : o.guard = none) (s x : Operand) (ho : o.op = .call { callee := .builtin .append, args := #[s, x], argTypes := #[23, 23] })
    (base : Nat) (v : Value) (l m : List Vot) (ea : Option Addr) (k c : Nat) (hs : a.eval s = v) (hown : OwnV w base v l) (hx : a.eval x = .slice ea k c) (hsrc : RdV w (.slice ea k c) m) (hnone : ea = none → c = 0) (hlen : l.length + m.length ≤ 1000000) (hbase : base ≤ w.heap.size)
    (h : ∀ v' w', OwnV w' base v' (l ++ m) → w.grownBy w' v.ownBlock → K (a.put o.dst v') w') : if Region.wanted o (yielded ops a.tmps) = true then Oper.wp Try.prog o a w K Q else E := by
  have hw : Region.wanted o (yielded ops a.tmps) = true := by simp [Region.wanted, hg]
  rw [if_pos hw]
  obtain ⟨i, hi, hz, hsz, hb⟩ := info_part infoVot
  obtain ⟨hk, hkc, hcells⟩ := hsrc.cells
  cases ea with
  | none =>
    have hk0 : k = 0 := by
      rcases Nat.eq_zero_or_pos k with h | h
      · exact h
      · obtain ⟨b, off, he, -⟩ := hcells 0 h; cases he
    have hm : m = [] := List.eq_nil_of_length_eq_zero (by omega)
    rw [hk0, hnone rfl] at hx
    subst hm
    have hr : (Builtin.append_ #[23, 23] o.type #[v, .slice none 0 0]).run Try.prog w = .ok v w := run_append_owned_none (P := Try.prog) (w := w) base 23 o.type 32 i 8 Try.underlying23 hi v l.length _ hown
    exact Lib.wp_append_run w s x _ _ ho _ _ hs hx v w hr (h v w (by simpa using hown) ⟨rfl, rfl, rfl, Nat.le_refl _, fun _ _ _ => rfl⟩)
  | some ad =>
    obtain ⟨v', w', hr, h2, h3, h4, h5⟩ := run_append_own_at (P := Try.prog) w base 23 o.type 32 i _ 8 64 Try.underlying23 hi hz hsz hb rfl (by decide) v l.length (l.flatMap votCells) hown ad k c (m.flatMap votCells) (by rw [flatMap_len votCells 8 (fun _ => rfl), hk]) (rdV_cells hsrc ad rfl) (votCells_one m) (by unfold maxLen; omega) (by omega) hbase
    refine Lib.wp_append_run w s x _ _ ho _ _ hs hx v' w' hr (h v' w' ?_ h3)
    unfold OwnV
    rw [List.length_append, List.flatMap_append, ← hk]
    exact h2
end
theorem grownNil {w w' : World} (h : w.drew.grownBy w' (Value.slice none 0 0).ownBlock) : Below w.heap.size w w' :=
  ((Below.refl w.heap.size w).drew).grown h (Nat.le_refl _) (fun k hk => by cases hk)
theorem votTake {P : List Vot} {q : Nat} (h : q < P.length) : P.take (q + 1) = P.take q ++ [P.getD q Vot.zero] := by
  rw [List.take_add_one, List.getElem?_eq_getElem h, List.getD_eq_getElem?_getD, List.getElem?_eq_getElem h]; rfl
/-- two votes, number by number -/
theorem vot_cases (b0 b1 b2 b3 b4 b5 b6 b7 p0 p1 p2 p3 p4 p5 p6 p7 : Int) : (b0 = p0 ∧ b1 = p1 ∧ b2 = p2 ∧ b3 = p3 ∧ b4 = p4 ∧ b5 = p5 ∧ b6 = p6 ∧ b7 = p7) ∨ ((⟨b0, (b1, b2), ⟨b3, b4, b5, b6, b7⟩⟩ : Vot) ≠ ⟨p0, (p1, p2), ⟨p3, p4, p5, p6, p7⟩⟩ ∧ (((b0 == p0) = false) ∨ (b0 = p0 ∧ (b1 == p1) = false) ∨ (b0 = p0 ∧ b1 = p1 ∧ (b2 == p2) = false) ∨ (b0 = p0 ∧ b1 = p1 ∧ b2 = p2 ∧ (b3 == p3) = false) ∨ (b0 = p0 ∧ b1 = p1 ∧ b2 = p2 ∧ b3 = p3 ∧ (b4 == p4) = false) ∨ (b0 = p0 ∧ b1 = p1 ∧ b2 = p2 ∧ b3 = p3 ∧ b4 = p4 ∧ (b5 == p5) = false) ∨ (b0 = p0 ∧ b1 = p1 ∧ b2 = p2 ∧ b3 = p3 ∧ b4 = p4 ∧ b5 = p5 ∧ (b6 == p6) = false) ∨ (b0 = p0 ∧ b1 = p1 ∧ b2 = p2 ∧ b3 = p3 ∧ b4 = p4 ∧ b5 = p5 ∧ b6 = p6 ∧ (b7 == p7) = false))) := by
  by_cases h : b0 = p0 ∧ b1 = p1 ∧ b2 = p2 ∧ b3 = p3 ∧ b4 = p4 ∧ b5 = p5 ∧ b6 = p6 ∧ b7 = p7
  · exact .inl h
  · refine .inr ⟨fun e => h ?_, ?_⟩
    · injection e with e1 e2 e3
      injection e2 with e4 e5
      injection e3 with e6 e7 e8 e9 e10
      exact ⟨e1, e4, e5, e6, e7, e8, e9, e10⟩
    · by_cases h0 : b0 = p0
      case neg => exact .inl (by simpa using h0)
      by_cases h1 : b1 = p1
      case neg => exact .inr (.inl ⟨h0, by simpa using h1⟩)
      by_cases h2 : b2 = p2
      case neg => exact .inr (.inr (.inl ⟨h0, h1, by simpa using h2⟩))
      by_cases h3 : b3 = p3
      case neg => exact .inr (.inr (.inr (.inl ⟨h0, h1, h2, by simpa using h3⟩)))
      by_cases h4 : b4 = p4
      case neg => exact .inr (.inr (.inr (.inr (.inl ⟨h0, h1, h2, h3, by simpa using h4⟩))))
      by_cases h5 : b5 = p5
      case neg => exact .inr (.inr (.inr (.inr (.inr (.inl ⟨h0, h1, h2, h3, h4, by simpa using h5⟩)))))
      by_cases h6 : b6 = p6
      case neg => exact .inr (.inr (.inr (.inr (.inr (.inr (.inl ⟨h0, h1, h2, h3, h4, h5, by simpa using h6⟩))))))
      by_cases h7 : b7 = p7
      case neg => exact .inr (.inr (.inr (.inr (.inr (.inr (.inr ⟨h0, h1, h2, h3, h4, h5, h6, by simpa using h7⟩))))))
      exact absurd ⟨h0, h1, h2, h3, h4, h5, h6, h7⟩ h
end Go.Proofs.Ytdkbajdnckmckaa
