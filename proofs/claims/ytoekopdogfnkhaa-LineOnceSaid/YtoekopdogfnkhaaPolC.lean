/-
  The walk of poly's carry.
-/
import Derived.Test.YtoekopdogfnkhaaPolW
set_option linter.unusedVariables false
set_option linter.unusedSimpArgs false
namespace Go.Con.Pol
def at0 (s : List Nat) (i : Nat) : Nat := s.getD i 0
/-- one limb's carry -/
def cstep (s : List Nat) (k : Nat) : List Nat :=
  let c := at0 s k / 67108864
  let s1 := s.set k (at0 s k % 67108864)
  if k < 4 then s1.set (k + 1) (at0 s1 (k + 1) + c) else s1.set 0 (at0 s1 0 + 5 * c)
def ck (s : List Nat) : Nat → List Nat
  | 0 => s
  | k + 1 => cstep (ck s k) k
def fin (s : List Nat) : List Nat :=
  let s1 := s.set 1 (at0 s 1 + at0 s 0 / 67108864)
  s1.set 0 (at0 s1 0 % 67108864)
theorem carry_list (x : L5) : fin (ck (limbs5 x) 5) = limbs5 (carry x) := by
  obtain ⟨a, b, c, d, e⟩ := x
  rfl
theorem cstep_length (s : List Nat) (k : Nat) : (cstep s k).length = s.length := by
  unfold cstep; dsimp only; split <;> simp
theorem ck_length (s : List Nat) (k : Nat) : (ck s k).length = s.length := by
  induction k with
  | zero => rfl
  | succ k ih => rw [ck, cstep_length, ih]
theorem at_set (s : List Nat) (i j x : Nat) (hi : i < s.length) : at0 (s.set i x) j = if i = j then x else at0 s j := by
  unfold at0
  by_cases h : i = j
  · subst h; simp [hi]
  · simp [h, List.getElem?_set]
theorem cstep_bound (s : List Nat) (k B : Nat) (hs : s.length = 5) (hk : k < 5) (hB : 1152921504606846976 ≤ B) (hB2 : B ≤ 1729382256910270464) (h : ∀ j, at0 s j ≤ B) : ∀ j, at0 (cstep s k) j ≤ B + 137438953472 := by
  intro j
  have h1 := h k
  have h2 := h (k + 1)
  have h3 := h 0
  have h4 := h j
  unfold cstep
  dsimp only
  by_cases hk4 : k < 4
  · rw [if_pos hk4, at_set _ _ _ _ (by rw [List.length_set]; omega), at_set s k (k + 1) _ (by omega), at_set s k j _ (by omega)]
    have e : ¬ (k = k + 1) := by omega
    simp only [e, if_false]
    split
    · omega
    · split <;> omega
  · rw [if_neg hk4, at_set _ _ _ _ (by rw [List.length_set]; omega), at_set s k 0 _ (by omega), at_set s k j _ (by omega)]
    have e : ¬ (k = 0) := by omega
    simp only [e, if_false]
    split
    · omega
    · split <;> omega
theorem ck_bound (s : List Nat) (hs : s.length = 5) (h : ∀ j, at0 s j ≤ 1152921504606846976) : ∀ k, k ≤ 5 → ∀ j, at0 (ck s k) j ≤ 1152921504606846976 + k * 137438953472
  | 0, _ => by simpa [ck] using h
  | k + 1, hk => by
    have ih := ck_bound s hs h k (by omega)
    intro j
    have := cstep_bound (ck s k) k (1152921504606846976 + k * 137438953472) (by rw [ck_length]; exact hs) (by omega) (by omega) (by omega) ih j
    rw [ck]; omega
end Go.Con.Pol
namespace Go.Proofs.Ytoekopdogfnkhaa
open Go.RowKit Go.Con
theorem u64_shr (x : Nat) : (x : Int) / 67108864 = ((x / 67108864 : Nat) : Int) := by omega
set_option maxRecDepth 100000 in
set_option maxHeartbeats 2000000 in
theorem carry_any (b : Nat) (t : TypeId) (s : List Nat) (w : World) (hs : s.length = 5) (hbd : ∀ j, Pol.at0 s j ≤ 1152921504606846976) (hW : Big w b t s) :
    Calls Try.prog 41 #[.pointer (some ⟨b, 0, none⟩)] w
      fun e w' => e = .returned (.tuple #[]) ∧ Big w' b t (Pol.fin (Pol.ck s 5)) ∧ Kept w.heap.size (fun k => k = b) w w' := by
  have HW := Lib.hid hW
  have HS := Lib.hid hs
  have HBD := Lib.hid (Pol.ck_bound s hs hbd)
  clear hW hs hbd
  go_enter Try.func41, Try.ntmps41
  go_wp2_with fail
  go_loopw [4] (fun i wr => ∃ k : Nat, k ≤ 5 ∧ i = .int .i64 k ∧ Big wr b t (Pol.ck s k) ∧ Kept w.heap.size (fun k => k = b) w wr) (fun i _ => 5 - (intOf i).toNat)
  case atStart => exact ⟨0, by omega, rfl, HW.out, Kept.refl _ _ _⟩
  case round =>
    obtain ⟨k, hk, rfl, hw, hK⟩ := hrel
    have HQ := Lib.hid hw
    have HK := Lib.hid hK
    clear hw hK
    obtain ⟨q, hq⟩ : ∃ q, q = Pol.ck s k := ⟨_, rfl⟩
    have hql : q.length = 5 := by rw [hq, Pol.ck_length]; exact HS.out
    have hqb : ∀ j, Pol.at0 q j ≤ 1152922191801614336 := fun j => by
      have := HBD.out k hk j; rw [hq]; omega
    have hqs : Pol.ck s (k + 1) = Pol.cstep q k := by rw [hq]; rfl
    rw [← hq] at HQ
    have HQL := Lib.hid hql
    have HQB := Lib.hid hqb
    have HQS := Lib.hid hqs
    by_cases hlt : k < 5
    · obtain ⟨x, hx⟩ : ∃ x, x = Pol.at0 q k := ⟨_, rfl⟩
      have c1 := HQ.out.cell k (by omega)
      have f1 := freeAt HQ.out k
      rw [show q.getD k 0 = x from hx.symm] at c1
      have hxb : x ≤ 1152922191801614336 := by rw [hx]; exact hqb k
      have HX := Lib.hid hx
      clear hqb hqs hql hq hx
      have tail : ∀ (nq : Nat), Big ((wr.drewN nq).setCell ⟨b, k, none⟩ (.int .u64 (bits .and .u64 (x : Int) 67108863))) b t (q.set k (x % 67108864)) := fun nq => by
        rw [low26 x (by omega)]
        exact Big.set (w := wr.drewN nq) HQ.out k (x % 67108864)
      have TL := Lib.hid tail
      clear tail
      by_cases h4 : k < 4
      · obtain ⟨y, hy⟩ : ∃ y, y = Pol.at0 q (k + 1) := ⟨_, rfl⟩
        have hyb : y ≤ 1152922191801614336 := by rw [hy]; exact HQB.out (k + 1)
        have c2 : ∀ nq, ((wr.drewN nq).setCell ⟨b, k, none⟩ (.int .u64 (bits .and .u64 (x : Int) 67108863))).cell? ⟨b, k + 1, none⟩ = some (.int .u64 y) := fun nq => by
          rw [(TL.out nq).cell (k + 1) (by rw [List.length_set]; have := HQL.out; omega)]
          rw [hy]; simp [Pol.at0, List.getElem?_set]
        have f2 : ∀ nq, ((wr.drewN nq).setCell ⟨b, k, none⟩ (.int .u64 (bits .and .u64 (x : Int) 67108863))).frozen? ⟨b, k + 1, none⟩ = false := fun nq => freeAt (TL.out nq) (k + 1)
        have HY := Lib.hid hy
        clear hy
        go_wp2
        refine region_quiet_tail 8 (by kernel_rfl) (by kernel_rfl) ?_
        simp only [List.take_succ_cons, List.take_zero, List.drop_succ_cons, List.drop_zero]
        repeat (go_big_quiet_step (fail))
        refine wpQuiet_nil ?_
        intro w9 hw9
        obtain ⟨nq, rfl⟩ := hw9
        go_wp2_with fail
        have hw2 := TL.out nq
        have hk2 : Kept w.heap.size (fun k => k = b) w ((wr.drewN nq).setCell ⟨b, k, none⟩ (.int .u64 (bits .and .u64 (x : Int) 67108863))) := (HK.out.drewN nq).setCell (.inr rfl) _
        have c3 := c2 nq
        have f3 := f2 nq
        generalize hW2 : (wr.drewN nq).setCell ⟨b, k, none⟩ (.int .u64 (bits .and .u64 (x : Int) 67108863)) = w2 at hw2 hk2 c3 f3 ⊢
        have HW2 := Lib.hid hw2
        have HK2 := Lib.hid hk2
        clear hW2 hw2 hk2 c2 f2 c1 f1
        refine region_quiet_tail 10 (by kernel_rfl) (by kernel_rfl) ?_
        simp only [List.take_succ_cons, List.take_zero, List.drop_succ_cons, List.drop_zero]
        repeat (go_big_quiet_step (fail))
        refine wpQuiet_nil ?_
        intro w9 hw9
        obtain ⟨nr, rfl⟩ := hw9
        go_wp2
        go_roundw
        case rel =>
          refine ⟨k + 1, by omega, by go_num, ?_, (HK2.out.drewN nr).setCell (.inr rfl) _⟩
          rw [HQS.out]
          unfold Pol.cstep
          dsimp only
          rw [if_pos h4, ← HX.out, Pol.at_set q k (k + 1) _ (by have := HQL.out; omega), if_neg (by omega), ← HY.out]
          have e : ((y : Int) + (x : Int) / 67108864) = ((y + x / 67108864 : Nat) : Int) := by omega
          first
            | (rw [e]; exact Big.set (w := w2.drewN nr) HW2.out (k + 1) _)
            | (rw [show IntKind.u64.wrap ((y : Int) + (x : Int) / 67108864) = ((y + x / 67108864 : Nat) : Int) by rw [e]; exact IntWalk.u64_in _ (by omega)]; exact Big.set (w := w2.drewN nr) HW2.out (k + 1) _)
        case measure => simp [intOf]; omega
      · have hk4 : k = 4 := by omega
        obtain ⟨y, hy⟩ : ∃ y, y = Pol.at0 q 0 := ⟨_, rfl⟩
        have hyb : y ≤ 1152922191801614336 := by rw [hy]; exact HQB.out 0
        have c2 : ∀ nq, ((wr.drewN nq).setCell ⟨b, k, none⟩ (.int .u64 (bits .and .u64 (x : Int) 67108863))).cell? ⟨b, 0, none⟩ = some (.int .u64 y) := fun nq => by
          rw [(TL.out nq).cell 0 (by rw [List.length_set]; have := HQL.out; omega)]
          rw [hy]; simp [Pol.at0, List.getElem?_set, show ¬ (k = 0) by omega]
        have f2 : ∀ nq, ((wr.drewN nq).setCell ⟨b, k, none⟩ (.int .u64 (bits .and .u64 (x : Int) 67108863))).frozen? ⟨b, 0, none⟩ = false := fun nq => freeAt (TL.out nq) 0
        have HY := Lib.hid hy
        have HK4 := Lib.hid hk4
        clear hy hk4
        go_wp2
        refine region_quiet_tail 8 (by kernel_rfl) (by kernel_rfl) ?_
        simp only [List.take_succ_cons, List.take_zero, List.drop_succ_cons, List.drop_zero]
        repeat (go_big_quiet_step (fail))
        refine wpQuiet_nil ?_
        intro w9 hw9
        obtain ⟨nq, rfl⟩ := hw9
        go_wp2_with fail
        have hw2 := TL.out nq
        have hk2 : Kept w.heap.size (fun k => k = b) w ((wr.drewN nq).setCell ⟨b, k, none⟩ (.int .u64 (bits .and .u64 (x : Int) 67108863))) := (HK.out.drewN nq).setCell (.inr rfl) _
        have c3 := c2 nq
        have f3 := f2 nq
        generalize hW2 : (wr.drewN nq).setCell ⟨b, k, none⟩ (.int .u64 (bits .and .u64 (x : Int) 67108863)) = w2 at hw2 hk2 c3 f3 ⊢
        have HW2 := Lib.hid hw2
        have HK2 := Lib.hid hk2
        clear hW2 hw2 hk2 c2 f2 c1 f1
        refine region_quiet_tail 9 (by kernel_rfl) (by kernel_rfl) ?_
        simp only [List.take_succ_cons, List.take_zero, List.drop_succ_cons, List.drop_zero]
        repeat (go_big_quiet_step (fail))
        refine wpQuiet_nil ?_
        intro w9 hw9
        obtain ⟨nr, rfl⟩ := hw9
        go_wp2
        go_roundw
        case rel =>
          refine ⟨k + 1, by omega, by go_num, ?_, (HK2.out.drewN nr).setCell (.inr rfl) _⟩
          rw [HQS.out]
          unfold Pol.cstep
          dsimp only
          rw [if_neg h4, ← HX.out, Pol.at_set q k 0 _ (by have := HQL.out; omega), if_neg (by have := HK4.out; omega), ← HY.out]
          have e : ((y : Int) + 5 * ((x : Int) / 67108864)) = ((y + 5 * (x / 67108864) : Nat) : Int) := by omega
          first
            | (rw [e]; exact Big.set (w := w2.drewN nr) HW2.out 0 _)
            | (trace_state; fail)
        case measure => simp [intOf]; omega
    · have hk5 : k = 5 := by omega
      have hq5 : q = Pol.ck s 5 := by rw [hq, hk5]
      obtain ⟨x, hx⟩ : ∃ x, x = Pol.at0 q 0 := ⟨_, rfl⟩
      obtain ⟨y, hy⟩ : ∃ y, y = Pol.at0 q 1 := ⟨_, rfl⟩
      have hxb : x ≤ 1152922191801614336 := by rw [hx]; exact hqb 0
      have hyb : y ≤ 1152922191801614336 := by rw [hy]; exact hqb 1
      have c1 := HQ.out.cell 0 (by omega)
      have c2 := HQ.out.cell 1 (by omega)
      have f2 := freeAt HQ.out 1
      rw [show q.getD 0 0 = x from hx.symm] at c1
      rw [show q.getD 1 0 = y from hy.symm] at c2
      have HX := Lib.hid hx
      have HY := Lib.hid hy
      have HQ5 := Lib.hid hq5
      clear hqb hqs hql hq hx hy hq5 hk5
      have h2 : ∀ nq, Big ((wr.drewN nq).setCell ⟨b, 1, none⟩ (.int .u64 ((y : Int) + (x : Int) / 67108864))) b t (q.set 1 (y + x / 67108864)) := fun nq => by
        rw [show ((y : Int) + (x : Int) / 67108864) = ((y + x / 67108864 : Nat) : Int) by omega]
        exact Big.set (w := wr.drewN nq) HQ.out 1 _
      have H2 := Lib.hid h2
      have c3 : ∀ nq, ((wr.drewN nq).setCell ⟨b, 1, none⟩ (.int .u64 ((y : Int) + (x : Int) / 67108864))).cell? ⟨b, 0, none⟩ = some (.int .u64 x) := fun nq => by
        rw [(h2 nq).cell 0 (by rw [List.length_set]; have := HQL.out; omega)]
        rw [HX.out]; simp [Pol.at0, List.getElem?_set]
      have f3 : ∀ nq, ((wr.drewN nq).setCell ⟨b, 1, none⟩ (.int .u64 ((y : Int) + (x : Int) / 67108864))).frozen? ⟨b, 0, none⟩ = false := fun nq => freeAt (h2 nq) 0
      clear h2
      go_wp2
      refine region_quiet_tail 12 (by kernel_rfl) (by kernel_rfl) ?_
      simp only [List.take_succ_cons, List.take_zero, List.drop_succ_cons, List.drop_zero]
      repeat (go_big_quiet_step (fail))
      refine wpQuiet_nil ?_
      intro w9 hw9
      obtain ⟨nq, rfl⟩ := hw9
      go_wp2_with fail
      have hw2 := H2.out nq
      have hk2 : Kept w.heap.size (fun k => k = b) w ((wr.drewN nq).setCell ⟨b, 1, none⟩ (.int .u64 ((y : Int) + (x : Int) / 67108864))) := (HK.out.drewN nq).setCell (.inr rfl) _
      have c4 := c3 nq
      have f4 := f3 nq
      generalize hW2 : (wr.drewN nq).setCell ⟨b, 1, none⟩ (.int .u64 ((y : Int) + (x : Int) / 67108864)) = w2 at hw2 hk2 c4 f4 ⊢
      have HW2 := Lib.hid hw2
      have HK2 := Lib.hid hk2
      clear hW2 hw2 hk2 c3 f3 c1 c2 f2
      refine region_quiet_tail 7 (by kernel_rfl) (by kernel_rfl) ?_
      simp only [List.take_succ_cons, List.take_zero, List.drop_succ_cons, List.drop_zero]
      repeat (go_big_quiet_step (fail))
      refine wpQuiet_nil ?_
      intro w9 hw9
      obtain ⟨nr, rfl⟩ := hw9
      go_wp2
      go_end0
      refine ⟨rfl, ?_, (HK2.out.drewN nr).setCell (.inr rfl) _⟩
      rw [low26 x (by omega), ← HQ5.out]
      unfold Pol.fin
      dsimp only
      rw [← HX.out, ← HY.out, Pol.at_set q 1 0 _ (by have := HQL.out; omega), if_neg (by omega), ← HX.out]
      exact Big.set (w := w2.drewN nr) HW2.out 0 _
end Go.Proofs.Ytoekopdogfnkhaa
