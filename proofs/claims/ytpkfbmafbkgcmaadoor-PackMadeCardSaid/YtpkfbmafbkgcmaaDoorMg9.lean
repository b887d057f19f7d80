/-
  Texts put together: PolC, PolT, PolU.
-/
import Derived.Test.YtpkfbmafbkgcmaaDoorMg8
set_option linter.unusedVariables false
set_option linter.unusedSimpArgs false
namespace Go.Con.Pol
def at0 (s : List Nat) (i : Nat) : Nat := s.getD i 0
/-- one limb's carry -/
def cstep (s : List Nat) (k : Nat) : List Nat :=
  let c := at0 s k / 67108864
  let s1 := s.set k (at0 s k % 67108864)
  if k < 4 then s1.set (k + 1) (at0 s1 (k + 1) + c) else s1.set 0 (at0 s1 0 + 5 * c)
def ck (s : List Nat) : Nat → List Nat
  | 0 => s
  | k + 1 => cstep (ck s k) k
def fin (s : List Nat) : List Nat :=
  let s1 := s.set 1 (at0 s 1 + at0 s 0 / 67108864)
  s1.set 0 (at0 s1 0 % 67108864)
theorem carry_list (x : L5) : fin (ck (limbs5 x) 5) = limbs5 (carry x) := by
  obtain ⟨a, b, c, d, e⟩ := x
  rfl
theorem cstep_length (s : List Nat) (k : Nat) : (cstep s k).length = s.length := by
  unfold cstep; dsimp only; split <;> simp
theorem ck_length (s : List Nat) (k : Nat) : (ck s k).length = s.length := by
  induction k with
  | zero => rfl
  | succ k ih => rw [ck, cstep_length, ih]
theorem at_set (s : List Nat) (i j x : Nat) (hi : i < s.length) : at0 (s.set i x) j = if i = j then x else at0 s j := by
  unfold at0
  by_cases h : i = j
  · subst h; simp [hi]
  · simp [h, List.getElem?_set]
theorem cstep_bound (s : List Nat) (k B : Nat) (hs : s.length = 5) (hk : k < 5) (hB : 1152921504606846976 ≤ B) (hB2 : B ≤ 1729382256910270464) (h : ∀ j, at0 s j ≤ B) : ∀ j, at0 (cstep s k) j ≤ B + 137438953472 := by
  intro j
  have h1 := h k
  have h2 := h (k + 1)
  have h3 := h 0
  have h4 := h j
  unfold cstep
  dsimp only
  by_cases hk4 : k < 4
  · rw [if_pos hk4, at_set _ _ _ _ (by rw [List.length_set]; omega), at_set s k (k + 1) _ (by omega), at_set s k j _ (by omega)]
    have e : ¬ (k = k + 1) := by omega
    simp only [e, if_false]
    split
    · omega
    · split <;> omega
  · rw [if_neg hk4, at_set _ _ _ _ (by rw [List.length_set]; omega), at_set s k 0 _ (by omega), at_set s k j _ (by omega)]
    have e : ¬ (k = 0) := by omega
    simp only [e, if_false]
    split
    · omega
    · split <;> omega
theorem ck_bound (s : List Nat) (hs : s.length = 5) (h : ∀ j, at0 s j ≤ 1152921504606846976) : ∀ k, k ≤ 5 → ∀ j, at0 (ck s k) j ≤ 1152921504606846976 + k * 137438953472
  | 0, _ => by simpa [ck] using h
  | k + 1, hk => by
    have ih := ck_bound s hs h k (by omega)
    intro j
    have := cstep_bound (ck s k) k (1152921504606846976 + k * 137438953472) (by rw [ck_length]; exact hs) (by omega) (by omega) (by omega) ih j
    rw [ck]; omega
end Go.Con.Pol
namespace Go.Proofs.YtpkfbmafbkgcmaaDoor
open Go.RowKit Go.Con
theorem u64_shr (x : Nat) : (x : Int) / 67108864 = ((x / 67108864 : Nat) : Int) := by omega
set_option maxRecDepth 100000 in
set_option maxHeartbeats 2000000 in
theorem carry_any (b : Nat) (t : TypeId) (s : List Nat) (w : World) (hs : s.length = 5) (hbd : ∀ j, Pol.at0 s j ≤ 1152921504606846976) (hW : Big w b t s) :
    Calls Tryd.prog 61 #[.pointer (some ⟨b, 0, none⟩)] w
      fun e w' => e = .returned (.tuple #[]) ∧ Big w' b t (Pol.fin (Pol.ck s 5)) ∧ Kept w.heap.size (fun k => k = b) w w' := by
  have HW := Lib.hid hW
  have HS := Lib.hid hs
  have HBD := Lib.hid (Pol.ck_bound s hs hbd)
  clear hW hs hbd
  go_enter Tryd.func61, Tryd.ntmps61
  go_wp2_with fail
  go_loopw [4] (fun i wr => ∃ k : Nat, k ≤ 5 ∧ i = .int .i64 k ∧ Big wr b t (Pol.ck s k) ∧ Kept w.heap.size (fun k => k = b) w wr) (fun i _ => 5 - (intOf i).toNat)
  case atStart => exact ⟨0, by omega, rfl, HW.out, Kept.refl _ _ _⟩
  case round =>
    obtain ⟨k, hk, rfl, hw, hK⟩ := hrel
    have HQ := Lib.hid hw
    have HK := Lib.hid hK
    clear hw hK
    obtain ⟨q, hq⟩ : ∃ q, q = Pol.ck s k := ⟨_, rfl⟩
    have hql : q.length = 5 := by rw [hq, Pol.ck_length]; exact HS.out
    have hqb : ∀ j, Pol.at0 q j ≤ 1152922191801614336 := fun j => by
      have := HBD.out k hk j; rw [hq]; omega
    have hqs : Pol.ck s (k + 1) = Pol.cstep q k := by rw [hq]; rfl
    rw [← hq] at HQ
    have HQL := Lib.hid hql
    have HQB := Lib.hid hqb
    have HQS := Lib.hid hqs
    by_cases hlt : k < 5
    · obtain ⟨x, hx⟩ : ∃ x, x = Pol.at0 q k := ⟨_, rfl⟩
      have c1 := HQ.out.cell k (by omega)
      have f1 := freeAt HQ.out k
      rw [show q.getD k 0 = x from hx.symm] at c1
      have hxb : x ≤ 1152922191801614336 := by rw [hx]; exact hqb k
      have HX := Lib.hid hx
      clear hqb hqs hql hq hx
      have tail : ∀ (nq : Nat), Big ((wr.drewN nq).setCell ⟨b, k, none⟩ (.int .u64 (bits .and .u64 (x : Int) 67108863))) b t (q.set k (x % 67108864)) := fun nq => by
        rw [low26 x (by omega)]
        exact Big.set (w := wr.drewN nq) HQ.out k (x % 67108864)
      have TL := Lib.hid tail
      clear tail
      by_cases h4 : k < 4
      · obtain ⟨y, hy⟩ : ∃ y, y = Pol.at0 q (k + 1) := ⟨_, rfl⟩
        have hyb : y ≤ 1152922191801614336 := by rw [hy]; exact HQB.out (k + 1)
        have c2 : ∀ nq, ((wr.drewN nq).setCell ⟨b, k, none⟩ (.int .u64 (bits .and .u64 (x : Int) 67108863))).cell? ⟨b, k + 1, none⟩ = some (.int .u64 y) := fun nq => by
          rw [(TL.out nq).cell (k + 1) (by rw [List.length_set]; have := HQL.out; omega)]
          rw [hy]; simp [Pol.at0, List.getElem?_set]
        have f2 : ∀ nq, ((wr.drewN nq).setCell ⟨b, k, none⟩ (.int .u64 (bits .and .u64 (x : Int) 67108863))).frozen? ⟨b, k + 1, none⟩ = false := fun nq => freeAt (TL.out nq) (k + 1)
        have HY := Lib.hid hy
        clear hy
        go_wp2
        refine region_quiet_tail 8 (by kernel_rfl) (by kernel_rfl) ?_
        simp only [List.take_succ_cons, List.take_zero, List.drop_succ_cons, List.drop_zero]
        repeat (go_big_quiet_step (fail))
        refine wpQuiet_nil ?_
        intro w9 hw9
        obtain ⟨nq, rfl⟩ := hw9
        go_wp2_with fail
        have hw2 := TL.out nq
        have hk2 : Kept w.heap.size (fun k => k = b) w ((wr.drewN nq).setCell ⟨b, k, none⟩ (.int .u64 (bits .and .u64 (x : Int) 67108863))) := (HK.out.drewN nq).setCell (.inr rfl) _
        have c3 := c2 nq
        have f3 := f2 nq
        generalize hW2 : (wr.drewN nq).setCell ⟨b, k, none⟩ (.int .u64 (bits .and .u64 (x : Int) 67108863)) = w2 at hw2 hk2 c3 f3 ⊢
        have HW2 := Lib.hid hw2
        have HK2 := Lib.hid hk2
        clear hW2 hw2 hk2 c2 f2 c1 f1
        refine region_quiet_tail 10 (by kernel_rfl) (by kernel_rfl) ?_
        simp only [List.take_succ_cons, List.take_zero, List.drop_succ_cons, List.drop_zero]
        repeat (go_big_quiet_step (fail))
        refine wpQuiet_nil ?_
        intro w9 hw9
        obtain ⟨nr, rfl⟩ := hw9
        go_wp2
        go_roundw
        case rel =>
          refine ⟨k + 1, by omega, by go_num, ?_, (HK2.out.drewN nr).setCell (.inr rfl) _⟩
          rw [HQS.out]
          unfold Pol.cstep
          dsimp only
          rw [if_pos h4, ← HX.out, Pol.at_set q k (k + 1) _ (by have := HQL.out; omega), if_neg (by omega), ← HY.out]
          have e : ((y : Int) + (x : Int) / 67108864) = ((y + x / 67108864 : Nat) : Int) := by omega
          first
            | (rw [e]; exact Big.set (w := w2.drewN nr) HW2.out (k + 1) _)
            | (rw [show IntKind.u64.wrap ((y : Int) + (x : Int) / 67108864) = ((y + x / 67108864 : Nat) : Int) by rw [e]; exact IntWalk.u64_in _ (by omega)]; exact Big.set (w := w2.drewN nr) HW2.out (k + 1) _)
        case measure => simp [intOf]; omega
      · have hk4 : k = 4 := by omega
        obtain ⟨y, hy⟩ : ∃ y, y = Pol.at0 q 0 := ⟨_, rfl⟩
        have hyb : y ≤ 1152922191801614336 := by rw [hy]; exact HQB.out 0
        have c2 : ∀ nq, ((wr.drewN nq).setCell ⟨b, k, none⟩ (.int .u64 (bits .and .u64 (x : Int) 67108863))).cell? ⟨b, 0, none⟩ = some (.int .u64 y) := fun nq => by
          rw [(TL.out nq).cell 0 (by rw [List.length_set]; have := HQL.out; omega)]
          rw [hy]; simp [Pol.at0, List.getElem?_set, show ¬ (k = 0) by omega]
        have f2 : ∀ nq, ((wr.drewN nq).setCell ⟨b, k, none⟩ (.int .u64 (bits .and .u64 (x : Int) 67108863))).frozen? ⟨b, 0, none⟩ = false := fun nq => freeAt (TL.out nq) 0
        have HY := Lib.hid hy
        have HK4 := Lib.hid hk4
        clear hy hk4
        go_wp2
        refine region_quiet_tail 8 (by kernel_rfl) (by kernel_rfl) ?_
        simp only [List.take_succ_cons, List.take_zero, List.drop_succ_cons, List.drop_zero]
        repeat (go_big_quiet_step (fail))
        refine wpQuiet_nil ?_
        intro w9 hw9
        obtain ⟨nq, rfl⟩ := hw9
        go_wp2_with fail
        have hw2 := TL.out nq
        have hk2 : Kept w.heap.size (fun k => k = b) w ((wr.drewN nq).setCell ⟨b, k, none⟩ (.int .u64 (bits .and .u64 (x : Int) 67108863))) := (HK.out.drewN nq).setCell (.inr rfl) _
        have c3 := c2 nq
        have f3 := f2 nq
        generalize hW2 : (wr.drewN nq).setCell ⟨b, k, none⟩ (.int .u64 (bits .and .u64 (x : Int) 67108863)) = w2 at hw2 hk2 c3 f3 ⊢
        have HW2 := Lib.hid hw2
        have HK2 := Lib.hid hk2
        clear hW2 hw2 hk2 c2 f2 c1 f1
        refine region_quiet_tail 9 (by kernel_rfl) (by kernel_rfl) ?_
        simp only [List.take_succ_cons, List.take_zero, List.drop_succ_cons, List.drop_zero]
        repeat (go_big_quiet_step (fail))
        refine wpQuiet_nil ?_
        intro w9 hw9
        obtain ⟨nr, rfl⟩ := hw9
        go_wp2
        go_roundw
        case rel =>
          refine ⟨k + 1, by omega, by go_num, ?_, (HK2.out.drewN nr).setCell (.inr rfl) _⟩
          rw [HQS.out]
          unfold Pol.cstep
          dsimp only
          rw [if_neg h4, ← HX.out, Pol.at_set q k 0 _ (by have := HQL.out; omega), if_neg (by have := HK4.out; omega), ← HY.out]
          have e : ((y : Int) + 5 * ((x : Int) / 67108864)) = ((y + 5 * (x / 67108864) : Nat) : Int) := by omega
          first
            | (rw [e]; exact Big.set (w := w2.drewN nr) HW2.out 0 _)
            | (trace_state; fail)
        case measure => simp [intOf]; omega
    · have hk5 : k = 5 := by omega
      have hq5 : q = Pol.ck s 5 := by rw [hq, hk5]
      obtain ⟨x, hx⟩ : ∃ x, x = Pol.at0 q 0 := ⟨_, rfl⟩
      obtain ⟨y, hy⟩ : ∃ y, y = Pol.at0 q 1 := ⟨_, rfl⟩
      have hxb : x ≤ 1152922191801614336 := by rw [hx]; exact hqb 0
      have hyb : y ≤ 1152922191801614336 := by rw [hy]; exact hqb 1
      have c1 := HQ.out.cell 0 (by omega)
      have c2 := HQ.out.cell 1 (by omega)
      have f2 := freeAt HQ.out 1
      rw [show q.getD 0 0 = x from hx.symm] at c1
      rw [show q.getD 1 0 = y from hy.symm] at c2
      have HX := Lib.hid hx
      have HY := Lib.hid hy
      have HQ5 := Lib.hid hq5
      clear hqb hqs hql hq hx hy hq5 hk5
      have h2 : ∀ nq, Big ((wr.drewN nq).setCell ⟨b, 1, none⟩ (.int .u64 ((y : Int) + (x : Int) / 67108864))) b t (q.set 1 (y + x / 67108864)) := fun nq => by
        rw [show ((y : Int) + (x : Int) / 67108864) = ((y + x / 67108864 : Nat) : Int) by omega]
        exact Big.set (w := wr.drewN nq) HQ.out 1 _
      have H2 := Lib.hid h2
      have c3 : ∀ nq, ((wr.drewN nq).setCell ⟨b, 1, none⟩ (.int .u64 ((y : Int) + (x : Int) / 67108864))).cell? ⟨b, 0, none⟩ = some (.int .u64 x) := fun nq => by
        rw [(h2 nq).cell 0 (by rw [List.length_set]; have := HQL.out; omega)]
        rw [HX.out]; simp [Pol.at0, List.getElem?_set]
      have f3 : ∀ nq, ((wr.drewN nq).setCell ⟨b, 1, none⟩ (.int .u64 ((y : Int) + (x : Int) / 67108864))).frozen? ⟨b, 0, none⟩ = false := fun nq => freeAt (h2 nq) 0
      clear h2
      go_wp2
      refine region_quiet_tail 12 (by kernel_rfl) (by kernel_rfl) ?_
      simp only [List.take_succ_cons, List.take_zero, List.drop_succ_cons, List.drop_zero]
      repeat (go_big_quiet_step (fail))
      refine wpQuiet_nil ?_
      intro w9 hw9
      obtain ⟨nq, rfl⟩ := hw9
      go_wp2_with fail
      have hw2 := H2.out nq
      have hk2 : Kept w.heap.size (fun k => k = b) w ((wr.drewN nq).setCell ⟨b, 1, none⟩ (.int .u64 ((y : Int) + (x : Int) / 67108864))) := (HK.out.drewN nq).setCell (.inr rfl) _
      have c4 := c3 nq
      have f4 := f3 nq
      generalize hW2 : (wr.drewN nq).setCell ⟨b, 1, none⟩ (.int .u64 ((y : Int) + (x : Int) / 67108864)) = w2 at hw2 hk2 c4 f4 ⊢
      have HW2 := Lib.hid hw2
      have HK2 := Lib.hid hk2
      clear hW2 hw2 hk2 c3 f3 c1 c2 f2
      refine region_quiet_tail 7 (by kernel_rfl) (by kernel_rfl) ?_
      simp only [List.take_succ_cons, List.take_zero, List.drop_succ_cons, List.drop_zero]
      repeat (go_big_quiet_step (fail))
      refine wpQuiet_nil ?_
      intro w9 hw9
      obtain ⟨nr, rfl⟩ := hw9
      go_wp2
      go_end0
      refine ⟨rfl, ?_, (HK2.out.drewN nr).setCell (.inr rfl) _⟩
      rw [low26 x (by omega), ← HQ5.out]
      unfold Pol.fin
      dsimp only
      rw [← HX.out, ← HY.out, Pol.at_set q 1 0 _ (by have := HQL.out; omega), if_neg (by omega), ← HX.out]
      exact Big.set (w := w2.drewN nr) HW2.out 0 _
end Go.Proofs.YtpkfbmafbkgcmaaDoor

set_option linter.unusedVariables false
set_option linter.unusedSimpArgs false
namespace Go.Con.Pol
def mstep (x y s : List Nat) (i k : Nat) : List Nat := if i + k < 5 then s.set (i + k) (at0 s (i + k) + at0 x i * at0 y k) else s.set (i + k - 5) (at0 s (i + k - 5) + 5 * at0 x i * at0 y k)
def mk (x y s : List Nat) (i : Nat) : Nat → List Nat
  | 0 => s
  | k + 1 => mstep x y (mk x y s i k) i k
def mi (x y s : List Nat) : Nat → List Nat
  | 0 => s
  | i + 1 => mk x y (mi x y s i) i 5
theorem mstep_length (x y s : List Nat) (i k : Nat) : (mstep x y s i k).length = s.length := by unfold mstep; split <;> simp
theorem mk_length (x y s : List Nat) (i k : Nat) : (mk x y s i k).length = s.length := by
  induction k with
  | zero => rfl
  | succ k ih => rw [mk, mstep_length, ih]
theorem mi_length (x y s : List Nat) (i : Nat) : (mi x y s i).length = s.length := by
  induction i with
  | zero => rfl
  | succ i ih => rw [mi, mk_length, ih]
theorem mul_list (x y : L5) : mi (limbs5 x) (limbs5 y) [0, 0, 0, 0, 0] 5 = limbs5 (mul x y) := by
  obtain ⟨a, b, c, d, e⟩ := x
  obtain ⟨p, q, r, s, t⟩ := y
  simp [mi, mk, mstep, at0, limbs5, mul]
theorem prod_bound (a b : Nat) (ha : a ≤ 134221824) (hb : b ≤ 67108864) : a * b ≤ 9007474132647936 ∧ 5 * a * b ≤ 45037370663239680 := by
  have h := Nat.mul_le_mul ha hb
  rw [Nat.mul_assoc]
  omega
theorem mstep_bound (x y s : List Nat) (i k B : Nat) (hs : s.length = 5) (hi : i < 5) (hk : k < 5) (hx : at0 x i ≤ 134221824) (hy : at0 y k ≤ 67108864) (h : ∀ j, at0 s j ≤ B) : ∀ j, at0 (mstep x y s i k) j ≤ B + 45037370663239680 := by
  intro j
  have hp := prod_bound _ _ hx hy
  have h1 := h j
  have h2 := h (i + k)
  have h3 := h (i + k - 5)
  unfold mstep
  split
  · rw [at_set _ _ _ _ (by omega)]; split <;> omega
  · rw [at_set _ _ _ _ (by omega)]; split <;> omega
theorem mk_bound (x y s : List Nat) (i B : Nat) (hs : s.length = 5) (hi : i < 5) (hx : ∀ j, at0 x j ≤ 134221824) (hy : ∀ j, at0 y j ≤ 67108864) (h : ∀ j, at0 s j ≤ B) : ∀ k, k ≤ 5 → ∀ j, at0 (mk x y s i k) j ≤ B + k * 45037370663239680
  | 0, _ => by simpa [mk] using h
  | k + 1, hk => by
    have ih := mk_bound x y s i B hs hi hx hy h k (by omega)
    intro j
    have := mstep_bound x y (mk x y s i k) i k (B + k * 45037370663239680) (by rw [mk_length]; exact hs) hi (by omega) (hx i) (hy k) ih j
    rw [mk]; omega
theorem mi_bound (x y s : List Nat) (hs : s.length = 5) (hx : ∀ j, at0 x j ≤ 134221824) (hy : ∀ j, at0 y j ≤ 67108864) (h : ∀ j, at0 s j ≤ 0) : ∀ i, i ≤ 5 → ∀ j, at0 (mi x y s i) j ≤ i * 225186853316198400
  | 0, _ => by simpa [mi] using h
  | i + 1, hi => by
    have ih := mi_bound x y s hs hx hy h i (by omega)
    intro j
    have := mk_bound x y (mi x y s i) i (i * 225186853316198400) (by rw [mi_length]; exact hs) (by omega) hx hy ih 5 (by omega) j
    rw [mi]; omega
end Go.Con.Pol
namespace Go.Proofs.YtpkfbmafbkgcmaaDoor
open Go.RowKit Go.Con
theorem heapNew2 (w : World) (A B C : Obj) : (((w.alloc A).alloc B).alloc C).heap[w.heap.size + 2]? = some C := by
  have e : ((w.alloc A).alloc B).heap.size = w.heap.size + 2 := by simp
  rw [← e]; exact heapNew _ _
theorem heapNew3 (w : World) (A B C D : Obj) : ((((w.alloc A).alloc B).alloc C).alloc D).heap[w.heap.size + 3]? = some D := by
  have e : (((w.alloc A).alloc B).alloc C).heap.size = w.heap.size + 3 := by simp
  rw [← e]; exact heapNew _ _
theorem index5 (x : Pol.L5) (k : Nat) (hk : k < 5) (W : World) : (Instr.index 99 (.agg #[.int .u64 x.a0, .int .u64 x.a1, .int .u64 x.a2, .int .u64 x.a3, .int .u64 x.a4]) (.int .i64 k)).run Tryd.prog W = .ok (.int .u64 (Pol.at0 (limbs5 x) k)) W := by
  have h5 : k = 0 ∨ k = 1 ∨ k = 2 ∨ k = 3 ∨ k = 4 := by omega
  rcases h5 with rfl | rfl | rfl | rfl | rfl <;> (show _ = _; kernel_rfl)
theorem storeBig {w : World} {b : Nat} {t : TypeId} {s : List Nat} {cur : Array Value} (h : w.heap[b]? = some (.cells cur t (0, 0))) (hn : cur.size = s.length) : Big (w.setCells b 0 (s.map u64v)) b t s := storedRow h (by simpa using hn)
set_option maxRecDepth 100000 in
set_option maxHeartbeats 2000000 in
theorem times_any (x y : Pol.L5) (w : World) (hx : ∀ j, Pol.at0 (limbs5 x) j ≤ 134221824) (hy : ∀ j, Pol.at0 (limbs5 y) j ≤ 67108864) :
    Calls Tryd.prog 59 #[.agg #[.int .u64 x.a0, .int .u64 x.a1, .int .u64 x.a2, .int .u64 x.a3, .int .u64 x.a4], .agg #[.int .u64 y.a0, .int .u64 y.a1, .int .u64 y.a2, .int .u64 y.a3, .int .u64 y.a4]] w
      fun e w' => e = .returned (.agg ((limbs5 (Pol.carry (Pol.mul x y))).map u64v).toArray) ∧ Below w.heap.size w w' := by
  have hix := fun k hk W => index5 x k hk W
  have hiy := fun k hk W => index5 y k hk W
  have hbd := Pol.mi_bound (limbs5 x) (limbs5 y) [0, 0, 0, 0, 0] rfl hx hy (by intro j; match j with | 0 | 1 | 2 | 3 | 4 => decide | j + 5 => simp [Pol.at0])
  have HIX := Lib.hid hix
  have HIY := Lib.hid hiy
  have HBD := Lib.hid hbd
  have HX := Lib.hid hx
  have HY := Lib.hid hy
  have hlast : Pol.fin (Pol.ck (Pol.mi (limbs5 x) (limbs5 y) [0, 0, 0, 0, 0] 5) 5) = limbs5 (Pol.carry (Pol.mul x y)) := by rw [Pol.mul_list, Pol.carry_list]
  have HLAST := Lib.hid hlast
  obtain ⟨xs, hxs⟩ : ∃ xs, xs = limbs5 x := ⟨_, rfl⟩
  obtain ⟨ys, hys⟩ : ∃ ys, ys = limbs5 y := ⟨_, rfl⟩
  rw [← hxs] at HIX HBD HX HLAST
  rw [← hys] at HIY HBD HY HLAST
  have HXS := Lib.hid hxs
  have HYS := Lib.hid hys
  clear hix hiy hbd hx hy hlast hxs hys
  obtain ⟨x0, x1, x2, x3, x4⟩ := x
  obtain ⟨y0, y1, y2, y3, y4⟩ := y
  dsimp only at HIX HIY ⊢
  go_enter Tryd.func59, Tryd.ntmps59
  go_wp2_with fail
  obtain ⟨w0, hw0⟩ : ∃ w0, w0 = (((w.alloc (.cells #[.int .u64 x0, .int .u64 x1, .int .u64 x2, .int .u64 x3, .int .u64 x4] 99)).alloc (.cells #[.int .u64 y0, .int .u64 y1, .int .u64 y2, .int .u64 y3, .int .u64 y4] 99)).alloc (.cells #[.int .u64 0, .int .u64 0, .int .u64 0, .int .u64 0, .int .u64 0] 99)).alloc (.cells #[.int .u64 0, .int .u64 0, .int .u64 0, .int .u64 0, .int .u64 0] 99) := ⟨_, rfl⟩
  rw [← hw0]
  have hy0 : w0.heap[w.heap.size + 1]? = some (.cells #[.int .u64 y0, .int .u64 y1, .int .u64 y2, .int .u64 y3, .int .u64 y4] 99) := by rw [hw0]; exact (heapOld _ _ _ (by simp)).trans ((heapOld _ _ _ (by simp)).trans (heapNew1 w _ _))
  have hr0 : Room w0 (w.heap.size + 1 + 1) 5 99 := ⟨_, by rw [hw0]; exact (heapOld _ _ _ (by simp)).trans (heapNew2 w _ _ _), rfl⟩
  have ho0 : Big w0 (w.heap.size + 1 + 1 + 1) 99 [0, 0, 0, 0, 0] := by rw [hw0]; exact heapNew3 w _ _ _ _
  have hb0 : Below w.heap.size w w0 := by rw [hw0]; exact ((((Below.refl _ _).alloc (Nat.le_refl _) _).alloc (by simp) _).alloc (by simp; omega) _).alloc (by simp; omega) _
  have HY0 := Lib.hid hy0
  have HR0 := Lib.hid hr0
  have HO0 := Lib.hid ho0
  have HB0 := Lib.hid hb0
  clear hw0 hy0 hr0 ho0 hb0
  go_loopw [11] (fun i wr => ∃ i' : Nat, i' ≤ 5 ∧ i = .int .i64 i' ∧ Big wr (w.heap.size + 1 + 1 + 1) 99 (Pol.mi xs ys [0, 0, 0, 0, 0] i') ∧ wr.heap[w.heap.size + 1]? = some (.cells #[.int .u64 y0, .int .u64 y1, .int .u64 y2, .int .u64 y3, .int .u64 y4] 99) ∧ Room wr (w.heap.size + 1 + 1) 5 99 ∧ Below w.heap.size w wr) (fun i _ => 5 - (intOf i).toNat)
  case atStart => exact ⟨0, by omega, rfl, HO0.out, HY0.out, HR0.out, HB0.out⟩
  case round =>
    obtain ⟨i, hi, rfl, ho, hy, hr, hb⟩ := hrel
    have HO := Lib.hid ho
    have HYb := Lib.hid hy
    have HR := Lib.hid hr
    have HB := Lib.hid hb
    by_cases hlt : i < 5
    · have hdi : decide ((i : Int) < 5) = true := by rw [decide_eq_true_eq]; omega
      obtain ⟨o, hoe⟩ : ∃ o, o = Pol.mi xs ys [0, 0, 0, 0, 0] i := ⟨_, rfl⟩
      have hol : o.length = 5 := by rw [hoe, Pol.mi_length]; rfl
      have hmb := Pol.mk_bound xs ys o i (i * 225186853316198400) hol hlt HX.out HY.out (by rw [hoe]; exact HBD.out i hi)
      have hmi : Pol.mi xs ys [0, 0, 0, 0, 0] (i + 1) = Pol.mk xs ys o i 5 := by rw [hoe]; rfl
      rw [← hoe] at HO
      have hii := HIX.out i hlt
      obtain ⟨a, ha⟩ : ∃ a, a = Pol.at0 xs i := ⟨_, rfl⟩
      rw [← ha] at hii
      have hab : a ≤ 134221824 := by rw [ha]; exact HX.out i
      have e0 := cellAt hy 0 rfl
      have e1 := cellAt hy 1 rfl
      have e2 := cellAt hy 2 rfl
      have e3 := cellAt hy 3 rfl
      have e4 := cellAt hy 4 rfl
      have HOL := Lib.hid hol
      have HMB := Lib.hid hmb
      have HMI := Lib.hid hmi
      have HA := Lib.hid ha
      clear ho hy hr hb hol hmb hmi ha hoe
      go_wp2_with fail
      clear e0 e1 e2 e3 e4 hii
      go_loopw [16] (fun k wr => ∃ k' : Nat, k' ≤ 5 ∧ k = .int .i64 k' ∧ Big wr (w.heap.size + 1 + 1 + 1) 99 (Pol.mk xs ys o i k') ∧ wr.heap[w.heap.size + 1]? = some (.cells #[.int .u64 y0, .int .u64 y1, .int .u64 y2, .int .u64 y3, .int .u64 y4] 99) ∧ Room wr (w.heap.size + 1 + 1) 5 99 ∧ Below w.heap.size w wr) (fun k _ => 5 - (intOf k).toNat)
      case atStart => exact ⟨0, by omega, rfl, HO.out, HYb.out, HR.out, HB.out⟩
      case round =>
        obtain ⟨k, hk, rfl, ho, hy, hr, hb⟩ := hrel
        have HO := Lib.hid ho
        have HYb := Lib.hid hy
        have HR := Lib.hid hr
        have HB := Lib.hid hb
        by_cases hlk : k < 5
        · have hdk : decide ((k : Int) < 5) = true := by rw [decide_eq_true_eq]; omega
          obtain ⟨q, hq⟩ : ∃ q, q = Pol.mk xs ys o i k := ⟨_, rfl⟩
          have hql : q.length = 5 := by rw [hq, Pol.mk_length]; exact HOL.out
          have hqb : ∀ j, Pol.at0 q j ≤ 1125934266580992000 := fun j => by
            have := HMB.out k hk j
            rw [hq]; omega
          have hqs : Pol.mk xs ys o i (k + 1) = Pol.mstep xs ys q i k := by rw [hq]; rfl
          rw [← hq] at HO
          obtain ⟨c, hc⟩ : ∃ c, c = Pol.at0 ys k := ⟨_, rfl⟩
          have hcb : c ≤ 67108864 := by rw [hc]; exact HY.out k
          have hik := HIY.out k hlk
          rw [← hc] at hik
          have hp := Pol.prod_bound a c hab hcb
          obtain ⟨m, hm⟩ : ∃ m, m = a * c := ⟨_, rfl⟩
          obtain ⟨m5, hm5⟩ : ∃ m, m = 5 * a * c := ⟨_, rfl⟩
          have p1 : (a : Int) * (c : Int) = (m : Int) := by rw [hm, Int.natCast_mul]
          have p5 : (5 : Int) * (a : Int) * (c : Int) = (m5 : Int) := by rw [hm5, Int.natCast_mul, Int.natCast_mul]; rfl
          have p2 : m ≤ 9007474132647936 := by rw [hm]; exact hp.1
          have p4 : m5 ≤ 45037370663239680 := by rw [hm5]; exact hp.2
          have HM := Lib.hid hm
          have HM5 := Lib.hid hm5
          have HQL := Lib.hid hql
          have HQS := Lib.hid hqs
          have HC := Lib.hid hc
          by_cases h5 : i + k < 5
          · have hdik : decide ((i : Int) + (k : Int) < 5) = true := by rw [decide_eq_true_eq]; omega
            obtain ⟨z, hz⟩ : ∃ z, z = Pol.at0 q (i + k) := ⟨_, rfl⟩
            have hzb : z ≤ 1125934266580992000 := by rw [hz]; exact hqb _
            have c1 := HO.out.cell (i + k) (by omega)
            have f1 := freeAt HO.out (i + k)
            rw [show q.getD (i + k) 0 = z from hz.symm] at c1
            have HZ := Lib.hid hz
            clear ho hy hr hb hq hql hqb hqs hc hp p5 p4 hz hm hm5
            go_wp2
            go_roundw
            case rel =>
              refine ⟨k + 1, by omega, by go_num, ?_, ?_, HR.out.set, HB.out.setCell (by show w.heap.size ≤ w.heap.size + 1 + 1 + 1; omega) _⟩
              · rw [HQS.out, Pol.mstep, if_pos h5, ← HZ.out, ← HA.out, ← HC.out, ← HM.out, ← Int.natCast_add]
                exact HO.out.set _ _
              · rw [heapSet_ne _ _ (by omega)]; exact HYb.out
            case measure => simp [intOf]; omega
          · have hdik : decide ((i : Int) + (k : Int) < 5) = false := by rw [decide_eq_false_iff_not]; omega
            obtain ⟨z, hz⟩ : ∃ z, z = Pol.at0 q (i + k - 5) := ⟨_, rfl⟩
            have hzb : z ≤ 1125934266580992000 := by rw [hz]; exact hqb _
            have c1 := HO.out.cell (i + k - 5) (by omega)
            have f1 := freeAt HO.out (i + k - 5)
            rw [show q.getD (i + k - 5) 0 = z from hz.symm] at c1
            have HZ := Lib.hid hz
            clear ho hy hr hb hq hql hqb hqs hc hp p1 p2 hz hm hm5
            go_wp2
            go_roundw
            case rel =>
              refine ⟨k + 1, by omega, by go_num, ?_, ?_, HR.out.set, HB.out.setCell (by show w.heap.size ≤ w.heap.size + 1 + 1 + 1; omega) _⟩
              · rw [HQS.out, Pol.mstep, if_neg h5, ← HZ.out, ← HA.out, ← HC.out, ← HM5.out, ← Int.natCast_add]
                exact HO.out.set _ _
              · rw [heapSet_ne _ _ (by omega)]; exact HYb.out
            case measure => simp [intOf]; omega
        · have hdk : decide ((k : Int) < 5) = false := by rw [decide_eq_false_iff_not]; omega
          have hk5 : k = 5 := by omega
          have ho5 := ho
          rw [hk5, ← HMI.out] at ho5
          have HO5 := Lib.hid ho5
          clear ho hy hr hb ho5 hk5
          go_wp2_with fail
          go_roundw
          case rel => exact ⟨i + 1, by omega, by go_num, HO5.out, HYb.out, HR.out, HB.out⟩
          case measure => simp [intOf]; omega
    · have hi5 : i = 5 := by omega
      rw [hi5] at ho
      obtain ⟨o, hoe⟩ : ∃ o, o = Pol.mi xs ys [0, 0, 0, 0, 0] 5 := ⟨_, rfl⟩
      have hol : o.length = 5 := by rw [hoe, Pol.mi_length]; rfl
      have hob : ∀ j, Pol.at0 o j ≤ 1152921504606846976 := fun j => by
        have := HBD.out 5 (by decide) j
        rw [hoe]; omega
      rw [← hoe] at ho HLAST
      have HO5 := Lib.hid ho
      have HOL := Lib.hid hol
      have HOB := Lib.hid hob
      clear ho hy hr hb hoe hol hob hi5
      go_wp2_with fail
      refine (carry_any _ _ o _ HOL.out HOB.out HO5.out).mono ?_
      rintro e w5 ⟨rfl, hw5, hk5⟩
      rw [HLAST.out] at hw5
      have hlt3 := lt_of_heap HO5.out
      have HW5 := Lib.hid hw5
      have HR5 := Lib.hid (HR.out.keep hk5 (by omega) (by omega))
      have HB5 := Lib.hid (HB.out.trans ((hk5.mono (B' := w.heap.size) (S' := fun _ => False) HB.out.size (fun k hk e => by omega)).below (fun _ _ h => h)))
      obtain ⟨R, hRe⟩ : ∃ R, R = limbs5 (Pol.carry (Pol.mul ⟨x0, x1, x2, x3, x4⟩ ⟨y0, y1, y2, y3, y4⟩)) := ⟨_, rfl⟩
      have hRl : R.length = 5 := by rw [hRe]; rfl
      rw [← hRe] at HW5
      have HRE := Lib.hid hRe
      have HRL := Lib.hid hRl
      have hrg := range_of HW5.out
      have hth : w5.there (w.heap.size + 1 + 1) 0 5 := by
        obtain ⟨cur, h1, h2⟩ := HR5.out
        exact there_of h1 h2
      have HTH := Lib.hid hth
      have hsz : (R.map u64v).toArray.size = 5 := by simp [hRl]
      have SZ := Lib.hid hsz
      clear hw5 hk5 hRe hRl hth hsz
      go_wp2_with (first
        | (refine wpList_load_mid rfl 99 (.tmp 5) rfl (w.heap.size + 1 + 1 + 1) 0 rfl (R.map u64v) _ hrg Tryd.underlying99 rfl (by rw [List.length_map, HRL.out]; kernel_rfl) ?_)
        | (refine wpList_store_mid rfl 99 (.tmp 4) (.tmp 49) rfl (w.heap.size + 1 + 1) 0 (R.map u64v).toArray rfl rfl (by rw [SZ.out]; exact HTH.out) (by rw [SZ.out]; kernel_rfl) (all_oneCell_toArray (by intro v hv; obtain ⟨x, _, rfl⟩ := List.mem_map.1 hv; rfl)) ?_))
      generalize hW9 : World.setCells _ _ _ _ = w9
      have hb9 : Below w.heap.size w w9 := by rw [← hW9]; exact below_setCells (by omega) _ _ _ HB5.out
      have hf9 : Big w9 (w.heap.size + 1 + 1) 99 R := by
        obtain ⟨cur, h1, h2⟩ := HR5.out
        rw [← hW9]
        exact storeBig h1 (by rw [h2, HRL.out])
      have hl9 := run_loadVar_mid (P := Tryd.prog) w9 (w.heap.size + 1 + 1) 0 99 (R.map u64v) _ (range_of hf9) Tryd.underlying99 rfl (by rw [List.length_map, HRL.out]; kernel_rfl)
      exact bodyPost_ret (v := .agg (R.map u64v).toArray) (results_c Tryd.results59 rfl hl9) rfl ⟨by rw [HRE.out], hb9⟩
end Go.Proofs.YtpkfbmafbkgcmaaDoor

set_option linter.unusedVariables false
set_option linter.unusedSimpArgs false
namespace Go.Con.Pol
def wstep (s : List Nat) (k : Nat) : List Nat :=
  let s1 := s.set (k + 1) (at0 s (k + 1) + at0 s k / 67108864)
  s1.set k (at0 s1 k % 67108864)
def wk (s : List Nat) : Nat → List Nat
  | 0 => s
  | k + 1 => wstep (wk s k) k
theorem wk_length (s : List Nat) (k : Nat) : (wk s k).length = s.length := by
  induction k with
  | zero => rfl
  | succ k ih => rw [wk, wstep]; simp [ih]
theorem wk_bound (s : List Nat) (hs : s.length = 5) (h : ∀ j, at0 s j ≤ 67111000) : ∀ k, k ≤ 4 → ∀ j, at0 (wk s k) j ≤ 67111000 + 2 * k
  | 0, _ => by simpa [wk] using h
  | k + 1, hk => by
    have ih := wk_bound s hs h k (by omega)
    intro j
    have h1 := ih k
    have h2 := ih (k + 1)
    have h3 := ih j
    have hl : (wk s k).length = 5 := by rw [wk_length]; exact hs
    rw [wk, wstep]
    rw [at_set _ _ _ _ (by rw [List.length_set]; omega), at_set _ _ _ _ (by omega), at_set _ _ _ _ (by omega)]
    have e : ¬ (k + 1 = k) := by omega
    simp only [e, if_false]
    split
    · omega
    · split <;> omega
theorem whole_list (x : L5) : (if at0 (wk ((limbs5 (carry x)).set 0 (at0 (limbs5 (carry x)) 0 + 5)) 4) 4 / 67108864 = 0 then limbs5 (carry x) else (wk ((limbs5 (carry x)).set 0 (at0 (limbs5 (carry x)) 0 + 5)) 4).set 4 (at0 (wk ((limbs5 (carry x)).set 0 (at0 (limbs5 (carry x)) 0 + 5)) 4) 4 % 67108864)) = limbs5 (whole x) := by
  unfold whole
  generalize carry x = z
  obtain ⟨a, b, c, d, e⟩ := z
  dsimp only
  have e4 : at0 (wk ((limbs5 ⟨a, b, c, d, e⟩).set 0 (at0 (limbs5 ⟨a, b, c, d, e⟩) 0 + 5)) 4) 4 = e + (d + (c + (b + (a + 5) / 67108864) / 67108864) / 67108864) / 67108864 := rfl
  rw [e4]
  by_cases h : (e + (d + (c + (b + (a + 5) / 67108864) / 67108864) / 67108864) / 67108864) / 67108864 = 0
  · rw [if_pos h, if_pos h]
  · rw [if_neg h, if_neg h]; rfl
theorem low_bound {x : L5} (h : Low x) : ∀ j, at0 (limbs5 x) j ≤ 67110912 := by
  obtain ⟨h0, h1, h2, h3, h4⟩ := h
  intro j
  match j with
  | 0 => show x.a0 ≤ _; omega
  | 1 => show x.a1 ≤ _; omega
  | 2 => show x.a2 ≤ _; omega
  | 3 => show x.a3 ≤ _; omega
  | 4 => show x.a4 ≤ _; omega
  | j + 5 => simp [at0, limbs5]
end Go.Con.Pol
namespace Go.Proofs.YtpkfbmafbkgcmaaDoor
open Go.RowKit Go.Con
theorem bigStored (w1 w2 : World) (Z : List Nat) (hl : Z.length = 5) (h : (w1.alloc (.cells #[.int .u64 0, .int .u64 0, .int .u64 0, .int .u64 0, .int .u64 0] 99)).setCells w1.heap.size 0 (Z.map u64v).toArray.toList = w2) :
    Big w2 w1.heap.size 99 Z ∧ Below w1.heap.size w1 w2 := by
  subst h
  exact ⟨storeBig (heapNew w1 _) (by rw [hl]; rfl), below_setCells (Nat.le_refl _) _ _ _ ((Below.refl _ _).alloc (Nat.le_refl _) _)⟩
set_option maxRecDepth 100000 in
set_option maxHeartbeats 2000000 in
theorem whole_any (x : Pol.L5) (w : World) (hx : ∀ j, Pol.at0 (limbs5 x) j ≤ 1152921504606846976) (hlow : Pol.Low (Pol.carry x)) :
    Calls Tryd.prog 60 #[.agg #[.int .u64 x.a0, .int .u64 x.a1, .int .u64 x.a2, .int .u64 x.a3, .int .u64 x.a4]] w
      fun e w' => e = .returned (.agg ((limbs5 (Pol.whole x)).map u64v).toArray) ∧ Below w.heap.size w w' := by
  obtain ⟨Z, hZ⟩ : ∃ Z, Z = limbs5 (Pol.carry x) := ⟨_, rfl⟩
  have hZl : Z.length = 5 := by rw [hZ]; rfl
  have hcl : Pol.fin (Pol.ck (limbs5 x) 5) = Z := by rw [hZ]; exact Pol.carry_list x
  have hZb : ∀ j, Pol.at0 Z j ≤ 67110912 := by rw [hZ]; exact Pol.low_bound hlow
  have hwl := Pol.whole_list x
  rw [← hZ] at hwl
  obtain ⟨z0, hz0⟩ : ∃ z, z = Pol.at0 Z 0 := ⟨_, rfl⟩
  have hz0b : z0 ≤ 67110912 := by rw [hz0]; exact hZb 0
  rw [← hz0] at hwl
  obtain ⟨Y, hY⟩ : ∃ Y, Y = Z.set 0 (z0 + 5) := ⟨_, rfl⟩
  rw [← hY] at hwl
  have hYl : Y.length = 5 := by rw [hY, List.length_set]; exact hZl
  have hYb := Pol.wk_bound Y hYl (fun j => by
    rw [hY, Pol.at_set _ _ _ _ (by omega)]
    have := hZb j
    split <;> omega)
  obtain ⟨R, hR⟩ : ∃ R, R = limbs5 (Pol.whole x) := ⟨_, rfl⟩
  rw [← hR] at hwl ⊢
  have HX0 := Lib.hid hx
  have HCL := Lib.hid hcl
  have HZL := Lib.hid hZl
  have HWL := Lib.hid hwl
  have HYE := Lib.hid hY
  have HYL := Lib.hid hYl
  have HYB := Lib.hid hYb
  have HZ0 := Lib.hid hz0
  obtain ⟨xs, hxs⟩ : ∃ xs, xs = limbs5 x := ⟨_, rfl⟩
  rw [← hxs] at HX0 HCL
  have hxb : ∀ w : World, Big (w.alloc (.cells #[.int .u64 x.a0, .int .u64 x.a1, .int .u64 x.a2, .int .u64 x.a3, .int .u64 x.a4] 99)) w.heap.size 99 xs := fun w => by rw [hxs]; exact heapNew w _
  have hxl : xs.length = 5 := by rw [hxs]; rfl
  have HXB := Lib.hid hxb
  have HXL := Lib.hid hxl
  clear hx hlow hZ hZl hcl hZb hwl hz0 hY hYl hYb hR hxs hxb hxl
  obtain ⟨x0, x1, x2, x3, x4⟩ := x
  dsimp only at HXB ⊢
  go_enter Tryd.func60, Tryd.ntmps60
  go_wp2_with fail
  have hb0 : Big ((w.alloc (.cells #[.int .u64 x0, .int .u64 x1, .int .u64 x2, .int .u64 x3, .int .u64 x4] 99)).alloc (.cells #[.int .u64 0, .int .u64 0, .int .u64 0, .int .u64 0, .int .u64 0] 99)) w.heap.size 99 xs := (heapOld _ _ _ (by simp)).trans (HXB.out w)
  refine (carry_any _ _ xs _ HXL.out HX0.out hb0).mono ?_
  rintro e w1 ⟨rfl, hw1, hk1⟩
  rw [HCL.out] at hw1
  have hr1 : Room w1 (w.heap.size + 1) 5 99 := Room.keep ⟨_, heapNew1 w _ _, rfl⟩ hk1 (by simp) (by omega)
  have hB1 : Below w.heap.size w w1 := (((Below.refl _ _).alloc (Nat.le_refl _) _).alloc (by simp) _).trans ((hk1.mono (B' := w.heap.size) (S' := fun _ => False) (by simp; omega) (fun k hk e => by omega)).below (fun _ _ h => h))
  have s1 : w.heap.size + 2 ≤ w1.heap.size := by have h := hk1.size; simp at h; omega
  have Z1 := Lib.hid hw1
  have R1 := Lib.hid hr1
  have B1 := Lib.hid hB1
  have hrg := range_of hw1
  have hst := fun (W W2 : World) (hW : (W.alloc (.cells #[.int .u64 0, .int .u64 0, .int .u64 0, .int .u64 0, .int .u64 0] 99)).setCells W.heap.size 0 (Z.map u64v).toArray.toList = W2) => bigStored W W2 Z HZL.out hW
  have HST := Lib.hid hst
  have hth : ∀ W : World, (W.alloc (.cells #[.int .u64 0, .int .u64 0, .int .u64 0, .int .u64 0, .int .u64 0] 99)).there W.heap.size 0 5 := fun W => there_of (heapNew W _) rfl
  have HTH := Lib.hid hth
  have hsz : (Z.map u64v).toArray.size = 5 := by simp [HZL.out]
  have SZ := Lib.hid hsz
  clear hw1 hk1 hr1 hB1 hb0 hst hth hsz
  go_wp2_with (first
    | (refine wpList_load_mid rfl 99 (.tmp 1) rfl w.heap.size 0 rfl (Z.map u64v) _ hrg Tryd.underlying99 rfl (by rw [List.length_map, HZL.out]; kernel_rfl) ?_)
    | (refine wpList_store_mid rfl 99 (.tmp 3) (.tmp 6) rfl w1.heap.size 0 (Z.map u64v).toArray rfl rfl (by rw [SZ.out]; exact HTH.out _) (by rw [SZ.out]; kernel_rfl) (all_oneCell_toArray (by intro v hv; obtain ⟨x, _, rfl⟩ := List.mem_map.1 hv; rfl)) ?_; generalize hW2 : World.setCells _ _ _ _ = w2; have P2 := Lib.hid (HST.out w1 w2 hW2); have c0 : w2.cell? ⟨w1.heap.size, 0, none⟩ = some (.int .u64 z0) := (by rw [HZ0.out]; exact P2.out.1.cell 0 (by rw [HZL.out]; decide)); have f0 := freeAt P2.out.1 0; clear hW2))
  have hy2 : Big (w2.setCell ⟨w1.heap.size, 0, none⟩ (.int .u64 ((z0 : Int) + 5))) w1.heap.size 99 Y := by
    rw [HYE.out, show ((z0 : Int) + 5) = ((z0 + 5 : Nat) : Int) by omega]
    exact P2.out.1.set 0 _
  have hz2 : Big (w2.setCell ⟨w1.heap.size, 0, none⟩ (.int .u64 ((z0 : Int) + 5))) w.heap.size 99 Z := ((Z1.out.stay P2.out.2).other _ _ _ (by omega))
  have hr2 : Room (w2.setCell ⟨w1.heap.size, 0, none⟩ (.int .u64 ((z0 : Int) + 5))) (w.heap.size + 1) 5 99 := by
    obtain ⟨cur, h1, h2⟩ := R1.out
    exact ⟨cur, (heapSet_ne _ _ (by omega)).trans ((P2.out.2.block _ (by omega)).trans h1), h2⟩
  have hb2 : Below w.heap.size w (w2.setCell ⟨w1.heap.size, 0, none⟩ (.int .u64 ((z0 : Int) + 5))) := (B1.out.trans (P2.out.2.mono (by omega))).setCell (by show w.heap.size ≤ w1.heap.size; omega) _
  obtain ⟨b, hbe⟩ : ∃ b, b = w1.heap.size := ⟨_, rfl⟩
  have hbl : w.heap.size + 1 < b := by omega
  rw [← hbe] at hy2 hz2 hr2 hb2 ⊢
  generalize hW3 : w2.setCell ⟨b, 0, none⟩ (.int .u64 ((z0 : Int) + 5)) = w3 at hy2 hz2 hr2 hb2 ⊢
  have Y3 := Lib.hid hy2
  have Z3 := Lib.hid hz2
  have R3 := Lib.hid hr2
  have B3 := Lib.hid hb2
  clear hy2 hz2 hr2 hb2 hW3 hbe c0 f0 hrg
  go_loopw [11] (fun i wr => ∃ k : Nat, k ≤ 4 ∧ i = .int .i64 k ∧ Big wr b 99 (Pol.wk Y k) ∧ Big wr w.heap.size 99 Z ∧ Room wr (w.heap.size + 1) 5 99 ∧ Below w.heap.size w wr) (fun i _ => 4 - (intOf i).toNat)
  case atStart => exact ⟨0, by omega, rfl, Y3.out, Z3.out, R3.out, B3.out⟩
  case round =>
    obtain ⟨k, hk, rfl, hy, hz, hr, hb⟩ := hrel
    have HYw := Lib.hid hy
    have HZw := Lib.hid hz
    have HRw := Lib.hid hr
    have HBw := Lib.hid hb
    obtain ⟨q, hq⟩ : ∃ q, q = Pol.wk Y k := ⟨_, rfl⟩
    have hql : q.length = 5 := by rw [hq, Pol.wk_length]; exact HYL.out
    have hqb : ∀ j, Pol.at0 q j ≤ 67111008 := fun j => by have := HYB.out k hk j; rw [hq]; omega
    have hqs : Pol.wk Y (k + 1) = Pol.wstep q k := by rw [hq]; rfl
    rw [← hq] at HYw
    have HQL := Lib.hid hql
    have HQS := Lib.hid hqs
    by_cases hlt : k < 4
    · obtain ⟨x, hx⟩ : ∃ x, x = Pol.at0 q k := ⟨_, rfl⟩
      obtain ⟨y, hye⟩ : ∃ y, y = Pol.at0 q (k + 1) := ⟨_, rfl⟩
      have hxb : x ≤ 67111008 := by rw [hx]; exact hqb k
      have hyb : y ≤ 67111008 := by rw [hye]; exact hqb (k + 1)
      have c1 := HYw.out.cell k (by omega)
      have c2 := HYw.out.cell (k + 1) (by omega)
      have f2 := freeAt HYw.out (k + 1)
      rw [show q.getD k 0 = x from hx.symm] at c1
      rw [show q.getD (k + 1) 0 = y from hye.symm] at c2
      have t2 : ∀ nq, Big ((wr.drewN nq).setCell ⟨b, k + 1, none⟩ (.int .u64 ((y : Int) + (x : Int) / 67108864))) b 99 (q.set (k + 1) (y + x / 67108864)) := fun nq => by
        rw [show ((y : Int) + (x : Int) / 67108864) = ((y + x / 67108864 : Nat) : Int) by omega]
        exact Big.set (w := wr.drewN nq) HYw.out (k + 1) _
      have T2 := Lib.hid t2
      have c3 : ∀ nq, ((wr.drewN nq).setCell ⟨b, k + 1, none⟩ (.int .u64 ((y : Int) + (x : Int) / 67108864))).cell? ⟨b, k, none⟩ = some (.int .u64 x) := fun nq => by
        rw [(t2 nq).cell k (by rw [List.length_set]; omega)]
        rw [hx]; simp [Pol.at0, List.getElem?_set, show ¬ (k + 1 = k) by omega]
      have f3 : ∀ nq, ((wr.drewN nq).setCell ⟨b, k + 1, none⟩ (.int .u64 ((y : Int) + (x : Int) / 67108864))).frozen? ⟨b, k, none⟩ = false := fun nq => freeAt (t2 nq) k
      have HX := Lib.hid hx
      have HYe := Lib.hid hye
      clear hy hz hr hb hq hql hqb hqs hx hye t2
      go_wp2
      refine region_quiet_tail 10 (by kernel_rfl) (by kernel_rfl) ?_
      simp only [List.take_succ_cons, List.take_zero, List.drop_succ_cons, List.drop_zero]
      repeat (go_big_quiet_step (fail))
      refine wpQuiet_nil ?_
      intro w9 hw9
      obtain ⟨nq, rfl⟩ := hw9
      go_wp2
      go_roundw
      case rel =>
        refine ⟨k + 1, by omega, by go_num, ?_, (Big.other (w := wr.drewN nq) HZw.out _ _ _ (by omega)).other _ _ _ (by omega), (HRw.out.drewN nq).set.set, ((below_drewN HBw.out nq).setCell (by show w.heap.size ≤ b; omega) _).setCell (by show w.heap.size ≤ b; omega) _⟩
        rw [HQS.out]
        unfold Pol.wstep
        dsimp only
        rw [low26 x (by omega), ← HX.out, ← HYe.out, Pol.at_set q (k + 1) k _ (by have := HQL.out; omega), if_neg (by omega), ← HX.out]
        exact (T2.out nq).set k _
      case measure => simp [intOf]; omega
    · have hk4 : k = 4 := by omega
      rw [hk4] at hq hqs
      obtain ⟨y4, hy4⟩ : ∃ y, y = Pol.at0 q 4 := ⟨_, rfl⟩
      have hyb : y4 ≤ 67111008 := by rw [hy4]; exact hqb 4
      have c1 := HYw.out.cell 4 (by omega)
      have f1 := freeAt HYw.out 4
      rw [show q.getD 4 0 = y4 from hy4.symm] at c1
      have hwl := HWL.out
      rw [← hq, ← hy4] at hwl
      have hthr : wr.there (w.heap.size + 1) 0 5 := by
        obtain ⟨cur, h1, h2⟩ := hr
        exact there_of h1 h2
      have HTHR := Lib.hid hthr
      by_cases h0 : y4 / 67108864 = 0
      · rw [if_pos h0] at hwl
        have hRl : Z = R := hwl
        have h0b : ((y4 : Int) / 67108864 == 0) = true := by rw [beq_iff_eq]; omega
        have hrz := range_of hz
        have HRE := Lib.hid hRl
        clear hy hz hr hb hq hql hqb hqs hy4 hwl hthr h0 hk4 hRl
        go_wp2_with (first
          | (refine wpList_load_mid rfl 99 (.tmp 1) rfl w.heap.size 0 rfl (Z.map u64v) _ hrz Tryd.underlying99 rfl (by rw [List.length_map, HZL.out]; kernel_rfl) ?_)
          | (refine wpList_store_mid rfl 99 (.tmp 2) (.tmp 34) rfl (w.heap.size + 1) 0 (Z.map u64v).toArray rfl rfl (by rw [SZ.out]; exact HTHR.out) (by rw [SZ.out]; kernel_rfl) (all_oneCell_toArray (by intro v hv; obtain ⟨x, _, rfl⟩ := List.mem_map.1 hv; rfl)) ?_))
        generalize hW9 : World.setCells _ _ _ _ = w9
        have hb9 : Below w.heap.size w w9 := by rw [← hW9]; exact below_setCells (by omega) _ _ _ HBw.out
        have hf9 : Big w9 (w.heap.size + 1) 99 Z := by
          obtain ⟨cur, h1, h2⟩ := HRw.out
          rw [← hW9]
          exact storeBig h1 (by rw [h2, HZL.out])
        have hl9 := run_loadVar_mid (P := Tryd.prog) w9 (w.heap.size + 1) 0 99 (Z.map u64v) _ (range_of hf9) Tryd.underlying99 rfl (by rw [List.length_map, HZL.out]; kernel_rfl)
        exact bodyPost_ret (v := .agg (Z.map u64v).toArray) (results_c Tryd.results60 rfl hl9) rfl ⟨by rw [HRE.out], hb9⟩
      · rw [if_neg h0] at hwl
        have h0b : ((y4 : Int) / 67108864 == 0) = false := by rw [beq_eq_false_iff_ne]; omega
        have hRl : R.length = 5 := by rw [← hwl, List.length_set]; exact hql
        have HRE := Lib.hid hwl
        have HRL := Lib.hid hRl
        have hbig : Big (wr.setCell ⟨b, 4, none⟩ (.int .u64 (bits .and .u64 (y4 : Int) 67108863))) b 99 R := by
          rw [low26 y4 (by omega), ← hwl]
          exact HYw.out.set 4 _
        have HBIG := Lib.hid hbig
        have hrz := range_of hbig
        have hthr2 : (wr.setCell ⟨b, 4, none⟩ (.int .u64 (bits .and .u64 (y4 : Int) 67108863))).there (w.heap.size + 1) 0 5 := by
          obtain ⟨cur, h1, h2⟩ := hr
          exact there_of ((heapSet_ne _ _ (by omega)).trans h1) h2
        have HTHR2 := Lib.hid hthr2
        have hsz : (R.map u64v).toArray.size = 5 := by simp [hRl]
        have SZR := Lib.hid hsz
        clear hy hz hr hb hq hql hqb hqs hy4 hwl hthr hthr2 h0 hk4 hRl hbig hsz
        go_wp2_with (first
          | (refine wpList_load_mid rfl 99 (.tmp 3) rfl b 0 rfl (R.map u64v) _ hrz Tryd.underlying99 rfl (by rw [List.length_map, HRL.out]; kernel_rfl) ?_)
          | (refine wpList_store_mid rfl 99 (.tmp 2) (.tmp 39) rfl (w.heap.size + 1) 0 (R.map u64v).toArray rfl rfl (by rw [SZR.out]; exact HTHR2.out) (by rw [SZR.out]; kernel_rfl) (all_oneCell_toArray (by intro v hv; obtain ⟨x, _, rfl⟩ := List.mem_map.1 hv; rfl)) ?_))
        generalize hW9 : World.setCells _ _ _ _ = w9
        have hb9 : Below w.heap.size w w9 := by rw [← hW9]; exact below_setCells (by omega) _ _ _ (HBw.out.setCell (by show w.heap.size ≤ b; omega) _)
        have hf9 : Big w9 (w.heap.size + 1) 99 R := by
          obtain ⟨cur, h1, h2⟩ := HRw.out
          rw [← hW9]
          exact storeBig ((heapSet_ne _ _ (by omega)).trans h1) (by rw [h2, HRL.out])
        have hl9 := run_loadVar_mid (P := Tryd.prog) w9 (w.heap.size + 1) 0 99 (R.map u64v) _ (range_of hf9) Tryd.underlying99 rfl (by rw [List.length_map, HRL.out]; kernel_rfl)
        exact bodyPost_ret (v := .agg (R.map u64v).toArray) (results_c Tryd.results60 rfl hl9) rfl ⟨rfl, hb9⟩
end Go.Proofs.YtpkfbmafbkgcmaaDoor
