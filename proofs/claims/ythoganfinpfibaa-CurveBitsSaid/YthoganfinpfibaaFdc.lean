/-
  The walks of curve's carry and swap.
-/
import Derived.Test.YthoganfinpfibaaFlw
import Derived.Test.YthoganfinpfibaaFbt
import Derived.Test.YthoganfinpfibaaRes
import Derived.Test.YthoganfinpfibaaMid
import Derived.Test.YthoganfinpfibaaQt
import Derived.Test.YthoganfinpfibaaByt
import Derived.BigQuiet
set_option linter.unusedVariables false
set_option linter.unusedSimpArgs false
namespace Go.Con
open Go Go.RowKit
def i64v (n : Int) : Value := .int .i64 n
/-- The block's limbs. -/
def Lim (w : World) (b : Nat) (t : TypeId) (s : List Int) : Prop := w.heap[b]? = some (.cells (s.map i64v).toArray t (0, 0))
theorem Lim.cell {w : World} {b : Nat} {t : TypeId} {s : List Int} (h : Lim w b t s) (k : Nat) (hk : k < s.length) : w.cell? ⟨b, k, none⟩ = some (.int .i64 (Cv.at0 s k)) :=
  cellAt h k (by simp [hk, i64v, Cv.at0])
theorem Lim.set {w : World} {b : Nat} {t : TypeId} {s : List Int} (h : Lim w b t s) (k : Nat) (x : Int) : Lim (w.setCell ⟨b, k, none⟩ (.int .i64 x)) b t (s.set k x) := by
  have h1 := heapSet (o := k) h (.int .i64 x)
  rw [Lim, h1]
  simp [i64v, List.map_set]
theorem Lim.drewN {w : World} {b : Nat} {t : TypeId} {s : List Int} (h : Lim w b t s) (n : Nat) : Lim (w.drewN n) b t s := h
theorem Lim.stay {w w' : World} {b : Nat} {t : TypeId} {s : List Int} (h : Lim w b t s) (hk : Below w.heap.size w w') : Lim w' b t s := (hk.block b (lt_of_heap h)).trans h
theorem Lim.kept {w w' : World} {b B : Nat} {t : TypeId} {s : List Int} {S : Nat → Prop} (h : Lim w b t s) (hk : Kept B S w w') (hb : b < B) (hs : ¬ S b) : Lim w' b t s := (hk.block b hb hs).trans h
theorem Lim.other {w : World} {b : Nat} {t : TypeId} {s : List Int} (h : Lim w b t s) (b' k : Nat) (v : Value) (hb : b ≠ b') : Lim (w.setCell ⟨b', k, none⟩ v) b t s := (heapSet_ne k v hb).trans h
/-- limbs as a value -/
def limV (s : List Int) : Value := .agg (s.map i64v).toArray
theorem lim_ext {s r : List Int} (h1 : s.length = r.length) (h : ∀ j, j < s.length → Cv.at0 s j = Cv.at0 r j) : s = r := by
  apply List.ext_getElem h1
  intro j a b
  have := h j a
  simpa [Cv.at0, a, b] using this
end Go.Con
namespace Go.Proofs.Ythoganfinpfibaa
open Go.RowKit Go.Con
set_option maxRecDepth 100000 in
set_option maxHeartbeats 2000000 in
theorem carry_any (b : Nat) (t : TypeId) (s : List Int) (w : World) (hs : s.length = 16) (hbd : ∀ j, -1000000000000000 ≤ Cv.at0 s j ∧ Cv.at0 s j ≤ 1000000000000000) (hW : Lim w b t s) :
    Calls Try.prog 25 #[.pointer (some ⟨b, 0, none⟩)] w
      fun e w' => e = .returned (.tuple #[]) ∧ Lim w' b t (Cv.ck s 16) ∧ Kept w.heap.size (fun k => k = b) w w' := by
  have HW := Lib.hid hW
  have HS := Lib.hid hs
  have HM := Lib.hid (Cv.ck_mid s 1000000000000000 hs (by decide) hbd)
  have HBD := Lib.hid hbd
  clear hW hs hbd
  go_enter Try.func25, Try.ntmps25
  go_wp2_with fail
  go_loopw [4] (fun i wr => ∃ k : Nat, k ≤ 16 ∧ i = .int .i64 k ∧ Hid (Lim wr b t (Cv.ck s k)) ∧ Hid (Kept w.heap.size (fun k => k = b) w wr)) (fun i _ => 16 - (intOf i).toNat)
  case atStart => exact ⟨0, by omega, rfl, HW, Lib.hid (Kept.refl _ _ _)⟩
  case round =>
    obtain ⟨k, hk, rfl, HQ, HK⟩ := hrel
    obtain ⟨q, hq⟩ : ∃ q, q = Cv.ck s k := ⟨_, rfl⟩
    have hql : q.length = 16 := by rw [hq, Cv.ck_length]; exact HS.out
    have hqs : Cv.ck s (k + 1) = Cv.cstep q k := by rw [hq]; rfl
    rw [← hq] at HQ
    by_cases hlt : k < 16
    · have hd0 : decide ((k : Int) < 16) = true := by rw [decide_eq_true_eq]; omega
      have hm := HM.out k (by omega)
      rw [← hq] at hm
      obtain ⟨x, hx⟩ : ∃ x, x = Cv.at0 q k := ⟨_, rfl⟩
      have c1 := HQ.out.cell k (by omega)
      have f1 := freeAt HQ.out k
      rw [← hx] at c1
      have hx1 : -2000000000000000 ≤ x := by rw [hx]; have := hm.here.1; omega
      have hx2 : x ≤ 2000000000000000 := by rw [hx]; have := hm.here.2; omega
      have HX := Lib.hid hx
      have HQL := Lib.hid hql
      have HQS := Lib.hid hqs
      have tail : ∀ (nq : Nat), Lim ((wr.drewN nq).setCell ⟨b, k, none⟩ (.int .i64 (x - x / 65536 * 65536))) b t (q.set k (x % 65536)) := fun nq => by
        rw [show x - x / 65536 * 65536 = x % 65536 by omega]
        exact Lim.set (w := wr.drewN nq) HQ.out k (x % 65536)
      have TL := Lib.hid tail
      by_cases h4 : k < 15
      · have hd1 : decide ((k : Int) < 15) = true := by rw [decide_eq_true_eq]; omega
        obtain ⟨y, hy⟩ : ∃ y, y = Cv.at0 q (k + 1) := ⟨_, rfl⟩
        have hyb : -1000000000000000 ≤ y ∧ y ≤ 1000000000000000 := by rw [hy, hm.rest (k + 1) (by omega)]; exact HBD.out _
        obtain ⟨hy1, hy2⟩ := hyb
        have c2 : ∀ nq, ((wr.drewN nq).setCell ⟨b, k, none⟩ (.int .i64 (x - x / 65536 * 65536))).cell? ⟨b, k + 1, none⟩ = some (.int .i64 y) := fun nq => by
          rw [(TL.out nq).cell (k + 1) (by rw [List.length_set]; have := HQL.out; omega), Cv.at_set _ _ _ _ (by have := HQL.out; omega), if_neg (by omega), hy]
        have f2 : ∀ nq, ((wr.drewN nq).setCell ⟨b, k, none⟩ (.int .i64 (x - x / 65536 * 65536))).frozen? ⟨b, k + 1, none⟩ = false := fun nq => freeAt (TL.out nq) (k + 1)
        have HY := Lib.hid hy
        clear hy hx hql hqs hq hm tail
        go_wp2
        refine region_quiet_tail 10 (by kernel_rfl) (by kernel_rfl) ?_
        simp only [List.take_succ_cons, List.take_zero, List.drop_succ_cons, List.drop_zero]
        repeat (go_big_quiet_step (fail))
        refine wpQuiet_nil ?_
        intro w9 hw9
        obtain ⟨nq, rfl⟩ := hw9
        go_wp2_with fail
        have hw2 := TL.out nq
        have hk2 : Kept w.heap.size (fun k => k = b) w ((wr.drewN nq).setCell ⟨b, k, none⟩ (.int .i64 (x - x / 65536 * 65536))) := (HK.out.drewN nq).setCell (.inr rfl) _
        have c3 := c2 nq
        have f3 := f2 nq
        generalize hW2 : (wr.drewN nq).setCell ⟨b, k, none⟩ (.int .i64 (x - x / 65536 * 65536)) = w2 at hw2 hk2 c3 f3 ⊢
        have HW2 := Lib.hid hw2
        have HK2 := Lib.hid hk2
        clear hW2 hw2 hk2 c2 f2 c1 f1
        refine region_quiet_tail 10 (by kernel_rfl) (by kernel_rfl) ?_
        simp only [List.take_succ_cons, List.take_zero, List.drop_succ_cons, List.drop_zero]
        repeat (go_big_quiet_step (fail))
        refine wpQuiet_nil ?_
        intro w9 hw9
        obtain ⟨nr, rfl⟩ := hw9
        go_wp2
        go_roundw
        case rel =>
          refine ⟨k + 1, by omega, by go_num, Lib.hid ?_, Lib.hid ((HK2.out.drewN nr).setCell (.inr rfl) _)⟩
          rw [HQS.out]
          unfold Cv.cstep
          rw [if_pos h4, ← HX.out, Cv.at_set q k (k + 1) _ (by have := HQL.out; omega), if_neg (by omega), ← HY.out]
          exact Lim.set (w := w2.drewN nr) HW2.out (k + 1) _
        case measure => simp [intOf]; omega
      · have hd1 : decide ((k : Int) < 15) = false := by rw [decide_eq_false_iff_not]; omega
        obtain ⟨y, hy⟩ : ∃ y, y = Cv.at0 q 0 := ⟨_, rfl⟩
        have hyb : 0 ≤ y ∧ y < 65536 := by rw [hy]; exact hm.dig 0 (by omega)
        obtain ⟨hy1, hy2⟩ := hyb
        have hk15 : k = 15 := by omega
        have c2 : ∀ nq, ((wr.drewN nq).setCell ⟨b, k, none⟩ (.int .i64 (x - x / 65536 * 65536))).cell? ⟨b, 0, none⟩ = some (.int .i64 y) := fun nq => by
          rw [(TL.out nq).cell 0 (by rw [List.length_set]; have := HQL.out; omega), Cv.at_set _ _ _ _ (by have := HQL.out; omega), if_neg (by omega), hy]
        have f2 : ∀ nq, ((wr.drewN nq).setCell ⟨b, k, none⟩ (.int .i64 (x - x / 65536 * 65536))).frozen? ⟨b, 0, none⟩ = false := fun nq => freeAt (TL.out nq) 0
        have HY := Lib.hid hy
        have HK15 := Lib.hid hk15
        clear hy hx hql hqs hq hm tail hk15
        go_wp2
        refine region_quiet_tail 10 (by kernel_rfl) (by kernel_rfl) ?_
        simp only [List.take_succ_cons, List.take_zero, List.drop_succ_cons, List.drop_zero]
        repeat (go_big_quiet_step (fail))
        refine wpQuiet_nil ?_
        intro w9 hw9
        obtain ⟨nq, rfl⟩ := hw9
        go_wp2_with fail
        have hw2 := TL.out nq
        have hk2 : Kept w.heap.size (fun k => k = b) w ((wr.drewN nq).setCell ⟨b, k, none⟩ (.int .i64 (x - x / 65536 * 65536))) := (HK.out.drewN nq).setCell (.inr rfl) _
        have c3 := c2 nq
        have f3 := f2 nq
        generalize hW2 : (wr.drewN nq).setCell ⟨b, k, none⟩ (.int .i64 (x - x / 65536 * 65536)) = w2 at hw2 hk2 c3 f3 ⊢
        have HW2 := Lib.hid hw2
        have HK2 := Lib.hid hk2
        clear hW2 hw2 hk2 c2 f2 c1 f1
        refine region_quiet_tail 9 (by kernel_rfl) (by kernel_rfl) ?_
        simp only [List.take_succ_cons, List.take_zero, List.drop_succ_cons, List.drop_zero]
        repeat (go_big_quiet_step (fail))
        refine wpQuiet_nil ?_
        intro w9 hw9
        obtain ⟨nr, rfl⟩ := hw9
        go_wp2
        go_roundw
        case rel =>
          refine ⟨k + 1, by omega, by go_num, Lib.hid ?_, Lib.hid ((HK2.out.drewN nr).setCell (.inr rfl) _)⟩
          rw [HQS.out]
          unfold Cv.cstep
          rw [if_neg h4, ← HX.out, Cv.at_set q k 0 _ (by have := HQL.out; omega), if_neg (by have := HK15.out; omega), ← HY.out]
          exact Lim.set (w := w2.drewN nr) HW2.out 0 _
        case measure => simp [intOf]; omega
    · have hd0 : decide ((k : Int) < 16) = false := by rw [decide_eq_false_iff_not]; omega
      have hk16 : k = 16 := by omega
      rw [hq, hk16] at HQ
      clear hq hql hqs hk16
      go_wp2
      go_end0
      exact ⟨rfl, HQ.out, HK.out⟩
/-- one of two -/
def sel (so : Int) (a b : List Int) : List Int := if so = 1 then a else b
/-- what two rows show when so many limbs were swapped -/
structure Swp (xs ys p q : List Int) (so : Int) (k : Nat) : Prop where
  lp : p.length = 16
  lq : q.length = 16
  atp : ∀ j, j < 16 → Cv.at0 p j = if j < k ∧ so = 1 then Cv.at0 ys j else Cv.at0 xs j
  atq : ∀ j, j < 16 → Cv.at0 q j = if j < k ∧ so = 1 then Cv.at0 xs j else Cv.at0 ys j
theorem Swp.end {xs ys p q : List Int} {so : Int} (hx : xs.length = 16) (hy : ys.length = 16) (h : Swp xs ys p q so 16) : p = sel so ys xs ∧ q = sel so xs ys := by
  unfold sel
  by_cases hs : so = 1
  · rw [if_pos hs, if_pos hs]
    exact ⟨lim_ext (by rw [h.lp, hy]) (fun j hj => by rw [h.atp j (by rw [h.lp] at hj; exact hj), if_pos ⟨by rw [h.lp] at hj; exact hj, hs⟩]), lim_ext (by rw [h.lq, hx]) (fun j hj => by rw [h.atq j (by rw [h.lq] at hj; exact hj), if_pos ⟨by rw [h.lq] at hj; exact hj, hs⟩])⟩
  · rw [if_neg hs, if_neg hs]
    exact ⟨lim_ext (by rw [h.lp, hx]) (fun j hj => by rw [h.atp j (by rw [h.lp] at hj; exact hj), if_neg (fun c => hs c.2)]), lim_ext (by rw [h.lq, hy]) (fun j hj => by rw [h.atq j (by rw [h.lq] at hj; exact hj), if_neg (fun c => hs c.2)])⟩
theorem Swp.step {xs ys p q : List Int} {so : Int} {k : Nat} (hk : k < 16) (h : Swp xs ys p q so k) : Swp xs ys (p.set k (if so = 1 then Cv.at0 q k else Cv.at0 p k)) (q.set k (if so = 1 then Cv.at0 p k else Cv.at0 q k)) so (k + 1) := by
  have h1 := h.atp k hk
  have h2 := h.atq k hk
  rw [if_neg (fun c => by omega)] at h1 h2
  refine ⟨by simp [h.lp], by simp [h.lq], fun j hj => ?_, fun j hj => ?_⟩
  · rw [Cv.at_set _ _ _ _ (by rw [h.lp]; omega)]
    by_cases hkj : k = j
    · subst hkj
      rw [if_pos rfl, h1, h2]
      by_cases hs : so = 1
      · rw [if_pos hs, if_pos ⟨by omega, hs⟩]
      · rw [if_neg hs, if_neg (fun c => hs c.2)]
    · rw [if_neg hkj, h.atp j hj]
      by_cases hjk : j < k ∧ so = 1
      · rw [if_pos hjk, if_pos ⟨by omega, hjk.2⟩]
      · rw [if_neg hjk, if_neg (fun c => hjk ⟨by omega, c.2⟩)]
  · rw [Cv.at_set _ _ _ _ (by rw [h.lq]; omega)]
    by_cases hkj : k = j
    · subst hkj
      rw [if_pos rfl, h1, h2]
      by_cases hs : so = 1
      · rw [if_pos hs, if_pos ⟨by omega, hs⟩]
      · rw [if_neg hs, if_neg (fun c => hs c.2)]
    · rw [if_neg hkj, h.atq j hj]
      by_cases hjk : j < k ∧ so = 1
      · rw [if_pos hjk, if_pos ⟨by omega, hjk.2⟩]
      · rw [if_neg hjk, if_neg (fun c => hjk ⟨by omega, c.2⟩)]
set_option maxRecDepth 100000 in
set_option maxHeartbeats 2000000 in
theorem swap_any (bx bz : Nat) (t : TypeId) (xs ys : List Int) (so : Int) (w : World) (hne : bx ≠ bz) (hso : so = 0 ∨ so = 1) (hx : xs.length = 16) (hy : ys.length = 16)
    (hxb : ∀ j, -1000000000 ≤ Cv.at0 xs j ∧ Cv.at0 xs j ≤ 1000000000) (hyb : ∀ j, -1000000000 ≤ Cv.at0 ys j ∧ Cv.at0 ys j ≤ 1000000000) (hX : Lim w bx t xs) (hY : Lim w bz t ys) :
    Calls Try.prog 19 #[.pointer (some ⟨bx, 0, none⟩), .pointer (some ⟨bz, 0, none⟩), .int .i64 so] w
      fun e w' => e = .returned (.tuple #[]) ∧ Lim w' bx t (sel so ys xs) ∧ Lim w' bz t (sel so xs ys) ∧ Kept w.heap.size (fun k => k = bx ∨ k = bz) w w' := by
  have HX := Lib.hid hX
  have HY := Lib.hid hY
  have HXL := Lib.hid hx
  have HYL := Lib.hid hy
  have HXB := Lib.hid hxb
  have HYB := Lib.hid hyb
  have HSO := Lib.hid hso
  have hs0 : 0 ≤ so := by omega
  have hs1 : so ≤ 1 := by omega
  have hne2 : ¬ bz = bx := fun e => hne e.symm
  have hne3 : ¬ bx = bz := hne
  clear hX hY hx hy hxb hyb hso hne
  go_enter Try.func19, Try.ntmps19
  go_wp2_with fail
  go_loopw [8] (fun i wr => ∃ (k : Nat) (p q : List Int), k ≤ 16 ∧ i = .int .i64 k ∧ Hid (Swp xs ys p q so k) ∧ Hid (Lim wr bx t p) ∧ Hid (Lim wr bz t q) ∧ Hid (Kept w.heap.size (fun k => k = bx ∨ k = bz) w wr)) (fun i _ => 16 - (intOf i).toNat)
  case atStart => exact ⟨0, xs, ys, by omega, rfl, Lib.hid ⟨HXL.out, HYL.out, fun j _ => by rw [if_neg (fun c => by omega)], fun j _ => by rw [if_neg (fun c => by omega)]⟩, HX, HY, Lib.hid (Kept.refl _ _ _)⟩
  case round =>
    obtain ⟨k, p, q, hk, rfl, HS, HP, HQ, HK⟩ := hrel
    by_cases hlt : k < 16
    · have hd0 : decide ((k : Int) < 16) = true := by rw [decide_eq_true_eq]; omega
      obtain ⟨x, hx⟩ : ∃ x, x = Cv.at0 p k := ⟨_, rfl⟩
      obtain ⟨y, hy⟩ : ∃ y, y = Cv.at0 q k := ⟨_, rfl⟩
      have hxy : (-1000000000 ≤ x ∧ x ≤ 1000000000) ∧ (-1000000000 ≤ y ∧ y ≤ 1000000000) := by
        rw [hx, hy, HS.out.atp k hlt, HS.out.atq k hlt]
        split <;> exact ⟨by first | exact HXB.out k | exact HYB.out k, by first | exact HXB.out k | exact HYB.out k⟩
      have c1 := HP.out.cell k (by rw [HS.out.lp]; exact hlt)
      have f1 := freeAt HP.out k
      have c2 := HQ.out.cell k (by rw [HS.out.lq]; exact hlt)
      have f2 := freeAt HQ.out k
      rw [← hx] at c1
      rw [← hy] at c2
      have hsw := swap_i64 x y so HSO.out (by omega) (by omega) (by omega) (by omega)
      obtain ⟨T, hT⟩ : ∃ T, T = bits .and .i64 (-so) (bits .xor .i64 x y) := ⟨_, rfl⟩
      rw [← hT] at hsw
      obtain ⟨X, hX⟩ : ∃ X, X = bits .xor .i64 x T := ⟨_, rfl⟩
      obtain ⟨Y, hY⟩ : ∃ Y, Y = bits .xor .i64 y T := ⟨_, rfl⟩
      rw [← hX, ← hY] at hsw
      have st := HS.out.step hlt
      rw [← hx, ← hy, ← hsw.1, ← hsw.2] at st
      have ST := Lib.hid st
      have HTT := Lib.hid hT
      have HXX := Lib.hid hX
      have HYY := Lib.hid hY
      have HYV := Lib.hid hy
      clear hx hy hxy hsw st hT hX hY
      go_wp2_with fail
      refine wp_region_quiet_lit (by kernel_rfl) (by kernel_rfl) ?_
      repeat (go_big_quiet_step (fail))
      refine wpQuiet_nil ?_
      intro w9 hw9
      obtain ⟨nq, rfl⟩ := hw9
      rw [← HTT.out]
      go_wp2_with fail
      refine region_quiet_tail 9 (by kernel_rfl) (by kernel_rfl) ?_
      simp only [List.take_succ_cons, List.take_zero, List.drop_succ_cons, List.drop_zero]
      repeat (go_big_quiet_step (fail))
      refine wpQuiet_nil ?_
      intro w9 hw9
      obtain ⟨nr, rfl⟩ := hw9
      rw [← HXX.out]
      go_wp2_with fail
      generalize hW2 : World.setCell _ _ _ = w2
      have hp2 : Lim w2 bx t (p.set k X) := by rw [← hW2]; exact Lim.set (w := (wr.drewN nq).drewN nr) HP.out k X
      have hq2 : Lim w2 bz t q := by rw [← hW2]; exact Lim.other (w := (wr.drewN nq).drewN nr) HQ.out bx k _ hne2
      have hk2 : Kept w.heap.size (fun k => k = bx ∨ k = bz) w w2 := by rw [← hW2]; exact Kept.setCell (p := ⟨bx, k, none⟩) (HK.out.drewN (nq + nr)) (.inr (.inl rfl)) _
      have c3 := hq2.cell k (by rw [HS.out.lq]; exact hlt)
      have f3 := freeAt hq2 k
      rw [← HYV.out] at c3
      have HP2 := Lib.hid hp2
      have HQ2 := Lib.hid hq2
      have HK2 := Lib.hid hk2
      clear hW2 hp2 hq2 hk2 c1 f1 c2 f2
      refine region_quiet_tail 9 (by kernel_rfl) (by kernel_rfl) ?_
      simp only [List.take_succ_cons, List.take_zero, List.drop_succ_cons, List.drop_zero]
      repeat (go_big_quiet_step (fail))
      refine wpQuiet_nil ?_
      intro w9 hw9
      obtain ⟨ns, rfl⟩ := hw9
      rw [← HYY.out]
      go_wp2_with fail
      go_roundw
      case rel =>
        refine ⟨k + 1, _, _, by omega, by go_num, ST, Lib.hid ?_, Lib.hid ?_, Lib.hid ?_⟩
        · exact Lim.other (w := w2.drewN ns) HP2.out bz k _ hne3
        · exact Lim.set (w := w2.drewN ns) HQ2.out k Y
        · exact Kept.setCell (p := ⟨bz, k, none⟩) (HK2.out.drewN ns) (.inr (.inr rfl)) _
      case measure => simp [intOf]; omega
    · have hd0 : decide ((k : Int) < 16) = false := by rw [decide_eq_false_iff_not]; omega
      have hk16 : k = 16 := by omega
      rw [hk16] at HS
      have he := HS.out.end HXL.out HYL.out
      rw [he.1] at HP
      rw [he.2] at HQ
      clear he hk16
      go_wp2
      go_end0
      exact ⟨rfl, HP.out, HQ.out, HK.out⟩
end Go.Proofs.Ythoganfinpfibaa
