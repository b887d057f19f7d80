/-
  The walks of package cha's inner functions: turning a word, reading one, a quarter of a round.
-/
import Derived.Test.YtoekopdogfnkhaaByt
import Derived.Test.YtoekopdogfnkhaaChaS
import Derived.Test.YtoekopdogfnkhaaQt
import Derived.WalkKit
import Derived.WalkSpells
import Derived.WalkLawsBesides
import Derived.BigQuiet
import Derived.Deep.QuietTactic
import Derived.LoopTactic
import Derived.Lib.Hide
set_option linter.unusedVariables false
set_option linter.unusedSimpArgs false
namespace Go.Proofs.Ytoekopdogfnkhaa
open Go.RowKit Go.Con

theorem rotlN (x : UInt32) (n : Nat) (hn : 0 < n) : bits .or .u32 ((x.toNat : Int) * 2 ^ n % 4294967296) ((x.toNat : Int) / 2 ^ (32 - n)) = ((Cha.rotl x n).toNat : Int) := by
  have h1 : ((x.toNat : Int) / 2 ^ (32 - n)) = ((x.toNat / 2 ^ (32 - n) : Nat) : Int) := by simp
  have h2 : ((x.toNat : Int) * 2 ^ n % 4294967296) = ((x.toNat <<< n % 4294967296 : Nat) : Int) := by
    rw [Nat.shiftLeft_eq]; simp
  rw [h1, h2, u32_or_nat _ _ (Nat.mod_lt _ (by decide)) (Nat.lt_of_le_of_lt (Nat.div_le_self _ _) x.toNat_lt)]
  congr 1
  unfold Cha.rotl
  rw [UInt32.toNat_ofNat_of_lt']
  exact Nat.or_lt_two_pow (n := 32) (Nat.mod_lt _ (by decide)) (Nat.lt_of_le_of_lt (Nat.div_le_self _ _) x.toNat_lt)

set_option maxHeartbeats 400000 in
theorem chaTurn_any (x : UInt32) (n : Nat) (w : World) (h1 : 0 < n) (h2 : n < 32) :
    Calls Try.prog 40 #[.int .u32 x.toNat, .int .i64 n] w fun e w' => e = .returned (.int .u32 (Cha.rotl x n).toNat) ∧ ∃ k, w' = w.drewN k := by
  go_enter Try.func40, Try.ntmps40
  go_wp2
  go_quiet (fail)
  go_wp2
  go_ret
  exact ⟨by rw [← rotlN x n h1]; rfl, _, rfl⟩

theorem chaTurn_at (q : Int) (x : UInt32) (n : Int) (m : Nat) (w W : World) (hq : q = x.toNat) (hn : n = m) (h1 : 0 < m) (h2 : m < 32) (hW : ∃ k, W = w.drewN k) :
    Calls Try.prog 40 #[.int .u32 q, .int .i64 n] W fun e w' => e = .returned (.int .u32 (Cha.rotl x m).toNat) ∧ ∃ k, w' = w.drewN k := by
  subst hq hn
  obtain ⟨k, rfl⟩ := hW
  refine (chaTurn_any x m _ h1 h2).mono ?_
  rintro e w' ⟨he, j, rfl⟩
  exact ⟨he, k + j, World.drewN_drewN _ _ _⟩

def cu32v (x : UInt32) : Value := .int .u32 x.toNat
/-- The block's words. -/
def Words (w : World) (b : Nat) (t : TypeId) (s : List UInt32) : Prop := w.heap[b]? = some (.cells (s.map cu32v).toArray t (0, 0))
theorem Words.cell {w : World} {b : Nat} {t : TypeId} {s : List UInt32} (h : Words w b t s) (k : Nat) (hk : k < s.length) : w.cell? ⟨b, k, none⟩ = some (.int .u32 (Cha.at0 s k).toNat) :=
  cellAt h k (by simp [hk, cu32v, Cha.at0])
theorem Words.set {w : World} {b : Nat} {t : TypeId} {s : List UInt32} (h : Words w b t s) (k : Nat) (x : UInt32) : Words (w.setCell ⟨b, k, none⟩ (.int .u32 x.toNat)) b t (s.set k x) := by
  have h1 := heapSet (o := k) h (.int .u32 x.toNat)
  rw [Words, h1]
  simp [cu32v, List.map_set]
theorem Words.drewN {w : World} {b : Nat} {t : TypeId} {s : List UInt32} (h : Words w b t s) (n : Nat) : Words (w.drewN n) b t s := h
theorem turnsAt (k : Nat) (hk : k < 4) (W : World) :
    (Instr.index 65 (.agg #[.int .i64 16, .int .i64 12, .int .i64 8, .int .i64 7]) (.int .i64 k)).run Try.prog W = .ok (.int .i64 (Cha.turns k)) W := by
  have h4 : k = 0 ∨ k = 1 ∨ k = 2 ∨ k = 3 := by omega
  rcases h4 with rfl | rfl | rfl | rfl <;> (show _ = _; kernel_rfl)
theorem turns_pos (k : Nat) : 0 < Cha.turns k ∧ Cha.turns k < 32 := by
  unfold Cha.turns; split <;> decide
theorem pa_lt {a c n : Nat} (ha : a < n) (hc : c < n) (k : Nat) : Cha.pa a c k < n := by unfold Cha.pa; split <;> assumption
theorem pa_succ (a c k : Nat) : Cha.pa a c (k + 1) = Cha.pa c a k := by
  unfold Cha.pa
  by_cases h : k % 2 = 0
  · rw [if_pos h, if_neg (by omega)]
  · rw [if_neg h, if_pos (by omega)]
theorem add_raw (x y : UInt32) : ((x.toNat : Int) + (y.toNat : Int)) % 4294967296 = ((x + y).toNat : Int) := by
  rw [UInt32.toNat_add]; omega

set_option maxRecDepth 100000 in
set_option maxHeartbeats 1000000 in
theorem quarter_any (b a1 a2 a3 a4 : Nat) (s : List UInt32) (w : World) (hs : s.length = 16) (h1 : a1 < 16) (h2 : a2 < 16) (h3 : a3 < 16) (h4 : a4 < 16) (hW : Words w b 62 s) :
    Calls Try.prog 36 #[.pointer (some ⟨b, 0, none⟩), .int .i64 a1, .int .i64 a2, .int .i64 a3, .int .i64 a4] w
      fun e w' => e = .returned (.tuple #[]) ∧ Words w' b 62 (Cha.quarter s a1 a2 a3 a4) ∧ Kept w.heap.size (fun k => k = b) w w' := by
  have HW := Lib.hid hW
  have HT := Lib.hid turnsAt
  have H1 := Lib.hid h1
  have H2 := Lib.hid h2
  have H3 := Lib.hid h3
  have H4 := Lib.hid h4
  have HS := Lib.hid hs
  clear hW h1 h2 h3 h4 hs
  go_enter Try.func36, Try.ntmps36
  go_wp2_with fail
  go_loopw [1, 2, 3, 4, 13] (fun v1 v2 v3 v4 i wr => ∃ k : Nat, k ≤ 4 ∧ i = .int .i64 k ∧ v1 = .int .i64 (Cha.pa a1 a3 k) ∧ v2 = .int .i64 (Cha.pa a2 a4 k) ∧ v3 = .int .i64 (Cha.pa a3 a1 k) ∧ v4 = .int .i64 (Cha.pa a4 a2 k) ∧ Words wr b 62 (Cha.qk s a1 a2 a3 a4 k) ∧ Kept w.heap.size (fun k => k = b) w wr)
    (fun _ _ _ _ i _ => 4 - (intOf i).toNat)
  case atStart => exact ⟨0, by omega, rfl, rfl, rfl, rfl, rfl, HW.out, Kept.refl _ _ _⟩
  case round =>
    obtain ⟨k, hk, rfl, rfl, rfl, rfl, rfl, hw, hK⟩ := hrel
    have HK := Lib.hid hK
    have HQ := Lib.hid hw
    by_cases hlt : k < 4
    · have hA := pa_lt H1.out H3.out k
      have hB := pa_lt H2.out H4.out k
      have hC := pa_lt H3.out H1.out k
      have hD := pa_lt H4.out H2.out k
      have hn := turns_pos k
      have e1 := pa_succ a1 a3 k
      have e2 := pa_succ a2 a4 k
      have e3 := pa_succ a3 a1 k
      have e4 := pa_succ a4 a2 k
      have hqs : Cha.qk s a1 a2 a3 a4 (k + 1) = Cha.mix1 (Cha.add1 (Cha.qk s a1 a2 a3 a4 k) (Cha.pa a1 a3 k) (Cha.pa a2 a4 k)) (Cha.pa a1 a3 k) (Cha.pa a4 a2 k) (Cha.turns k) := rfl
      have hql : (Cha.qk s a1 a2 a3 a4 k).length = 16 := by rw [Cha.qk_length]; exact HS.out
      obtain ⟨A, hAe⟩ : ∃ A, A = Cha.pa a1 a3 k := ⟨_, rfl⟩
      obtain ⟨B, hBe⟩ : ∃ B, B = Cha.pa a2 a4 k := ⟨_, rfl⟩
      obtain ⟨C, hCe⟩ : ∃ C, C = Cha.pa a3 a1 k := ⟨_, rfl⟩
      obtain ⟨D, hDe⟩ : ∃ D, D = Cha.pa a4 a2 k := ⟨_, rfl⟩
      obtain ⟨n, hne⟩ : ∃ n, n = Cha.turns k := ⟨_, rfl⟩
      obtain ⟨q, hqe⟩ : ∃ q, q = Cha.qk s a1 a2 a3 a4 k := ⟨_, rfl⟩
      rw [← hAe, ← hBe, ← hDe, ← hne, ← hqe] at hqs
      rw [← hAe] at hA e3
      rw [← hBe] at hB e4
      rw [← hCe] at hC e1
      rw [← hDe] at hD e2
      rw [← hne] at hn
      rw [← hqe] at hql HQ
      rw [← hAe, ← hBe, ← hCe, ← hDe]
      have ht := HT.out k hlt
      rw [← hne] at ht
      have E1 := Lib.hid e1
      have E2 := Lib.hid e2
      have E3 := Lib.hid e3
      have E4 := Lib.hid e4
      have HQS := Lib.hid hqs
      have HQL := Lib.hid hql
      have c1 := HQ.out.cell A (by omega)
      have c2 := HQ.out.cell B (by omega)
      have f1 := freeAt HQ.out A
      obtain ⟨x, hx⟩ : ∃ x, x = Cha.at0 q A := ⟨_, rfl⟩
      obtain ⟨y, hy⟩ : ∃ y, y = Cha.at0 q B := ⟨_, rfl⟩
      rw [← hx] at c1
      rw [← hy] at c2
      have HX := Lib.hid hx
      have HY := Lib.hid hy
      clear hqs hql e1 e2 e3 e4 hAe hBe hCe hDe hne hqe hx hy hw hK
      go_wp2
      refine region_quiet_tail 13 (by kernel_rfl) (by kernel_rfl) ?_
      simp only [List.take_succ_cons, List.take_zero, List.drop_succ_cons, List.drop_zero]
      repeat (go_big_quiet_step (fail))
      refine wpQuiet_nil ?_
      intro w9 hw9
      obtain ⟨nq, rfl⟩ := hw9
      go_wp2
      rw [add_raw]
      have hw2 : Words ((wr.drewN nq).setCell ⟨b, A, none⟩ (.int .u32 ((x + y).toNat : Int))) b 62 (Cha.add1 q A B) := by
        have h : Words (wr.drewN nq) b 62 q := HQ.out
        have h2 := h.set A (x + y)
        rw [HX.out, HY.out] at h2 ⊢
        exact h2
      have hk2 : Kept w.heap.size (fun k => k = b) w ((wr.drewN nq).setCell ⟨b, A, none⟩ (.int .u32 ((x + y).toNat : Int))) := (HK.out.drewN nq).setCell (.inr rfl) _
      obtain ⟨w2, hw2e⟩ : ∃ w2, w2 = (wr.drewN nq).setCell ⟨b, A, none⟩ (.int .u32 ((x + y).toNat : Int)) := ⟨_, rfl⟩
      rw [← hw2e] at hw2 hk2 ⊢
      obtain ⟨q2, hq2⟩ : ∃ q2, q2 = Cha.add1 q A B := ⟨_, rfl⟩
      have HQ2 := Lib.hid hq2
      have hql2 : q2.length = 16 := by rw [hq2, Cha.add1, List.length_set]; exact HQL.out
      rw [← hq2] at hw2
      have HW2 := Lib.hid hw2
      have HK2 := Lib.hid hk2
      have c3 := hw2.cell D (by omega)
      have c4 := hw2.cell A (by omega)
      have f2 := freeAt hw2 D
      obtain ⟨z, hz⟩ : ∃ z, z = Cha.at0 q2 D := ⟨_, rfl⟩
      obtain ⟨u, hu⟩ : ∃ u, u = Cha.at0 q2 A := ⟨_, rfl⟩
      rw [← hz] at c3
      rw [← hu] at c4
      have HZ := Lib.hid hz
      have HU := Lib.hid hu
      have hxr := u32_xorF z u
      have HXR := Lib.hid hxr
      clear hw2 hk2 hw2e hq2 hql2 hz hu c1 c2 f1 hxr
      refine region_quiet_tail 17 (by kernel_rfl) (by kernel_rfl) ?_
      simp only [List.take_succ_cons, List.take_zero, List.drop_succ_cons, List.drop_zero]
      repeat (go_big_quiet_step ((go_at_call 40; refine chaTurn_at _ (z ^^^ u) _ n _ _ HXR.out rfl hn.1 hn.2 ⟨_, rfl⟩)))
      refine wpQuiet_nil ?_
      intro w9 hw9
      obtain ⟨nr, rfl⟩ := hw9
      go_wp2
      go_roundw
      case rel =>
        refine ⟨k + 1, by omega, by go_num, ?_, ?_, ?_, ?_, ?_, ?_⟩
        · rw [E1.out]
        · rw [E2.out]
        · rw [E3.out]
        · rw [E4.out]
        · have h := HW2.out.drewN nr |>.set D (Cha.rotl (z ^^^ u) n)
          rw [HQS.out, Cha.mix1, ← HQ2.out, ← HZ.out, ← HU.out]
          exact h
        · exact (HK2.out.drewN nr).setCell (.inr rfl) _
      case measure => simp [intOf]; omega
    · have hk4 : k = 4 := by omega
      subst hk4
      clear hw hK
      go_wp2
      go_end0
      exact ⟨rfl, HQ.out, HK.out⟩
end Go.Proofs.Ytoekopdogfnkhaa
