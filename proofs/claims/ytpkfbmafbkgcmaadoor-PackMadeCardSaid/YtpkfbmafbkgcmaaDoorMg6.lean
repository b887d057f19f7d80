/-
  Texts put together: ChaQ, ChaW, Mid, ChaB, ChaM.
-/
import Derived.Test.YtpkfbmafbkgcmaaDoorMg2
import Derived.Test.YtpkfbmafbkgcmaaDoorMg5
import Derived.Test.YtpkfbmafbkgcmaaDoorMg1
import Derived.WalkKit
import Derived.WalkSpells
import Derived.WalkLawsBesides
import Derived.BigQuiet
import Derived.Deep.QuietTactic
import Derived.LoopTactic
import Derived.Lib.Hide
import Derived.Deep.MidRow
import Derived.Test.YtpkfbmafbkgcmaaDoorMg4
set_option linter.unusedVariables false
set_option linter.unusedSimpArgs false
namespace Go.Proofs.YtpkfbmafbkgcmaaDoor
open Go.RowKit Go.Con

theorem rotlN (x : UInt32) (n : Nat) (hn : 0 < n) : bits .or .u32 ((x.toNat : Int) * 2 ^ n % 4294967296) ((x.toNat : Int) / 2 ^ (32 - n)) = ((Cha.rotl x n).toNat : Int) := by
  have h1 : ((x.toNat : Int) / 2 ^ (32 - n)) = ((x.toNat / 2 ^ (32 - n) : Nat) : Int) := by simp
  have h2 : ((x.toNat : Int) * 2 ^ n % 4294967296) = ((x.toNat <<< n % 4294967296 : Nat) : Int) := by
    rw [Nat.shiftLeft_eq]; simp
  rw [h1, h2, u32_or_nat _ _ (Nat.mod_lt _ (by decide)) (Nat.lt_of_le_of_lt (Nat.div_le_self _ _) x.toNat_lt)]
  congr 1
  unfold Cha.rotl
  rw [UInt32.toNat_ofNat_of_lt']
  exact Nat.or_lt_two_pow (n := 32) (Nat.mod_lt _ (by decide)) (Nat.lt_of_le_of_lt (Nat.div_le_self _ _) x.toNat_lt)

set_option maxHeartbeats 400000 in
theorem chaTurn_any (x : UInt32) (n : Nat) (w : World) (h1 : 0 < n) (h2 : n < 32) :
    Calls Tryd.prog 57 #[.int .u32 x.toNat, .int .i64 n] w fun e w' => e = .returned (.int .u32 (Cha.rotl x n).toNat) ∧ ∃ k, w' = w.drewN k := by
  go_enter Tryd.func57, Tryd.ntmps57
  go_wp2
  go_quiet (fail)
  go_wp2
  go_ret
  exact ⟨by rw [← rotlN x n h1]; rfl, _, rfl⟩

theorem chaTurn_at (q : Int) (x : UInt32) (n : Int) (m : Nat) (w W : World) (hq : q = x.toNat) (hn : n = m) (h1 : 0 < m) (h2 : m < 32) (hW : ∃ k, W = w.drewN k) :
    Calls Tryd.prog 57 #[.int .u32 q, .int .i64 n] W fun e w' => e = .returned (.int .u32 (Cha.rotl x m).toNat) ∧ ∃ k, w' = w.drewN k := by
  subst hq hn
  obtain ⟨k, rfl⟩ := hW
  refine (chaTurn_any x m _ h1 h2).mono ?_
  rintro e w' ⟨he, j, rfl⟩
  exact ⟨he, k + j, World.drewN_drewN _ _ _⟩

def cu32v (x : UInt32) : Value := .int .u32 x.toNat
/-- The block's words. -/
def Words (w : World) (b : Nat) (t : TypeId) (s : List UInt32) : Prop := w.heap[b]? = some (.cells (s.map cu32v).toArray t (0, 0))
theorem Words.cell {w : World} {b : Nat} {t : TypeId} {s : List UInt32} (h : Words w b t s) (k : Nat) (hk : k < s.length) : w.cell? ⟨b, k, none⟩ = some (.int .u32 (Cha.at0 s k).toNat) :=
  cellAt h k (by simp [hk, cu32v, Cha.at0])
theorem Words.set {w : World} {b : Nat} {t : TypeId} {s : List UInt32} (h : Words w b t s) (k : Nat) (x : UInt32) : Words (w.setCell ⟨b, k, none⟩ (.int .u32 x.toNat)) b t (s.set k x) := by
  have h1 := heapSet (o := k) h (.int .u32 x.toNat)
  rw [Words, h1]
  simp [cu32v, List.map_set]
theorem Words.drewN {w : World} {b : Nat} {t : TypeId} {s : List UInt32} (h : Words w b t s) (n : Nat) : Words (w.drewN n) b t s := h
theorem turnsAt (k : Nat) (hk : k < 4) (W : World) :
    (Instr.index 70 (.agg #[.int .i64 16, .int .i64 12, .int .i64 8, .int .i64 7]) (.int .i64 k)).run Tryd.prog W = .ok (.int .i64 (Cha.turns k)) W := by
  have h4 : k = 0 ∨ k = 1 ∨ k = 2 ∨ k = 3 := by omega
  rcases h4 with rfl | rfl | rfl | rfl <;> (show _ = _; kernel_rfl)
theorem turns_pos (k : Nat) : 0 < Cha.turns k ∧ Cha.turns k < 32 := by
  unfold Cha.turns; split <;> decide
theorem pa_lt {a c n : Nat} (ha : a < n) (hc : c < n) (k : Nat) : Cha.pa a c k < n := by unfold Cha.pa; split <;> assumption
theorem pa_succ (a c k : Nat) : Cha.pa a c (k + 1) = Cha.pa c a k := by
  unfold Cha.pa
  by_cases h : k % 2 = 0
  · rw [if_pos h, if_neg (by omega)]
  · rw [if_neg h, if_pos (by omega)]
theorem add_raw (x y : UInt32) : ((x.toNat : Int) + (y.toNat : Int)) % 4294967296 = ((x + y).toNat : Int) := by
  rw [UInt32.toNat_add]; omega

set_option maxRecDepth 100000 in
set_option maxHeartbeats 1000000 in
theorem quarter_any (b a1 a2 a3 a4 : Nat) (s : List UInt32) (w : World) (hs : s.length = 16) (h1 : a1 < 16) (h2 : a2 < 16) (h3 : a3 < 16) (h4 : a4 < 16) (hW : Words w b 92 s) :
    Calls Tryd.prog 55 #[.pointer (some ⟨b, 0, none⟩), .int .i64 a1, .int .i64 a2, .int .i64 a3, .int .i64 a4] w
      fun e w' => e = .returned (.tuple #[]) ∧ Words w' b 92 (Cha.quarter s a1 a2 a3 a4) ∧ Kept w.heap.size (fun k => k = b) w w' := by
  have HW := Lib.hid hW
  have HT := Lib.hid turnsAt
  have H1 := Lib.hid h1
  have H2 := Lib.hid h2
  have H3 := Lib.hid h3
  have H4 := Lib.hid h4
  have HS := Lib.hid hs
  clear hW h1 h2 h3 h4 hs
  go_enter Tryd.func55, Tryd.ntmps55
  go_wp2_with fail
  go_loopw [1, 2, 3, 4, 13] (fun v1 v2 v3 v4 i wr => ∃ k : Nat, k ≤ 4 ∧ i = .int .i64 k ∧ v1 = .int .i64 (Cha.pa a1 a3 k) ∧ v2 = .int .i64 (Cha.pa a2 a4 k) ∧ v3 = .int .i64 (Cha.pa a3 a1 k) ∧ v4 = .int .i64 (Cha.pa a4 a2 k) ∧ Words wr b 92 (Cha.qk s a1 a2 a3 a4 k) ∧ Kept w.heap.size (fun k => k = b) w wr)
    (fun _ _ _ _ i _ => 4 - (intOf i).toNat)
  case atStart => exact ⟨0, by omega, rfl, rfl, rfl, rfl, rfl, HW.out, Kept.refl _ _ _⟩
  case round =>
    obtain ⟨k, hk, rfl, rfl, rfl, rfl, rfl, hw, hK⟩ := hrel
    have HK := Lib.hid hK
    have HQ := Lib.hid hw
    by_cases hlt : k < 4
    · have hA := pa_lt H1.out H3.out k
      have hB := pa_lt H2.out H4.out k
      have hC := pa_lt H3.out H1.out k
      have hD := pa_lt H4.out H2.out k
      have hn := turns_pos k
      have e1 := pa_succ a1 a3 k
      have e2 := pa_succ a2 a4 k
      have e3 := pa_succ a3 a1 k
      have e4 := pa_succ a4 a2 k
      have hqs : Cha.qk s a1 a2 a3 a4 (k + 1) = Cha.mix1 (Cha.add1 (Cha.qk s a1 a2 a3 a4 k) (Cha.pa a1 a3 k) (Cha.pa a2 a4 k)) (Cha.pa a1 a3 k) (Cha.pa a4 a2 k) (Cha.turns k) := rfl
      have hql : (Cha.qk s a1 a2 a3 a4 k).length = 16 := by rw [Cha.qk_length]; exact HS.out
      obtain ⟨A, hAe⟩ : ∃ A, A = Cha.pa a1 a3 k := ⟨_, rfl⟩
      obtain ⟨B, hBe⟩ : ∃ B, B = Cha.pa a2 a4 k := ⟨_, rfl⟩
      obtain ⟨C, hCe⟩ : ∃ C, C = Cha.pa a3 a1 k := ⟨_, rfl⟩
      obtain ⟨D, hDe⟩ : ∃ D, D = Cha.pa a4 a2 k := ⟨_, rfl⟩
      obtain ⟨n, hne⟩ : ∃ n, n = Cha.turns k := ⟨_, rfl⟩
      obtain ⟨q, hqe⟩ : ∃ q, q = Cha.qk s a1 a2 a3 a4 k := ⟨_, rfl⟩
      rw [← hAe, ← hBe, ← hDe, ← hne, ← hqe] at hqs
      rw [← hAe] at hA e3
      rw [← hBe] at hB e4
      rw [← hCe] at hC e1
      rw [← hDe] at hD e2
      rw [← hne] at hn
      rw [← hqe] at hql HQ
      rw [← hAe, ← hBe, ← hCe, ← hDe]
      have ht := HT.out k hlt
      rw [← hne] at ht
      have E1 := Lib.hid e1
      have E2 := Lib.hid e2
      have E3 := Lib.hid e3
      have E4 := Lib.hid e4
      have HQS := Lib.hid hqs
      have HQL := Lib.hid hql
      have c1 := HQ.out.cell A (by omega)
      have c2 := HQ.out.cell B (by omega)
      have f1 := freeAt HQ.out A
      obtain ⟨x, hx⟩ : ∃ x, x = Cha.at0 q A := ⟨_, rfl⟩
      obtain ⟨y, hy⟩ : ∃ y, y = Cha.at0 q B := ⟨_, rfl⟩
      rw [← hx] at c1
      rw [← hy] at c2
      have HX := Lib.hid hx
      have HY := Lib.hid hy
      clear hqs hql e1 e2 e3 e4 hAe hBe hCe hDe hne hqe hx hy hw hK
      go_wp2
      refine region_quiet_tail 13 (by kernel_rfl) (by kernel_rfl) ?_
      simp only [List.take_succ_cons, List.take_zero, List.drop_succ_cons, List.drop_zero]
      repeat (go_big_quiet_step (fail))
      refine wpQuiet_nil ?_
      intro w9 hw9
      obtain ⟨nq, rfl⟩ := hw9
      go_wp2
      rw [add_raw]
      have hw2 : Words ((wr.drewN nq).setCell ⟨b, A, none⟩ (.int .u32 ((x + y).toNat : Int))) b 92 (Cha.add1 q A B) := by
        have h : Words (wr.drewN nq) b 92 q := HQ.out
        have h2 := h.set A (x + y)
        rw [HX.out, HY.out] at h2 ⊢
        exact h2
      have hk2 : Kept w.heap.size (fun k => k = b) w ((wr.drewN nq).setCell ⟨b, A, none⟩ (.int .u32 ((x + y).toNat : Int))) := (HK.out.drewN nq).setCell (.inr rfl) _
      obtain ⟨w2, hw2e⟩ : ∃ w2, w2 = (wr.drewN nq).setCell ⟨b, A, none⟩ (.int .u32 ((x + y).toNat : Int)) := ⟨_, rfl⟩
      rw [← hw2e] at hw2 hk2 ⊢
      obtain ⟨q2, hq2⟩ : ∃ q2, q2 = Cha.add1 q A B := ⟨_, rfl⟩
      have HQ2 := Lib.hid hq2
      have hql2 : q2.length = 16 := by rw [hq2, Cha.add1, List.length_set]; exact HQL.out
      rw [← hq2] at hw2
      have HW2 := Lib.hid hw2
      have HK2 := Lib.hid hk2
      have c3 := hw2.cell D (by omega)
      have c4 := hw2.cell A (by omega)
      have f2 := freeAt hw2 D
      obtain ⟨z, hz⟩ : ∃ z, z = Cha.at0 q2 D := ⟨_, rfl⟩
      obtain ⟨u, hu⟩ : ∃ u, u = Cha.at0 q2 A := ⟨_, rfl⟩
      rw [← hz] at c3
      rw [← hu] at c4
      have HZ := Lib.hid hz
      have HU := Lib.hid hu
      have hxr := u32_xorF z u
      have HXR := Lib.hid hxr
      clear hw2 hk2 hw2e hq2 hql2 hz hu c1 c2 f1 hxr
      refine region_quiet_tail 17 (by kernel_rfl) (by kernel_rfl) ?_
      simp only [List.take_succ_cons, List.take_zero, List.drop_succ_cons, List.drop_zero]
      repeat (go_big_quiet_step ((go_at_call 57; refine chaTurn_at _ (z ^^^ u) _ n _ _ HXR.out rfl hn.1 hn.2 ⟨_, rfl⟩)))
      refine wpQuiet_nil ?_
      intro w9 hw9
      obtain ⟨nr, rfl⟩ := hw9
      go_wp2
      go_roundw
      case rel =>
        refine ⟨k + 1, by omega, by go_num, ?_, ?_, ?_, ?_, ?_, ?_⟩
        · rw [E1.out]
        · rw [E2.out]
        · rw [E3.out]
        · rw [E4.out]
        · have h := HW2.out.drewN nr |>.set D (Cha.rotl (z ^^^ u) n)
          rw [HQS.out, Cha.mix1, ← HQ2.out, ← HZ.out, ← HU.out]
          exact h
        · exact (HK2.out.drewN nr).setCell (.inr rfl) _
      case measure => simp [intOf]; omega
    · have hk4 : k = 4 := by omega
      subst hk4
      clear hw hK
      go_wp2
      go_end0
      exact ⟨rfl, HQ.out, HK.out⟩
end Go.Proofs.YtpkfbmafbkgcmaaDoor

set_option linter.unusedVariables false
set_option linter.unusedSimpArgs false
namespace Go.Proofs.YtpkfbmafbkgcmaaDoor
open Go.RowKit Go.Con

theorem wordLow_raw (x0 x1 x2 x3 : UInt8) :
    bits .or .u32 (bits .or .u32 (bits .or .u32 ((x0.toNat : Int) % 4294967296) ((x1.toNat : Int) % 4294967296 * 256 % 4294967296)) ((x2.toNat : Int) % 4294967296 * 65536 % 4294967296)) ((x3.toNat : Int) % 4294967296 * 16777216 % 4294967296)
      = ((x0.toUInt32 ||| x1.toUInt32 <<< 8 ||| x2.toUInt32 <<< 16 ||| x3.toUInt32 <<< 24).toNat : Int) := by
  rw [up32, up32, up32, up32, shl32 _ 24 24 16777216 (by decide) rfl (by decide), shl32 _ 16 16 65536 (by decide) rfl (by decide), shl32 _ 8 8 256 (by decide) rfl (by decide), u32_orF, u32_orF, u32_orF]

set_option maxHeartbeats 1000000 in
theorem chaWord_any (b off n c : Nat) (x0 x1 x2 x3 : UInt8) (w : World) (hn : 4 ≤ n) (hc : n ≤ c) (h0 : w.cell? ⟨b, off, none⟩ = some (.int .u8 x0.toNat)) (h1 : w.cell? ⟨b, off + 1, none⟩ = some (.int .u8 x1.toNat)) (h2 : w.cell? ⟨b, off + 2, none⟩ = some (.int .u8 x2.toNat)) (h3 : w.cell? ⟨b, off + 3, none⟩ = some (.int .u8 x3.toNat)) :
    Calls Tryd.prog 54 #[.slice (some ⟨b, off, none⟩) n c] w fun e w' => e = .returned (.int .u32 (x0.toUInt32 ||| x1.toUInt32 <<< 8 ||| x2.toUInt32 <<< 16 ||| x3.toUInt32 <<< 24).toNat) ∧ ∃ k, w' = w.drewN k := by
  have k0 : (0 : Int) < (n : Int) := by omega
  have k1 : (1 : Int) < (n : Int) := by omega
  have k2 : (2 : Int) < (n : Int) := by omega
  have k3 : (3 : Int) < (n : Int) := by omega
  go_enter Tryd.func54, Tryd.ntmps54
  go_wp2
  go_quiet (fail)
  go_wp2
  go_ret
  exact ⟨by rw [← wordLow_raw]; rfl, _, rfl⟩

theorem chaCheck_ok (a1 a2 : Option Addr) (c1 c2 : Nat) (n : Nat) (w : World) (hn : n ≤ 1073741824) :
    Calls Tryd.prog 47 #[.slice a1 32 c1, .int .i64 n, .slice a2 12 c2] w fun e w' => e = .returned (.int .i64 0) ∧ w = w' := by
  have h1 : ¬ ((n : Int) < 0) := by omega
  have h2 : ¬ ((1073741824 : Int) < (n : Int)) := by omega
  go_enter Tryd.func47, Tryd.ntmps47
  go_wp2
  go_ret
  exact ⟨rfl, rfl⟩
end Go.Proofs.YtpkfbmafbkgcmaaDoor

set_option linter.unusedVariables false
set_option linter.unusedSimpArgs false
namespace Go.Con
open Go Go.RowKit
theorem Kept.setCells {B : Nat} {S : Nat → Prop} {a : World} {b : Nat} (hb : B ≤ b ∨ S b) : ∀ (vs : List Value) (o : Nat) (w : World), Kept B S a w → Kept B S a (w.setCells b o vs)
  | [], _, _, h => h
  | v :: r, o, w, h => Kept.setCells hb r (o + 1) _ (h.setCell (p := ⟨b, o, none⟩) hb v)
theorem below_setCells {B : Nat} {a : World} {b : Nat} (hb : B ≤ b) : ∀ (vs : List Value) (o : Nat) (w : World), Below B a w → Below B a (w.setCells b o vs)
  | [], _, _, h => h
  | v :: r, o, w, h => below_setCells hb r (o + 1) _ (h.setCell (p := ⟨b, o, none⟩) hb v)
theorem heap_setCells {b : Nat} {e : TypeId} {f : Nat × Nat} : ∀ (vs : List Value) (o : Nat) (w : World) (cur : Array Value), w.heap[b]? = some (.cells cur e f) → ∃ cur', (w.setCells b o vs).heap[b]? = some (.cells cur' e f) ∧ cur'.size = cur.size
  | [], _, _, cur, h => ⟨cur, h, rfl⟩
  | v :: r, o, w, cur, h => by
    obtain ⟨c, h1, h2⟩ := heap_setCells r (o + 1) (w.setCell ⟨b, o, none⟩ v) _ (heapSet h v)
    exact ⟨c, h1, by rw [h2]; simp⟩
theorem heap_setCells_ne {b k : Nat} (hk : k ≠ b) : ∀ (vs : List Value) (o : Nat) (w : World), (w.setCells b o vs).heap[k]? = w.heap[k]?
  | [], _, _ => rfl
  | v :: r, o, w => (heap_setCells_ne hk r (o + 1) _).trans (heapSet_ne o v hk)
theorem size_setCells {b : Nat} : ∀ (vs : List Value) (o : Nat) (w : World), (w.setCells b o vs).heap.size = w.heap.size
  | [], _, _ => rfl
  | v :: r, o, w => (size_setCells r (o + 1) _).trans (by simp [World.setCell])
theorem there_of {w : World} {b n : Nat} {t : TypeId} {cur : Array Value} (h : w.heap[b]? = some (.cells cur t (0, 0))) (hn : cur.size = n) : w.there b 0 n := fun j hj => by
  rw [Nat.zero_add]
  refine ⟨?_, freeAt h j⟩
  rw [cellD h j (by omega)]
  rfl
/-- A row that was stored whole. -/
theorem storedRow {w : World} {b : Nat} {t : TypeId} {cur : Array Value} {vs : List Value} (h : w.heap[b]? = some (.cells cur t (0, 0))) (hn : cur.size = vs.length) : (w.setCells b 0 vs).heap[b]? = some (.cells vs.toArray t (0, 0)) := by
  obtain ⟨c, h1, h2⟩ := heap_setCells vs 0 w cur h
  have hr := World.rangeAt_setCells_same w b 0 vs (there_of h hn)
  rw [h1]
  have e : c = vs.toArray := by
    apply Array.ext (by rw [h2, hn]; simp)
    intro j k1 k2
    have hj : j < vs.length := by simpa using k2
    have h3 := hr j vs[j] (List.getElem?_eq_getElem hj)
    rw [Nat.zero_add, cellAt h1 j (Array.getElem?_eq_getElem k1)] at h3
    simpa using h3
  rw [e]
theorem range_of {w : World} {b : Nat} {t : TypeId} {f : Nat × Nat} {cs : List Value} (h : w.heap[b]? = some (.cells cs.toArray t f)) : w.rangeAt b 0 cs := fun j v hv => by
  rw [Nat.zero_add]
  exact cellAt h j (by simpa using hv)
end Go.Con

set_option linter.unusedVariables false
set_option linter.unusedSimpArgs false
namespace Go.Con.Cha
/-- the state while its words are read -/
def ld (key : List UInt8) : Nat → List UInt32
  | 0 => [1634760805, 857760878, 2036477234, 1797285236, 0, 0, 0, 0, 0, 0, 0, 0, 0, 0, 0, 0]
  | k + 1 => (ld key k).set (4 + k) (word key (4 * k))
def ln (key : List UInt8) (counter : UInt32) (nonce : List UInt8) : Nat → List UInt32
  | 0 => (ld key 8).set 12 counter
  | k + 1 => (ln key counter nonce k).set (13 + k) (word nonce (4 * k))
theorem ld_length (key : List UInt8) (k : Nat) : (ld key k).length = 16 := by
  induction k with
  | zero => rfl
  | succ k ih => rw [ld, List.length_set, ih]
theorem ln_length (key : List UInt8) (counter : UInt32) (nonce : List UInt8) (k : Nat) : (ln key counter nonce k).length = 16 := by
  induction k with
  | zero => rw [ln, List.length_set, ld_length]
  | succ k ih => rw [ln, List.length_set, ih]
theorem ln_start (key : List UInt8) (counter : UInt32) (nonce : List UInt8) : ln key counter nonce 3 = start key counter nonce := rfl
theorem outs_at (x s : List UInt32) (N k m : Nat) (hk : k < N) (hm : m < 4) : (outs x s N).getD (4 * k + m) 0 = (le4 (at0 x k + at0 s k)).getD m 0 := by
  induction N with
  | zero => omega
  | succ N ih =>
    have hl := outs_length x s N
    have h4 : (le4 (at0 x N + at0 s N)).length = 4 := rfl
    simp only [outs, List.getD_eq_getElem?_getD]
    by_cases h : k < N
    · rw [List.getElem?_append_left (by omega)]
      have := ih h
      simpa only [List.getD_eq_getElem?_getD] using this
    · have : k = N := by omega
      subst this
      rw [List.getElem?_append_right (by omega), hl, Nat.add_sub_cancel_left]
end Go.Con.Cha
namespace Go.Proofs.YtpkfbmafbkgcmaaDoor
open Go.RowKit Go.Con

theorem Words.range {w : World} {b : Nat} {t : TypeId} {s : List UInt32} (h : Words w b t s) : w.rangeAt b 0 (s.map cu32v) := fun j v hv => by
  rw [Nat.zero_add]
  exact cellAt h j (by simpa using hv)
/-- a block of so many cells -/
def Room (w : World) (b n : Nat) (t : TypeId) : Prop := ∃ cur, w.heap[b]? = some (.cells cur t (0, 0)) ∧ cur.size = n
theorem Room.keep {w w' : World} {b n B : Nat} {t : TypeId} {S : Nat → Prop} (h : Room w b n t) (hk : Kept B S w w') (hb : b < B) (hs : ¬ S b) : Room w' b n t := by
  obtain ⟨cur, h1, h2⟩ := h
  exact ⟨cur, (hk.block b hb hs).trans h1, h2⟩
theorem Room.set {w : World} {b n b' k : Nat} {t : TypeId} {v : Value} (h : Room w b n t) : Room (w.setCell ⟨b', k, none⟩ v) b n t := by
  obtain ⟨cur, h1, h2⟩ := h
  by_cases e : b = b'
  · subst e
    exact ⟨_, heapSet h1 v, by simpa using h2⟩
  · exact ⟨cur, by rw [heapSet_ne _ _ e]; exact h1, h2⟩
theorem Room.cellAt {w : World} {b n : Nat} {t : TypeId} (h : Room w b n t) (j : Nat) (hj : j < n) : ∃ v, w.cell? ⟨b, j, none⟩ = some v := by
  obtain ⟨cur, h1, h2⟩ := h
  exact ⟨_, cellD h1 j (by omega)⟩
theorem Room.freeAt {w : World} {b n : Nat} {t : TypeId} (h : Room w b n t) (j : Nat) : w.frozen? ⟨b, j, none⟩ = false := by
  obtain ⟨cur, h1, h2⟩ := h
  exact Go.Con.freeAt h1 j
theorem Room.drewN {w : World} {b n : Nat} {t : TypeId} (h : Room w b n t) (m : Nat) : Room (w.drewN m) b n t := h
theorem quarter_at (b a1 a2 a3 a4 : Nat) (q1 q2 q3 q4 : Int) (s : List UInt32) (w : World) (e1 : q1 = a1) (e2 : q2 = a2) (e3 : q3 = a3) (e4 : q4 = a4) (hs : s.length = 16) (h1 : a1 < 16) (h2 : a2 < 16) (h3 : a3 < 16) (h4 : a4 < 16) (hW : Words w b 92 s) :
    Calls Tryd.prog 55 #[.pointer (some ⟨b, 0, none⟩), .int .i64 q1, .int .i64 q2, .int .i64 q3, .int .i64 q4] w
      fun e w' => e = .returned (.tuple #[]) ∧ Words w' b 92 (Cha.quarter s a1 a2 a3 a4) ∧ Kept w.heap.size (fun k => k = b) w w' := by
  subst e1 e2 e3 e4
  exact quarter_any b a1 a2 a3 a4 s w hs h1 h2 h3 h4 hW
theorem Words.kept {w w' : World} {b B : Nat} {t : TypeId} {s : List UInt32} {S : Nat → Prop} (h : Words w b t s) (hk : Kept B S w w') (hb : b < B) (hs : ¬ S b) : Words w' b t s := (hk.block b hb hs).trans h
theorem Words.other {w : World} {b : Nat} {t : TypeId} {s : List UInt32} (h : Words w b t s) (b' k : Nat) (v : Value) (hb : b ≠ b') : Words (w.setCell ⟨b', k, none⟩ v) b t s := (heapSet_ne k v hb).trans h
theorem le4_0 (n : UInt32) : u8v ((Cha.le4 n).getD 0 0) = .int .u8 (n.toNat % 256) := by
  show Value.int .u8 (n.toUInt8.toNat : Int) = _
  rw [UInt32.toNat_toUInt8]; simp
theorem le4_1 (n : UInt32) : u8v ((Cha.le4 n).getD 1 0) = .int .u8 (n.toNat / 256 % 256) := by
  show Value.int .u8 ((n >>> 8).toUInt8.toNat : Int) = _
  rw [UInt32.toNat_toUInt8, UInt32.toNat_shiftRight, Nat.shiftRight_eq_div_pow]; simp
theorem le4_2 (n : UInt32) : u8v ((Cha.le4 n).getD 2 0) = .int .u8 (n.toNat / 65536 % 256) := by
  show Value.int .u8 ((n >>> 16).toUInt8.toNat : Int) = _
  rw [UInt32.toNat_toUInt8, UInt32.toNat_shiftRight, Nat.shiftRight_eq_div_pow]; simp
theorem le4_3 (n : UInt32) : u8v ((Cha.le4 n).getD 3 0) = .int .u8 (n.toNat / 16777216 % 256) := by
  show Value.int .u8 ((n >>> 24).toUInt8.toNat : Int) = _
  rw [UInt32.toNat_toUInt8, UInt32.toNat_shiftRight, Nat.shiftRight_eq_div_pow]; simp
/-- a row whose first m cells are known -/
def RowP (w : World) (b n : Nat) (t : TypeId) (f : Nat → Value) (m : Nat) : Prop := ∃ cur, w.heap[b]? = some (.cells cur t (0, 0)) ∧ cur.size = n ∧ ∀ j, j < m → cur[j]? = some (f j)
theorem RowP.next {w : World} {b n m : Nat} {t : TypeId} {f : Nat → Value} (h : RowP w b n t f m) (hm : m < n) (v : Value) (hv : v = f m) : RowP (w.setCell ⟨b, m, none⟩ v) b n t f (m + 1) := by
  obtain ⟨cur, h1, h2, h3⟩ := h
  exact fillOne 0 h1 h2 hm h3 hv
theorem RowP.cell {w : World} {b n m : Nat} {t : TypeId} {f : Nat → Value} (h : RowP w b n t f m) (j : Nat) (hj : j < n) : ∃ v, w.cell? ⟨b, j, none⟩ = some v := by
  obtain ⟨cur, h1, h2, h3⟩ := h
  exact ⟨_, cellD h1 j (by omega)⟩
theorem RowP.free {w : World} {b n m : Nat} {t : TypeId} {f : Nat → Value} (h : RowP w b n t f m) (j : Nat) : w.frozen? ⟨b, j, none⟩ = false := by
  obtain ⟨cur, h1, h2, h3⟩ := h
  exact freeAt h1 j
theorem RowP.full {w : World} {b n : Nat} {t : TypeId} {f : Nat → Value} (h : RowP w b n t f n) : w.heap[b]? = some (.cells ((List.range n).map f).toArray t (0, 0)) := by
  obtain ⟨cur, h1, h2, h3⟩ := h
  rw [h1]
  have e : cur = ((List.range n).map f).toArray := by
    apply Array.ext (by simp [h2])
    intro j k1 k2
    have hj : j < n := by omega
    have h4 := h3 j hj
    rw [Array.getElem?_eq_getElem k1] at h4
    injection h4 with h4
    rw [h4]
    simp
  rw [e]
set_option maxRecDepth 100000 in
set_option maxHeartbeats 4000000 in
theorem cblock_any (kb ko kc nb no nc : Nat) (key nonce : List UInt8) (counter : UInt32) (w : World) (hkl : key.length = 32) (hnl : nonce.length = 12)
    (hk : Rd w (.slice (some ⟨kb, ko, none⟩) 32 kc) key) (hn : Rd w (.slice (some ⟨nb, no, none⟩) 12 nc) nonce) :
    Calls Tryd.prog 48 #[.slice (some ⟨kb, ko, none⟩) 32 kc, .int .u32 counter.toNat, .slice (some ⟨nb, no, none⟩) 12 nc] w
      fun e w' => e = .returned (.agg ((Cha.block key counter nonce).map u8v).toArray) ∧ Below w.heap.size w w' := by
  have HKey := Lib.hid hk
  have HNon := Lib.hid hn
  have HKL := Lib.hid hkl
  have HNL := Lib.hid hnl
  clear hk hn hkl hnl
  go_enter Tryd.func48, Tryd.ntmps48
  go_wp2_with fail
  have hk1 : ∀ (W : World), Below w.heap.size w W → ∀ i, i < 32 → W.cell? ⟨kb, ko + i, none⟩ = some (.int .u8 (key.getD i 0).toNat) := by
    intro W hW i hi
    obtain ⟨a', c', e, _, _, _, h⟩ := HKey.out.stay hW
    obtain ⟨b, off, e4, h2⟩ := h (by intro h; have := HKL.out; rw [h] at this; cases this)
    injection e with e1 e2 e3
    subst e1
    injection e4 with e4
    injection e4 with e5 e6
    subst e5 e6
    exact h2 i (by rw [HKL.out]; exact hi)
  have hn1 : ∀ (W : World), Below w.heap.size w W → ∀ i, i < 12 → W.cell? ⟨nb, no + i, none⟩ = some (.int .u8 (nonce.getD i 0).toNat) := by
    intro W hW i hi
    obtain ⟨a', c', e, _, _, _, h⟩ := HNon.out.stay hW
    obtain ⟨b, off, e4, h2⟩ := h (by intro h; have := HNL.out; rw [h] at this; cases this)
    injection e with e1 e2 e3
    subst e1
    injection e4 with e4
    injection e4 with e5 e6
    subst e5 e6
    exact h2 i (by rw [HNL.out]; exact hi)
  have HK1 := Lib.hid hk1
  have HN1 := Lib.hid hn1
  have hkc : 32 ≤ kc := by obtain ⟨_, _, e, h, _⟩ := HKey.out; injection e with e1 e2 e3; omega
  have hnc : 12 ≤ nc := by obtain ⟨_, _, e, h, _⟩ := HNon.out; injection e with e1 e2 e3; omega
  clear hk1 hn1
  go_loopw [17] (fun i wr => ∃ k : Nat, k ≤ 8 ∧ i = .int .i64 k ∧ Words wr (w.heap.size + 1) 92 (Cha.ld key k) ∧ Room wr w.heap.size 64 85 ∧ Below w.heap.size w wr)
    (fun i _ => 8 - (intOf i).toNat)
  case atStart => exact ⟨0, by omega, rfl, heapNew1 _ _ _, ⟨_, heapNew0 _ _ _, rfl⟩, ((Below.refl _ _).alloc (Nat.le_refl _) _).alloc (by simp) _⟩
  case round =>
    obtain ⟨k, hk, rfl, hw, hr, hb⟩ := hrel
    have HW := Lib.hid hw
    have HR := Lib.hid hr
    have HB := Lib.hid hb
    by_cases hlt : k < 8
    · have g0 := HK1.out wr hb (4 * k) (by omega)
      have g1 := HK1.out wr hb (4 * k + 1) (by omega)
      have g2 := HK1.out wr hb (4 * k + 2) (by omega)
      have g3 := HK1.out wr hb (4 * k + 3) (by omega)
      have cc := (hw.cell (4 + k) (by rw [Cha.ld_length]; omega))
      have ff := freeAt hw (4 + k)
      clear hw hr hb
      go_wp2_with fail
      refine (chaWord_any kb (ko + 4 * k) (32 - 4 * k) (kc - 4 * k) (key.getD (4 * k) 0) (key.getD (4 * k + 1) 0) (key.getD (4 * k + 2) 0) (key.getD (4 * k + 3) 0) wr (by omega) (by omega) g0 g1 g2 g3).mono ?_
      rintro e w3 ⟨rfl, nq, rfl⟩
      clear g0 g1 g2 g3
      obtain ⟨x, hx⟩ : ∃ x, x = Cha.word key (4 * k) := ⟨_, rfl⟩
      have hx2 : ((key.getD (4 * k) 0).toUInt32 ||| (key.getD (4 * k + 1) 0).toUInt32 <<< 8 ||| (key.getD (4 * k + 2) 0).toUInt32 <<< 16 ||| (key.getD (4 * k + 3) 0).toUInt32 <<< 24) = x := hx.symm
      rw [hx2]
      have HX := Lib.hid hx
      clear hx hx2
      go_wp2
      go_roundw
      case rel =>
        refine ⟨k + 1, by omega, by go_num, ?_, (HR.out.drewN nq).set, (below_drewN HB.out nq).setCell (by simp) _⟩
        rw [Cha.ld, ← HX.out]
        exact (HW.out.drewN nq).set (4 + k) x
      case measure => simp [intOf]; omega
    · have hk8 : k = 8 := by omega
      rw [hk8] at hw
      clear hk8
      have HW := Lib.hid hw
      have cc := (hw.cell 12 (by rw [Cha.ld_length]; omega))
      have ff := freeAt hw 12
      clear hw hr hb
      go_wp2_with fail
      have hw1 : Words (wr.setCell ⟨w.heap.size + 1, 12, none⟩ (.int .u32 counter.toNat)) (w.heap.size + 1) 92 (Cha.ln key counter nonce 0) := HW.out.set 12 counter
      have hr1 : Room (wr.setCell ⟨w.heap.size + 1, 12, none⟩ (.int .u32 counter.toNat)) w.heap.size 64 85 := HR.out.set
      have hb1 : Below w.heap.size w (wr.setCell ⟨w.heap.size + 1, 12, none⟩ (.int .u32 counter.toNat)) := HB.out.setCell (by simp) _
      obtain ⟨w1, hw1e⟩ : ∃ w1, w1 = wr.setCell ⟨w.heap.size + 1, 12, none⟩ (.int .u32 counter.toNat) := ⟨_, rfl⟩
      rw [← hw1e] at hw1 hr1 hb1 ⊢
      have HW1 := Lib.hid hw1
      have HR1 := Lib.hid hr1
      have HB1 := Lib.hid hb1
      clear hw1 hr1 hb1 hw1e cc ff
      go_loopw [31] (fun i wr => ∃ k : Nat, k ≤ 3 ∧ i = .int .i64 k ∧ Words wr (w.heap.size + 1) 92 (Cha.ln key counter nonce k) ∧ Room wr w.heap.size 64 85 ∧ Below w.heap.size w wr)
        (fun i _ => 3 - (intOf i).toNat)
      case atStart => exact ⟨0, by omega, rfl, HW1.out, HR1.out, HB1.out⟩
      case round =>
        obtain ⟨j, hj, rfl, hw, hr, hb⟩ := hrel
        have HW := Lib.hid hw
        have HR := Lib.hid hr
        have HB := Lib.hid hb
        by_cases hlt2 : j < 3
        · have g0 := HN1.out _ hb (4 * j) (by omega)
          have g1 := HN1.out _ hb (4 * j + 1) (by omega)
          have g2 := HN1.out _ hb (4 * j + 2) (by omega)
          have g3 := HN1.out _ hb (4 * j + 3) (by omega)
          have cc := (hw.cell (13 + j) (by rw [Cha.ln_length]; omega))
          have ff := freeAt hw (13 + j)
          clear hw hr hb
          go_wp2_with fail
          refine (chaWord_any nb (no + 4 * j) (12 - 4 * j) (nc - 4 * j) (nonce.getD (4 * j) 0) (nonce.getD (4 * j + 1) 0) (nonce.getD (4 * j + 2) 0) (nonce.getD (4 * j + 3) 0) _ (by omega) (by omega) g0 g1 g2 g3).mono ?_
          rintro e w3 ⟨rfl, nq, rfl⟩
          clear g0 g1 g2 g3
          obtain ⟨x, hx⟩ : ∃ x, x = Cha.word nonce (4 * j) := ⟨_, rfl⟩
          have hx2 : ((nonce.getD (4 * j) 0).toUInt32 ||| (nonce.getD (4 * j + 1) 0).toUInt32 <<< 8 ||| (nonce.getD (4 * j + 2) 0).toUInt32 <<< 16 ||| (nonce.getD (4 * j + 3) 0).toUInt32 <<< 24) = x := hx.symm
          rw [hx2]
          have HX := Lib.hid hx
          clear hx hx2
          go_wp2
          go_roundw
          case rel =>
            refine ⟨j + 1, by omega, by go_num, ?_, (HR.out.drewN nq).set, (below_drewN HB.out nq).setCell (by simp) _⟩
            rw [Cha.ln, ← HX.out]
            exact (HW.out.drewN nq).set (13 + j) x
          case measure => simp [intOf]; omega
        · have hj3 : j = 3 := by omega
          rw [hj3, Cha.ln_start] at hw
          clear hj3
          have HW := Lib.hid hw
          obtain ⟨s, hs⟩ : ∃ s, s = Cha.start key counter nonce := ⟨_, rfl⟩
          rw [← hs] at HW
          have HS := Lib.hid hs
          have hsl : s.length = 16 := by rw [hs]; rfl
          have HSL := Lib.hid hsl
          have hrg : (_ : World).rangeAt (w.heap.size + 1) 0 (s.map cu32v) := Words.range HW.out
          clear hw hr hb hs hsl
          have hth : ∀ W : World, (W.alloc (.cells #[.int .u32 0, .int .u32 0, .int .u32 0, .int .u32 0, .int .u32 0, .int .u32 0, .int .u32 0, .int .u32 0, .int .u32 0, .int .u32 0, .int .u32 0, .int .u32 0, .int .u32 0, .int .u32 0, .int .u32 0, .int .u32 0] 92)).there W.heap.size 0 16 := fun W => there_of (heapNew W _) rfl
          have HTH := Lib.hid hth
          have hsz : (s.map cu32v).toArray.size = 16 := by simp [HSL.out]
          have SZ := Lib.hid hsz
          clear hth hsz
          go_wp2_with (first
            | (refine wpList_load_mid rfl 92 (.tmp 7) rfl (w.heap.size + 1) 0 rfl (s.map cu32v) _ hrg Tryd.underlying92 rfl (by rw [List.length_map, HSL.out]; kernel_rfl) ?_)
            | (refine wpList_store_mid rfl 92 (.tmp 10) (.tmp 43) rfl wr.heap.size 0 (s.map cu32v).toArray rfl rfl (by rw [SZ.out]; exact HTH.out _) (by rw [SZ.out]; kernel_rfl) (all_oneCell_toArray (by intro v hv; obtain ⟨x, _, rfl⟩ := List.mem_map.1 hv; rfl)) ?_))
          generalize hW5 : World.setCells _ _ _ _ = w5
          obtain ⟨bx, hbx⟩ : ∃ bx, bx = wr.heap.size := ⟨_, rfl⟩
          have hx5 : Words w5 bx 92 s := by
            rw [← hW5, hbx]
            exact storedRow (heapNew wr _) (by simp [HSL.out])
          have hlt5 := lt_of_heap HW.out
          have ho5 : Words w5 (w.heap.size + 1) 92 s := by
            rw [← hW5]
            exact (heap_setCells_ne (by omega) _ _ _).trans ((heapOld _ _ _ hlt5).trans HW.out)
          have hr5 : Room w5 w.heap.size 64 85 := by
            obtain ⟨cur, h1, h2⟩ := HR.out
            exact ⟨cur, by rw [← hW5]; exact (heap_setCells_ne (by omega) _ _ _).trans ((heapOld _ _ _ (by omega)).trans h1), h2⟩
          have hb5 : Below w.heap.size w w5 := by
            rw [← hW5]
            exact below_setCells (by omega) _ _ _ (HB.out.alloc (by omega) _)
          have hbx1 : w.heap.size + 1 < bx := by omega
          rw [← hbx]
          have HX5 := Lib.hid hx5
          have HO5 := Lib.hid ho5
          have HR5 := Lib.hid hr5
          have HB5 := Lib.hid hb5
          have HW0 := Lib.hid hW5
          clear hx5 ho5 hr5 hb5 hW5 hrg hlt5 hbx HW0
          go_loopw [44] (fun i wr => ∃ r : Nat, r ≤ 10 ∧ i = .int .i64 r ∧ Words wr bx 92 (Cha.rounds s r) ∧ Words wr (w.heap.size + 1) 92 s ∧ Room wr w.heap.size 64 85 ∧ Below w.heap.size w wr)
            (fun i _ => 10 - (intOf i).toNat)
          case atStart => exact ⟨0, by omega, rfl, HX5.out, HO5.out, HR5.out, HB5.out⟩
          case round =>
            obtain ⟨r, hr10, rfl, hx, ho, hr, hb⟩ := hrel
            have HX := Lib.hid hx
            have HO := Lib.hid ho
            have HR := Lib.hid hr
            have HB := Lib.hid hb
            clear hx ho hr hb
            by_cases hlt3 : r < 10
            · obtain ⟨t, ht⟩ : ∃ t, t = Cha.rounds s r := ⟨_, rfl⟩
              have htl : t.length = 16 := by rw [ht, Cha.rounds_length]; exact HSL.out
              have HTe := Lib.hid ht
              have HTL := Lib.hid htl
              rw [← ht] at HX
              clear ht htl
              have hdr : decide ((r : Int) < 10) = true := by rw [decide_eq_true_eq]; omega
              go_wp2_with fail
              go_loopw [46] (fun i wr => ∃ c : Nat, c ≤ 4 ∧ i = .int .i64 c ∧ Words wr bx 92 (Cha.cols t c) ∧ Words wr (w.heap.size + 1) 92 s ∧ Room wr w.heap.size 64 85 ∧ Below w.heap.size w wr)
                (fun i _ => 4 - (intOf i).toNat)
              case atStart => exact ⟨0, by omega, rfl, HX.out, HO.out, HR.out, HB.out⟩
              case round =>
                obtain ⟨c, hc4, rfl, hx, ho, hr, hb⟩ := hrel
                have HX := Lib.hid hx
                have HO := Lib.hid ho
                have HR := Lib.hid hr
                have HB := Lib.hid hb
                clear hx ho hr hb
                by_cases hlt4 : c < 4
                · go_wp2_with fail
                  refine (quarter_at bx c (4 + c) (8 + c) (12 + c) _ _ _ _ (Cha.cols t c) _ rfl (by simp) (by simp) (by simp) (by rw [Cha.cols_length]; exact HTL.out) (by omega) (by omega) (by omega) (by omega) HX.out).mono ?_
                  rintro e w6 ⟨rfl, hx6, hk6⟩
                  have hltx := lt_of_heap HX.out
                  have HX6 := Lib.hid hx6
                  have HO6 := Lib.hid (HO.out.kept hk6 (by omega) (by omega))
                  have HR6 := Lib.hid (HR.out.keep hk6 (by omega) (by omega))
                  have HB6 := Lib.hid (HB.out.trans ((hk6.mono (B' := w.heap.size) (S' := fun _ => False) HB.out.size (fun k hk e => by omega)).below (fun _ _ h => h)))
                  clear hx6 hk6 hltx
                  go_wp2
                  go_roundw
                  case rel => exact ⟨c + 1, by omega, by go_num, HX6.out, HO6.out, HR6.out, HB6.out⟩
                  case measure => simp [intOf]; omega
                · have hc : c = 4 := by omega
                  have hx4 := HX.out
                  rw [hc] at hx4
                  have HX4 := Lib.hid hx4
                  have hdc : decide ((c : Int) < 4) = false := by simp; omega
                  have HC := Lib.hid hc
                  clear hc hx4 HX
                  obtain ⟨q, hq⟩ : ∃ q, q = Cha.cols t 4 := ⟨_, rfl⟩
                  have hql : q.length = 16 := by rw [hq, Cha.cols_length]; exact HTL.out
                  have HQe := Lib.hid hq
                  have HQL := Lib.hid hql
                  rw [← hq] at HX4
                  clear hq hql
                  go_wp2_with fail
                  go_loopw [58] (fun i wr => ∃ d : Nat, d ≤ 4 ∧ i = .int .i64 d ∧ Words wr bx 92 (Cha.diags q d) ∧ Words wr (w.heap.size + 1) 92 s ∧ Room wr w.heap.size 64 85 ∧ Below w.heap.size w wr)
                    (fun i _ => 4 - (intOf i).toNat)
                  case atStart => exact ⟨0, by omega, rfl, HX4.out, HO.out, HR.out, HB.out⟩
                  case round =>
                    obtain ⟨d, hd4, rfl, hx, ho, hr, hb⟩ := hrel
                    have HX := Lib.hid hx
                    have HO := Lib.hid ho
                    have HR := Lib.hid hr
                    have HB := Lib.hid hb
                    clear hx ho hr hb
                    by_cases hlt5 : d < 4
                    · go_wp2_with fail
                      refine (quarter_at bx d (4 + (d + 1) % 4) (8 + (d + 2) % 4) (12 + (d + 3) % 4) _ _ _ _ (Cha.diags q d) _ rfl (by omega) (by omega) (by omega) (by rw [Cha.diags_length]; exact HQL.out) (by omega) (by omega) (by omega) (by omega) HX.out).mono ?_
                      rintro e w6 ⟨rfl, hx6, hk6⟩
                      have hltx := lt_of_heap HX.out
                      have HX6 := Lib.hid hx6
                      have HO6 := Lib.hid (HO.out.kept hk6 (by omega) (by omega))
                      have HR6 := Lib.hid (HR.out.keep hk6 (by omega) (by omega))
                      have HB6 := Lib.hid (HB.out.trans ((hk6.mono (B' := w.heap.size) (S' := fun _ => False) HB.out.size (fun k hk e => by omega)).below (fun _ _ h => h)))
                      clear hx6 hk6 hltx
                      go_wp2
                      go_roundw
                      case rel => exact ⟨d + 1, by omega, by go_num, HX6.out, HO6.out, HR6.out, HB6.out⟩
                      case measure => simp [intOf]; omega
                    · have hd : d = 4 := by omega
                      have hx4 := HX.out
                      rw [hd] at hx4
                      have HX5 := Lib.hid hx4
                      have hdd : decide ((d : Int) < 4) = false := by simp; omega
                      clear hd hx4 HX
                      go_wp2_with fail
                      go_roundw
                      case rel =>
                        refine ⟨r + 1, by omega, by go_num, ?_, HO.out, HR.out, HB.out⟩
                        have h := HX5.out
                        rw [HQe.out, HTe.out] at h
                        exact h
                      case measure => simp [intOf]; omega
            · have hr10e : r = 10 := by omega
              have hx10 := HX.out
              rw [hr10e] at hx10
              have hdr : decide ((r : Int) < 10) = false := by simp; omega
              obtain ⟨X, hXe⟩ : ∃ X, X = Cha.rounds s 10 := ⟨_, rfl⟩
              have hXl : X.length = 16 := by rw [hXe, Cha.rounds_length]; exact HSL.out
              rw [← hXe] at hx10
              have HX10 := Lib.hid hx10
              have HXe := Lib.hid hXe
              have HXL := Lib.hid hXl
              clear hr10e hx10 hXe hXl HX
              go_wp2_with fail
              obtain ⟨w7, hw7⟩ : ∃ w7, w7 = wr.alloc (.cells (Array.replicate 64 (.int .u8 0)) 85) := ⟨_, rfl⟩
              obtain ⟨bo, hbo⟩ : ∃ bo, bo = wr.heap.size := ⟨_, rfl⟩
              have hob : bx < bo ∧ w.heap.size + 1 < bo := by rw [hbo]; exact ⟨lt_of_heap HX10.out, lt_of_heap HO.out⟩
              have hx7 : Words w7 bx 92 X := by rw [hw7]; exact (heapOld _ _ _ (lt_of_heap HX10.out)).trans HX10.out
              have ho7 : Words w7 (w.heap.size + 1) 92 s := by rw [hw7]; exact (heapOld _ _ _ (lt_of_heap HO.out)).trans HO.out
              have hr7 : Room w7 w.heap.size 64 85 := by
                obtain ⟨cur, h1, h2⟩ := HR.out
                exact ⟨cur, by rw [hw7]; exact (heapOld _ _ _ (lt_of_heap h1)).trans h1, h2⟩
              have hb7 : Below w.heap.size w w7 := by rw [hw7]; exact HB.out.alloc (HB.out.size) _
              have hp7 : RowP w7 bo 64 85 (fun j => u8v ((Cha.outs X s 16).getD j 0)) 0 := ⟨Array.replicate 64 (.int .u8 0), by rw [hw7, hbo]; exact heapNew _ _, by simp, fun j hj => by omega⟩
              have e7 : wr.alloc (.cells #[.int .u8 0, .int .u8 0, .int .u8 0, .int .u8 0, .int .u8 0, .int .u8 0, .int .u8 0, .int .u8 0, .int .u8 0, .int .u8 0, .int .u8 0, .int .u8 0, .int .u8 0, .int .u8 0, .int .u8 0, .int .u8 0, .int .u8 0, .int .u8 0, .int .u8 0, .int .u8 0, .int .u8 0, .int .u8 0, .int .u8 0, .int .u8 0, .int .u8 0, .int .u8 0, .int .u8 0, .int .u8 0, .int .u8 0, .int .u8 0, .int .u8 0, .int .u8 0, .int .u8 0, .int .u8 0, .int .u8 0, .int .u8 0, .int .u8 0, .int .u8 0, .int .u8 0, .int .u8 0, .int .u8 0, .int .u8 0, .int .u8 0, .int .u8 0, .int .u8 0, .int .u8 0, .int .u8 0, .int .u8 0, .int .u8 0, .int .u8 0, .int .u8 0, .int .u8 0, .int .u8 0, .int .u8 0, .int .u8 0, .int .u8 0, .int .u8 0, .int .u8 0, .int .u8 0, .int .u8 0, .int .u8 0, .int .u8 0, .int .u8 0, .int .u8 0] 85) = w7 := hw7.symm
              rw [e7, ← hbo]
              have HX7 := Lib.hid hx7
              have HO7 := Lib.hid ho7
              have HR7 := Lib.hid hr7
              have HB7 := Lib.hid hb7
              have HP7 := Lib.hid hp7
              clear hx7 ho7 hr7 hb7 hp7 hw7 e7 hbo HX10 HO HR HB
              go_loopw [77] (fun i wr => ∃ k : Nat, k ≤ 16 ∧ i = .int .i64 k ∧ RowP wr bo 64 85 (fun j => u8v ((Cha.outs X s 16).getD j 0)) (4 * k) ∧ Words wr bx 92 X ∧ Words wr (w.heap.size + 1) 92 s ∧ Room wr w.heap.size 64 85 ∧ Below w.heap.size w wr)
                (fun i _ => 16 - (intOf i).toNat)
              case atStart => exact ⟨0, by omega, rfl, HP7.out, HX7.out, HO7.out, HR7.out, HB7.out⟩
              case round =>
                obtain ⟨k, hk16, rfl, hp, hx, ho, hr, hb⟩ := hrel
                have HP := Lib.hid hp
                have HX := Lib.hid hx
                have HO := Lib.hid ho
                have HR := Lib.hid hr
                have HB := Lib.hid hb
                by_cases hlt6 : k < 16
                · obtain ⟨y, hy⟩ : ∃ y, y = Cha.at0 X k := ⟨_, rfl⟩
                  obtain ⟨z, hz⟩ : ∃ z, z = Cha.at0 s k := ⟨_, rfl⟩
                  have c1 := hx.cell k (by rw [HXL.out]; omega)
                  have c2 := ho.cell k (by rw [HSL.out]; omega)
                  rw [← hy] at c1
                  rw [← hz] at c2
                  have HY := Lib.hid hy
                  have HZ := Lib.hid hz
                  clear hp hx ho hr hb hy hz
                  go_wp2
                  go_quiet (fail)
                  rw [add_raw]
                  obtain ⟨n, hn⟩ : ∃ n, n = y + z := ⟨_, rfl⟩
                  rw [← hn]
                  have HNe := Lib.hid hn
                  clear hn c1 c2
                  have rm : Room (wr.drewN nq) bo 64 85 := by obtain ⟨cur, h1, h2, _⟩ := HP.out; exact ⟨cur, h1, h2⟩
                  obtain ⟨u0, g0⟩ := rm.cellAt (4 * k) (by omega)
                  have z0 := rm.freeAt (4 * k)
                  have g1 : ∀ v0, ∃ u, ((wr.drewN nq).setCell ⟨bo, 4 * k, none⟩ v0).cell? ⟨bo, 4 * k + 1, none⟩ = some u := fun v0 => rm.set.cellAt _ (by omega)
                  have z1 : ∀ v0, ((wr.drewN nq).setCell ⟨bo, 4 * k, none⟩ v0).frozen? ⟨bo, 4 * k + 1, none⟩ = false := fun v0 => rm.set.freeAt _
                  have g2 : ∀ v0 v1, ∃ u, (((wr.drewN nq).setCell ⟨bo, 4 * k, none⟩ v0).setCell ⟨bo, 4 * k + 1, none⟩ v1).cell? ⟨bo, 4 * k + 2, none⟩ = some u := fun v0 v1 => rm.set.set.cellAt _ (by omega)
                  have z2 : ∀ v0 v1, (((wr.drewN nq).setCell ⟨bo, 4 * k, none⟩ v0).setCell ⟨bo, 4 * k + 1, none⟩ v1).frozen? ⟨bo, 4 * k + 2, none⟩ = false := fun v0 v1 => rm.set.set.freeAt _
                  have g3 : ∀ v0 v1 v2, ∃ u, ((((wr.drewN nq).setCell ⟨bo, 4 * k, none⟩ v0).setCell ⟨bo, 4 * k + 1, none⟩ v1).setCell ⟨bo, 4 * k + 2, none⟩ v2).cell? ⟨bo, 4 * k + 3, none⟩ = some u := fun v0 v1 v2 => rm.set.set.set.cellAt _ (by omega)
                  have z3 : ∀ v0 v1 v2, ((((wr.drewN nq).setCell ⟨bo, 4 * k, none⟩ v0).setCell ⟨bo, 4 * k + 1, none⟩ v1).setCell ⟨bo, 4 * k + 2, none⟩ v2).frozen? ⟨bo, 4 * k + 3, none⟩ = false := fun v0 v1 v2 => rm.set.set.set.freeAt _
                  obtain ⟨y1, g1⟩ : ∃ y1 : Value → Value, ∀ v0, ((wr.drewN nq).setCell ⟨bo, 4 * k, none⟩ v0).cell? ⟨bo, 4 * k + 1, none⟩ = some (y1 v0) := ⟨fun v => (g1 v).choose, fun v => (g1 v).choose_spec⟩
                  obtain ⟨y2, g2⟩ : ∃ y2 : Value → Value → Value, ∀ v0 v1, (((wr.drewN nq).setCell ⟨bo, 4 * k, none⟩ v0).setCell ⟨bo, 4 * k + 1, none⟩ v1).cell? ⟨bo, 4 * k + 2, none⟩ = some (y2 v0 v1) := ⟨fun v w => (g2 v w).choose, fun v w => (g2 v w).choose_spec⟩
                  obtain ⟨y3, g3⟩ : ∃ y3 : Value → Value → Value → Value, ∀ v0 v1 v2, ((((wr.drewN nq).setCell ⟨bo, 4 * k, none⟩ v0).setCell ⟨bo, 4 * k + 1, none⟩ v1).setCell ⟨bo, 4 * k + 2, none⟩ v2).cell? ⟨bo, 4 * k + 3, none⟩ = some (y3 v0 v1 v2) := ⟨fun v w x => (g3 v w x).choose, fun v w x => (g3 v w x).choose_spec⟩
                  clear rm
                  go_wp2
                  go_roundw
                  case rel =>
                    have hB : ∀ m, m < 4 → (Cha.outs X s 16).getD (4 * k + m) 0 = (Cha.le4 n).getD m 0 := fun m hm => by
                      rw [HNe.out, HY.out, HZ.out]; exact Cha.outs_at X s 16 k m hlt6 hm
                    refine ⟨k + 1, by omega, by go_num, ?_, (((HX.out.drewN nq |>.other bo _ _ (by omega)).other bo _ _ (by omega)).other bo _ _ (by omega)).other bo _ _ (by omega), (((HO.out.drewN nq |>.other bo _ _ (by omega)).other bo _ _ (by omega)).other bo _ _ (by omega)).other bo _ _ (by omega), (HR.out.drewN nq).set.set.set.set, ((((below_drewN HB.out nq).setCell (by show w.heap.size ≤ bo; omega) _).setCell (by show w.heap.size ≤ bo; omega) _).setCell (by show w.heap.size ≤ bo; omega) _).setCell (by show w.heap.size ≤ bo; omega) _⟩
                    have p0 : RowP (wr.drewN nq) bo 64 85 (fun j => u8v ((Cha.outs X s 16).getD j 0)) (4 * k) := HP.out
                    have p1 := p0.next (by omega) (.int .u8 (n.toNat % 256)) (by rw [show (4 * k) = 4 * k + 0 from rfl, hB 0 (by omega)]; exact (le4_0 n).symm)
                    have p2 := p1.next (by omega) (.int .u8 (n.toNat / 256 % 256)) (by rw [hB 1 (by omega)]; exact (le4_1 n).symm)
                    have p3 := p2.next (by omega) (.int .u8 (n.toNat / 65536 % 256)) (by rw [show 4 * k + 1 + 1 = 4 * k + 2 from rfl, hB 2 (by omega)]; exact (le4_2 n).symm)
                    have p4 := p3.next (by omega) (.int .u8 (n.toNat / 16777216 % 256)) (by rw [show 4 * k + 1 + 1 + 1 = 4 * k + 3 from rfl, hB 3 (by omega)]; exact (le4_3 n).symm)
                    exact p4
                  case measure => simp [intOf]; omega
                · have hk : k = 16 := by omega
                  have hp16 := HP.out
                  rw [hk] at hp16
                  obtain ⟨B, hBe⟩ : ∃ B, B = Cha.outs X s 16 := ⟨_, rfl⟩
                  have hBl : B.length = 64 := by rw [hBe]; exact Cha.outs_length _ _ 16
                  have hf := hp16.full
                  have hrow : (List.range 64).map (fun j => u8v ((Cha.outs X s 16).getD j 0)) = B.map u8v := by
                    rw [← hBe]
                    apply List.ext_getElem (by simp [hBl])
                    intro j h1 h2
                    have hj : j < B.length := by simpa using h2
                    simp [hj]
                  rw [hrow] at hf
                  have HF := Lib.hid hf
                  have HBe := Lib.hid hBe
                  have HBl := Lib.hid hBl
                  have hrg := range_of hf
                  have hth : wr.there w.heap.size 0 64 := by
                    obtain ⟨cur, h1, h2⟩ := hr
                    exact there_of h1 h2
                  have HTH2 := Lib.hid hth
                  have hsz2 : (B.map u8v).toArray.size = 64 := by simp [hBl]
                  have SZ2 := Lib.hid hsz2
                  clear hp hx ho hr hb hk hp16 hf hrow hBe hBl hth hsz2
                  go_wp2_with (first
                    | (refine wpList_load_mid rfl 85 (.tmp 13) rfl bo 0 rfl (B.map u8v) _ hrg Tryd.underlying85 rfl (by rw [List.length_map, HBl.out]; kernel_rfl) ?_)
                    | (refine wpList_store_mid rfl 85 (.tmp 6) (.tmp 114) rfl w.heap.size 0 (B.map u8v).toArray rfl rfl (by rw [SZ2.out]; exact HTH2.out) (by rw [SZ2.out]; kernel_rfl) (all_oneCell_toArray (by intro v hv; obtain ⟨x, _, rfl⟩ := List.mem_map.1 hv; rfl)) ?_))
                  generalize hW9 : World.setCells _ _ _ _ = w9
                  have hb9 : Below w.heap.size w w9 := by rw [← hW9]; exact below_setCells (Nat.le_refl _) _ _ _ HB.out
                  have hf9 : w9.heap[w.heap.size]? = some (.cells (B.map u8v).toArray 85 (0, 0)) := by
                    obtain ⟨cur, h1, h2⟩ := HR.out
                    rw [← hW9]
                    exact storedRow h1 (by rw [h2]; simp [HBl.out])
                  have hl9 := run_loadVar_mid (P := Tryd.prog) w9 w.heap.size 0 85 (B.map u8v) _ (range_of hf9) Tryd.underlying85 rfl (by rw [List.length_map, HBl.out]; kernel_rfl)
                  have hbl : Cha.block key counter nonce = B := by rw [HBe.out, HXe.out, HS.out]; rfl
                  rw [hbl]
                  clear hW9 hf9 hrg hbl
                  exact bodyPost_ret (v := .agg (B.map u8v).toArray) (results_c Tryd.results48 rfl hl9) rfl ⟨rfl, hb9⟩
end Go.Proofs.YtpkfbmafbkgcmaaDoor

set_option linter.unusedVariables false
set_option linter.unusedSimpArgs false
namespace Go.Con.Cha
/-- one byte that is mixed -/
def mixAt (key : List UInt8) (c : Nat) (nonce data : List UInt8) (i : Nat) : UInt8 := data.getD i 0 ^^^ (block key (UInt32.ofNat (c + i / 64)) nonce).getD (i % 64) 0
def mix (key : List UInt8) (c : Nat) (nonce data : List UInt8) : List UInt8 := (List.range data.length).map (mixAt key c nonce data)
theorem mix_length (key : List UInt8) (c : Nat) (nonce data : List UInt8) : (mix key c nonce data).length = data.length := by simp [mix]
theorem mix_at (key : List UInt8) (c : Nat) (nonce data : List UInt8) (i : Nat) (hi : i < data.length) : (mix key c nonce data).getD i 0 = mixAt key c nonce data i := by simp [mix, hi]
end Go.Con.Cha
namespace Go.Proofs.YtpkfbmafbkgcmaaDoor
open Go.RowKit Go.Con


set_option maxHeartbeats 400000 in
theorem chaCheckI (a b : Option Addr) (kc nc : Nat) (n : Int) (w : World) (h0 : 0 ≤ n) (h1 : n ≤ 1073741824) :
    Calls Tryd.prog 47 #[.slice a 32 kc, .int .i64 n, .slice b 12 nc] w fun e w' => e = .returned (.int .i64 0) ∧ w = w' := by
  go_enter Tryd.func47, Tryd.ntmps47
  go_wp2
  go_ret
  exact ⟨rfl, rfl⟩

theorem Rd.ofRow {w : World} {g n : Nat} {t : TypeId} {f : Nat × Nat} {l : List UInt8} (h : w.heap[g]? = some (.cells (l.map u8v).toArray t f)) (hn : l.length = n) (hm : n ≤ maxLen) : Rd w (.slice (some ⟨g, 0, none⟩) n n) l := by
  subst hn
  refine ⟨_, _, rfl, Nat.le_refl _, hm, (fun h => by cases h), fun _ => ⟨_, _, rfl, fun i hi => ?_⟩⟩
  refine cellAt h _ ?_
  simp [hi]

theorem blockStored (w1 w2 : World) (B : List UInt8) (hl : B.length = 64) (h : (w1.alloc (.cells #[.int .u8 0, .int .u8 0, .int .u8 0, .int .u8 0, .int .u8 0, .int .u8 0, .int .u8 0, .int .u8 0, .int .u8 0, .int .u8 0, .int .u8 0, .int .u8 0, .int .u8 0, .int .u8 0, .int .u8 0, .int .u8 0, .int .u8 0, .int .u8 0, .int .u8 0, .int .u8 0, .int .u8 0, .int .u8 0, .int .u8 0, .int .u8 0, .int .u8 0, .int .u8 0, .int .u8 0, .int .u8 0, .int .u8 0, .int .u8 0, .int .u8 0, .int .u8 0, .int .u8 0, .int .u8 0, .int .u8 0, .int .u8 0, .int .u8 0, .int .u8 0, .int .u8 0, .int .u8 0, .int .u8 0, .int .u8 0, .int .u8 0, .int .u8 0, .int .u8 0, .int .u8 0, .int .u8 0, .int .u8 0, .int .u8 0, .int .u8 0, .int .u8 0, .int .u8 0, .int .u8 0, .int .u8 0, .int .u8 0, .int .u8 0, .int .u8 0, .int .u8 0, .int .u8 0, .int .u8 0, .int .u8 0, .int .u8 0, .int .u8 0, .int .u8 0] 85)).setCells w1.heap.size 0 (B.map u8v).toArray.toList = w2) :
    Rd w2 (.slice (some ⟨w1.heap.size, 0, none⟩) 64 64) B ∧ Below w1.heap.size w1 w2 := by
  subst h
  refine ⟨Rd.ofRow (t := 85) (f := (0, 0)) ?_ hl (by decide), below_setCells (Nat.le_refl _) _ _ _ ((Below.refl _ _).alloc (Nat.le_refl _) _)⟩
  exact storedRow (heapNew w1 _) (by simp [hl])
set_option maxRecDepth 100000 in
set_option maxHeartbeats 1000000 in
theorem Block_ok (kv nv : Value) (key nonce : List UInt8) (c : UInt32) (w : World) (hk : Rd w kv key) (hn : Rd w nv nonce) (hkl : key.length = 32) (hnl : nonce.length = 12) (hc : c.toNat ≤ 1073741824) :
    Calls Tryd.prog 49 #[kv, .int .i64 c.toNat, nv] w (FreshBE w (Cha.block key c nonce) 0) := by
  obtain ⟨kb, ko, kc, rfl, _, _⟩ := hk.shapeN 32 hkl (by decide)
  obtain ⟨nb, no, nc, rfl, _, _⟩ := hn.shapeN 12 hnl (by decide)
  obtain ⟨B, hB⟩ : ∃ B, B = Cha.block key c nonce := ⟨_, rfl⟩
  have hBl : B.length = 64 := by rw [hB]; exact Cha.block_length _ _ _
  have hblk := fun w' h1 h2 => cblock_any kb ko kc nb no nc key nonce c w' hkl hnl h1 h2
  rw [← hB] at hblk ⊢
  have HBLK := Lib.hid hblk
  have HBL := Lib.hid hBl
  have HKey := Lib.hid hk
  have HNon := Lib.hid hn
  have hsz : (B.map u8v).toArray.size = 64 := by simp [hBl]
  have SZ := Lib.hid hsz
  clear hblk hBl hB hk hn hkl hnl hsz
  go_enter Tryd.func49, Tryd.ntmps49
  go_wp2_with fail
  refine (chaCheckI _ _ _ _ _ _ (by omega) (by omega)).mono ?_
  rintro e _ ⟨rfl, rfl⟩
  go_wp2_with fail
  refine (HBLK.out _ HKey.out HNon.out).mono ?_
  rintro e w1 ⟨rfl, hb1⟩
  have HB1 := Lib.hid hb1
  have hth : ∀ (W : World), (W.alloc (.cells #[.int .u8 0, .int .u8 0, .int .u8 0, .int .u8 0, .int .u8 0, .int .u8 0, .int .u8 0, .int .u8 0, .int .u8 0, .int .u8 0, .int .u8 0, .int .u8 0, .int .u8 0, .int .u8 0, .int .u8 0, .int .u8 0, .int .u8 0, .int .u8 0, .int .u8 0, .int .u8 0, .int .u8 0, .int .u8 0, .int .u8 0, .int .u8 0, .int .u8 0, .int .u8 0, .int .u8 0, .int .u8 0, .int .u8 0, .int .u8 0, .int .u8 0, .int .u8 0, .int .u8 0, .int .u8 0, .int .u8 0, .int .u8 0, .int .u8 0, .int .u8 0, .int .u8 0, .int .u8 0, .int .u8 0, .int .u8 0, .int .u8 0, .int .u8 0, .int .u8 0, .int .u8 0, .int .u8 0, .int .u8 0, .int .u8 0, .int .u8 0, .int .u8 0, .int .u8 0, .int .u8 0, .int .u8 0, .int .u8 0, .int .u8 0, .int .u8 0, .int .u8 0, .int .u8 0, .int .u8 0, .int .u8 0, .int .u8 0, .int .u8 0, .int .u8 0] 85)).there W.heap.size 0 64 := fun W => there_of (heapNew W _) rfl
  have HTH := Lib.hid hth
  clear hb1 hth
  have hst := fun (W W2 : World) (hW : (W.alloc (.cells #[.int .u8 0, .int .u8 0, .int .u8 0, .int .u8 0, .int .u8 0, .int .u8 0, .int .u8 0, .int .u8 0, .int .u8 0, .int .u8 0, .int .u8 0, .int .u8 0, .int .u8 0, .int .u8 0, .int .u8 0, .int .u8 0, .int .u8 0, .int .u8 0, .int .u8 0, .int .u8 0, .int .u8 0, .int .u8 0, .int .u8 0, .int .u8 0, .int .u8 0, .int .u8 0, .int .u8 0, .int .u8 0, .int .u8 0, .int .u8 0, .int .u8 0, .int .u8 0, .int .u8 0, .int .u8 0, .int .u8 0, .int .u8 0, .int .u8 0, .int .u8 0, .int .u8 0, .int .u8 0, .int .u8 0, .int .u8 0, .int .u8 0, .int .u8 0, .int .u8 0, .int .u8 0, .int .u8 0, .int .u8 0, .int .u8 0, .int .u8 0, .int .u8 0, .int .u8 0, .int .u8 0, .int .u8 0, .int .u8 0, .int .u8 0, .int .u8 0, .int .u8 0, .int .u8 0, .int .u8 0, .int .u8 0, .int .u8 0, .int .u8 0, .int .u8 0] 85)).setCells W.heap.size 0 (B.map u8v).toArray.toList = W2) => blockStored W W2 B HBL.out hW
  have HST := Lib.hid hst
  clear hst
  go_wp2_with (first
    | (refine wpList_store_mid rfl 85 (.tmp 9) (.tmp 21) rfl w1.heap.size 0 (B.map u8v).toArray rfl rfl (by rw [SZ.out]; exact HTH.out _) (by rw [SZ.out]; kernel_rfl) (all_oneCell_toArray (by intro v hv; obtain ⟨x, _, rfl⟩ := List.mem_map.1 hv; rfl)) ?_; generalize hW2 : World.setCells _ _ _ _ = w2; have P2 := Lib.hid (HST.out w1 w2 hW2); clear hW2)
    | (at_builtin; refine apB rfl (.const (.slice none 0 0)) (.tmp 22) rfl w.heap.size (.slice none 0 0) _ [] B rfl (Own.nil _ _) rfl P2.out.1 (by have := HBL.out; simp; omega) (Nat.le_trans HB1.out.size P2.out.2.size) ?_; intro v3 w3 hown3 hg3; have HO3 := Lib.hid hown3; have HG3 := Lib.hid hg3; clear hown3 hg3))
  have B2 := Lib.hid (HB1.out.trans (P2.out.2.mono HB1.out.size))
  go_ret2
  exact ⟨_, rfl, HO3.out, B2.out.grown HG3.out B2.out.size (fun k hk => by cases hk)⟩

theorem RowP.below {w w' : World} {b n m B : Nat} {t : TypeId} {f : Nat → Value} (h : RowP w b n t f m) (hb : Below B w w') (hB : b < B) : RowP w' b n t f m := by
  obtain ⟨cur, h1, h2, h3⟩ := h
  exact ⟨cur, by rw [hb.block b hB]; exact h1, h2, h3⟩
theorem RowP.ofOwn {w : World} {base g n : Nat} {l : List UInt8} (h : Own w base (.slice (some ⟨g, 0, none⟩) n n) l) (hl : l.length = n) (f : Nat → Value) : RowP w g n 5 f 0 ∧ base ≤ g := by
  obtain ⟨h1, h2⟩ := h
  rcases h2 with ⟨h3, _⟩ | ⟨g', cap, cur, h3, hb, hg, hnc, hcm, hcs, htake⟩
  · cases h3
  · injection h3 with e1 e2 e3
    injection e1 with e1
    injection e1 with e4 e5 e6
    subst e4
    exact ⟨⟨cur, hg, by omega, fun j hj => by omega⟩, hb⟩
theorem RowP.toOwn {w : World} {base g n : Nat} {f : Nat → UInt8} (h : RowP w g n 5 (fun j => u8v (f j)) n) (hb : base ≤ g) (hm : n ≤ maxLen) : Own w base (.slice (some ⟨g, 0, none⟩) n n) ((List.range n).map f) := by
  have h1 := h.full
  refine ⟨by simp, .inr ⟨g, n, _, by simp, hb, h1, by simp, hm, by simp, ?_⟩⟩
  rw [List.take_of_length_le (by simp)]
  simp
set_option maxRecDepth 100000 in
set_option maxHeartbeats 4000000 in
theorem Mix_ok (kv nv dv : Value) (key nonce data : List UInt8) (c : UInt32) (w : World) (hk : Rd w kv key) (hn : Rd w nv nonce) (hd : Rd w dv data) (hkl : key.length = 32) (hnl : nonce.length = 12) (hc : c.toNat ≤ 1073741824) (hdl : data.length ≤ 2000) :
    Calls Tryd.prog 39 #[kv, .int .i64 c.toNat, nv, dv] w (FreshBE w (Cha.mix key c.toNat nonce data) 0) := by
  obtain ⟨kb, ko, kc, rfl, _, _⟩ := hk.shapeN 32 hkl (by decide)
  obtain ⟨nb, no, nc, rfl, _, _⟩ := hn.shapeN 12 hnl (by decide)
  obtain ⟨L, hL⟩ : ∃ L, data.length = L := ⟨_, rfl⟩
  obtain ⟨da, dc, rfl, hdc, hdm⟩ := hd.sliceN L hL
  have hLl : L ≤ 2000 := by omega
  have HKey := Lib.hid hk
  have HNon := Lib.hid hn
  have HDat := Lib.hid hd
  have HL := Lib.hid hL
  have HKL := Lib.hid hkl
  have HNL := Lib.hid hnl
  clear hk hn hd hL hkl hnl hdl
  go_enter Tryd.func39, Tryd.ntmps39
  go_wp2_with fail
  refine (chaCheckI _ _ _ _ _ _ (by omega) (by omega)).mono ?_
  rintro e _ ⟨rfl, rfl⟩
  go_wp2_with (refine makeB _ rfl _ _ rfl L _ _ rfl rfl rfl rfl (by omega) ?_; intro w2 hom hbm; have HOM := Lib.hid hom; have HBM := Lib.hid hbm; clear hom hbm)
  obtain ⟨g, hg⟩ : ∃ g, g = w.heap.size := ⟨_, rfl⟩
  rw [← hg]
  have hp2 := (RowP.ofOwn HOM.out (by simp) (fun j => u8v (Cha.mixAt key c.toNat nonce data j))).1
  rw [← hg] at hp2
  have hbg : Below g w w2 := by rw [hg]; exact HBM.out
  have HP2 := Lib.hid hp2
  have HG := Lib.hid hg
  have HB2 := Lib.hid hbg
  have hgw : w.heap.size = g := hg.symm
  have HGW := Lib.hid hgw
  clear hp2 hg hbg HOM HBM hgw
  go_loopw [12] (fun i wr => ∃ q : Nat, 64 * q < L + 64 ∧ i = .int .i64 (64 * q : Nat) ∧ RowP wr g L 5 (fun j => u8v (Cha.mixAt key c.toNat nonce data j)) (min (64 * q) L) ∧ Below g w wr)
    (fun i _ => L + 64 - (intOf i).toNat)
  case atStart => exact ⟨0, by omega, by go_num, by simpa using HP2.out, HB2.out⟩
  case round =>
    obtain ⟨q, hq, rfl, hp, hb⟩ := hrel
    have HP := Lib.hid hp
    have HB := Lib.hid hb
    by_cases hlt : 64 * q < L
    · obtain ⟨db, do_, rfl⟩ : ∃ db do_, da = some ⟨db, do_, none⟩ := by
        obtain ⟨b, off, c, e, _⟩ := HDat.out.shapeN L HL.out (by omega)
        injection e with e1 _ _
        exact ⟨b, off, e1⟩
      have hdcell : ∀ (W : World), Below g w W → ∀ i, i < L → W.cell? ⟨db, do_ + i, none⟩ = some (.int .u8 (data.getD i 0).toNat) := by
        intro W hW i hi
        have hW' : Below w.heap.size w W := by rw [HGW.out]; exact hW
        obtain ⟨a', c', e, _, _, _, h⟩ := HDat.out.stay hW'
        obtain ⟨b', off, e4, h2⟩ := h (by intro h; have := HL.out; rw [h] at this; simp at this; omega)
        injection e with e1 e2 e3
        subst e1
        injection e4 with e4
        injection e4 with e5 e6
        subst e5 e6
        exact h2 i (by rw [HL.out]; exact hi)
      obtain ⟨cq, hcq⟩ : ∃ cq : UInt32, cq.toNat = c.toNat + q := ⟨UInt32.ofNat (c.toNat + q), by rw [UInt32.toNat_ofNat']; omega⟩
      obtain ⟨B, hB⟩ : ∃ B, B = Cha.block key cq nonce := ⟨_, rfl⟩
      have hBl : B.length = 64 := by rw [hB]; exact Cha.block_length _ _ _
      have hBe : B = Cha.block key (UInt32.ofNat (c.toNat + q)) nonce := by
        rw [hB]; congr 1
        apply UInt32.toNat_inj.1; rw [hcq, UInt32.toNat_ofNat']; omega
      have hblk := fun w' h1 h2 => cblock_any kb ko kc nb no nc key nonce cq w' HKL.out HNL.out h1 h2
      rw [← hB, hcq] at hblk
      have HBLK := Lib.hid hblk
      have HBL := Lib.hid hBl
      have HBe := Lib.hid hBe
      have hsz : (B.map u8v).toArray.size = 64 := by simp [hBl]
      have SZ := Lib.hid hsz
      have HDC0 := Lib.hid hdcell
      have hb' : Below w.heap.size w wr := by rw [HGW.out]; exact hb
      have HKey' := Lib.hid (HKey.out.stay hb')
      have HNon' := Lib.hid (HNon.out.stay hb')
      clear hblk hBl hB hBe hsz hdcell hb' hcq
      go_wp2_with fail
      refine (HBLK.out _ HKey'.out HNon'.out).mono ?_
      rintro e w1 ⟨rfl, hb1⟩
      have HB1 := Lib.hid hb1
      have hgl : g < wr.heap.size := by obtain ⟨cur, h1, _⟩ := hp; exact lt_of_heap h1
      have hth : ∀ (W : World), (W.alloc (.cells #[.int .u8 0, .int .u8 0, .int .u8 0, .int .u8 0, .int .u8 0, .int .u8 0, .int .u8 0, .int .u8 0, .int .u8 0, .int .u8 0, .int .u8 0, .int .u8 0, .int .u8 0, .int .u8 0, .int .u8 0, .int .u8 0, .int .u8 0, .int .u8 0, .int .u8 0, .int .u8 0, .int .u8 0, .int .u8 0, .int .u8 0, .int .u8 0, .int .u8 0, .int .u8 0, .int .u8 0, .int .u8 0, .int .u8 0, .int .u8 0, .int .u8 0, .int .u8 0, .int .u8 0, .int .u8 0, .int .u8 0, .int .u8 0, .int .u8 0, .int .u8 0, .int .u8 0, .int .u8 0, .int .u8 0, .int .u8 0, .int .u8 0, .int .u8 0, .int .u8 0, .int .u8 0, .int .u8 0, .int .u8 0, .int .u8 0, .int .u8 0, .int .u8 0, .int .u8 0, .int .u8 0, .int .u8 0, .int .u8 0, .int .u8 0, .int .u8 0, .int .u8 0, .int .u8 0, .int .u8 0, .int .u8 0, .int .u8 0, .int .u8 0, .int .u8 0] 85)).there W.heap.size 0 64 := fun W => there_of (heapNew W _) rfl
      have HTH := Lib.hid hth
      clear hb1 hth
      go_wp2_with (refine wpList_store_mid rfl 85 (.tmp 13) (.tmp 41) rfl w1.heap.size 0 (B.map u8v).toArray rfl rfl (by rw [SZ.out]; exact HTH.out _) (by rw [SZ.out]; kernel_rfl) (all_oneCell_toArray (by intro v hv; obtain ⟨x, _, rfl⟩ := List.mem_map.1 hv; rfl)) ?_)
      generalize hW2 : World.setCells _ _ _ _ = w3
      obtain ⟨bb, hbb⟩ : ∃ bb, bb = w1.heap.size := ⟨_, rfl⟩
      have hf3 : w3.heap[bb]? = some (.cells (B.map u8v).toArray 85 (0, 0)) := by
        rw [← hW2, hbb]; exact storedRow (heapNew w1 _) (by simp [HBL.out])
      have hb3 : Below w1.heap.size w1 w3 := by rw [← hW2]; exact below_setCells (Nat.le_refl _) _ _ _ ((Below.refl _ _).alloc (Nat.le_refl _) _)
      have hgbb : g < bb := by rw [hbb]; have := HB1.out.size; omega
      rw [← hbb]
      have T3 : Below wr.heap.size wr w3 := HB1.out.trans (hb3.mono HB1.out.size)
      have HP3 := Lib.hid (HP.out.below T3 hgl)
      have HB3 := Lib.hid (HB.out.trans (T3.mono (by omega)))
      have HBB := Lib.hid hf3
      have HDC := HDC0
      rw [show min (64 * q) L = 64 * q by omega] at HP3
      clear hf3 hb3 hW2 hbb T3 hgl HDC0 HB HP
      by_cases hmin : (L : Int) < ((64 * q : Nat) : Int) + 64
      · have hmin' : L < 64 * q + 64 := by omega
        have hE : L ≤ L := by omega
        have hE2 : L ≤ 64 * q + 64 := by omega
        have hE3 : 64 * q ≤ L := by omega
        clear hp hb
        go_loopw [14] (fun i wr => ∃ k : Nat, 64 * q ≤ k ∧ k ≤ L ∧ i = .int .i64 k ∧ RowP wr g L 5 (fun j => u8v (Cha.mixAt key c.toNat nonce data j)) k ∧ Below g w wr ∧ wr.heap[bb]? = some (.cells (B.map u8v).toArray 85 (0, 0)))
          (fun i _ => L - (intOf i).toNat)
        case atStart => exact ⟨64 * q, by omega, by omega, by go_num, HP3.out, HB3.out, HBB.out⟩
        case round =>
          obtain ⟨k, hk1, hk2, rfl, hp, hb, hbb⟩ := hrel
          have HP := Lib.hid hp
          have HB := Lib.hid hb
          have HBk := Lib.hid hbb
          by_cases hlk : k < L
          · obtain ⟨x, hx⟩ : ∃ x, x = data.getD k 0 := ⟨_, rfl⟩
            obtain ⟨y, hy⟩ : ∃ y, y = B.getD (k - 64 * q) 0 := ⟨_, rfl⟩
            have cx : wr.cell? ⟨db, do_ + k, none⟩ = some (.int .u8 x.toNat) := by rw [hx]; exact HDC.out wr hb k (by omega)
            have cy : wr.cell? ⟨bb, k - 64 * q, none⟩ = some (.int .u8 y.toNat) := by
              rw [hy]
              refine cellAt hbb (k - 64 * q) ?_
              have : k - 64 * q < B.length := by rw [HBL.out]; omega
              simp [this, u8v]
            obtain ⟨u, cu⟩ := hp.cell k (by omega)
            have fu := hp.free k
            have hmx : Cha.mixAt key c.toNat nonce data k = x ^^^ y := by
              rw [Cha.mixAt, ← hx, show k / 64 = q by omega, ← HBe.out, hy, show k % 64 = k - 64 * q by omega]
            have HMX := Lib.hid hmx
            clear hx hy hp hb hbb hmx
            go_wp2
            refine region_quiet_tail 13 (by kernel_rfl) (by kernel_rfl) ?_
            simp only [List.take_succ_cons, List.take_zero, List.drop_succ_cons, List.drop_zero]
            repeat (go_big_quiet_step (fail))
            refine wpQuiet_nil ?_
            intro w9 hw9
            obtain ⟨nq, rfl⟩ := hw9
            go_wp2
            go_roundw
            case rel =>
              rw [u8_xorF]
              refine ⟨k + 1, by omega, by omega, by go_num, ?_, (below_drewN HB.out nq).setCell (Nat.le_refl _) _, ?_⟩
              · have h : RowP (wr.drewN nq) g L 5 (fun j => u8v (Cha.mixAt key c.toNat nonce data j)) k := HP.out
                exact h.next (by omega) _ (by rw [HMX.out]; rfl)
              · rw [heapSet_ne _ _ (by omega)]; exact HBk.out
            case measure => simp [intOf]; omega
          · have hkE : k = L := by omega
            rw [hkE] at hp
            have HPE := Lib.hid hp
            clear hp hb hbb hkE
            go_wp2_with fail
            go_roundw
            case rel =>
              refine ⟨q + 1, by omega, by go_num, ?_, HB.out⟩
              have h := HPE.out
              rw [show min (64 * (q + 1)) L = L by omega]
              exact h
            case measure => simp [intOf]; omega
      · have hmin' : 64 * q + 64 ≤ L := by omega
        have hE : (64 * q + 64) ≤ L := by omega
        have hE2 : (64 * q + 64) ≤ 64 * q + 64 := by omega
        have hE3 : 64 * q ≤ (64 * q + 64) := by omega
        clear hp hb
        go_loopw [14] (fun i wr => ∃ k : Nat, 64 * q ≤ k ∧ k ≤ (64 * q + 64) ∧ i = .int .i64 k ∧ RowP wr g L 5 (fun j => u8v (Cha.mixAt key c.toNat nonce data j)) k ∧ Below g w wr ∧ wr.heap[bb]? = some (.cells (B.map u8v).toArray 85 (0, 0)))
          (fun i _ => (64 * q + 64) - (intOf i).toNat)
        case atStart => exact ⟨64 * q, by omega, by omega, by go_num, HP3.out, HB3.out, HBB.out⟩
        case round =>
          obtain ⟨k, hk1, hk2, rfl, hp, hb, hbb⟩ := hrel
          have HP := Lib.hid hp
          have HB := Lib.hid hb
          have HBk := Lib.hid hbb
          by_cases hlk : k < (64 * q + 64)
          · obtain ⟨x, hx⟩ : ∃ x, x = data.getD k 0 := ⟨_, rfl⟩
            obtain ⟨y, hy⟩ : ∃ y, y = B.getD (k - 64 * q) 0 := ⟨_, rfl⟩
            have cx : wr.cell? ⟨db, do_ + k, none⟩ = some (.int .u8 x.toNat) := by rw [hx]; exact HDC.out wr hb k (by omega)
            have cy : wr.cell? ⟨bb, k - 64 * q, none⟩ = some (.int .u8 y.toNat) := by
              rw [hy]
              refine cellAt hbb (k - 64 * q) ?_
              have : k - 64 * q < B.length := by rw [HBL.out]; omega
              simp [this, u8v]
            obtain ⟨u, cu⟩ := hp.cell k (by omega)
            have fu := hp.free k
            have hmx : Cha.mixAt key c.toNat nonce data k = x ^^^ y := by
              rw [Cha.mixAt, ← hx, show k / 64 = q by omega, ← HBe.out, hy, show k % 64 = k - 64 * q by omega]
            have HMX := Lib.hid hmx
            clear hx hy hp hb hbb hmx
            go_wp2
            refine region_quiet_tail 13 (by kernel_rfl) (by kernel_rfl) ?_
            simp only [List.take_succ_cons, List.take_zero, List.drop_succ_cons, List.drop_zero]
            repeat (go_big_quiet_step (fail))
            refine wpQuiet_nil ?_
            intro w9 hw9
            obtain ⟨nq, rfl⟩ := hw9
            go_wp2
            go_roundw
            case rel =>
              rw [u8_xorF]
              refine ⟨k + 1, by omega, by omega, by go_num, ?_, (below_drewN HB.out nq).setCell (Nat.le_refl _) _, ?_⟩
              · have h : RowP (wr.drewN nq) g L 5 (fun j => u8v (Cha.mixAt key c.toNat nonce data j)) k := HP.out
                exact h.next (by omega) _ (by rw [HMX.out]; rfl)
              · rw [heapSet_ne _ _ (by omega)]; exact HBk.out
            case measure => simp [intOf]; omega
          · have hkE : k = (64 * q + 64) := by omega
            rw [hkE] at hp
            have HPE := Lib.hid hp
            clear hp hb hbb hkE
            go_wp2_with fail
            go_roundw
            case rel =>
              refine ⟨q + 1, by omega, by go_num, ?_, HB.out⟩
              have h := HPE.out
              rw [show min (64 * (q + 1)) L = (64 * q + 64) by omega]
              exact h
            case measure => simp [intOf]; omega
    · have hqL : min (64 * q) L = L := by omega
      rw [hqL] at hp
      have HPL := Lib.hid hp
      clear hp hb hqL
      go_wp2
      go_ret2
      refine ⟨_, rfl, ?_, ?_⟩
      · have h := HPL.out.toOwn (base := w.heap.size) (by rw [HGW.out]; exact Nat.le_refl _) (by unfold maxLen; omega)
        unfold Cha.mix
        rw [HL.out]
        exact h
      · rw [HGW.out]; exact HB.out
end Go.Proofs.YtpkfbmafbkgcmaaDoor
