/-
  The walk of poly.number; rows of uint64.
-/
import Derived.Test.YtoekopdogfnkhaaPolN
import Derived.Test.YtoekopdogfnkhaaChaB
import Derived.Test.YtoekopdogfnkhaaRes
set_option linter.unusedVariables false
set_option linter.unusedSimpArgs false
namespace Go.Con
open Go Go.RowKit
theorem or_u64 (x y : Nat) (hx : x < 18446744073709551616) (hy : y < 18446744073709551616) : bits .or .u64 (x : Int) (y : Int) = ((x ||| y : Nat) : Int) := by
  show IntKind.u64.wrap ((BitVec.ofInt 64 (x : Int) ||| BitVec.ofInt 64 (y : Int)).toNat : Int) = _
  have hxy : (x ||| y) < 2 ^ 64 := Nat.or_lt_two_pow hx hy
  rw [BitVec.ofInt_natCast, BitVec.ofInt_natCast, BitVec.toNat_or, BitVec.toNat_ofNat, BitVec.toNat_ofNat, Nat.mod_eq_of_lt (by omega), Nat.mod_eq_of_lt (by omega)]
  exact IntWalk.u64_in _ (by omega)
theorem and_u64 (x y : Nat) (hx : x < 18446744073709551616) (hy : y < 18446744073709551616) : bits .and .u64 (x : Int) (y : Int) = ((x &&& y : Nat) : Int) := by
  show IntKind.u64.wrap ((BitVec.ofInt 64 (x : Int) &&& BitVec.ofInt 64 (y : Int)).toNat : Int) = _
  have hxy : (x &&& y) < 2 ^ 64 := Nat.lt_of_le_of_lt Nat.and_le_left (by omega)
  rw [BitVec.ofInt_natCast, BitVec.ofInt_natCast, BitVec.toNat_and, BitVec.toNat_ofNat, BitVec.toNat_ofNat, Nat.mod_eq_of_lt (by omega), Nat.mod_eq_of_lt (by omega)]
  exact IntWalk.u64_in _ (by omega)
/-- the low 26 bits -/
theorem low26 (x : Nat) (h : x < 18446744073709551616) : bits .and .u64 (x : Int) 67108863 = ((x % 67108864 : Nat) : Int) := by
  have h1 := and_u64 x 67108863 h (by decide)
  rw [show ((67108863 : Nat) : Int) = 67108863 from rfl] at h1
  rw [h1, show (67108863 : Nat) = 2 ^ 26 - 1 from rfl, Nat.and_two_pow_sub_one_eq_mod]
theorem or_add (a b i : Nat) (h : b < 2 ^ i) : (a * 2 ^ i ||| b) = a * 2 ^ i + b := by
  have := Nat.shiftLeft_add_eq_or_of_lt h a
  rw [Nat.shiftLeft_eq] at this
  exact this.symm
theorem push8 (a b : Nat) (ha : a < 72057594037927936) (hb : b < 256) : bits .or .u64 ((a : Int) * 256) (b : Int) = ((b + 256 * a : Nat) : Int) := by
  rw [show ((a : Int) * 256) = ((a * 256 : Nat) : Int) by omega, or_u64 _ _ (by omega) (by omega)]
  have := or_add a b 8 hb
  rw [show (2 : Nat) ^ 8 = 256 from rfl] at this
  rw [this]; omega
def u64v (n : Nat) : Value := .int .u64 n
/-- The block's words of 64 bits. -/
def Big (w : World) (b : Nat) (t : TypeId) (s : List Nat) : Prop := w.heap[b]? = some (.cells (s.map u64v).toArray t (0, 0))
theorem Big.cell {w : World} {b : Nat} {t : TypeId} {s : List Nat} (h : Big w b t s) (k : Nat) (hk : k < s.length) : w.cell? ⟨b, k, none⟩ = some (.int .u64 (s.getD k 0)) :=
  cellAt h k (by simp [hk, u64v])
theorem Big.set {w : World} {b : Nat} {t : TypeId} {s : List Nat} (h : Big w b t s) (k x : Nat) : Big (w.setCell ⟨b, k, none⟩ (.int .u64 x)) b t (s.set k x) := by
  have h1 := heapSet (o := k) h (.int .u64 x)
  rw [Big, h1]
  simp [u64v, List.map_set]
theorem Big.drewN {w : World} {b : Nat} {t : TypeId} {s : List Nat} (h : Big w b t s) (n : Nat) : Big (w.drewN n) b t s := h
theorem Big.kept {w w' : World} {b B : Nat} {t : TypeId} {s : List Nat} {S : Nat → Prop} (h : Big w b t s) (hk : Kept B S w w') (hb : b < B) (hs : ¬ S b) : Big w' b t s := (hk.block b hb hs).trans h
theorem Big.stay {w w' : World} {b : Nat} {t : TypeId} {s : List Nat} (h : Big w b t s) (hk : Below w.heap.size w w') : Big w' b t s := (hk.block b (lt_of_heap h)).trans h
theorem Big.other {w : World} {b : Nat} {t : TypeId} {s : List Nat} (h : Big w b t s) (b' k : Nat) (v : Value) (hb : b ≠ b') : Big (w.setCell ⟨b', k, none⟩ v) b t s := (heapSet_ne k v hb).trans h
/-- eight bytes, the last one first -/
def revN (f : Nat → UInt8) : Nat → Nat
  | 0 => 0
  | k + 1 => (f (7 - k)).toNat + 256 * revN f k
theorem revN_lt (f : Nat → UInt8) : ∀ k, revN f k < 256 ^ k
  | 0 => by simp [revN]
  | k + 1 => by
    have h := revN_lt f k
    have hb := (f (7 - k)).toNat_lt
    rw [revN, Nat.pow_succ]
    omega
theorem revN_56 (f : Nat → UInt8) (k : Nat) (h : k < 8) : revN f k < 72057594037927936 :=
  Nat.lt_of_lt_of_le (revN_lt f k) (by
    have : (256 : Nat) ^ k ≤ 256 ^ 7 := Nat.pow_le_pow_right (by decide) (by omega)
    simpa using this)
/-- the five limbs of a number -/
def limbs5 (x : Pol.L5) : List Nat := [x.a0, x.a1, x.a2, x.a3, x.a4]
theorem rev_le (l : List UInt8) (h : 16 ≤ l.length) (top : Nat) : revN (fun i => l.getD i 0) 8 + revN (fun i => l.getD (8 + i) 0) 8 * 18446744073709551616 + top * 340282366920938463463374607431768211456 = Pol.leN (l.take 16) + top * 340282366920938463463374607431768211456 := by
  match l, h with
  | b0 :: b1 :: b2 :: b3 :: b4 :: b5 :: b6 :: b7 :: c0 :: c1 :: c2 :: c3 :: c4 :: c5 :: c6 :: c7 :: r, _ =>
    show (b0.toNat + 256 * (b1.toNat + 256 * (b2.toNat + 256 * (b3.toNat + 256 * (b4.toNat + 256 * (b5.toNat + 256 * (b6.toNat + 256 * (b7.toNat + 256 * 0)))))))) + (c0.toNat + 256 * (c1.toNat + 256 * (c2.toNat + 256 * (c3.toNat + 256 * (c4.toNat + 256 * (c5.toNat + 256 * (c6.toNat + 256 * (c7.toNat + 256 * 0)))))))) * 18446744073709551616 + _ = (b0.toNat + 256 * (b1.toNat + 256 * (b2.toNat + 256 * (b3.toNat + 256 * (b4.toNat + 256 * (b5.toNat + 256 * (b6.toNat + 256 * (b7.toNat + 256 * (c0.toNat + 256 * (c1.toNat + 256 * (c2.toNat + 256 * (c3.toNat + 256 * (c4.toNat + 256 * (c5.toNat + 256 * (c6.toNat + 256 * (c7.toNat + 256 * 0)))))))))))))))) + _
    omega
theorem limbs_raw (p q top : Nat) (hp : p < 18446744073709551616) (hq : q < 18446744073709551616) (ht : top ≤ 1) :
    bits .and .u64 (p : Int) 67108863 = ((Pol.ofN (p + q * 18446744073709551616 + top * 340282366920938463463374607431768211456)).a0 : Int) ∧
    bits .and .u64 ((p : Int) / 67108864) 67108863 = ((Pol.ofN (p + q * 18446744073709551616 + top * 340282366920938463463374607431768211456)).a1 : Int) ∧
    bits .and .u64 (bits .or .u64 ((p : Int) / 4503599627370496) (IntKind.u64.wrap ((q : Int) * 4096))) 67108863 = ((Pol.ofN (p + q * 18446744073709551616 + top * 340282366920938463463374607431768211456)).a2 : Int) ∧
    bits .and .u64 ((q : Int) / 16384) 67108863 = ((Pol.ofN (p + q * 18446744073709551616 + top * 340282366920938463463374607431768211456)).a3 : Int) ∧
    bits .or .u64 ((q : Int) / 1099511627776) ((top : Int) * 16777216) = ((Pol.ofN (p + q * 18446744073709551616 + top * 340282366920938463463374607431768211456)).a4 : Int) := by
  simp only [Pol.ofN]
  refine ⟨?_, ?_, ?_, ?_, ?_⟩
  · rw [low26 p hp]; congr 1; omega
  · rw [show (p : Int) / 67108864 = ((p / 67108864 : Nat) : Int) by omega, low26 _ (by omega)]; congr 1; omega
  · have hw : IntKind.u64.wrap ((q : Int) * 4096) = ((q % 4503599627370496 * 4096 : Nat) : Int) := by
      simp only [IntKind.wrap, IntKind.bits, IntKind.signed]; simp; omega
    rw [hw, show (p : Int) / 4503599627370496 = ((p / 4503599627370496 : Nat) : Int) by omega, or_u64 _ _ (by omega) (by omega), Nat.or_comm]
    have := or_add (q % 4503599627370496) (p / 4503599627370496) 12 (by omega)
    rw [show (2 : Nat) ^ 12 = 4096 from rfl] at this
    rw [this, low26 _ (by omega)]; congr 1; omega
  · rw [show (q : Int) / 16384 = ((q / 16384 : Nat) : Int) by omega, low26 _ (by omega)]; congr 1; omega
  · rw [show (q : Int) / 1099511627776 = ((q / 1099511627776 : Nat) : Int) by omega, show (top : Int) * 16777216 = ((top * 16777216 : Nat) : Int) by omega, or_u64 _ _ (by omega) (by omega), Nat.or_comm]
    have := or_add top (q / 1099511627776) 24 (by omega)
    rw [show (2 : Nat) ^ 24 = 16777216 from rfl] at this
    rw [this]; congr 1; omega
end Go.Con
namespace Go.Proofs.Ytoekopdogfnkhaa
open Go.RowKit Go.Con
set_option maxRecDepth 100000 in
set_option maxHeartbeats 1000000 in
theorem number_any (bb bo n c : Nat) (l : List UInt8) (top : Nat) (w : World) (ht : top ≤ 1) (hl : 16 ≤ l.length) (hn : l.length = n) (hR : Rd w (.slice (some ⟨bb, bo, none⟩) n c) l) :
    Calls Try.prog 37 #[.slice (some ⟨bb, bo, none⟩) n c, .int .u64 top] w fun e w' => e = .returned (.agg ((limbs5 (Pol.ofN (Pol.leN (l.take 16) + top * 340282366920938463463374607431768211456))).map u64v).toArray) ∧ Below w.heap.size w w' := by
  have hrev := rev_le l hl top
  have hcell : ∀ W, Below w.heap.size w W → ∀ i, i < n → W.cell? ⟨bb, bo + i, none⟩ = some (.int .u8 (l.getD i 0).toNat) := by
    intro W hW i hi
    obtain ⟨a', c', e, _, _, _, h⟩ := hR.stay hW
    obtain ⟨b', off, e4, h2⟩ := h (by intro h; rw [h] at hl; exact absurd hl (by decide))
    injection e with e1 e2 e3
    subst e1
    injection e4 with e4
    injection e4 with e5 e6
    subst e5 e6
    exact h2 i (by rw [hn]; exact hi)
  have h16 : 16 ≤ n := by omega
  have HC := Lib.hid hcell
  have HREV := Lib.hid hrev
  clear hcell hrev hl hn hR
  go_enter Try.func37, Try.ntmps37
  go_wp2_with fail
  go_loopw [5, 6, 7] (fun lo hi i wr => ∃ k : Nat, k ≤ 8 ∧ i = .int .i64 (7 - (k : Int)) ∧ lo = .int .u64 (revN (fun i => l.getD i 0) k) ∧ hi = .int .u64 (revN (fun i => l.getD (8 + i) 0) k) ∧ wr = w.alloc (.cells #[.int .u64 0, .int .u64 0, .int .u64 0, .int .u64 0, .int .u64 0] 69))
    (fun _ _ i _ => (intOf i + 1).toNat)
  case atStart => exact ⟨0, by omega, rfl, rfl, rfl, rfl⟩
  case round =>
    obtain ⟨k, hk, rfl, rfl, rfl, rfl⟩ := hrel
    have hbl : Below w.heap.size w (w.alloc (.cells #[.int .u64 0, .int .u64 0, .int .u64 0, .int .u64 0, .int .u64 0] 69)) := (Below.refl _ _).alloc (Nat.le_refl _) _
    by_cases hlt : k < 8
    · obtain ⟨j, hj⟩ : ∃ j : Nat, (7 : Int) - k = j := ⟨7 - k, by omega⟩
      have hjk : j = 7 - k := by omega
      have hj7 : j ≤ 7 := by omega
      obtain ⟨x, hx⟩ : ∃ x, x = l.getD j 0 := ⟨_, rfl⟩
      obtain ⟨y, hy⟩ : ∃ y, y = l.getD (8 + j) 0 := ⟨_, rfl⟩
      have c1 := HC.out _ hbl j (by omega)
      have c2 := HC.out _ hbl (8 + j) (by omega)
      rw [← hx] at c1
      rw [← hy] at c2
      have b1 := revN_56 (fun i => l.getD i 0) k hlt
      have b2 := revN_56 (fun i => l.getD (8 + i) 0) k hlt
      have e1 : revN (fun i => l.getD i 0) (k + 1) = x.toNat + 256 * revN (fun i => l.getD i 0) k := by rw [revN, ← hjk, hx]
      have e2 : revN (fun i => l.getD (8 + i) 0) (k + 1) = y.toNat + 256 * revN (fun i => l.getD (8 + i) 0) k := by rw [revN, ← hjk, hy]
      obtain ⟨p, hp⟩ : ∃ p, p = revN (fun i => l.getD i 0) k := ⟨_, rfl⟩
      obtain ⟨q, hq⟩ : ∃ q, q = revN (fun i => l.getD (8 + i) 0) k := ⟨_, rfl⟩
      rw [← hp] at b1 e1 ⊢
      rw [← hq] at b2 e2 ⊢
      rw [hj]
      have E1 := Lib.hid e1
      have E2 := Lib.hid e2
      have HJ := Lib.hid hj
      have hxl := x.toNat_lt
      have hyl := y.toNat_lt
      clear hp hq e1 e2 hj hjk hx hy hbl
      go_wp2
      go_roundw
      case rel => exact ⟨k + 1, by omega, by have := HJ.out; rw [show (7 : Int) - ((k + 1 : Nat) : Int) = (j : Int) - 1 by omega], by rw [E1.out, push8 p x.toNat b1 hxl], by rw [E2.out, push8 q y.toNat b2 hyl], by first | rfl | trivial⟩
      case measure => simp [intOf] <;> omega
    · have hk8 : k = 8 := by omega
      subst hk8
      have b1 : revN (fun i => l.getD i 0) 8 < 18446744073709551616 := revN_lt _ 8
      have b2 : revN (fun i => l.getD (8 + i) 0) 8 < 18446744073709551616 := revN_lt _ 8
      obtain ⟨p, hp⟩ : ∃ p, p = revN (fun i => l.getD i 0) 8 := ⟨_, rfl⟩
      obtain ⟨q, hq⟩ : ∃ q, q = revN (fun i => l.getD (8 + i) 0) 8 := ⟨_, rfl⟩
      rw [← hp] at b1 HREV ⊢
      rw [← hq] at b2 HREV ⊢
      clear hp hq hbl
      go_wp2
      have hv := limbs_raw p q top b1 b2 ht
      rw [HREV.out] at hv
      obtain ⟨l0, l1, l2, l3, l4⟩ := hv
      rw [l0, l1, l2, l3, l4]
      exact bodyPost_ret (v := .agg ((limbs5 (Pol.ofN (Pol.leN (l.take 16) + top * 340282366920938463463374607431768211456))).map u64v).toArray) (by simp [results, Try.results37, go_sem, limbs5, u64v]) rfl ⟨rfl, (Below.refl _ _).alloc (Nat.le_refl _) _⟩
end Go.Proofs.Ytoekopdogfnkhaa
