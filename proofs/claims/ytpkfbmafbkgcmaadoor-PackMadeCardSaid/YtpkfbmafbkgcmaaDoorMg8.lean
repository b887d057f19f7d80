/-
  Texts put together: PolN, PolO, TagP, SeaP, PolW.
-/
import Derived.Test.YtpkfbmafbkgcmaaDoorRows
import Derived.Test.YtpkfbmafbkgcmaaDoorMg7
import Derived.Test.YtpkfbmafbkgcmaaDoorMg6
import Derived.Test.YtpkfbmafbkgcmaaDoorMg5
set_option linter.unusedVariables false
set_option linter.unusedSimpArgs false
namespace Go.Con.Pol
/-- five limbs -/
structure L5 where
  a0 : Nat
  a1 : Nat
  a2 : Nat
  a3 : Nat
  a4 : Nat
def P : Nat := 1361129467683753853853498429727072845819
def L5.val (x : L5) : Nat := x.a0 + x.a1 * 67108864 + x.a2 * 4503599627370496 + x.a3 * 302231454903657293676544 + x.a4 * 20282409603651670423947251286016
def ofN (n : Nat) : L5 := ⟨n % 67108864, n / 67108864 % 67108864, n / 4503599627370496 % 67108864, n / 302231454903657293676544 % 67108864, n / 20282409603651670423947251286016⟩
theorem ofN_val (n : Nat) : (ofN n).val = n := by
  simp only [ofN, L5.val]; omega
/-- each limb has 26 bits, the second one some more -/
structure Low (x : L5) : Prop where
  h0 : x.a0 < 67108864
  h1 : x.a1 < 67110912
  h2 : x.a2 < 67108864
  h3 : x.a3 < 67108864
  h4 : x.a4 < 67108864
theorem ofN_low (n : Nat) (h : n < 1361129467683753853853498429727072845824) : Low (ofN n) := by
  constructor <;> simp only [ofN] <;> omega
def carry (x : L5) : L5 :=
  let b1 := x.a1 + x.a0 / 67108864
  let b2 := x.a2 + b1 / 67108864
  let b3 := x.a3 + b2 / 67108864
  let b4 := x.a4 + b3 / 67108864
  let b0 := x.a0 % 67108864 + 5 * (b4 / 67108864)
  ⟨b0 % 67108864, b1 % 67108864 + b0 / 67108864, b2 % 67108864, b3 % 67108864, b4 % 67108864⟩
theorem carry_val (x : L5) : (carry x).val + ((x.a4 + (x.a3 + (x.a2 + (x.a1 + x.a0 / 67108864) / 67108864) / 67108864) / 67108864) / 67108864) * P = x.val := by
  simp only [carry, L5.val, P]
  generalize e1 : x.a1 + x.a0 / 67108864 = b1
  generalize e2 : x.a2 + b1 / 67108864 = b2
  generalize e3 : x.a3 + b2 / 67108864 = b3
  generalize e4 : x.a4 + b3 / 67108864 = b4
  omega
theorem carry_mod (x : L5) : (carry x).val % P = x.val % P := by
  rw [← carry_val x, Nat.add_mul_mod_self_right]
theorem carry_low (x : L5) (h0 : x.a0 ≤ 1152921504606846976) (h1 : x.a1 ≤ 1152921504606846976) (h2 : x.a2 ≤ 1152921504606846976) (h3 : x.a3 ≤ 1152921504606846976) (h4 : x.a4 ≤ 1152921504606846976) : Low (carry x) := by
  constructor <;> simp only [carry] <;> omega
def mul (x y : L5) : L5 :=
  ⟨x.a0 * y.a0 + 5 * x.a1 * y.a4 + 5 * x.a2 * y.a3 + 5 * x.a3 * y.a2 + 5 * x.a4 * y.a1,
   x.a0 * y.a1 + x.a1 * y.a0 + 5 * x.a2 * y.a4 + 5 * x.a3 * y.a3 + 5 * x.a4 * y.a2,
   x.a0 * y.a2 + x.a1 * y.a1 + x.a2 * y.a0 + 5 * x.a3 * y.a4 + 5 * x.a4 * y.a3,
   x.a0 * y.a3 + x.a1 * y.a2 + x.a2 * y.a1 + x.a3 * y.a0 + 5 * x.a4 * y.a4,
   x.a0 * y.a4 + x.a1 * y.a3 + x.a2 * y.a2 + x.a3 * y.a1 + x.a4 * y.a0⟩
def over (x y : L5) : Nat :=
  x.a1 * y.a4 + x.a2 * y.a3 + x.a3 * y.a2 + x.a4 * y.a1 + (x.a2 * y.a4 + x.a3 * y.a3 + x.a4 * y.a2) * 67108864 + (x.a3 * y.a4 + x.a4 * y.a3) * 4503599627370496 + x.a4 * y.a4 * 302231454903657293676544
theorem mul_val (x y : L5) : (mul x y).val + over x y * P = x.val * y.val := by
  simp only [mul, over, L5.val, P]
  grind
theorem mul_mod (x y : L5) : (mul x y).val % P = x.val * y.val % P := by
  rw [← mul_val x y, Nat.add_mul_mod_self_right]
/-- below P -/
def whole (x : L5) : L5 :=
  let z := carry x
  let y0 := z.a0 + 5
  let y1 := z.a1 + y0 / 67108864
  let y2 := z.a2 + y1 / 67108864
  let y3 := z.a3 + y2 / 67108864
  let y4 := z.a4 + y3 / 67108864
  if y4 / 67108864 = 0 then z else ⟨y0 % 67108864, y1 % 67108864, y2 % 67108864, y3 % 67108864, y4 % 67108864⟩
theorem whole_val (x : L5) (h : Low (carry x)) : (whole x).val = x.val % P := by
  rw [← carry_mod x]
  obtain ⟨h0, h1, h2, h3, h4⟩ := h
  generalize hz : carry x = z at h0 h1 h2 h3 h4
  have hw : whole x = (if (z.a4 + (z.a3 + (z.a2 + (z.a1 + (z.a0 + 5) / 67108864) / 67108864) / 67108864) / 67108864) / 67108864 = 0 then z else ⟨(z.a0 + 5) % 67108864, (z.a1 + (z.a0 + 5) / 67108864) % 67108864, (z.a2 + (z.a1 + (z.a0 + 5) / 67108864) / 67108864) % 67108864, (z.a3 + (z.a2 + (z.a1 + (z.a0 + 5) / 67108864) / 67108864) / 67108864) % 67108864, (z.a4 + (z.a3 + (z.a2 + (z.a1 + (z.a0 + 5) / 67108864) / 67108864) / 67108864) / 67108864) % 67108864⟩) := by
    rw [← hz]; rfl
  rw [hw]
  generalize e1 : z.a1 + (z.a0 + 5) / 67108864 = b1
  generalize e2 : z.a2 + b1 / 67108864 = b2
  generalize e3 : z.a3 + b2 / 67108864 = b3
  generalize e4 : z.a4 + b3 / 67108864 = b4
  by_cases hb : b4 / 67108864 = 0
  · rw [if_pos hb, Nat.mod_eq_of_lt]
    simp only [L5.val, P]
    omega
  · rw [if_neg hb]
    have hlt : z.val - P < P := by simp only [L5.val, P]; omega
    have hge : P ≤ z.val := by simp only [L5.val, P]; omega
    rw [Nat.mod_eq_sub_mod hge, Nat.mod_eq_of_lt hlt]
    simp only [L5.val, P]
    omega
theorem whole_low (x : L5) (h : Low (carry x)) : Low (whole x) := by
  unfold whole
  dsimp only
  split
  · exact h
  · constructor <;> simp only <;> omega
/-- the number of bytes, the lowest one first -/
def leN : List UInt8 → Nat
  | [] => 0
  | b :: l => b.toNat + 256 * leN l
theorem leN_lt : ∀ l : List UInt8, leN l < 256 ^ l.length
  | [] => by simp [leN]
  | b :: l => by
    have h := leN_lt l
    have hb := b.toNat_lt
    simp only [leN, List.length_cons, Nat.pow_succ]
    omega
theorem leN_append : ∀ (l m : List UInt8), leN (l ++ m) = leN l + 256 ^ l.length * leN m
  | [], m => by simp [leN]
  | b :: l, m => by
    simp only [List.cons_append, leN, leN_append l m, List.length_cons, Nat.pow_succ]
    rw [Nat.mul_add, Nat.mul_comm (256 ^ l.length) 256, Nat.mul_assoc]; omega
theorem leN_noughts : ∀ n, leN (List.replicate n 0) = 0
  | 0 => rfl
  | n + 1 => by simp [List.replicate_succ, leN, leN_noughts n]
/-- so many bytes of a number -/
def leB : Nat → Nat → List UInt8
  | 0, _ => []
  | k + 1, n => UInt8.ofNat n :: leB k (n / 256)
theorem leB_length : ∀ k n, (leB k n).length = k
  | 0, _ => rfl
  | k + 1, n => by simp [leB, leB_length k]
theorem leB_leN : ∀ l : List UInt8, leB l.length (leN l) = l
  | [] => rfl
  | b :: l => by
    have hb := b.toNat_lt
    simp only [List.length_cons, leB, leN]
    rw [show (b.toNat + 256 * leN l) / 256 = leN l by omega, leB_leN l]
    congr 1
    apply UInt8.toNat_inj.1
    rw [UInt8.toNat_ofNat']
    omega
theorem leN_leB : ∀ k n, leN (leB k n) = n % 256 ^ k
  | 0, n => by simp [leB, leN, Nat.mod_one]
  | k + 1, n => by
    rw [leB, leN, leN_leB k, UInt8.toNat_ofNat']
    show n % 256 + 256 * (n / 256 % 256 ^ k) = n % (256 ^ k * 256)
    rw [Nat.mul_comm (256 ^ k) 256, Nat.mod_mul]
theorem leB_mod : ∀ k n, leB k (n % 256 ^ k) = leB k n
  | 0, _ => rfl
  | k + 1, n => by
    have h1 : n % 256 ^ (k + 1) / 256 = n / 256 % 256 ^ k := by
      rw [Nat.pow_succ, Nat.mul_comm, Nat.mod_mul_right_div_self]
    have h2 : n % 256 ^ (k + 1) % 256 = n % 256 := by
      rw [Nat.pow_succ, Nat.mul_comm, Nat.mod_mul_right_mod]
    simp only [leB]
    rw [h1, leB_mod k]
    congr 1
    apply UInt8.toNat_inj.1
    rw [UInt8.toNat_ofNat', UInt8.toNat_ofNat']
    exact h2
/-- what is gathered of data, sixteen bytes a round -/
def accF (r : Nat) : Nat → Nat → List UInt8 → Nat
  | 0, a, _ => a
  | f + 1, a, l => if l = [] then a else accF r f ((a + (leN (l.take 16) + 256 ^ (min 16 l.length))) * r % P) (l.drop 16)
theorem accF_nil (r f a : Nat) : accF r f a [] = a := by
  cases f with
  | zero => rfl
  | succ f => simp [accF]
theorem accF_more (r : Nat) : ∀ (f g a : Nat) (l : List UInt8), l.length ≤ f → l.length ≤ g → accF r f a l = accF r g a l
  | 0, g, a, l, h, _ => by
    have : l = [] := List.eq_nil_of_length_eq_zero (by omega)
    subst this
    rw [accF_nil, accF_nil]
  | f + 1, 0, a, l, _, h => by
    have : l = [] := List.eq_nil_of_length_eq_zero (by omega)
    subst this
    rw [accF_nil, accF_nil]
  | f + 1, g + 1, a, l, h1, h2 => by
    by_cases hl : l = []
    · subst hl; rw [accF_nil, accF_nil]
    · have hp : 0 < l.length := List.length_pos_iff.2 hl
      simp only [accF, if_neg hl]
      exact accF_more r f g _ _ (by simp; omega) (by simp; omega)
def acc (r : Nat) (l : List UInt8) : Nat := accF r l.length 0 l
/-- clamped: bits that do not count -/
def clamp (k : List UInt8) : List UInt8 := ((((((((k.set 3 (k.getD 3 0 &&& 15)).set 7 (k.getD 7 0 &&& 15)).set 11 (k.getD 11 0 &&& 15)).set 15 (k.getD 15 0 &&& 15)).set 4 (k.getD 4 0 &&& 252)).set 8 (k.getD 8 0 &&& 252)).set 12 (k.getD 12 0 &&& 252)))
/-- the tag -/
def tag (key data : List UInt8) : List UInt8 := leB 16 (acc (leN (clamp (key.take 16))) data + leN ((key.drop 16).take 16))
theorem tag_length (key data : List UInt8) : (tag key data).length = 16 := leB_length _ _
end Go.Con.Pol

set_option linter.unusedVariables false
set_option linter.unusedSimpArgs false
namespace Go.Con.Pol
/-- the limbs' sum so far -/
def part (f : Nat → Nat) : Nat → Nat
  | 0 => 0
  | k + 1 => part f k + f k * 2 ^ (26 * k)
theorem leB_more : ∀ (n T : Nat), leB (n + 1) T = leB n T ++ [UInt8.ofNat (T / 256 ^ n)]
  | 0, T => by simp [leB]
  | n + 1, T => by
    rw [leB, leB_more n (T / 256), leB, List.cons_append, Nat.div_div_eq_div_mul, Nat.pow_succ, Nat.mul_comm 256]
theorem pow_parts (n k : Nat) (h : 8 * n ≤ 26 * k) : 2 ^ (26 * k) = 256 ^ n * 2 ^ (26 * k - 8 * n) := by
  rw [show (256 : Nat) = 2 ^ 8 from rfl, ← Nat.pow_mul, ← Nat.pow_add]
  congr 1
  omega
theorem low_add (T x n k : Nat) (h : 8 * n ≤ 26 * k) : (T + x * 2 ^ (26 * k)) / 256 ^ n = T / 256 ^ n + x * 2 ^ (26 * k - 8 * n) := by
  rw [pow_parts n k h, show x * (256 ^ n * 2 ^ (26 * k - 8 * n)) = 256 ^ n * (x * 2 ^ (26 * k - 8 * n)) by rw [Nat.mul_left_comm]]
  exact Nat.add_mul_div_left _ _ (Nat.pow_pos (by decide))
theorem leB_add (T x n k : Nat) (h : 8 * n ≤ 26 * k) : leB n (T + x * 2 ^ (26 * k)) = leB n T := by
  rw [← leB_mod n (T + _), ← leB_mod n T, pow_parts n k h, show x * (256 ^ n * 2 ^ (26 * k - 8 * n)) = 256 ^ n * (x * 2 ^ (26 * k - 8 * n)) by rw [Nat.mul_left_comm], Nat.add_mul_mod_self_left]
theorem part_bound (f : Nat → Nat) (hf : ∀ j, f j ≤ 134221824) : ∀ k, part f k < 4 * 2 ^ (26 * k)
  | 0 => by simp [part]
  | k + 1 => by
    have ih := part_bound f hf k
    have h2 : 2 ^ (26 * (k + 1)) = 67108864 * 2 ^ (26 * k) := by rw [show 26 * (k + 1) = 26 + 26 * k by omega, Nat.pow_add]
    have hm : f k * 2 ^ (26 * k) ≤ 134221824 * 2 ^ (26 * k) := Nat.mul_le_mul_right _ (hf k)
    rw [part, h2]
    omega
theorem low_bound2 (f : Nat → Nat) (hf : ∀ j, f j ≤ 134221824) (k n : Nat) (h : 8 * n ≤ 26 * k) : part f k / 256 ^ n < 4 * 2 ^ (26 * k - 8 * n) := by
  rw [Nat.div_lt_iff_lt_mul (Nat.pow_pos (by decide))]
  have hb := part_bound f hf k
  rw [pow_parts n k h] at hb
  rw [Nat.mul_assoc, Nat.mul_comm (2 ^ _)]
  exact hb
end Go.Con.Pol

set_option linter.unusedVariables false
set_option linter.unusedSimpArgs false
namespace Go.Con.Pol
theorem accF_zero : ∀ (f : Nat) (l : List UInt8), accF 0 f 0 l = 0
  | 0, _ => rfl
  | f + 1, l => by
    rw [accF]
    split
    · rfl
    · rw [Nat.mul_zero, Nat.zero_mod]; exact accF_zero f _
theorem acc_zero (l : List UInt8) : acc 0 l = 0 := accF_zero _ _
theorem acc_nil (r : Nat) : acc r [] = 0 := rfl
theorem clamp_zero : leN (clamp (List.replicate 16 0)) = 0 := by decide
theorem clamp_one : leN (clamp (1 :: List.replicate 15 0)) = 1 := by decide
theorem tag_nil (key : List UInt8) (hk : key.length = 32) : tag key [] = key.drop 16 := by
  have hl : (key.drop 16).length = 16 := by simp [hk]
  have h := leB_leN (key.drop 16)
  rw [hl] at h
  rw [tag, acc_nil, Nat.zero_add, List.take_of_length_le (by omega)]
  exact h
theorem tag_nought (s data : List UInt8) (hs : s.length = 16) : tag (List.replicate 16 0 ++ s) data = s := by
  have h1 : (List.replicate 16 (0 : UInt8) ++ s).take 16 = List.replicate 16 0 := List.take_left' (by simp)
  have h2 : ((List.replicate 16 (0 : UInt8) ++ s).drop 16).take 16 = s := by
    rw [List.drop_left' (by simp)]; exact List.take_of_length_le (by omega)
  have h := leB_leN s
  rw [hs] at h
  rw [tag, h1, h2, clamp_zero, acc_zero, Nat.zero_add]
  exact h
/-- a sum of bytes, the lowest one first -/
def pre (g : Nat → Nat) : Nat → Nat
  | 0 => 0
  | k + 1 => pre g k + g k * 256 ^ k
theorem pre_step (g : Nat → Nat) (k : Nat) : pre g (k + 1) / 256 ^ k = pre g k / 256 ^ k + g k := by
  rw [pre]
  exact Nat.add_mul_div_right _ _ (Nat.pow_pos (by decide))
theorem pre_next (g : Nat → Nat) (k : Nat) : pre g (k + 1) / 256 ^ (k + 1) = (pre g k / 256 ^ k + g k) / 256 := by
  rw [Nat.pow_succ, ← Nat.div_div_eq_div_mul, pre_step]
theorem pre_byte (g : Nat → Nat) (i : Nat) : ∀ n, i < n → pre g n / 256 ^ i % 256 = (pre g i / 256 ^ i + g i) % 256
  | 0, h => absurd h (by omega)
  | n + 1, h => by
    by_cases hn : i = n
    · subst hn; rw [pre_step]
    · have ih := pre_byte g i n (by omega)
      rw [← ih, pre]
      have e : g n * 256 ^ n = g n * 256 ^ (n - i - 1) * 256 * 256 ^ i := by
        rw [Nat.mul_assoc, Nat.mul_assoc, ← Nat.pow_succ', ← Nat.pow_add]
        congr 2; omega
      rw [e, Nat.add_mul_div_right _ _ (Nat.pow_pos (by decide)), Nat.add_mul_mod_self_right]
theorem pre_add (g h : Nat → Nat) : ∀ n, pre (fun i => g i + h i) n = pre g n + pre h n
  | 0 => rfl
  | n + 1 => by rw [pre, pre, pre, pre_add g h n, Nat.add_mul]; omega
theorem pre_leN (l : List UInt8) : ∀ k, k ≤ l.length → pre (fun i => (l.getD i 0).toNat) k = leN (l.take k)
  | 0, _ => by simp [pre, leN]
  | k + 1, h => by
    rw [pre, pre_leN l k (by omega), List.take_succ_eq_append_getElem (by omega), leN_append]
    have e : (l.take k).length = k := by simp; omega
    rw [e, leN, leN]
    simp [show k < l.length by omega]
    rw [Nat.mul_comm]
theorem pre_all (l : List UInt8) (n : Nat) (h : l.length = n) : pre (fun i => (l.getD i 0).toNat) n = leN l := by
  rw [pre_leN l n (by omega), List.take_of_length_le (by omega)]
theorem pre_lt (g : Nat → Nat) (hg : ∀ i, g i ≤ 765) : ∀ k, pre g k / 256 ^ k ≤ 2
  | 0 => by simp [pre]
  | k + 1 => by
    have ih := pre_lt g hg k
    have := hg k
    rw [pre_next]
    omega
theorem leB_at : ∀ (n T i : Nat), i < n → ((leB n T).getD i 0).toNat = T / 256 ^ i % 256
  | 0, _, _, h => absurd h (by omega)
  | n + 1, T, 0, _ => by simp [leB, UInt8.toNat_ofNat']
  | n + 1, T, i + 1, h => by
    have ih := leB_at n (T / 256) i (by omega)
    rw [leB, List.getD_cons_succ, ih, Nat.div_div_eq_div_mul, Nat.pow_succ, Nat.mul_comm 256]
/-- the bytes of a sum, each with what is carried -/
theorem sum_byte (g : Nat → Nat) (T i : Nat) (hT : T % 256 ^ 16 = pre g 16 % 256 ^ 16) (hi : i < 16) : ((leB 16 T).getD i 0).toNat = (pre g i / 256 ^ i + g i) % 256 := by
  rw [← leB_mod 16 T, hT, leB_mod, leB_at 16 _ i hi, pre_byte g i 16 hi]
/-- the second half of the key is added -/
theorem tag_shift (a b s data : List UInt8) (ha : a.length = 16) (hs : s.length = 16) (hb : b = a ++ s) (i : Nat) (hi : i < 16) :
    ((tag b data).getD i 0).toNat = (pre (fun i => ((tag (a ++ List.replicate 16 0) data).getD i 0).toNat + (s.getD i 0).toNat) i / 256 ^ i + (((tag (a ++ List.replicate 16 0) data).getD i 0).toNat + (s.getD i 0).toNat)) % 256 := by
  have h1 : ∀ m : List UInt8, (a ++ m).take 16 = a := fun m => List.take_left' ha
  have h2 : ∀ m : List UInt8, m.length = 16 → ((a ++ m).drop 16).take 16 = m := fun m hm => by
    rw [List.drop_left' ha]; exact List.take_of_length_le (by omega)
  have hz : leN (List.replicate 16 0) = 0 := leN_noughts 16
  have e1 : tag b data = leB 16 (acc (leN (clamp a)) data + leN s) := by rw [hb, tag, h1, h2 s hs]
  have e2 : tag (a ++ List.replicate 16 0) data = leB 16 (acc (leN (clamp a)) data) := by rw [tag, h1, h2 _ (by simp), hz, Nat.add_zero]
  rw [e1, e2]
  refine sum_byte _ _ i ?_ hi
  have h3 := pre_add (fun i => ((leB 16 (acc (leN (clamp a)) data)).getD i 0).toNat) (fun i => (s.getD i 0).toNat) 16
  rw [h3, pre_all _ 16 (leB_length _ _), pre_all s 16 hs, leN_leB]
  omega
theorem tag_one (b s : List UInt8) (hb : b.length = 16) (hs : s.length = 16) (i : Nat) (hi : i < 16) :
    ((tag ((1 :: List.replicate 15 0) ++ s) b).getD i 0).toNat = (pre (fun i => (b.getD i 0).toNat + (s.getD i 0).toNat) i / 256 ^ i + ((b.getD i 0).toNat + (s.getD i 0).toNat)) % 256 := by
  have h1 : ((1 :: List.replicate 15 (0 : UInt8)) ++ s).take 16 = 1 :: List.replicate 15 0 := List.take_left' (by simp)
  have h2 : (((1 :: List.replicate 15 (0 : UInt8)) ++ s).drop 16).take 16 = s := by
    rw [List.drop_left' (by simp)]; exact List.take_of_length_le (by omega)
  have hbl := leN_lt b
  rw [hb] at hbl
  have ha : acc 1 b = leN b + 256 ^ 16 := by
    rw [acc, hb, accF, if_neg (by intro h; rw [h] at hb; cases hb), hb, List.take_of_length_le (by omega), List.drop_of_length_le (by omega), accF_nil, Nat.zero_add, Nat.mul_one]
    refine Nat.mod_eq_of_lt ?_
    rw [P, Nat.min_self]
    omega
  rw [tag, h1, h2, clamp_one, ha]
  refine sum_byte _ _ i ?_ hi
  have h3 := pre_add (fun i => (b.getD i 0).toNat) (fun i => (s.getD i 0).toNat) 16
  rw [h3, pre_all b 16 hb, pre_all s 16 hs]
  omega
theorem tag_two (x y s : List UInt8) (hx : x.length = 16) (hy : y.length = 16) (hs : s.length = 16) (hlow : leN y < 170141183460469231731687303715884105728) (i : Nat) (hi : i < 16) :
    ((tag ((1 :: List.replicate 15 0) ++ s) (x ++ y)).getD i 0).toNat = (pre (fun i => (x.getD i 0).toNat + (y.getD i 0).toNat + (s.getD i 0).toNat) i / 256 ^ i + ((x.getD i 0).toNat + (y.getD i 0).toNat + (s.getD i 0).toNat)) % 256 := by
  have h1 : ((1 :: List.replicate 15 (0 : UInt8)) ++ s).take 16 = 1 :: List.replicate 15 0 := List.take_left' (by simp)
  have h2 : (((1 :: List.replicate 15 (0 : UInt8)) ++ s).drop 16).take 16 = s := by
    rw [List.drop_left' (by simp)]; exact List.take_of_length_le (by omega)
  have hxl := leN_lt x
  rw [hx] at hxl
  have hxy : (x ++ y).length = 32 := by simp [hx, hy]
  have e1 : (x ++ y).take 16 = x := List.take_left' hx
  have e2 : (x ++ y).drop 16 = y := List.drop_left' hx
  have ha : acc 1 (x ++ y) = leN x + leN y + 2 * 256 ^ 16 := by
    rw [acc, hxy, accF, if_neg (by intro h; rw [h] at hxy; cases hxy), hxy, e1, e2, accF, if_neg (by intro h; rw [h] at hy; cases hy), hy, List.take_of_length_le (by omega), List.drop_of_length_le (by omega), accF_nil, Nat.zero_add, Nat.mul_one, Nat.mul_one]
    rw [show min 16 32 = 16 from rfl, Nat.min_self]
    rw [Nat.mod_eq_of_lt (b := P) (a := leN x + 256 ^ 16) (by rw [P]; omega), Nat.mod_eq_of_lt (by rw [P]; omega)]
    omega
  rw [tag, h1, h2, clamp_one, ha]
  refine sum_byte _ _ i ?_ hi
  have h3 := pre_add (fun i => (x.getD i 0).toNat + (y.getD i 0).toNat) (fun i => (s.getD i 0).toNat) 16
  have h4 := pre_add (fun i => (x.getD i 0).toNat) (fun i => (y.getD i 0).toNat) 16
  rw [h3, h4, pre_all x 16 hx, pre_all y 16 hy, pre_all s 16 hs]
  omega
end Go.Con.Pol

set_option linter.unusedVariables false
set_option linter.unusedSimpArgs false
namespace Go.Con.Sea
def pad (l : List UInt8) : List UInt8 := l ++ List.replicate ((16 - l.length % 16) % 16) 0
theorem pad_length (l : List UInt8) : (pad l).length = l.length + (16 - l.length % 16) % 16 := by simp [pad]
/-- what the tag is of -/
def data (known sealed : List UInt8) : List UInt8 := ((pad known ++ pad sealed) ++ Pol.leB 8 known.length) ++ Pol.leB 8 sealed.length
theorem data_length (known sealed : List UInt8) : (data known sealed).length ≤ known.length + sealed.length + 46 := by
  simp only [data, List.length_append, pad_length, Pol.leB_length]; omega
def tag (key nonce known sealed : List UInt8) : List UInt8 := Pol.tag ((Cha.block key (UInt32.ofNat 0) nonce).take 32) (data known sealed)
theorem tag_length (key nonce known sealed : List UInt8) : (tag key nonce known sealed).length = 16 := Pol.tag_length _ _
/-- what is sealed, and its tag behind it -/
def boxed (key nonce known plain : List UInt8) : List UInt8 := Cha.mix key 1 nonce plain ++ tag key nonce known (Cha.mix key 1 nonce plain)
theorem boxed_length (key nonce known plain : List UInt8) : (boxed key nonce known plain).length = plain.length + 16 := by simp [boxed, Cha.mix_length, tag_length]
theorem boxed_take (key nonce known plain : List UInt8) : (boxed key nonce known plain).take plain.length = Cha.mix key 1 nonce plain := by
  rw [boxed]; exact List.take_left' (Cha.mix_length _ _ _ _)
theorem boxed_drop (key nonce known plain : List UInt8) : (boxed key nonce known plain).drop plain.length = tag key nonce known (Cha.mix key 1 nonce plain) := by
  rw [boxed]; exact List.drop_left' (Cha.mix_length _ _ _ _)
end Go.Con.Sea

set_option linter.unusedVariables false
set_option linter.unusedSimpArgs false
namespace Go.Con
open Go Go.RowKit
theorem or_u64 (x y : Nat) (hx : x < 18446744073709551616) (hy : y < 18446744073709551616) : bits .or .u64 (x : Int) (y : Int) = ((x ||| y : Nat) : Int) := by
  show IntKind.u64.wrap ((BitVec.ofInt 64 (x : Int) ||| BitVec.ofInt 64 (y : Int)).toNat : Int) = _
  have hxy : (x ||| y) < 2 ^ 64 := Nat.or_lt_two_pow hx hy
  rw [BitVec.ofInt_natCast, BitVec.ofInt_natCast, BitVec.toNat_or, BitVec.toNat_ofNat, BitVec.toNat_ofNat, Nat.mod_eq_of_lt (by omega), Nat.mod_eq_of_lt (by omega)]
  exact IntWalk.u64_in _ (by omega)
theorem and_u64 (x y : Nat) (hx : x < 18446744073709551616) (hy : y < 18446744073709551616) : bits .and .u64 (x : Int) (y : Int) = ((x &&& y : Nat) : Int) := by
  show IntKind.u64.wrap ((BitVec.ofInt 64 (x : Int) &&& BitVec.ofInt 64 (y : Int)).toNat : Int) = _
  have hxy : (x &&& y) < 2 ^ 64 := Nat.lt_of_le_of_lt Nat.and_le_left (by omega)
  rw [BitVec.ofInt_natCast, BitVec.ofInt_natCast, BitVec.toNat_and, BitVec.toNat_ofNat, BitVec.toNat_ofNat, Nat.mod_eq_of_lt (by omega), Nat.mod_eq_of_lt (by omega)]
  exact IntWalk.u64_in _ (by omega)
/-- the low 26 bits -/
theorem low26 (x : Nat) (h : x < 18446744073709551616) : bits .and .u64 (x : Int) 67108863 = ((x % 67108864 : Nat) : Int) := by
  have h1 := and_u64 x 67108863 h (by decide)
  rw [show ((67108863 : Nat) : Int) = 67108863 from rfl] at h1
  rw [h1, show (67108863 : Nat) = 2 ^ 26 - 1 from rfl, Nat.and_two_pow_sub_one_eq_mod]
theorem or_add (a b i : Nat) (h : b < 2 ^ i) : (a * 2 ^ i ||| b) = a * 2 ^ i + b := by
  have := Nat.shiftLeft_add_eq_or_of_lt h a
  rw [Nat.shiftLeft_eq] at this
  exact this.symm
theorem push8 (a b : Nat) (ha : a < 72057594037927936) (hb : b < 256) : bits .or .u64 ((a : Int) * 256) (b : Int) = ((b + 256 * a : Nat) : Int) := by
  rw [show ((a : Int) * 256) = ((a * 256 : Nat) : Int) by omega, or_u64 _ _ (by omega) (by omega)]
  have := or_add a b 8 hb
  rw [show (2 : Nat) ^ 8 = 256 from rfl] at this
  rw [this]; omega
def u64v (n : Nat) : Value := .int .u64 n
/-- The block's words of 64 bits. -/
def Big (w : World) (b : Nat) (t : TypeId) (s : List Nat) : Prop := w.heap[b]? = some (.cells (s.map u64v).toArray t (0, 0))
theorem Big.cell {w : World} {b : Nat} {t : TypeId} {s : List Nat} (h : Big w b t s) (k : Nat) (hk : k < s.length) : w.cell? ⟨b, k, none⟩ = some (.int .u64 (s.getD k 0)) :=
  cellAt h k (by simp [hk, u64v])
theorem Big.set {w : World} {b : Nat} {t : TypeId} {s : List Nat} (h : Big w b t s) (k x : Nat) : Big (w.setCell ⟨b, k, none⟩ (.int .u64 x)) b t (s.set k x) := by
  have h1 := heapSet (o := k) h (.int .u64 x)
  rw [Big, h1]
  simp [u64v, List.map_set]
theorem Big.drewN {w : World} {b : Nat} {t : TypeId} {s : List Nat} (h : Big w b t s) (n : Nat) : Big (w.drewN n) b t s := h
theorem Big.kept {w w' : World} {b B : Nat} {t : TypeId} {s : List Nat} {S : Nat → Prop} (h : Big w b t s) (hk : Kept B S w w') (hb : b < B) (hs : ¬ S b) : Big w' b t s := (hk.block b hb hs).trans h
theorem Big.stay {w w' : World} {b : Nat} {t : TypeId} {s : List Nat} (h : Big w b t s) (hk : Below w.heap.size w w') : Big w' b t s := (hk.block b (lt_of_heap h)).trans h
theorem Big.other {w : World} {b : Nat} {t : TypeId} {s : List Nat} (h : Big w b t s) (b' k : Nat) (v : Value) (hb : b ≠ b') : Big (w.setCell ⟨b', k, none⟩ v) b t s := (heapSet_ne k v hb).trans h
/-- eight bytes, the last one first -/
def revN (f : Nat → UInt8) : Nat → Nat
  | 0 => 0
  | k + 1 => (f (7 - k)).toNat + 256 * revN f k
theorem revN_lt (f : Nat → UInt8) : ∀ k, revN f k < 256 ^ k
  | 0 => by simp [revN]
  | k + 1 => by
    have h := revN_lt f k
    have hb := (f (7 - k)).toNat_lt
    rw [revN, Nat.pow_succ]
    omega
theorem revN_56 (f : Nat → UInt8) (k : Nat) (h : k < 8) : revN f k < 72057594037927936 :=
  Nat.lt_of_lt_of_le (revN_lt f k) (by
    have : (256 : Nat) ^ k ≤ 256 ^ 7 := Nat.pow_le_pow_right (by decide) (by omega)
    simpa using this)
/-- the five limbs of a number -/
def limbs5 (x : Pol.L5) : List Nat := [x.a0, x.a1, x.a2, x.a3, x.a4]
theorem rev_le (l : List UInt8) (h : 16 ≤ l.length) (top : Nat) : revN (fun i => l.getD i 0) 8 + revN (fun i => l.getD (8 + i) 0) 8 * 18446744073709551616 + top * 340282366920938463463374607431768211456 = Pol.leN (l.take 16) + top * 340282366920938463463374607431768211456 := by
  match l, h with
  | b0 :: b1 :: b2 :: b3 :: b4 :: b5 :: b6 :: b7 :: c0 :: c1 :: c2 :: c3 :: c4 :: c5 :: c6 :: c7 :: r, _ =>
    show (b0.toNat + 256 * (b1.toNat + 256 * (b2.toNat + 256 * (b3.toNat + 256 * (b4.toNat + 256 * (b5.toNat + 256 * (b6.toNat + 256 * (b7.toNat + 256 * 0)))))))) + (c0.toNat + 256 * (c1.toNat + 256 * (c2.toNat + 256 * (c3.toNat + 256 * (c4.toNat + 256 * (c5.toNat + 256 * (c6.toNat + 256 * (c7.toNat + 256 * 0)))))))) * 18446744073709551616 + _ = (b0.toNat + 256 * (b1.toNat + 256 * (b2.toNat + 256 * (b3.toNat + 256 * (b4.toNat + 256 * (b5.toNat + 256 * (b6.toNat + 256 * (b7.toNat + 256 * (c0.toNat + 256 * (c1.toNat + 256 * (c2.toNat + 256 * (c3.toNat + 256 * (c4.toNat + 256 * (c5.toNat + 256 * (c6.toNat + 256 * (c7.toNat + 256 * 0)))))))))))))))) + _
    omega
theorem limbs_raw (p q top : Nat) (hp : p < 18446744073709551616) (hq : q < 18446744073709551616) (ht : top ≤ 1) :
    bits .and .u64 (p : Int) 67108863 = ((Pol.ofN (p + q * 18446744073709551616 + top * 340282366920938463463374607431768211456)).a0 : Int) ∧
    bits .and .u64 ((p : Int) / 67108864) 67108863 = ((Pol.ofN (p + q * 18446744073709551616 + top * 340282366920938463463374607431768211456)).a1 : Int) ∧
    bits .and .u64 (bits .or .u64 ((p : Int) / 4503599627370496) (IntKind.u64.wrap ((q : Int) * 4096))) 67108863 = ((Pol.ofN (p + q * 18446744073709551616 + top * 340282366920938463463374607431768211456)).a2 : Int) ∧
    bits .and .u64 ((q : Int) / 16384) 67108863 = ((Pol.ofN (p + q * 18446744073709551616 + top * 340282366920938463463374607431768211456)).a3 : Int) ∧
    bits .or .u64 ((q : Int) / 1099511627776) ((top : Int) * 16777216) = ((Pol.ofN (p + q * 18446744073709551616 + top * 340282366920938463463374607431768211456)).a4 : Int) := by
  simp only [Pol.ofN]
  refine ⟨?_, ?_, ?_, ?_, ?_⟩
  · rw [low26 p hp]; congr 1; omega
  · rw [show (p : Int) / 67108864 = ((p / 67108864 : Nat) : Int) by omega, low26 _ (by omega)]; congr 1; omega
  · have hw : IntKind.u64.wrap ((q : Int) * 4096) = ((q % 4503599627370496 * 4096 : Nat) : Int) := by
      simp only [IntKind.wrap, IntKind.bits, IntKind.signed]; simp; omega
    rw [hw, show (p : Int) / 4503599627370496 = ((p / 4503599627370496 : Nat) : Int) by omega, or_u64 _ _ (by omega) (by omega), Nat.or_comm]
    have := or_add (q % 4503599627370496) (p / 4503599627370496) 12 (by omega)
    rw [show (2 : Nat) ^ 12 = 4096 from rfl] at this
    rw [this, low26 _ (by omega)]; congr 1; omega
  · rw [show (q : Int) / 16384 = ((q / 16384 : Nat) : Int) by omega, low26 _ (by omega)]; congr 1; omega
  · rw [show (q : Int) / 1099511627776 = ((q / 1099511627776 : Nat) : Int) by omega, show (top : Int) * 16777216 = ((top * 16777216 : Nat) : Int) by omega, or_u64 _ _ (by omega) (by omega), Nat.or_comm]
    have := or_add top (q / 1099511627776) 24 (by omega)
    rw [show (2 : Nat) ^ 24 = 16777216 from rfl] at this
    rw [this]; congr 1; omega
end Go.Con
namespace Go.Proofs.YtpkfbmafbkgcmaaDoor
open Go.RowKit Go.Con
set_option maxRecDepth 100000 in
set_option maxHeartbeats 1000000 in
theorem number_any (bb bo n c : Nat) (l : List UInt8) (top : Nat) (w : World) (ht : top ≤ 1) (hl : 16 ≤ l.length) (hn : l.length = n) (hR : Rd w (.slice (some ⟨bb, bo, none⟩) n c) l) :
    Calls Tryd.prog 58 #[.slice (some ⟨bb, bo, none⟩) n c, .int .u64 top] w fun e w' => e = .returned (.agg ((limbs5 (Pol.ofN (Pol.leN (l.take 16) + top * 340282366920938463463374607431768211456))).map u64v).toArray) ∧ Below w.heap.size w w' := by
  have hrev := rev_le l hl top
  have hcell : ∀ W, Below w.heap.size w W → ∀ i, i < n → W.cell? ⟨bb, bo + i, none⟩ = some (.int .u8 (l.getD i 0).toNat) := by
    intro W hW i hi
    obtain ⟨a', c', e, _, _, _, h⟩ := hR.stay hW
    obtain ⟨b', off, e4, h2⟩ := h (by intro h; rw [h] at hl; exact absurd hl (by decide))
    injection e with e1 e2 e3
    subst e1
    injection e4 with e4
    injection e4 with e5 e6
    subst e5 e6
    exact h2 i (by rw [hn]; exact hi)
  have h16 : 16 ≤ n := by omega
  have HC := Lib.hid hcell
  have HREV := Lib.hid hrev
  clear hcell hrev hl hn hR
  go_enter Tryd.func58, Tryd.ntmps58
  go_wp2_with fail
  go_loopw [5, 6, 7] (fun lo hi i wr => ∃ k : Nat, k ≤ 8 ∧ i = .int .i64 (7 - (k : Int)) ∧ lo = .int .u64 (revN (fun i => l.getD i 0) k) ∧ hi = .int .u64 (revN (fun i => l.getD (8 + i) 0) k) ∧ wr = w.alloc (.cells #[.int .u64 0, .int .u64 0, .int .u64 0, .int .u64 0, .int .u64 0] 99))
    (fun _ _ i _ => (intOf i + 1).toNat)
  case atStart => exact ⟨0, by omega, rfl, rfl, rfl, rfl⟩
  case round =>
    obtain ⟨k, hk, rfl, rfl, rfl, rfl⟩ := hrel
    have hbl : Below w.heap.size w (w.alloc (.cells #[.int .u64 0, .int .u64 0, .int .u64 0, .int .u64 0, .int .u64 0] 99)) := (Below.refl _ _).alloc (Nat.le_refl _) _
    by_cases hlt : k < 8
    · obtain ⟨j, hj⟩ : ∃ j : Nat, (7 : Int) - k = j := ⟨7 - k, by omega⟩
      have hjk : j = 7 - k := by omega
      have hj7 : j ≤ 7 := by omega
      obtain ⟨x, hx⟩ : ∃ x, x = l.getD j 0 := ⟨_, rfl⟩
      obtain ⟨y, hy⟩ : ∃ y, y = l.getD (8 + j) 0 := ⟨_, rfl⟩
      have c1 := HC.out _ hbl j (by omega)
      have c2 := HC.out _ hbl (8 + j) (by omega)
      rw [← hx] at c1
      rw [← hy] at c2
      have b1 := revN_56 (fun i => l.getD i 0) k hlt
      have b2 := revN_56 (fun i => l.getD (8 + i) 0) k hlt
      have e1 : revN (fun i => l.getD i 0) (k + 1) = x.toNat + 256 * revN (fun i => l.getD i 0) k := by rw [revN, ← hjk, hx]
      have e2 : revN (fun i => l.getD (8 + i) 0) (k + 1) = y.toNat + 256 * revN (fun i => l.getD (8 + i) 0) k := by rw [revN, ← hjk, hy]
      obtain ⟨p, hp⟩ : ∃ p, p = revN (fun i => l.getD i 0) k := ⟨_, rfl⟩
      obtain ⟨q, hq⟩ : ∃ q, q = revN (fun i => l.getD (8 + i) 0) k := ⟨_, rfl⟩
      rw [← hp] at b1 e1 ⊢
      rw [← hq] at b2 e2 ⊢
      rw [hj]
      have E1 := Lib.hid e1
      have E2 := Lib.hid e2
      have HJ := Lib.hid hj
      have hxl := x.toNat_lt
      have hyl := y.toNat_lt
      clear hp hq e1 e2 hj hjk hx hy hbl
      go_wp2
      go_roundw
      case rel => exact ⟨k + 1, by omega, by have := HJ.out; rw [show (7 : Int) - ((k + 1 : Nat) : Int) = (j : Int) - 1 by omega], by rw [E1.out, push8 p x.toNat b1 hxl], by rw [E2.out, push8 q y.toNat b2 hyl], by first | rfl | trivial⟩
      case measure => simp [intOf] <;> omega
    · have hk8 : k = 8 := by omega
      subst hk8
      have b1 : revN (fun i => l.getD i 0) 8 < 18446744073709551616 := revN_lt _ 8
      have b2 : revN (fun i => l.getD (8 + i) 0) 8 < 18446744073709551616 := revN_lt _ 8
      obtain ⟨p, hp⟩ : ∃ p, p = revN (fun i => l.getD i 0) 8 := ⟨_, rfl⟩
      obtain ⟨q, hq⟩ : ∃ q, q = revN (fun i => l.getD (8 + i) 0) 8 := ⟨_, rfl⟩
      rw [← hp] at b1 HREV ⊢
      rw [← hq] at b2 HREV ⊢
      clear hp hq hbl
      go_wp2
      have hv := limbs_raw p q top b1 b2 ht
      rw [HREV.out] at hv
      obtain ⟨l0, l1, l2, l3, l4⟩ := hv
      rw [l0, l1, l2, l3, l4]
      exact bodyPost_ret (v := .agg ((limbs5 (Pol.ofN (Pol.leN (l.take 16) + top * 340282366920938463463374607431768211456))).map u64v).toArray) (by simp [results, Tryd.results58, go_sem, limbs5, u64v]) rfl ⟨rfl, (Below.refl _ _).alloc (Nat.le_refl _) _⟩
end Go.Proofs.YtpkfbmafbkgcmaaDoor
