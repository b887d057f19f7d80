/-
  Tags in plain numbers: limbs of 26 bits, their value, carrying, products, and what is below 2^130 - 5 (no program in sight).
-/
import Derived.Test.YtoekopdogfnkhaaRows
set_option linter.unusedVariables false
set_option linter.unusedSimpArgs false
namespace Go.Con.Pol
/-- five limbs -/
structure L5 where
  a0 : Nat
  a1 : Nat
  a2 : Nat
  a3 : Nat
  a4 : Nat
def P : Nat := 1361129467683753853853498429727072845819
def L5.val (x : L5) : Nat := x.a0 + x.a1 * 67108864 + x.a2 * 4503599627370496 + x.a3 * 302231454903657293676544 + x.a4 * 20282409603651670423947251286016
def ofN (n : Nat) : L5 := ⟨n % 67108864, n / 67108864 % 67108864, n / 4503599627370496 % 67108864, n / 302231454903657293676544 % 67108864, n / 20282409603651670423947251286016⟩
theorem ofN_val (n : Nat) : (ofN n).val = n := by
  simp only [ofN, L5.val]; omega
/-- each limb has 26 bits, the second one some more -/
structure Low (x : L5) : Prop where
  h0 : x.a0 < 67108864
  h1 : x.a1 < 67110912
  h2 : x.a2 < 67108864
  h3 : x.a3 < 67108864
  h4 : x.a4 < 67108864
theorem ofN_low (n : Nat) (h : n < 1361129467683753853853498429727072845824) : Low (ofN n) := by
  constructor <;> simp only [ofN] <;> omega
def carry (x : L5) : L5 :=
  let b1 := x.a1 + x.a0 / 67108864
  let b2 := x.a2 + b1 / 67108864
  let b3 := x.a3 + b2 / 67108864
  let b4 := x.a4 + b3 / 67108864
  let b0 := x.a0 % 67108864 + 5 * (b4 / 67108864)
  ⟨b0 % 67108864, b1 % 67108864 + b0 / 67108864, b2 % 67108864, b3 % 67108864, b4 % 67108864⟩
theorem carry_val (x : L5) : (carry x).val + ((x.a4 + (x.a3 + (x.a2 + (x.a1 + x.a0 / 67108864) / 67108864) / 67108864) / 67108864) / 67108864) * P = x.val := by
  simp only [carry, L5.val, P]
  generalize e1 : x.a1 + x.a0 / 67108864 = b1
  generalize e2 : x.a2 + b1 / 67108864 = b2
  generalize e3 : x.a3 + b2 / 67108864 = b3
  generalize e4 : x.a4 + b3 / 67108864 = b4
  omega
theorem carry_mod (x : L5) : (carry x).val % P = x.val % P := by
  rw [← carry_val x, Nat.add_mul_mod_self_right]
theorem carry_low (x : L5) (h0 : x.a0 ≤ 1152921504606846976) (h1 : x.a1 ≤ 1152921504606846976) (h2 : x.a2 ≤ 1152921504606846976) (h3 : x.a3 ≤ 1152921504606846976) (h4 : x.a4 ≤ 1152921504606846976) : Low (carry x) := by
  constructor <;> simp only [carry] <;> omega
def mul (x y : L5) : L5 :=
  ⟨x.a0 * y.a0 + 5 * x.a1 * y.a4 + 5 * x.a2 * y.a3 + 5 * x.a3 * y.a2 + 5 * x.a4 * y.a1,
   x.a0 * y.a1 + x.a1 * y.a0 + 5 * x.a2 * y.a4 + 5 * x.a3 * y.a3 + 5 * x.a4 * y.a2,
   x.a0 * y.a2 + x.a1 * y.a1 + x.a2 * y.a0 + 5 * x.a3 * y.a4 + 5 * x.a4 * y.a3,
   x.a0 * y.a3 + x.a1 * y.a2 + x.a2 * y.a1 + x.a3 * y.a0 + 5 * x.a4 * y.a4,
   x.a0 * y.a4 + x.a1 * y.a3 + x.a2 * y.a2 + x.a3 * y.a1 + x.a4 * y.a0⟩
def over (x y : L5) : Nat :=
  x.a1 * y.a4 + x.a2 * y.a3 + x.a3 * y.a2 + x.a4 * y.a1 + (x.a2 * y.a4 + x.a3 * y.a3 + x.a4 * y.a2) * 67108864 + (x.a3 * y.a4 + x.a4 * y.a3) * 4503599627370496 + x.a4 * y.a4 * 302231454903657293676544
theorem mul_val (x y : L5) : (mul x y).val + over x y * P = x.val * y.val := by
  simp only [mul, over, L5.val, P]
  grind
theorem mul_mod (x y : L5) : (mul x y).val % P = x.val * y.val % P := by
  rw [← mul_val x y, Nat.add_mul_mod_self_right]
/-- below P -/
def whole (x : L5) : L5 :=
  let z := carry x
  let y0 := z.a0 + 5
  let y1 := z.a1 + y0 / 67108864
  let y2 := z.a2 + y1 / 67108864
  let y3 := z.a3 + y2 / 67108864
  let y4 := z.a4 + y3 / 67108864
  if y4 / 67108864 = 0 then z else ⟨y0 % 67108864, y1 % 67108864, y2 % 67108864, y3 % 67108864, y4 % 67108864⟩
theorem whole_val (x : L5) (h : Low (carry x)) : (whole x).val = x.val % P := by
  rw [← carry_mod x]
  obtain ⟨h0, h1, h2, h3, h4⟩ := h
  generalize hz : carry x = z at h0 h1 h2 h3 h4
  have hw : whole x = (if (z.a4 + (z.a3 + (z.a2 + (z.a1 + (z.a0 + 5) / 67108864) / 67108864) / 67108864) / 67108864) / 67108864 = 0 then z else ⟨(z.a0 + 5) % 67108864, (z.a1 + (z.a0 + 5) / 67108864) % 67108864, (z.a2 + (z.a1 + (z.a0 + 5) / 67108864) / 67108864) % 67108864, (z.a3 + (z.a2 + (z.a1 + (z.a0 + 5) / 67108864) / 67108864) / 67108864) % 67108864, (z.a4 + (z.a3 + (z.a2 + (z.a1 + (z.a0 + 5) / 67108864) / 67108864) / 67108864) / 67108864) % 67108864⟩) := by
    rw [← hz]; rfl
  rw [hw]
  generalize e1 : z.a1 + (z.a0 + 5) / 67108864 = b1
  generalize e2 : z.a2 + b1 / 67108864 = b2
  generalize e3 : z.a3 + b2 / 67108864 = b3
  generalize e4 : z.a4 + b3 / 67108864 = b4
  by_cases hb : b4 / 67108864 = 0
  · rw [if_pos hb, Nat.mod_eq_of_lt]
    simp only [L5.val, P]
    omega
  · rw [if_neg hb]
    have hlt : z.val - P < P := by simp only [L5.val, P]; omega
    have hge : P ≤ z.val := by simp only [L5.val, P]; omega
    rw [Nat.mod_eq_sub_mod hge, Nat.mod_eq_of_lt hlt]
    simp only [L5.val, P]
    omega
theorem whole_low (x : L5) (h : Low (carry x)) : Low (whole x) := by
  unfold whole
  dsimp only
  split
  · exact h
  · constructor <;> simp only <;> omega
/-- the number of bytes, the lowest one first -/
def leN : List UInt8 → Nat
  | [] => 0
  | b :: l => b.toNat + 256 * leN l
theorem leN_lt : ∀ l : List UInt8, leN l < 256 ^ l.length
  | [] => by simp [leN]
  | b :: l => by
    have h := leN_lt l
    have hb := b.toNat_lt
    simp only [leN, List.length_cons, Nat.pow_succ]
    omega
theorem leN_append : ∀ (l m : List UInt8), leN (l ++ m) = leN l + 256 ^ l.length * leN m
  | [], m => by simp [leN]
  | b :: l, m => by
    simp only [List.cons_append, leN, leN_append l m, List.length_cons, Nat.pow_succ]
    rw [Nat.mul_add, Nat.mul_comm (256 ^ l.length) 256, Nat.mul_assoc]; omega
theorem leN_noughts : ∀ n, leN (List.replicate n 0) = 0
  | 0 => rfl
  | n + 1 => by simp [List.replicate_succ, leN, leN_noughts n]
/-- so many bytes of a number -/
def leB : Nat → Nat → List UInt8
  | 0, _ => []
  | k + 1, n => UInt8.ofNat n :: leB k (n / 256)
theorem leB_length : ∀ k n, (leB k n).length = k
  | 0, _ => rfl
  | k + 1, n => by simp [leB, leB_length k]
theorem leB_leN : ∀ l : List UInt8, leB l.length (leN l) = l
  | [] => rfl
  | b :: l => by
    have hb := b.toNat_lt
    simp only [List.length_cons, leB, leN]
    rw [show (b.toNat + 256 * leN l) / 256 = leN l by omega, leB_leN l]
    congr 1
    apply UInt8.toNat_inj.1
    rw [UInt8.toNat_ofNat']
    omega
theorem leN_leB : ∀ k n, leN (leB k n) = n % 256 ^ k
  | 0, n => by simp [leB, leN, Nat.mod_one]
  | k + 1, n => by
    rw [leB, leN, leN_leB k, UInt8.toNat_ofNat']
    show n % 256 + 256 * (n / 256 % 256 ^ k) = n % (256 ^ k * 256)
    rw [Nat.mul_comm (256 ^ k) 256, Nat.mod_mul]
theorem leB_mod : ∀ k n, leB k (n % 256 ^ k) = leB k n
  | 0, _ => rfl
  | k + 1, n => by
    have h1 : n % 256 ^ (k + 1) / 256 = n / 256 % 256 ^ k := by
      rw [Nat.pow_succ, Nat.mul_comm, Nat.mod_mul_right_div_self]
    have h2 : n % 256 ^ (k + 1) % 256 = n % 256 := by
      rw [Nat.pow_succ, Nat.mul_comm, Nat.mod_mul_right_mod]
    simp only [leB]
    rw [h1, leB_mod k]
    congr 1
    apply UInt8.toNat_inj.1
    rw [UInt8.toNat_ofNat', UInt8.toNat_ofNat']
    exact h2
/-- what is gathered of data, sixteen bytes a round -/
def accF (r : Nat) : Nat → Nat → List UInt8 → Nat
  | 0, a, _ => a
  | f + 1, a, l => if l = [] then a else accF r f ((a + (leN (l.take 16) + 256 ^ (min 16 l.length))) * r % P) (l.drop 16)
theorem accF_nil (r f a : Nat) : accF r f a [] = a := by
  cases f with
  | zero => rfl
  | succ f => simp [accF]
theorem accF_more (r : Nat) : ∀ (f g a : Nat) (l : List UInt8), l.length ≤ f → l.length ≤ g → accF r f a l = accF r g a l
  | 0, g, a, l, h, _ => by
    have : l = [] := List.eq_nil_of_length_eq_zero (by omega)
    subst this
    rw [accF_nil, accF_nil]
  | f + 1, 0, a, l, _, h => by
    have : l = [] := List.eq_nil_of_length_eq_zero (by omega)
    subst this
    rw [accF_nil, accF_nil]
  | f + 1, g + 1, a, l, h1, h2 => by
    by_cases hl : l = []
    · subst hl; rw [accF_nil, accF_nil]
    · have hp : 0 < l.length := List.length_pos_iff.2 hl
      simp only [accF, if_neg hl]
      exact accF_more r f g _ _ (by simp; omega) (by simp; omega)
def acc (r : Nat) (l : List UInt8) : Nat := accF r l.length 0 l
/-- clamped: bits that do not count -/
def clamp (k : List UInt8) : List UInt8 := ((((((((k.set 3 (k.getD 3 0 &&& 15)).set 7 (k.getD 7 0 &&& 15)).set 11 (k.getD 11 0 &&& 15)).set 15 (k.getD 15 0 &&& 15)).set 4 (k.getD 4 0 &&& 252)).set 8 (k.getD 8 0 &&& 252)).set 12 (k.getD 12 0 &&& 252)))
/-- the tag -/
def tag (key data : List UInt8) : List UInt8 := leB 16 (acc (leN (clamp (key.take 16))) data + leN ((key.drop 16).take 16))
theorem tag_length (key data : List UInt8) : (tag key data).length = 16 := leB_length _ _
end Go.Con.Pol
