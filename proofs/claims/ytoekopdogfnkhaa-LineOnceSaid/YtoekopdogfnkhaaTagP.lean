/-
  The plain laws of tags (no program in sight).
-/
import Derived.Test.YtoekopdogfnkhaaPolO
set_option linter.unusedVariables false
set_option linter.unusedSimpArgs false
namespace Go.Con.Pol
theorem accF_zero : ∀ (f : Nat) (l : List UInt8), accF 0 f 0 l = 0
  | 0, _ => rfl
  | f + 1, l => by
    rw [accF]
    split
    · rfl
    · rw [Nat.mul_zero, Nat.zero_mod]; exact accF_zero f _
theorem acc_zero (l : List UInt8) : acc 0 l = 0 := accF_zero _ _
theorem acc_nil (r : Nat) : acc r [] = 0 := rfl
theorem clamp_zero : leN (clamp (List.replicate 16 0)) = 0 := by decide
theorem clamp_one : leN (clamp (1 :: List.replicate 15 0)) = 1 := by decide
theorem tag_nil (key : List UInt8) (hk : key.length = 32) : tag key [] = key.drop 16 := by
  have hl : (key.drop 16).length = 16 := by simp [hk]
  have h := leB_leN (key.drop 16)
  rw [hl] at h
  rw [tag, acc_nil, Nat.zero_add, List.take_of_length_le (by omega)]
  exact h
theorem tag_nought (s data : List UInt8) (hs : s.length = 16) : tag (List.replicate 16 0 ++ s) data = s := by
  have h1 : (List.replicate 16 (0 : UInt8) ++ s).take 16 = List.replicate 16 0 := List.take_left' (by simp)
  have h2 : ((List.replicate 16 (0 : UInt8) ++ s).drop 16).take 16 = s := by
    rw [List.drop_left' (by simp)]; exact List.take_of_length_le (by omega)
  have h := leB_leN s
  rw [hs] at h
  rw [tag, h1, h2, clamp_zero, acc_zero, Nat.zero_add]
  exact h
/-- a sum of bytes, the lowest one first -/
def pre (g : Nat → Nat) : Nat → Nat
  | 0 => 0
  | k + 1 => pre g k + g k * 256 ^ k
theorem pre_step (g : Nat → Nat) (k : Nat) : pre g (k + 1) / 256 ^ k = pre g k / 256 ^ k + g k := by
  rw [pre]
  exact Nat.add_mul_div_right _ _ (Nat.pow_pos (by decide))
theorem pre_next (g : Nat → Nat) (k : Nat) : pre g (k + 1) / 256 ^ (k + 1) = (pre g k / 256 ^ k + g k) / 256 := by
  rw [Nat.pow_succ, ← Nat.div_div_eq_div_mul, pre_step]
theorem pre_byte (g : Nat → Nat) (i : Nat) : ∀ n, i < n → pre g n / 256 ^ i % 256 = (pre g i / 256 ^ i + g i) % 256
  | 0, h => absurd h (by omega)
  | n + 1, h => by
    by_cases hn : i = n
    · subst hn; rw [pre_step]
    · have ih := pre_byte g i n (by omega)
      rw [← ih, pre]
      have e : g n * 256 ^ n = g n * 256 ^ (n - i - 1) * 256 * 256 ^ i := by
        rw [Nat.mul_assoc, Nat.mul_assoc, ← Nat.pow_succ', ← Nat.pow_add]
        congr 2; omega
      rw [e, Nat.add_mul_div_right _ _ (Nat.pow_pos (by decide)), Nat.add_mul_mod_self_right]
theorem pre_add (g h : Nat → Nat) : ∀ n, pre (fun i => g i + h i) n = pre g n + pre h n
  | 0 => rfl
  | n + 1 => by rw [pre, pre, pre, pre_add g h n, Nat.add_mul]; omega
theorem pre_leN (l : List UInt8) : ∀ k, k ≤ l.length → pre (fun i => (l.getD i 0).toNat) k = leN (l.take k)
  | 0, _ => by simp [pre, leN]
  | k + 1, h => by
    rw [pre, pre_leN l k (by omega), List.take_succ_eq_append_getElem (by omega), leN_append]
    have e : (l.take k).length = k := by simp; omega
    rw [e, leN, leN]
    simp [show k < l.length by omega]
    rw [Nat.mul_comm]
theorem pre_all (l : List UInt8) (n : Nat) (h : l.length = n) : pre (fun i => (l.getD i 0).toNat) n = leN l := by
  rw [pre_leN l n (by omega), List.take_of_length_le (by omega)]
theorem pre_lt (g : Nat → Nat) (hg : ∀ i, g i ≤ 765) : ∀ k, pre g k / 256 ^ k ≤ 2
  | 0 => by simp [pre]
  | k + 1 => by
    have ih := pre_lt g hg k
    have := hg k
    rw [pre_next]
    omega
theorem leB_at : ∀ (n T i : Nat), i < n → ((leB n T).getD i 0).toNat = T / 256 ^ i % 256
  | 0, _, _, h => absurd h (by omega)
  | n + 1, T, 0, _ => by simp [leB, UInt8.toNat_ofNat']
  | n + 1, T, i + 1, h => by
    have ih := leB_at n (T / 256) i (by omega)
    rw [leB, List.getD_cons_succ, ih, Nat.div_div_eq_div_mul, Nat.pow_succ, Nat.mul_comm 256]
/-- the bytes of a sum, each with what is carried -/
theorem sum_byte (g : Nat → Nat) (T i : Nat) (hT : T % 256 ^ 16 = pre g 16 % 256 ^ 16) (hi : i < 16) : ((leB 16 T).getD i 0).toNat = (pre g i / 256 ^ i + g i) % 256 := by
  rw [← leB_mod 16 T, hT, leB_mod, leB_at 16 _ i hi, pre_byte g i 16 hi]
/-- the second half of the key is added -/
theorem tag_shift (a b s data : List UInt8) (ha : a.length = 16) (hs : s.length = 16) (hb : b = a ++ s) (i : Nat) (hi : i < 16) :
    ((tag b data).getD i 0).toNat = (pre (fun i => ((tag (a ++ List.replicate 16 0) data).getD i 0).toNat + (s.getD i 0).toNat) i / 256 ^ i + (((tag (a ++ List.replicate 16 0) data).getD i 0).toNat + (s.getD i 0).toNat)) % 256 := by
  have h1 : ∀ m : List UInt8, (a ++ m).take 16 = a := fun m => List.take_left' ha
  have h2 : ∀ m : List UInt8, m.length = 16 → ((a ++ m).drop 16).take 16 = m := fun m hm => by
    rw [List.drop_left' ha]; exact List.take_of_length_le (by omega)
  have hz : leN (List.replicate 16 0) = 0 := leN_noughts 16
  have e1 : tag b data = leB 16 (acc (leN (clamp a)) data + leN s) := by rw [hb, tag, h1, h2 s hs]
  have e2 : tag (a ++ List.replicate 16 0) data = leB 16 (acc (leN (clamp a)) data) := by rw [tag, h1, h2 _ (by simp), hz, Nat.add_zero]
  rw [e1, e2]
  refine sum_byte _ _ i ?_ hi
  have h3 := pre_add (fun i => ((leB 16 (acc (leN (clamp a)) data)).getD i 0).toNat) (fun i => (s.getD i 0).toNat) 16
  rw [h3, pre_all _ 16 (leB_length _ _), pre_all s 16 hs, leN_leB]
  omega
theorem tag_one (b s : List UInt8) (hb : b.length = 16) (hs : s.length = 16) (i : Nat) (hi : i < 16) :
    ((tag ((1 :: List.replicate 15 0) ++ s) b).getD i 0).toNat = (pre (fun i => (b.getD i 0).toNat + (s.getD i 0).toNat) i / 256 ^ i + ((b.getD i 0).toNat + (s.getD i 0).toNat)) % 256 := by
  have h1 : ((1 :: List.replicate 15 (0 : UInt8)) ++ s).take 16 = 1 :: List.replicate 15 0 := List.take_left' (by simp)
  have h2 : (((1 :: List.replicate 15 (0 : UInt8)) ++ s).drop 16).take 16 = s := by
    rw [List.drop_left' (by simp)]; exact List.take_of_length_le (by omega)
  have hbl := leN_lt b
  rw [hb] at hbl
  have ha : acc 1 b = leN b + 256 ^ 16 := by
    rw [acc, hb, accF, if_neg (by intro h; rw [h] at hb; cases hb), hb, List.take_of_length_le (by omega), List.drop_of_length_le (by omega), accF_nil, Nat.zero_add, Nat.mul_one]
    refine Nat.mod_eq_of_lt ?_
    rw [P, Nat.min_self]
    omega
  rw [tag, h1, h2, clamp_one, ha]
  refine sum_byte _ _ i ?_ hi
  have h3 := pre_add (fun i => (b.getD i 0).toNat) (fun i => (s.getD i 0).toNat) 16
  rw [h3, pre_all b 16 hb, pre_all s 16 hs]
  omega
theorem tag_two (x y s : List UInt8) (hx : x.length = 16) (hy : y.length = 16) (hs : s.length = 16) (hlow : leN y < 170141183460469231731687303715884105728) (i : Nat) (hi : i < 16) :
    ((tag ((1 :: List.replicate 15 0) ++ s) (x ++ y)).getD i 0).toNat = (pre (fun i => (x.getD i 0).toNat + (y.getD i 0).toNat + (s.getD i 0).toNat) i / 256 ^ i + ((x.getD i 0).toNat + (y.getD i 0).toNat + (s.getD i 0).toNat)) % 256 := by
  have h1 : ((1 :: List.replicate 15 (0 : UInt8)) ++ s).take 16 = 1 :: List.replicate 15 0 := List.take_left' (by simp)
  have h2 : (((1 :: List.replicate 15 (0 : UInt8)) ++ s).drop 16).take 16 = s := by
    rw [List.drop_left' (by simp)]; exact List.take_of_length_le (by omega)
  have hxl := leN_lt x
  rw [hx] at hxl
  have hxy : (x ++ y).length = 32 := by simp [hx, hy]
  have e1 : (x ++ y).take 16 = x := List.take_left' hx
  have e2 : (x ++ y).drop 16 = y := List.drop_left' hx
  have ha : acc 1 (x ++ y) = leN x + leN y + 2 * 256 ^ 16 := by
    rw [acc, hxy, accF, if_neg (by intro h; rw [h] at hxy; cases hxy), hxy, e1, e2, accF, if_neg (by intro h; rw [h] at hy; cases hy), hy, List.take_of_length_le (by omega), List.drop_of_length_le (by omega), accF_nil, Nat.zero_add, Nat.mul_one, Nat.mul_one]
    rw [show min 16 32 = 16 from rfl, Nat.min_self]
    rw [Nat.mod_eq_of_lt (b := P) (a := leN x + 256 ^ 16) (by rw [P]; omega), Nat.mod_eq_of_lt (by rw [P]; omega)]
    omega
  rw [tag, h1, h2, clamp_one, ha]
  refine sum_byte _ _ i ?_ hi
  have h3 := pre_add (fun i => (x.getD i 0).toNat + (y.getD i 0).toNat) (fun i => (s.getD i 0).toNat) 16
  have h4 := pre_add (fun i => (x.getD i 0).toNat) (fun i => (y.getD i 0).toNat) 16
  rw [h3, h4, pre_all x 16 hx, pre_all y 16 hy, pre_all s 16 hs]
  omega
end Go.Con.Pol
