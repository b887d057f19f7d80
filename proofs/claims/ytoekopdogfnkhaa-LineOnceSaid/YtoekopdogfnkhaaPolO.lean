/-
  The plain law of poly.tag's last loops: limbs are gathered into bytes.
-/
import Derived.Test.YtoekopdogfnkhaaPolN
set_option linter.unusedVariables false
set_option linter.unusedSimpArgs false
namespace Go.Con.Pol
/-- the limbs' sum so far -/
def part (f : Nat → Nat) : Nat → Nat
  | 0 => 0
  | k + 1 => part f k + f k * 2 ^ (26 * k)
theorem leB_more : ∀ (n T : Nat), leB (n + 1) T = leB n T ++ [UInt8.ofNat (T / 256 ^ n)]
  | 0, T => by simp [leB]
  | n + 1, T => by
    rw [leB, leB_more n (T / 256), leB, List.cons_append, Nat.div_div_eq_div_mul, Nat.pow_succ, Nat.mul_comm 256]
theorem pow_parts (n k : Nat) (h : 8 * n ≤ 26 * k) : 2 ^ (26 * k) = 256 ^ n * 2 ^ (26 * k - 8 * n) := by
  rw [show (256 : Nat) = 2 ^ 8 from rfl, ← Nat.pow_mul, ← Nat.pow_add]
  congr 1
  omega
theorem low_add (T x n k : Nat) (h : 8 * n ≤ 26 * k) : (T + x * 2 ^ (26 * k)) / 256 ^ n = T / 256 ^ n + x * 2 ^ (26 * k - 8 * n) := by
  rw [pow_parts n k h, show x * (256 ^ n * 2 ^ (26 * k - 8 * n)) = 256 ^ n * (x * 2 ^ (26 * k - 8 * n)) by rw [Nat.mul_left_comm]]
  exact Nat.add_mul_div_left _ _ (Nat.pow_pos (by decide))
theorem leB_add (T x n k : Nat) (h : 8 * n ≤ 26 * k) : leB n (T + x * 2 ^ (26 * k)) = leB n T := by
  rw [← leB_mod n (T + _), ← leB_mod n T, pow_parts n k h, show x * (256 ^ n * 2 ^ (26 * k - 8 * n)) = 256 ^ n * (x * 2 ^ (26 * k - 8 * n)) by rw [Nat.mul_left_comm], Nat.add_mul_mod_self_left]
theorem part_bound (f : Nat → Nat) (hf : ∀ j, f j ≤ 134221824) : ∀ k, part f k < 4 * 2 ^ (26 * k)
  | 0 => by simp [part]
  | k + 1 => by
    have ih := part_bound f hf k
    have h2 : 2 ^ (26 * (k + 1)) = 67108864 * 2 ^ (26 * k) := by rw [show 26 * (k + 1) = 26 + 26 * k by omega, Nat.pow_add]
    have hm : f k * 2 ^ (26 * k) ≤ 134221824 * 2 ^ (26 * k) := Nat.mul_le_mul_right _ (hf k)
    rw [part, h2]
    omega
theorem low_bound2 (f : Nat → Nat) (hf : ∀ j, f j ≤ 134221824) (k n : Nat) (h : 8 * n ≤ 26 * k) : part f k / 256 ^ n < 4 * 2 ^ (26 * k - 8 * n) := by
  rw [Nat.div_lt_iff_lt_mul (Nat.pow_pos (by decide))]
  have hb := part_bound f hf k
  rw [pow_parts n k h] at hb
  rw [Nat.mul_assoc, Nat.mul_comm (2 ^ _)]
  exact hb
end Go.Con.Pol
