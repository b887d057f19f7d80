/-
  Bits of int64 that may be below 0.
-/
import Derived.Test.YthoganfinpfibaaWld
import Derived.WalkKit
import Derived.Laws.BitsLemmas
set_option linter.unusedVariables false
set_option linter.unusedSimpArgs false
namespace Go.Con
open Go
theorem wrap_i64_toNat (z : BitVec 64) : IntKind.i64.wrap (z.toNat : Int) = z.toInt := by
  rw [BitVec.toInt_eq_toNat_cond]
  have := z.isLt
  rw [IntKind.wrap_i64]
  split <;> omega
theorem ofInt_toInt64 (z : BitVec 64) : BitVec.ofInt 64 z.toInt = z := BitVec.ofInt_toInt
theorem toInt_ofInt64 (x : Int) (h1 : -9223372036854775808 ≤ x) (h2 : x ≤ 9223372036854775807) : (BitVec.ofInt 64 x).toInt = x := by
  rw [BitVec.toInt_ofInt, Int.bmod]
  split <;> omega
theorem xor_i64 (x y : Int) : bits .xor .i64 x y = (BitVec.ofInt 64 x ^^^ BitVec.ofInt 64 y).toInt := wrap_i64_toNat _
theorem and_i64 (x y : Int) : bits .and .i64 x y = (BitVec.ofInt 64 x &&& BitVec.ofInt 64 y).toInt := wrap_i64_toNat _
/-- swapping by a mask -/
theorem swap_one (x y : Int) (h1 : -9223372036854775808 ≤ y) (h2 : y ≤ 9223372036854775807) : bits .xor .i64 x (bits .and .i64 (-1) (bits .xor .i64 x y)) = y := by
  have e : BitVec.ofInt 64 (-1) = BitVec.allOnes 64 := by decide
  rw [xor_i64 x, and_i64, xor_i64, ofInt_toInt64, ofInt_toInt64, e, BitVec.allOnes_and, ← BitVec.xor_assoc, BitVec.xor_self, BitVec.zero_xor]
  exact toInt_ofInt64 y h1 h2
theorem swap_one' (x y : Int) (h1 : -9223372036854775808 ≤ x) (h2 : x ≤ 9223372036854775807) : bits .xor .i64 y (bits .and .i64 (-1) (bits .xor .i64 x y)) = x := by
  have e : BitVec.ofInt 64 (-1) = BitVec.allOnes 64 := by decide
  rw [xor_i64 y, and_i64, xor_i64, ofInt_toInt64, ofInt_toInt64, e, BitVec.allOnes_and, BitVec.xor_comm (BitVec.ofInt 64 x), ← BitVec.xor_assoc, BitVec.xor_self, BitVec.zero_xor]
  exact toInt_ofInt64 x h1 h2
theorem swap_none (x z : Int) (h1 : -9223372036854775808 ≤ x) (h2 : x ≤ 9223372036854775807) : bits .xor .i64 x (bits .and .i64 0 z) = x := by
  have e : BitVec.ofInt 64 0 = 0#64 := by decide
  rw [xor_i64 x, and_i64, ofInt_toInt64, e, BitVec.zero_and, BitVec.xor_zero]
  exact toInt_ofInt64 x h1 h2
theorem swap_i64 (x y so : Int) (hso : so = 0 ∨ so = 1) (h1 : -9223372036854775808 ≤ x) (h2 : x ≤ 9223372036854775807) (h3 : -9223372036854775808 ≤ y) (h4 : y ≤ 9223372036854775807) :
    bits .xor .i64 x (bits .and .i64 (-so) (bits .xor .i64 x y)) = (if so = 1 then y else x) ∧ bits .xor .i64 y (bits .and .i64 (-so) (bits .xor .i64 x y)) = (if so = 1 then x else y) := by
  rcases hso with rfl | rfl
  · exact ⟨swap_none x _ h1 h2, swap_none y _ h3 h4⟩
  · exact ⟨swap_one x y h3 h4, swap_one' x y h1 h2⟩
theorem mask_nat (a : Int) (m n : Nat) (hm : m = 2 ^ n - 1) (hn : n ≤ 62) : bits .and .i64 a (m : Int) = (((a % 18446744073709551616).toNat % 2 ^ n : Nat) : Int) := by
  have hp : 2 ^ n ≤ 2 ^ 62 := Nat.pow_le_pow_right (by decide) hn
  have hlt : (a % 18446744073709551616).toNat % 2 ^ n < 2 ^ n := Nat.mod_lt _ (Nat.two_pow_pos n)
  have hm64 : m % 18446744073709551616 = m := Nat.mod_eq_of_lt (by omega)
  rw [and_i64, ← wrap_i64_toNat, BitVec.toNat_and, BitVec.toNat_ofInt, BitVec.toNat_ofInt]
  have e1 : ((m : Int) % ((2 ^ 64 : Nat) : Int)).toNat = m := by
    have : ((2 ^ 64 : Nat) : Int) = 18446744073709551616 := by decide
    rw [this]; omega
  have e2 : (a % ((2 ^ 64 : Nat) : Int)) = a % 18446744073709551616 := by rfl
  rw [e1, e2, hm, Nat.and_two_pow_sub_one_eq_mod]
  exact IntWalk.i64_in _ (by omega)
theorem mask16 (a : Int) : bits .and .i64 a 65535 = a % 65536 := by
  have := mask_nat a 65535 16 (by decide) (by decide)
  rw [show ((65535 : Nat) : Int) = 65535 from rfl] at this
  rw [this, show (2 : Nat) ^ 16 = 65536 from rfl]; omega
theorem mask15 (a : Int) : bits .and .i64 a 32767 = a % 32768 := by
  have := mask_nat a 32767 15 (by decide) (by decide)
  rw [show ((32767 : Nat) : Int) = 32767 from rfl] at this
  rw [this, show (2 : Nat) ^ 15 = 32768 from rfl]; omega
theorem mask1 (a : Int) : bits .and .i64 a 1 = a % 2 := by
  have := mask_nat a 1 1 (by decide) (by decide)
  rw [show ((1 : Nat) : Int) = 1 from rfl] at this
  rw [this, show (2 : Nat) ^ 1 = 2 from rfl]; omega
theorem or_i64 (x y : Int) : bits .or .i64 x y = (BitVec.ofInt 64 x ||| BitVec.ofInt 64 y).toInt := wrap_i64_toNat _
/-- two bytes -/
theorem or_two (a b : Nat) (ha : a < 256) (hb : b < 256) : bits .or .i64 (a : Int) ((b : Int) * 256) = (a : Int) + 256 * (b : Int) := by
  have e : ((b : Int) * 256) = ((b * 256 : Nat) : Int) := by omega
  have h := Nat.shiftLeft_add_eq_or_of_lt (show a < 2 ^ 8 by omega) b
  rw [Nat.shiftLeft_eq, show (2 : Nat) ^ 8 = 256 from rfl] at h
  rw [e, or_i64, ← wrap_i64_toNat, BitVec.toNat_or, BitVec.ofInt_natCast, BitVec.ofInt_natCast, BitVec.toNat_ofNat, BitVec.toNat_ofNat, Nat.mod_eq_of_lt (by omega), Nat.mod_eq_of_lt (by omega), Nat.or_comm, ← h]
  rw [IntWalk.i64_in _ (by omega)]; omega
end Go.Con
