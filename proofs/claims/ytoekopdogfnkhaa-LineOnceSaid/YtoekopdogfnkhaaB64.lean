/-
  Bits of an int that is not below nought: four bytes are one number.
-/
import Derived.WalkKit
set_option linter.unusedVariables false
set_option linter.unusedSimpArgs false
namespace Go.Con
open Go Go.RowKit
theorem or64 (x y : Nat) (hx : x < 9223372036854775808) (hy : y < 9223372036854775808) : bits .or .i64 (x : Int) (y : Int) = ((x ||| y : Nat) : Int) := by
  show IntKind.i64.wrap ((BitVec.ofInt 64 (x : Int) ||| BitVec.ofInt 64 (y : Int)).toNat : Int) = _
  have hxy : (x ||| y) < 2 ^ 63 := Nat.or_lt_two_pow hx hy
  rw [BitVec.ofInt_natCast, BitVec.ofInt_natCast, BitVec.toNat_or, BitVec.toNat_ofNat, BitVec.toNat_ofNat, Nat.mod_eq_of_lt (by omega), Nat.mod_eq_of_lt (by omega)]
  exact IntWalk.i64_in _ (by omega)
theorem and64 (x y : Nat) (hx : x < 9223372036854775808) (hy : y < 9223372036854775808) : bits .and .i64 (x : Int) (y : Int) = ((x &&& y : Nat) : Int) := by
  show IntKind.i64.wrap ((BitVec.ofInt 64 (x : Int) &&& BitVec.ofInt 64 (y : Int)).toNat : Int) = _
  have hxy : (x &&& y) < 2 ^ 63 := Nat.and_lt_two_pow x hy
  rw [BitVec.ofInt_natCast, BitVec.ofInt_natCast, BitVec.toNat_and, BitVec.toNat_ofNat, BitVec.toNat_ofNat, Nat.mod_eq_of_lt (by omega), Nat.mod_eq_of_lt (by omega)]
  exact IntWalk.i64_in _ (by omega)
/-- bits that are apart are added -/
theorem or_apart (a b i : Nat) (h : b < 2 ^ i) : (a * 2 ^ i ||| b) = a * 2 ^ i + b := by
  have := Nat.shiftLeft_add_eq_or_of_lt h a
  rw [Nat.shiftLeft_eq] at this
  exact this.symm
theorem four64 (x0 x1 x2 x3 : UInt8) :
    bits .or .i64 (bits .or .i64 (bits .or .i64 (wrap64 (wrap64 (x0.toNat : Int) * 16777216)) (wrap64 (wrap64 (x1.toNat : Int) * 65536))) (wrap64 (wrap64 (x2.toNat : Int) * 256))) (wrap64 (x3.toNat : Int))
      = ((x0.toNat * 16777216 + x1.toNat * 65536 + x2.toNat * 256 + x3.toNat : Nat) : Int) := by
  have h0 := x0.toNat_lt
  have h1 := x1.toNat_lt
  have h2 := x2.toNat_lt
  have h3 := x3.toNat_lt
  have w (n : Nat) (h : n < 9223372036854775808) : wrap64 (n : Int) = n := IntWalk.wrap64_in _ (by omega)
  rw [w _ (by omega), w _ (by omega), w _ (by omega), w _ (by omega)]
  rw [show (x0.toNat : Int) * 16777216 = ((x0.toNat * 16777216 : Nat) : Int) by omega, show (x1.toNat : Int) * 65536 = ((x1.toNat * 65536 : Nat) : Int) by omega, show (x2.toNat : Int) * 256 = ((x2.toNat * 256 : Nat) : Int) by omega]
  rw [w _ (by omega), w _ (by omega), w _ (by omega)]
  have e1 := or_apart x0.toNat (x1.toNat * 65536) 24 (by omega)
  have e2 := or_apart (x0.toNat * 256 + x1.toNat) (x2.toNat * 256) 16 (by omega)
  have e3 := or_apart (x0.toNat * 65536 + x1.toNat * 256 + x2.toNat) x3.toNat 8 (by omega)
  rw [or64 _ _ (by omega) (by omega)]
  rw [show (2 : Nat) ^ 24 = 16777216 by rfl] at e1
  rw [show (2 : Nat) ^ 16 = 65536 by rfl] at e2
  rw [show (2 : Nat) ^ 8 = 256 by rfl] at e3
  rw [e1, or64 _ _ (by omega) (by omega)]
  rw [show x0.toNat * 16777216 + x1.toNat * 65536 = (x0.toNat * 256 + x1.toNat) * 65536 by omega, e2, or64 _ _ (by omega) (by omega)]
  rw [show (x0.toNat * 256 + x1.toNat) * 65536 + x2.toNat * 256 = (x0.toNat * 65536 + x1.toNat * 256 + x2.toNat) * 256 by omega, e3]
end Go.Con

