/-
  What Go's operations on uint8, uint32 and uint64 are in the walk, said of Lean's UInt8, UInt32 and UInt64: each is folded back into one number of that type.
-/
import Derived.WalkKit
set_option linter.unusedVariables false
set_option linter.unusedSimpArgs false
namespace Go.Con
open Go

theorem ofInt8 (x : UInt8) : BitVec.ofInt 8 (x.toNat : Int) = x.toBitVec := by
  apply BitVec.eq_of_toNat_eq; simp
theorem ofInt32 (x : UInt32) : BitVec.ofInt 32 (x.toNat : Int) = x.toBitVec := by
  apply BitVec.eq_of_toNat_eq; simp
theorem ofInt64 (x : UInt64) : BitVec.ofInt 64 (x.toNat : Int) = x.toBitVec := by
  apply BitVec.eq_of_toNat_eq; simp
theorem wrapb8 (x : BitVec 8) : IntKind.u8.wrap (x.toNat : Int) = x.toNat := by
  have := x.isLt; exact IntWalk.u8_in _ (by omega)
theorem wrapb32 (x : BitVec 32) : IntKind.u32.wrap (x.toNat : Int) = x.toNat := by
  have := x.isLt; exact IntWalk.u32_in _ (by omega)
theorem wrapb64 (x : BitVec 64) : IntKind.u64.wrap (x.toNat : Int) = x.toNat := by
  have := x.isLt; exact IntWalk.u64_in _ (by omega)

theorem u8_xorF (x y : UInt8) : bits .xor .u8 (x.toNat : Int) (y.toNat : Int) = ((x ^^^ y).toNat : Int) := by
  show IntKind.u8.wrap ((BitVec.ofInt 8 (x.toNat : Int) ^^^ BitVec.ofInt 8 (y.toNat : Int)).toNat : Int) = _
  rw [ofInt8, ofInt8, wrapb8]; rfl
theorem u8_orF (x y : UInt8) : bits .or .u8 (x.toNat : Int) (y.toNat : Int) = ((x ||| y).toNat : Int) := by
  show IntKind.u8.wrap ((BitVec.ofInt 8 (x.toNat : Int) ||| BitVec.ofInt 8 (y.toNat : Int)).toNat : Int) = _
  rw [ofInt8, ofInt8, wrapb8]; rfl
theorem u8_andF (x y : UInt8) : bits .and .u8 (x.toNat : Int) (y.toNat : Int) = ((x &&& y).toNat : Int) := by
  show IntKind.u8.wrap ((BitVec.ofInt 8 (x.toNat : Int) &&& BitVec.ofInt 8 (y.toNat : Int)).toNat : Int) = _
  rw [ofInt8, ofInt8, wrapb8]; rfl
theorem u32_xorF (x y : UInt32) : bits .xor .u32 (x.toNat : Int) (y.toNat : Int) = ((x ^^^ y).toNat : Int) := by
  show IntKind.u32.wrap ((BitVec.ofInt 32 (x.toNat : Int) ^^^ BitVec.ofInt 32 (y.toNat : Int)).toNat : Int) = _
  rw [ofInt32, ofInt32, wrapb32]; rfl
theorem u32_orF (x y : UInt32) : bits .or .u32 (x.toNat : Int) (y.toNat : Int) = ((x ||| y).toNat : Int) := by
  show IntKind.u32.wrap ((BitVec.ofInt 32 (x.toNat : Int) ||| BitVec.ofInt 32 (y.toNat : Int)).toNat : Int) = _
  rw [ofInt32, ofInt32, wrapb32]; rfl
theorem u32_andF (x y : UInt32) : bits .and .u32 (x.toNat : Int) (y.toNat : Int) = ((x &&& y).toNat : Int) := by
  show IntKind.u32.wrap ((BitVec.ofInt 32 (x.toNat : Int) &&& BitVec.ofInt 32 (y.toNat : Int)).toNat : Int) = _
  rw [ofInt32, ofInt32, wrapb32]; rfl
theorem u32_notF (x : UInt32) : bits .xor .u32 4294967295 (x.toNat : Int) = ((~~~x).toNat : Int) := by
  show IntKind.u32.wrap ((BitVec.ofInt 32 4294967295 ^^^ BitVec.ofInt 32 (x.toNat : Int)).toNat : Int) = _
  rw [ofInt32, wrapb32]
  have : (BitVec.ofInt 32 4294967295 ^^^ x.toBitVec) = ~~~x.toBitVec := by
    have h : BitVec.ofInt 32 4294967295 = BitVec.allOnes 32 := by decide
    rw [h, BitVec.allOnes_xor]
  rw [this]; rfl
theorem u32_addF (x y : UInt32) : IntKind.u32.wrap ((x.toNat : Int) + (y.toNat : Int)) = ((x + y).toNat : Int) := by
  rw [IntKind.wrap_u32', UInt32.toNat_add]; omega
theorem u32_shlF (x : UInt32) (n : Nat) : IntKind.u32.wrap ((x.toNat : Int) * 2 ^ n) = (((x.toNat <<< n) % 4294967296 : Nat) : Int) := by
  rw [IntKind.wrap_u32', Nat.shiftLeft_eq]
  have : ((x.toNat : Int) * 2 ^ n) = ((x.toNat * 2 ^ n : Nat) : Int) := by simp
  rw [this]; omega

theorem shl32 (x : UInt32) (n : Nat) (m : UInt32) (p : Int) (hn : n < 32) (hm : m.toNat = n) (hp : p = ((2 ^ n : Nat) : Int)) : (x.toNat : Int) * p % 4294967296 = ((x <<< m).toNat : Int) := by
  subst hp
  rw [UInt32.toNat_shiftLeft, hm, Nat.mod_eq_of_lt hn, Nat.shiftLeft_eq]
  rw [show ((x.toNat : Int) * ((2 ^ n : Nat) : Int)) = ((x.toNat * 2 ^ n : Nat) : Int) by simp]
  omega
theorem shr32 (x : UInt32) (n : Nat) (m : UInt32) (p : Int) (hn : n < 32) (hm : m.toNat = n) (hp : p = ((2 ^ n : Nat) : Int)) : (x.toNat : Int) / p = ((x >>> m).toNat : Int) := by
  subst hp
  rw [UInt32.toNat_shiftRight, hm, Nat.mod_eq_of_lt hn, Nat.shiftRight_eq_div_pow]
  simp
theorem up32 (b : UInt8) : (b.toNat : Int) % 4294967296 = (b.toUInt32.toNat : Int) := by
  have := b.toNat_lt; rw [UInt8.toNat_toUInt32]; omega
/-- four bytes as a word, the highest one first, as the walk has it -/
theorem word_raw (x0 x1 x2 x3 : UInt8) :
    bits .or .u32 (bits .or .u32 (bits .or .u32 ((x0.toNat : Int) % 4294967296 * 16777216 % 4294967296) ((x1.toNat : Int) % 4294967296 * 65536 % 4294967296)) ((x2.toNat : Int) % 4294967296 * 256 % 4294967296)) ((x3.toNat : Int) % 4294967296)
      = ((x0.toUInt32 <<< 24 ||| x1.toUInt32 <<< 16 ||| x2.toUInt32 <<< 8 ||| x3.toUInt32).toNat : Int) := by
  rw [up32, up32, up32, up32, shl32 _ 24 24 16777216 (by decide) rfl (by decide), shl32 _ 16 16 65536 (by decide) rfl (by decide), shl32 _ 8 8 256 (by decide) rfl (by decide), u32_orF, u32_orF, u32_orF]
end Go.Con
