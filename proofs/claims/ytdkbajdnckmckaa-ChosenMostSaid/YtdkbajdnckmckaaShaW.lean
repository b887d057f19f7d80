/-
  The walks of package sha's inner functions: turning a word, and mixing in a block.
-/
import Derived.Test.YtdkbajdnckmckaaRows
import Derived.Test.YtdkbajdnckmckaaBit
import Derived.Test.YtdkbajdnckmckaaWld
import Derived.Test.YtdkbajdnckmckaaQt
import Derived.Test.YtdkbajdnckmckaaShaS
import Derived.WalkKit
import Derived.WalkSpells
import Derived.WalkLawsBesides
import Derived.BigQuiet
import Derived.Deep.QuietTactic
import Derived.LoopTactic
import Derived.Lib.Hide
set_option linter.unusedVariables false
set_option linter.unusedSimpArgs false
namespace Go.Proofs.Ytdkbajdnckmckaa
open Go.RowKit Go.Con

theorem rotrN (x : UInt32) (n : Nat) : bits .or .u32 ((x.toNat : Int) / 2 ^ n) ((x.toNat : Int) * 2 ^ (32 - n) % 4294967296) = ((Sha.rotr x n).toNat : Int) := by
  have h1 : ((x.toNat : Int) / 2 ^ n) = ((x.toNat / 2 ^ n : Nat) : Int) := by simp
  have h2 : ((x.toNat : Int) * 2 ^ (32 - n) % 4294967296) = ((x.toNat <<< (32 - n) % 4294967296 : Nat) : Int) := by
    rw [Nat.shiftLeft_eq]; simp
  rw [h1, h2, u32_or_nat _ _ (Nat.lt_of_le_of_lt (Nat.div_le_self _ _) x.toNat_lt) (Nat.mod_lt _ (by decide))]
  congr 1
  unfold Sha.rotr
  rw [UInt32.toNat_ofNat_of_lt']
  exact Nat.or_lt_two_pow (n := 32) (Nat.lt_of_le_of_lt (Nat.div_le_self _ _) x.toNat_lt) (Nat.mod_lt _ (by decide))

theorem notF (x : UInt32) : bits .xor .u32 IntKind.u32.max (x.toNat : Int) = ((~~~x).toNat : Int) := u32_notF x
theorem up_raw (s : Sha.D8) (k w : UInt32) :
    ((s.h.toNat : Int) + bits .xor .u32 (bits .xor .u32 ((Sha.rotr s.e 6).toNat : Int) ((Sha.rotr s.e 11).toNat : Int)) ((Sha.rotr s.e 25).toNat : Int) +
      bits .xor .u32 (bits .and .u32 (s.e.toNat : Int) (s.f.toNat : Int)) (bits .and .u32 (bits .xor .u32 IntKind.u32.max (s.e.toNat : Int)) (s.g.toNat : Int)) + (k.toNat : Int) + (w.toNat : Int)) % 4294967296
      = ((Sha.upOf s k w).toNat : Int) := by
  simp only [notF, u32_xorF, u32_andF, Sha.upOf, UInt32.toNat_add]
  omega
theorem down_raw (s : Sha.D8) :
    (bits .xor .u32 (bits .xor .u32 ((Sha.rotr s.a 2).toNat : Int) ((Sha.rotr s.a 13).toNat : Int)) ((Sha.rotr s.a 22).toNat : Int) +
      bits .xor .u32 (bits .xor .u32 (bits .and .u32 (s.a.toNat : Int) (s.b.toNat : Int)) (bits .and .u32 (s.a.toNat : Int) (s.c.toNat : Int))) (bits .and .u32 (s.b.toNat : Int) (s.c.toNat : Int))) % 4294967296
      = ((Sha.downOf s).toNat : Int) := by
  simp only [u32_xorF, u32_andF, Sha.downOf, UInt32.toNat_add]
  omega
theorem modAdd (a b : Int) (x y : UInt32) (ha : a % 4294967296 = (x.toNat : Int)) (hb : b % 4294967296 = (y.toNat : Int)) : (a + b) % 4294967296 = ((x + y).toNat : Int) := by
  rw [UInt32.toNat_add]; omega
theorem modSelf (y : UInt32) : (y.toNat : Int) % 4294967296 = (y.toNat : Int) := by
  have := y.toNat_lt; omega

def u32v (x : UInt32) : Value := .int .u32 x.toNat

end Go.Proofs.Ytdkbajdnckmckaa
