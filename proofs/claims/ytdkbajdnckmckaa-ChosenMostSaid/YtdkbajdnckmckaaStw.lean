/-
  The walk of stable.write.
-/
import Derived.Test.YtdkbajdnckmckaaSt4
import Derived.Test.YtdkbajdnckmckaaShaM
set_option linter.unusedVariables false
set_option linter.unusedSimpArgs false
namespace Go.Con.Tp
/-- a record on a tape -/
def head (b : List UInt8) : List UInt8 := UInt8.ofNat b.length :: b
def frame (b : List UInt8) : List UInt8 := head b ++ (Sha.sum (head b)).take 4
end Go.Con.Tp
namespace Go.Proofs.Ytdkbajdnckmckaa
open Go.RowKit Go.Con
/-- a tape, or why not -/
def TapePost (w : World) (l : List UInt8) (s c : Int) (e : Ending) (w' : World) : Prop :=
  ∃ v', e = .returned (.tuple #[.agg #[v', .int .i64 s], .int .i64 c]) ∧ Own w' w.heap.size v' l ∧ Below w.heap.size w w'
theorem newOne (W : World) (n : Nat) (hn : n < 256) : Rd (W.alloc (.cells #[.int .u8 (n : Int)] 5)) (.slice (some ⟨W.heap.size, 0, none⟩) 1 1) [UInt8.ofNat n] := by
  have h := Rd.newRow W [UInt8.ofNat n] 1 rfl (by show 1 ≤ maxLen; decide)
  have e : [UInt8.ofNat n].map u8v = [.int .u8 (n : Int)] := by simp [u8v, UInt8.toNat_ofNat']; omega
  rw [e] at h; exact h
theorem newOneOwn (W : World) (n : Nat) (hn : n < 256) : Own (W.alloc (.cells #[.int .u8 (n : Int)] 5)) W.heap.size (.slice (some ⟨W.heap.size, 0, none⟩) 1 1) [UInt8.ofNat n] := by
  have h := ownNew W W.heap.size [UInt8.ofNat n] 1 rfl (Nat.le_refl _) (by show 1 ≤ maxLen; decide)
  have e : [UInt8.ofNat n].map u8v = [.int .u8 (n : Int)] := by simp [u8v, UInt8.toNat_ofNat']; omega
  rw [e] at h; exact h
end Go.Proofs.Ytdkbajdnckmckaa
