/-
  HMAC and the drawing of keys, as plain functions on bytes.
-/
import Derived.Test.YtdkbajdnckmckaaShaS
set_option linter.unusedVariables false
set_option linter.unusedSimpArgs false
namespace Go.Con.Sha
/-- a key as it is padded: longer ones by their digest -/
def padKey (key : List UInt8) (x : UInt8) : List UInt8 :=
  let k := if 64 < key.length then sum key else key
  (k ++ List.replicate (64 - k.length) 0).map (· ^^^ x)
theorem padKey_length (key : List UInt8) (x : UInt8) : (padKey key x).length = 64 := by
  unfold padKey
  have : (if 64 < key.length then sum key else key).length ≤ 64 := by
    split
    · rw [sum_length]; decide
    · omega
  simp; omega
def mac (key b : List UInt8) : List UInt8 := sum (padKey key 92 ++ sum (padKey key 54 ++ b))
theorem mac_length (key b : List UInt8) : (mac key b).length = 32 := rfl
/-- the i-th piece that is drawn -/
def piece (key info : List UInt8) : Nat → List UInt8
  | 0 => []
  | i + 1 => mac key (piece key info i ++ info ++ [UInt8.ofNat (i + 1)])
def pieces (key info : List UInt8) : Nat → List UInt8
  | 0 => []
  | i + 1 => pieces key info i ++ piece key info (i + 1)
theorem piece_length (key info : List UInt8) (i : Nat) : (piece key info (i + 1)).length = 32 := rfl
theorem pieces_length (key info : List UInt8) (i : Nat) : (pieces key info i).length = 32 * i := by
  induction i with
  | zero => rfl
  | succ i ih => rw [pieces, List.length_append, ih, piece_length]; omega
/-- so many pieces are drawn for n bytes -/
def need (n : Nat) : Nat := (n + 31) / 32
def draw (secret salt info : List UInt8) (n : Nat) : List UInt8 := (pieces (mac salt secret) info (need n)).take n
theorem draw_length (secret salt info : List UInt8) (n : Nat) : (draw secret salt info n).length = n := by
  rw [draw, List.length_take, pieces_length, need]; omega
theorem pieces_pre (key info : List UInt8) (i j : Nat) (h : i ≤ j) : (pieces key info j).take (32 * i) = pieces key info i := by
  induction j with
  | zero => obtain rfl : i = 0 := by omega
            rfl
  | succ j ih =>
    by_cases hj : i = j + 1
    · subst hj; rw [List.take_of_length_le (by rw [pieces_length]; omega)]
    · rw [pieces, List.take_append_of_le_length (by rw [pieces_length]; omega), ih (by omega)]
theorem draw_pre (secret salt info : List UInt8) (n m : Nat) (h : m ≤ n) : (draw secret salt info n).take m = draw secret salt info m := by
  unfold draw
  rw [List.take_take, Nat.min_eq_left h, ← pieces_pre _ info (need m) (need n) (by unfold need; omega), List.take_take, Nat.min_eq_left (by unfold need; omega)]
end Go.Con.Sha
