/-
  The stream's blocks as plain functions on words and bytes.
-/
import Derived.Test.YtoekopdogfnkhaaBit
set_option linter.unusedVariables false
set_option linter.unusedSimpArgs false
namespace Go.Con.Cha
/-- a word, turned to the left -/
def rotl (x : UInt32) (n : Nat) : UInt32 := UInt32.ofNat ((x.toNat <<< n % 4294967296) ||| (x.toNat / 2 ^ (32 - n)))
def at0 (s : List UInt32) (i : Nat) : UInt32 := s.getD i 0
def add1 (s : List UInt32) (a b : Nat) : List UInt32 := s.set a (at0 s a + at0 s b)
def mix1 (s : List UInt32) (a d n : Nat) : List UInt32 := s.set d (rotl (at0 s d ^^^ at0 s a) n)
def turns (k : Nat) : Nat := match k with | 0 => 16 | 1 => 12 | 2 => 8 | _ => 7
/-- the words of a quarter of a round, in the k-th step -/
def pa (a c k : Nat) : Nat := if k % 2 = 0 then a else c
def qstep (s : List UInt32) (a b c d k : Nat) : List UInt32 := mix1 (add1 s (pa a c k) (pa b d k)) (pa a c k) (pa d b k) (turns k)
def qk (s : List UInt32) (a b c d : Nat) : Nat → List UInt32
  | 0 => s
  | k + 1 => qstep (qk s a b c d k) a b c d k
def quarter (s : List UInt32) (a b c d : Nat) : List UInt32 := qk s a b c d 4
theorem qk_length (s : List UInt32) (a b c d k : Nat) : (qk s a b c d k).length = s.length := by
  induction k with
  | zero => rfl
  | succ k ih => rw [qk, qstep, mix1, List.length_set, add1, List.length_set, ih]
/-- the columns, so many of them -/
def cols (s : List UInt32) : Nat → List UInt32
  | 0 => s
  | i + 1 => quarter (cols s i) i (4 + i) (8 + i) (12 + i)
/-- the diagonals -/
def diags (s : List UInt32) : Nat → List UInt32
  | 0 => s
  | i + 1 => quarter (diags s i) i (4 + (i + 1) % 4) (8 + (i + 2) % 4) (12 + (i + 3) % 4)
def rounds (s : List UInt32) : Nat → List UInt32
  | 0 => s
  | r + 1 => diags (cols (rounds s r) 4) 4
theorem cols_length (s : List UInt32) (i : Nat) : (cols s i).length = s.length := by
  induction i with
  | zero => rfl
  | succ i ih => rw [cols, quarter, qk_length, ih]
theorem diags_length (s : List UInt32) (i : Nat) : (diags s i).length = s.length := by
  induction i with
  | zero => rfl
  | succ i ih => rw [diags, quarter, qk_length, ih]
theorem rounds_length (s : List UInt32) (i : Nat) : (rounds s i).length = s.length := by
  induction i with
  | zero => rfl
  | succ i ih => rw [rounds, diags_length, cols_length, ih]
/-- a word of four bytes, the lowest one first -/
def word (b : List UInt8) (k : Nat) : UInt32 := (b.getD k 0).toUInt32 ||| (b.getD (k + 1) 0).toUInt32 <<< 8 ||| (b.getD (k + 2) 0).toUInt32 <<< 16 ||| (b.getD (k + 3) 0).toUInt32 <<< 24
def start (key : List UInt8) (counter : UInt32) (nonce : List UInt8) : List UInt32 :=
  [1634760805, 857760878, 2036477234, 1797285236, word key 0, word key 4, word key 8, word key 12, word key 16, word key 20, word key 24, word key 28, counter, word nonce 0, word nonce 4, word nonce 8]
/-- four bytes of a word, the lowest one first -/
def le4 (n : UInt32) : List UInt8 := [n.toUInt8, (n >>> 8).toUInt8, (n >>> 16).toUInt8, (n >>> 24).toUInt8]
def outs (x s : List UInt32) : Nat → List UInt8
  | 0 => []
  | i + 1 => outs x s i ++ le4 (at0 x i + at0 s i)
def block (key : List UInt8) (counter : UInt32) (nonce : List UInt8) : List UInt8 :=
  outs (rounds (start key counter nonce) 10) (start key counter nonce) 16
theorem outs_length (x s : List UInt32) (i : Nat) : (outs x s i).length = 4 * i := by
  induction i with
  | zero => rfl
  | succ i ih => rw [outs, List.length_append, ih]; simp [le4]; omega
theorem block_length (key : List UInt8) (counter : UInt32) (nonce : List UInt8) : (block key counter nonce).length = 64 := outs_length _ _ 16
end Go.Con.Cha
