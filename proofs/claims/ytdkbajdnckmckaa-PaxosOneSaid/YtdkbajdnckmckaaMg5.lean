/-
  Texts put together: ShaS, ShaW, ShaT, ShaS2, ShaM.
-/
import Derived.Test.YtdkbajdnckmckaaRows
import Derived.Test.YtdkbajdnckmckaaMg1
import Derived.WalkKit
import Derived.WalkSpells
import Derived.WalkLawsBesides
import Derived.BigQuiet
import Derived.Deep.QuietTactic
import Derived.LoopTactic
import Derived.Lib.Hide
import Derived.Laws.CopyOwn
namespace Go.Con.Sha

def rotr (x : UInt32) (n : Nat) : UInt32 := UInt32.ofNat (x.toNat / 2 ^ n ||| (x.toNat <<< (32 - n)) % 4294967296)

def kn : List UInt32 := [
  1116352408, 1899447441, 3049323471, 3921009573, 961987163, 1508970993, 2453635748, 2870763221,
  3624381080, 310598401, 607225278, 1426881987, 1925078388, 2162078206, 2614888103, 3248222580,
  3835390401, 4022224774, 264347078, 604807628, 770255983, 1249150122, 1555081692, 1996064986,
  2554220882, 2821834349, 2952996808, 3210313671, 3336571891, 3584528711, 113926993, 338241895,
  666307205, 773529912, 1294757372, 1396182291, 1695183700, 1986661051, 2177026350, 2456956037,
  2730485921, 2820302411, 3259730800, 3345764771, 3516065817, 3600352804, 4094571909, 275423344,
  430227734, 506948616, 659060556, 883997877, 958139571, 1322822218, 1537002063, 1747873779,
  1955562222, 2024104815, 2227730452, 2361852424, 2428436474, 2756734187, 3204031479, 3329325298]

/-- four bytes as a word, the highest one first -/
def word (b : List UInt8) (i : Nat) : UInt32 :=
  (b.getD (4 * i) 0).toUInt32 <<< 24 ||| (b.getD (4 * i + 1) 0).toUInt32 <<< 16 ||| (b.getD (4 * i + 2) 0).toUInt32 <<< 8 ||| (b.getD (4 * i + 3) 0).toUInt32

def nextW (b : List UInt8) (l : List UInt32) (k : Nat) : UInt32 :=
  if k < 16 then word b k else
    l.getD (k - 16) 0 + l.getD (k - 7) 0 + (rotr (l.getD (k - 15) 0) 7 ^^^ rotr (l.getD (k - 15) 0) 18 ^^^ l.getD (k - 15) 0 >>> 3)
      + (rotr (l.getD (k - 2) 0) 17 ^^^ rotr (l.getD (k - 2) 0) 19 ^^^ l.getD (k - 2) 0 >>> 10)

/-- the first k words of the schedule -/
def sched (b : List UInt8) : Nat → List UInt32
  | 0 => []
  | k + 1 => let l := sched b k; l ++ [nextW b l k]

structure D8 where
  a : UInt32
  b : UInt32
  c : UInt32
  d : UInt32
  e : UInt32
  f : UInt32
  g : UInt32
  h : UInt32

def upOf (s : D8) (k w : UInt32) : UInt32 :=
  s.h + (rotr s.e 6 ^^^ rotr s.e 11 ^^^ rotr s.e 25) + (s.e &&& s.f ^^^ ~~~s.e &&& s.g) + k + w
def downOf (s : D8) : UInt32 :=
  (rotr s.a 2 ^^^ rotr s.a 13 ^^^ rotr s.a 22) + (s.a &&& s.b ^^^ s.a &&& s.c ^^^ s.b &&& s.c)
def stepD (s : D8) (k w : UInt32) : D8 :=
  { a := upOf s k w + downOf s, b := s.a, c := s.b, d := s.c, e := s.d + upOf s k w, f := s.e, g := s.f, h := s.g }

def rounds (ws : List UInt32) (s : D8) : Nat → D8
  | 0 => s
  | k + 1 => stepD (rounds ws s k) (kn.getD k 0) (ws.getD k 0)

def addD (x y : D8) : D8 :=
  { a := x.a + y.a, b := x.b + y.b, c := x.c + y.c, d := x.d + y.d, e := x.e + y.e, f := x.f + y.f, g := x.g + y.g, h := x.h + y.h }

def D8.toList (s : D8) : List UInt32 := [s.a, s.b, s.c, s.d, s.e, s.f, s.g, s.h]

/-- one block of 64 bytes -/
def blk (s : D8) (b : List UInt8) : D8 := addD s (rounds (sched b 64) s 64)

def d0 : D8 := { a := 1779033703, b := 3144134277, c := 1013904242, d := 2773480762, e := 1359893119, f := 2600822924, g := 528734635, h := 1541459225 }
/-- so many noughts behind n bytes and the one that begins the padding -/
def zeros (n : Nat) : Nat := (119 - n % 64) % 64
/-- the length's eight bytes, the highest one first: the first k of them -/
def len8 (n : Nat) (k : Nat) : List UInt8 := (List.range k).map fun j => UInt8.ofNat (n / 2 ^ (56 - 8 * j))
def padded (l : List UInt8) : List UInt8 := l ++ [128] ++ List.replicate (zeros l.length) 0 ++ len8 (8 * l.length) 8
/-- k blocks of 64 bytes -/
def blocks (p : List UInt8) : Nat → D8
  | 0 => d0
  | k + 1 => blk (blocks p k) ((p.drop (64 * k)).take 64)
def bytes4 (x : UInt32) : List UInt8 := [UInt8.ofNat (x.toNat / 16777216), UInt8.ofNat (x.toNat / 65536), UInt8.ofNat (x.toNat / 256), UInt8.ofNat x.toNat]
def sum (l : List UInt8) : List UInt8 := (blocks (padded l) ((padded l).length / 64)).toList.flatMap bytes4

theorem len8_succ (n k : Nat) : len8 n (k + 1) = len8 n k ++ [UInt8.ofNat (n / 2 ^ (56 - 8 * k))] := by
  simp [len8, List.range_succ]
theorem len8_length (n k : Nat) : (len8 n k).length = k := by simp [len8]
theorem padded_length (l : List UInt8) : (padded l).length % 64 = 0 ∧ 0 < (padded l).length ∧ (padded l).length = l.length + 9 + zeros l.length := by
  have h : (padded l).length = l.length + 9 + zeros l.length := by simp [padded, len8_length]; omega
  refine ⟨?_, by omega, h⟩
  rw [h]; unfold zeros; omega
theorem bytes4_length (x : UInt32) : (bytes4 x).length = 4 := rfl
theorem sum_length (l : List UInt8) : (sum l).length = 32 := rfl

def out (s : D8) (k : Nat) : List UInt8 := (s.toList.take k).flatMap bytes4
theorem out_succ (s : D8) (k : Nat) (h : k < 8) : out s (k + 1) = out s k ++ bytes4 (s.toList.getD k 0) := by
  have : k < s.toList.length := h
  simp only [out, List.take_succ_eq_append_getElem this, List.flatMap_append]
  simp [List.getD, this]
theorem out_length (s : D8) (k : Nat) (h : k ≤ 8) : (out s k).length = 4 * k := by
  have : ∀ l : List UInt32, (l.flatMap bytes4).length = 4 * l.length := by
    intro l
    induction l with
    | nil => rfl
    | cons x l ih => simp only [List.flatMap_cons, List.length_append, List.length_cons, ih, bytes4_length]; omega
  rw [out, this, List.length_take]
  have : s.toList.length = 8 := rfl
  omega

theorem sched_length (b : List UInt8) (k : Nat) : (sched b k).length = k := by
  induction k with
  | zero => rfl
  | succ k ih => simp [sched, ih]
theorem sched_old (b : List UInt8) (k j : Nat) (h : j < k) : (sched b (k + 1)).getD j 0 = (sched b k).getD j 0 := by
  simp [sched, List.getElem?_append, sched_length, h]
theorem sched_new (b : List UInt8) (k : Nat) : (sched b (k + 1)).getD k 0 = nextW b (sched b k) k := by
  simp [sched, sched_length]
theorem sched_le (b : List UInt8) (j k n : Nat) (h : j < k) (hn : k ≤ n) : (sched b n).getD j 0 = (sched b k).getD j 0 := by
  induction n with
  | zero => omega
  | succ n ih =>
    by_cases hk : k = n + 1
    · rw [hk]
    · rw [sched_old b n j (by omega), ih (by omega)]
end Go.Con.Sha

set_option linter.unusedVariables false
set_option linter.unusedSimpArgs false
namespace Go.Proofs.Ytdkbajdnckmckaa
open Go.RowKit Go.Con

theorem rotrN (x : UInt32) (n : Nat) : bits .or .u32 ((x.toNat : Int) / 2 ^ n) ((x.toNat : Int) * 2 ^ (32 - n) % 4294967296) = ((Sha.rotr x n).toNat : Int) := by
  have h1 : ((x.toNat : Int) / 2 ^ n) = ((x.toNat / 2 ^ n : Nat) : Int) := by simp
  have h2 : ((x.toNat : Int) * 2 ^ (32 - n) % 4294967296) = ((x.toNat <<< (32 - n) % 4294967296 : Nat) : Int) := by
    rw [Nat.shiftLeft_eq]; simp
  rw [h1, h2, u32_or_nat _ _ (Nat.lt_of_le_of_lt (Nat.div_le_self _ _) x.toNat_lt) (Nat.mod_lt _ (by decide))]
  congr 1
  unfold Sha.rotr
  rw [UInt32.toNat_ofNat_of_lt']
  exact Nat.or_lt_two_pow (n := 32) (Nat.lt_of_le_of_lt (Nat.div_le_self _ _) x.toNat_lt) (Nat.mod_lt _ (by decide))

theorem notF (x : UInt32) : bits .xor .u32 IntKind.u32.max (x.toNat : Int) = ((~~~x).toNat : Int) := u32_notF x
theorem up_raw (s : Sha.D8) (k w : UInt32) :
    ((s.h.toNat : Int) + bits .xor .u32 (bits .xor .u32 ((Sha.rotr s.e 6).toNat : Int) ((Sha.rotr s.e 11).toNat : Int)) ((Sha.rotr s.e 25).toNat : Int) +
      bits .xor .u32 (bits .and .u32 (s.e.toNat : Int) (s.f.toNat : Int)) (bits .and .u32 (bits .xor .u32 IntKind.u32.max (s.e.toNat : Int)) (s.g.toNat : Int)) + (k.toNat : Int) + (w.toNat : Int)) % 4294967296
      = ((Sha.upOf s k w).toNat : Int) := by
  simp only [notF, u32_xorF, u32_andF, Sha.upOf, UInt32.toNat_add]
  omega
theorem down_raw (s : Sha.D8) :
    (bits .xor .u32 (bits .xor .u32 ((Sha.rotr s.a 2).toNat : Int) ((Sha.rotr s.a 13).toNat : Int)) ((Sha.rotr s.a 22).toNat : Int) +
      bits .xor .u32 (bits .xor .u32 (bits .and .u32 (s.a.toNat : Int) (s.b.toNat : Int)) (bits .and .u32 (s.a.toNat : Int) (s.c.toNat : Int))) (bits .and .u32 (s.b.toNat : Int) (s.c.toNat : Int))) % 4294967296
      = ((Sha.downOf s).toNat : Int) := by
  simp only [u32_xorF, u32_andF, Sha.downOf, UInt32.toNat_add]
  omega
theorem modAdd (a b : Int) (x y : UInt32) (ha : a % 4294967296 = (x.toNat : Int)) (hb : b % 4294967296 = (y.toNat : Int)) : (a + b) % 4294967296 = ((x + y).toNat : Int) := by
  rw [UInt32.toNat_add]; omega
theorem modSelf (y : UInt32) : (y.toNat : Int) % 4294967296 = (y.toNat : Int) := by
  have := y.toNat_lt; omega

def u32v (x : UInt32) : Value := .int .u32 x.toNat

end Go.Proofs.Ytdkbajdnckmckaa

set_option linter.unusedVariables false
set_option linter.unusedSimpArgs false
namespace Go.Proofs.Ytdkbajdnckmckaa
open Go.RowKit Go.Con

end Go.Proofs.Ytdkbajdnckmckaa

set_option linter.unusedVariables false
set_option linter.unusedSimpArgs false
namespace Go.Con.Sha
/-- a key as it is padded: longer ones by their digest -/
def padKey (key : List UInt8) (x : UInt8) : List UInt8 :=
  let k := if 64 < key.length then sum key else key
  (k ++ List.replicate (64 - k.length) 0).map (· ^^^ x)
theorem padKey_length (key : List UInt8) (x : UInt8) : (padKey key x).length = 64 := by
  unfold padKey
  have : (if 64 < key.length then sum key else key).length ≤ 64 := by
    split
    · rw [sum_length]; decide
    · omega
  simp; omega
def mac (key b : List UInt8) : List UInt8 := sum (padKey key 92 ++ sum (padKey key 54 ++ b))
theorem mac_length (key b : List UInt8) : (mac key b).length = 32 := rfl
/-- the i-th piece that is drawn -/
def piece (key info : List UInt8) : Nat → List UInt8
  | 0 => []
  | i + 1 => mac key (piece key info i ++ info ++ [UInt8.ofNat (i + 1)])
def pieces (key info : List UInt8) : Nat → List UInt8
  | 0 => []
  | i + 1 => pieces key info i ++ piece key info (i + 1)
theorem piece_length (key info : List UInt8) (i : Nat) : (piece key info (i + 1)).length = 32 := rfl
theorem pieces_length (key info : List UInt8) (i : Nat) : (pieces key info i).length = 32 * i := by
  induction i with
  | zero => rfl
  | succ i ih => rw [pieces, List.length_append, ih, piece_length]; omega
/-- so many pieces are drawn for n bytes -/
def need (n : Nat) : Nat := (n + 31) / 32
def draw (secret salt info : List UInt8) (n : Nat) : List UInt8 := (pieces (mac salt secret) info (need n)).take n
theorem draw_length (secret salt info : List UInt8) (n : Nat) : (draw secret salt info n).length = n := by
  rw [draw, List.length_take, pieces_length, need]; omega
theorem pieces_pre (key info : List UInt8) (i j : Nat) (h : i ≤ j) : (pieces key info j).take (32 * i) = pieces key info i := by
  induction j with
  | zero => obtain rfl : i = 0 := by omega
            rfl
  | succ j ih =>
    by_cases hj : i = j + 1
    · subst hj; rw [List.take_of_length_le (by rw [pieces_length]; omega)]
    · rw [pieces, List.take_append_of_le_length (by rw [pieces_length]; omega), ih (by omega)]
theorem draw_pre (secret salt info : List UInt8) (n m : Nat) (h : m ≤ n) : (draw secret salt info n).take m = draw secret salt info m := by
  unfold draw
  rw [List.take_take, Nat.min_eq_left h, ← pieces_pre _ info (need m) (need n) (by unfold need; omega), List.take_take, Nat.min_eq_left (by unfold need; omega)]
end Go.Con.Sha

set_option linter.unusedVariables false
set_option linter.unusedSimpArgs false
namespace Go.Proofs.Ytdkbajdnckmckaa
open Go.RowKit Go.Con


theorem Own.ofRow {w : World} {base g : Nat} {cur : Array Value} (l : List UInt8) (n : Nat) (hn : l.length = n) (hb : base ≤ g) (hg : w.heap[g]? = some (.cells cur 5 (0, 0))) (hs : cur.size = n) (hm : n ≤ maxLen)
    (hc : ∀ j, j < n → cur[j]? = some (u8v (l.getD j 0))) : Own w base (.slice (some ⟨g, 0, none⟩) n n) l := by
  subst hn
  refine ⟨by simp, .inr ⟨g, l.length, cur, rfl, hb, hg, Nat.le_refl _, hm, by omega, ?_⟩⟩
  apply List.ext_getElem?
  intro i
  by_cases hi : i < l.length
  · rw [List.getElem?_take, if_pos (by omega)]
    have := hc i hi
    simp only [Array.getElem?_toList, this]
    simp [hi]
  · rw [List.getElem?_eq_none (by simp; omega), List.getElem?_eq_none (by simp; omega)]

section
variable {ops : Array Oper} {rest : List Oper} {o : Oper} {a : Act} {Q : Exit → Act → World → Prop} {w : World}
end

/-- The row of a padded key, on its way. -/
def padRow (k : List UInt8) (x : UInt8) (j n : Nat) : UInt8 := if j < n then (k ++ List.replicate (64 - k.length) 0).getD j 0 ^^^ x else (k ++ List.replicate (64 - k.length) 0).getD j 0

theorem padRow_hit (k : List UInt8) (x : UInt8) (j : Nat) : padRow k x j (j + 1) = padRow k x j j ^^^ x := by
  unfold padRow; rw [if_pos (by omega), if_neg (by omega)]
theorem padRow_miss (k : List UInt8) (x : UInt8) (j n : Nat) (h : j ≠ n) : padRow k x j (n + 1) = padRow k x j n := by
  unfold padRow
  by_cases hj : j < n
  · rw [if_pos hj, if_pos (by omega)]
  · rw [if_neg hj, if_neg (by omega)]
theorem padRow_end (l : List UInt8) (x : UInt8) (k : List UInt8) (j : Nat) (hj : j < 64) (hk : (if 64 < l.length then Sha.sum l else l) = k) : padRow k x j 64 = (Sha.padKey l x).getD j 0 := by
  have hl : j < (Sha.padKey l x).length := by rw [Sha.padKey_length]; exact hj
  unfold padRow
  rw [if_pos hj]
  simp only [List.getD_eq_getElem?_getD, List.getElem?_eq_getElem hl, Option.getD_some]
  simp only [Sha.padKey, hk]
  rw [List.getElem_map]
  congr 1
  have hl2 : j < (k ++ List.replicate (64 - k.length) 0).length := by
    have h := hl
    simp only [Sha.padKey, hk, List.length_map] at h
    exact h
  rw [List.getElem?_eq_getElem hl2, Option.getD_some]
theorem row0 (k : List UInt8) (x : UInt8) (j : Nat) (hk : k.length ≤ 64) (hj : j < 64) (Z : List Value) (hZ : Z = List.replicate 64 (Value.int .u8 0)) :
    ((k.map u8v ++ Z.drop k.length).toArray)[j]? = some (u8v (padRow k x j 0)) := by
  subst hZ
  unfold padRow
  rw [if_neg (by omega)]
  simp only [List.getElem?_toArray, List.drop_replicate, List.getD_eq_getElem?_getD]
  by_cases h : j < k.length
  · rw [List.getElem?_append_left (by simpa using h), List.getElem?_append_left h]
    simp [h]
  · rw [List.getElem?_append_right (by simp; omega), List.getElem?_append_right (by omega)]
    simp [List.getElem?_replicate, show j - k.length < 64 - k.length by omega]
    rfl

end Go.Proofs.Ytdkbajdnckmckaa
