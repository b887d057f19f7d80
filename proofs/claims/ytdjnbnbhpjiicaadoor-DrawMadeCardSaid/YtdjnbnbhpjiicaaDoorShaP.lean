/-
  Small laws of digests and keys in plain Lean; contracts whose length is an int.
-/
import Derived.Test.YtdjnbnbhpjiicaaDoorShaMac
import Derived.Test.YtdjnbnbhpjiicaaDoorShaDraw
import Derived.Test.YtdjnbnbhpjiicaaDoorFilled
import Derived.Test.YtdjnbnbhpjiicaaDoorSome
import Derived.Test.YtdjnbnbhpjiicaaDoorPick
import Derived.Test.YtdjnbnbhpjiicaaDoorSameK
import Derived.Test.YtdjnbnbhpjiicaaDoorShaSame
import Derived.Test.YtdjnbnbhpjiicaaDoorKnF
import Derived.Test.YtdjnbnbhpjiicaaDoorFrm
set_option linter.unusedVariables false
set_option linter.unusedSimpArgs false
namespace Go.Con.Sha
theorem padKey_long (k : List UInt8) (x : UInt8) (h : 64 < k.length) : padKey (sum k) x = padKey k x := by
  unfold padKey
  rw [if_pos h, if_neg (by rw [sum_length]; decide)]
theorem mac_long (k l : List UInt8) (h : 64 < k.length) : mac (sum k) l = mac k l := by
  unfold mac
  rw [padKey_long k _ h, padKey_long k _ h]
theorem padKey_fill (k : List UInt8) (x : UInt8) (n : Nat) (h1 : k.length ≤ n) (h2 : n ≤ 64) : padKey (fill k n) x = padKey k x := by
  have hf : (fill k n).length = n := fill_length k n
  unfold padKey
  rw [if_neg (by omega), if_neg (by omega)]
  dsimp only
  rw [hf, fill, List.take_of_length_le h1, List.append_assoc, List.replicate_append_replicate]
  congr 3
  omega
theorem mac_fill (k l : List UInt8) (n : Nat) (h1 : k.length ≤ n) (h2 : n ≤ 64) : mac (fill k n) l = mac k l := by
  unfold mac
  rw [padKey_fill k _ n h1 h2, padKey_fill k _ n h1 h2]
theorem padKey_full (k : List UInt8) (x : UInt8) (h : k.length = 64) : padKey k x = k.map (· ^^^ x) := by
  unfold padKey
  rw [if_neg (by omega)]
  dsimp only
  rw [h]
  simp
end Go.Con.Sha
namespace Go.Proofs.YtdjnbnbhpjiicaaDoor
open Go.RowKit Go.Con
theorem filled_int (v : Value) (l : List UInt8) (q : Int) (m : Nat) (w : World) (hv : Rd w v l) (hm : m ≤ 1099511627776) (hq : q = (m : Int)) :
    Calls Tryd.prog 31 #[v, .int .i64 q] w (FreshB w (fill l m)) := by
  subst hq; exact filled_any v l m w hv hm
theorem some_int (v : Value) (l : List UInt8) (q : Int) (m : Nat) (w : World) (hv : Rd w v l) (hm : m ≤ 1099511627776) (hq : q = (m : Int)) :
    Calls Tryd.prog 28 #[v, .int .i64 q] w (FreshB w (l.take m)) := by
  subst hq; exact some_any v l m w hv hm
theorem Draw_int (sv av iv : Value) (s a i : List UInt8) (q : Int) (n : Nat) (w : World) (hs : Rd w sv s) (ha : Rd w av a) (hi : Rd w iv i) (hsl : s.length ≤ 256) (hal : a.length ≤ 256) (hil : i.length ≤ 256) (hn : n ≤ 512) (hk : Kn w) (hq : q = (n : Int)) :
    Calls Tryd.prog 33 #[sv, av, iv, .int .i64 q] w (FreshRE w (Sha.draw s a i n) 0) := by
  subst hq; exact Draw_ok sv av iv s a i n w hs ha hi hsl hal hil hn hk
end Go.Proofs.YtdjnbnbhpjiicaaDoor
