/-
  A record that was sent is taken.
-/
import Derived.Test.YtoekopdogfnkhaaLiU
import Derived.Test.YtoekopdogfnkhaaSeaL
set_option linter.unusedVariables false
set_option linter.unusedSimpArgs false
namespace Go.Con
open Go.Proofs.Ytoekopdogfnkhaa
theorem rec_take (key : List UInt8) (n : Nat) (p : List UInt8) : (recB key n p).take 4 = fourN n := List.take_left' rfl
theorem rec_drop (key : List UInt8) (n : Nat) (p : List UInt8) : (recB key n p).drop 4 = Sea.boxed key (nonceN (fourN n)) (fourN n) p := List.drop_left' rfl
end Go.Con
namespace Go.Proofs.Ytoekopdogfnkhaa
open Go.RowKit Go.Con
theorem Take_rec (a : Addr) (c : Nat) (rv : Value) (key r p : List UInt8) (s t n : Nat) (f : Nat → Bool) (w : World) (hv : Rd w (.slice (some a) 32 c) key) (hr : Rd w rv r) (hkl : key.length = 32) (hrp : r = recB key n p) (hpl : p.length ≤ 2000) (hn : n < 1073741824) (hs : s ≤ 1073741824) (ht : t ≤ 1073741824) (hf : SeenOk t f) (hm : metB t n f = false) :
    Calls Try.prog 10 #[.agg #[.slice (some a) 32 c, .int .i64 s, .int .i64 t, .bool (f 0), .bool (f 1), .bool (f 2), .bool (f 3), .bool (f 4), .bool (f 5), .bool (f 6), .bool (f 7)], rv] w (TakePost w key s (max t (n + 1)) (withF t n f) p) := by
  have h1 : r.take 4 = fourN n := by rw [hrp]; exact rec_take _ _ _
  have h2 : r.drop 4 = Sea.boxed key (nonceN (fourN n)) (fourN n) p := by rw [hrp]; exact rec_drop _ _ _
  have h3 : beN (fourN n) = n := beN_four n (by omega)
  have h := Take_ok a c rv key r s t p.length f w hv hr hkl (by rw [hrp]; exact recB_length _ _ _) hpl hs ht hf (by rw [h1, h3]; exact hn) (by rw [h1, h3]; exact hm) (by rw [h1, h2, Sea.boxed_take, Sea.boxed_drop])
  rw [h1, h2, h3, Sea.boxed_take, Cha.mix_twice] at h
  exact h
theorem Take_recOld (a : Addr) (c : Nat) (rv : Value) (key r p : List UInt8) (s t n : Nat) (f : Nat → Bool) (w : World) (hv : Rd w (.slice (some a) 32 c) key) (hr : Rd w rv r) (hkl : key.length = 32) (hrp : r = recB key n p) (hpl : p.length ≤ 2000) (hn : n < 1073741824) (hs : s ≤ 1073741824) (ht : t ≤ 1073741824) (hf : SeenOk t f) (hm : metB t n f = true) :
    Calls Try.prog 10 #[.agg #[.slice (some a) 32 c, .int .i64 s, .int .i64 t, .bool (f 0), .bool (f 1), .bool (f 2), .bool (f 3), .bool (f 4), .bool (f 5), .bool (f 6), .bool (f 7)], rv] w fun e w' => e = .returned (.tuple #[.agg #[.slice none 0 0, .int .i64 0, .int .i64 0, .bool false, .bool false, .bool false, .bool false, .bool false, .bool false, .bool false, .bool false], .slice none 0 0, .int .i64 7]) ∧ Below w.heap.size w w' := by
  have h1 : r.take 4 = fourN n := by rw [hrp]; exact rec_take _ _ _
  have h3 : beN (fourN n) = n := beN_four n (by omega)
  exact Take_old a c rv key r s t p.length f w hv hr hkl (by rw [hrp]; exact recB_length _ _ _) hpl hs ht hf (by rw [h1, h3]; exact hn) (by rw [h1, h3]; exact hm)
end Go.Proofs.Ytoekopdogfnkhaa
