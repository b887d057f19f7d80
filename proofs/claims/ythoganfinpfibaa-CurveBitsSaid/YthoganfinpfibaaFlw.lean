/-
  Numbers modulo 2^255 - 19 in limbs: taking the prime away, bytes, and the ladder: plain laws.
-/
import Derived.Test.YthoganfinpfibaaFld
set_option linter.unusedVariables false
set_option linter.unusedSimpArgs false
namespace Go.Con.Cv
/-- the prime's limbs -/
def PL : List Int := [65517, 65535, 65535, 65535, 65535, 65535, 65535, 65535, 65535, 65535, 65535, 65535, 65535, 65535, 65535, 32767]
theorem val_PL : val PL = P := by decide
theorem PL_get (j : Nat) (h1 : 1 ≤ j) (h2 : j < 16) : at0 PL j = if j = 15 then 32767 else 65535 := by
  have h : j = 1 ∨ j = 2 ∨ j = 3 ∨ j = 4 ∨ j = 5 ∨ j = 6 ∨ j = 7 ∨ j = 8 ∨ j = 9 ∨ j = 10 ∨ j = 11 ∨ j = 12 ∨ j = 13 ∨ j = 14 ∨ j = 15 := by omega
  rcases h with rfl | rfl | rfl | rfl | rfl | rfl | rfl | rfl | rfl | rfl | rfl | rfl | rfl | rfl | rfl <;> rfl
/-- within a subtraction of the prime; i limbs were met -/
structure SubI (x q : List Int) (i : Nat) : Prop where
  len : q.length = 16
  v : val (q.take i) = val (x.take i) - val (PL.take i)
  dig : ∀ j, j + 1 < i → 0 ≤ at0 q j ∧ at0 q j < 65536
  last : -65536 ≤ at0 q (i - 1) ∧ at0 q (i - 1) ≤ 65535
  rest : ∀ j, i ≤ j → at0 q j = at0 x j
theorem take_set_ge (s : List Int) (i k : Nat) (x : Int) (h : k ≤ i) : (s.set i x).take k = s.take k := by
  rw [List.take_set]; exact List.set_eq_of_length_le (by simp; omega)
theorem val_take_set (s : List Int) (i k : Nat) (x : Int) (h : i < k) (hk : k ≤ s.length) : val ((s.set i x).take k) = val (s.take k) + (x - at0 s i) * pw i := by
  rw [List.take_set, val_set _ _ _ (by simp; omega)]
  congr 2
  unfold at0
  simp [List.getElem?_take, h]
theorem SubI.start {x : List Int} (h : Norm x) : SubI x (x.set 0 (at0 x 0 - 65517)) 1 := by
  have h0 := h.2 0 (by omega)
  have hl : 0 < x.length := by rw [h.1]; omega
  refine ⟨by rw [List.length_set]; exact h.1, ?_, fun j hj => by omega, ?_, fun j hj => ?_⟩
  · rw [val_take_set _ _ _ _ (by omega) (by omega)]
    have : val (PL.take 1) = 65517 := by decide
    rw [this, show pw 0 = 1 from rfl]; omega
  · rw [show 1 - 1 = 0 from rfl, at_set _ _ _ _ hl, if_pos rfl]; omega
  · rw [at_set _ _ _ _ hl, if_neg (by omega)]
/-- one limb: d is the prime's -/
theorem SubI.step {x q : List Int} {i : Nat} (hx : Norm x) (h1 : 1 ≤ i) (hi : i < 16) (h : SubI x q i) (d b : Int) (hd : d = at0 PL i) (hb : b = if at0 q (i - 1) < 0 then 1 else 0) :
    SubI x ((q.set i (at0 x i - d - b)).set (i - 1) (at0 q (i - 1) % 65536)) (i + 1) := by
  have hxi := hx.2 i hi
  have hl := h.last
  have hd2 : 32767 ≤ d ∧ d ≤ 65535 := by rw [hd, PL_get i h1 hi]; split <;> omega
  have hb2 : 0 ≤ b ∧ b ≤ 1 := by rw [hb]; split <;> omega
  have hb3 : at0 q (i - 1) = at0 q (i - 1) % 65536 - 65536 * b := by rw [hb]; split <;> omega
  have hat : ∀ j, at0 ((q.set i (at0 x i - d - b)).set (i - 1) (at0 q (i - 1) % 65536)) j = if i - 1 = j then at0 q (i - 1) % 65536 else if i = j then at0 x i - d - b else at0 q j := fun j => by
    rw [at_set _ _ _ _ (by rw [List.length_set, h.len]; omega), at_set _ _ _ _ (by rw [h.len]; omega)]
  obtain ⟨k, rfl⟩ : ∃ k, i = k + 1 := ⟨i - 1, by omega⟩
  rw [Nat.add_sub_cancel] at *
  refine ⟨by simp [h.len], ?_, fun j hj => ?_, ?_, fun j hj => ?_⟩
  · have h2 : val (((q.set (k + 1) (at0 x (k + 1) - d - b)).set k (at0 q k % 65536)).take (k + 1)) = val (q.take (k + 1)) + (at0 q k % 65536 - at0 q k) * pw k := by
      rw [val_take_set _ _ _ _ (by omega) (by rw [List.length_set, h.len]; omega), take_set_ge _ _ _ _ (Nat.le_refl _), at_set _ _ _ _ (by rw [h.len]; omega), if_neg (by omega)]
    rw [val_take_succ _ (k + 1), h2, h.v, val_take_succ x (k + 1), val_take_succ PL (k + 1), hat, if_neg (by omega), if_pos rfl, hd, pw]
    have e : at0 q k % 65536 - at0 q k = 65536 * b := by omega
    rw [e]; grind
  · rw [hat]
    split
    · omega
    · rw [if_neg (by omega)]; exact h.dig j (by omega)
  · rw [show k + 1 + 1 - 1 = k + 1 from rfl, hat, if_neg (by omega), if_pos rfl]; omega
  · rw [hat, if_neg (by omega), if_neg (by omega)]; exact h.rest j (by omega)
theorem SubI.done {x q : List Int} (h : SubI x q 16) (b : Int) (hb : b = if at0 q 15 < 0 then 1 else 0) : Norm (q.set 15 (at0 q 15 % 65536)) ∧ val (q.set 15 (at0 q 15 % 65536)) = val x - P + b * pw 16 ∨ x.length ≠ 16 := by
  by_cases hx : x.length = 16
  · refine .inl ⟨⟨by rw [List.length_set]; exact h.len, fun j hj => ?_⟩, ?_⟩
    · rw [at_set _ _ _ _ (by rw [h.len]; omega)]
      split
      · omega
      · exact h.dig j (by omega)
    · have hl := h.last
      rw [show 16 - 1 = 15 from rfl] at hl
      have hb3 : at0 q 15 = at0 q 15 % 65536 - 65536 * b := by rw [hb]; split <;> omega
      have hv := h.v
      rw [List.take_of_length_le (by rw [h.len]; omega), List.take_of_length_le (by omega), show PL.take 16 = PL from rfl, val_PL] at hv
      rw [val_set _ _ _ (by rw [h.len]; omega), hv, show pw 16 = 65536 * pw 15 from rfl]
      have e : at0 q 15 % 65536 - at0 q 15 = 65536 * b := by omega
      rw [e]; grind
  · exact .inr hx
/-- one round of taking the prime away -/
def less (v : Int) : Int := if v < P then v else v - P
theorem P_lit : P = 57896044618658097711785492504343953926634992332820282019728792003956564819949 := rfl
theorem sub_round {x f : List Int} {b : Int} (hx : Norm x) (hf : Norm f) (hb : b = 0 ∨ b = 1) (hv : val f = val x - P + b * pw 16) : (b = 1 → val x < P ∧ less (val x) = val x) ∧ (b = 0 → less (val x) = val f) := by
  have h1 := hx.bd
  have h2 := hf.bd
  rw [pw16] at h1 h2 hv
  rw [P_lit] at hv
  unfold less
  rw [P_lit]
  rcases hb with rfl | rfl
  · refine ⟨fun h => by omega, fun _ => ?_⟩
    rw [if_neg (by omega)]; omega
  · refine ⟨fun _ => ?_, fun h => by omega⟩
    have : val x < 57896044618658097711785492504343953926634992332820282019728792003956564819949 := by omega
    exact ⟨this, by rw [if_pos this]⟩
theorem less_twice (v : Int) (h0 : 0 ≤ v) (h1 : v < pw 16) : less (less v) = v % P := by
  rw [pw16] at h1
  unfold less
  rw [P_lit]
  by_cases c1 : v < 57896044618658097711785492504343953926634992332820282019728792003956564819949
  · rw [if_pos c1, if_pos c1]; omega
  · rw [if_neg c1]
    by_cases c2 : v - 57896044618658097711785492504343953926634992332820282019728792003956564819949 < 57896044618658097711785492504343953926634992332820282019728792003956564819949
    · rw [if_pos c2]; omega
    · rw [if_neg c2]; omega
/-- limbs of a number -/
def limbs (v : Int) : Nat → List Int
  | 0 => []
  | n + 1 => (v % 65536) :: limbs (v / 65536) n
theorem limbs_length (v : Int) (n : Nat) : (limbs v n).length = n := by
  induction n generalizing v with
  | zero => rfl
  | succ n ih => rw [limbs, List.length_cons, ih]
theorem limbs_of (s : List Int) (h : ∀ j, j < s.length → 0 ≤ at0 s j ∧ at0 s j < 65536) : limbs (val s) s.length = s := by
  induction s with
  | nil => rfl
  | cons x r ih =>
    have h0 := h 0 (by simp)
    rw [at_cons_zero] at h0
    have hr := ih (fun j hj => by have := h (j + 1) (by simpa using hj); rwa [at_cons_succ] at this)
    rw [List.length_cons, limbs, val]
    have e1 : (x + 65536 * val r) % 65536 = x := by omega
    have e2 : (x + 65536 * val r) / 65536 = val r := by omega
    rw [e1, e2, hr]
theorem Norm.limbs {s : List Int} (h : Norm s) : Cv.limbs (Cv.val s) 16 = s := by
  have := limbs_of s (by rw [h.1]; exact h.2)
  rwa [h.1] at this
theorem limbs_norm (v : Int) (n : Nat) : ∀ j, 0 ≤ at0 (limbs v n) j ∧ at0 (limbs v n) j < 65536 := by
  induction n generalizing v with
  | zero => intro j; simp [limbs, at0]
  | succ n ih =>
    intro j
    cases j with
    | zero => rw [limbs, at_cons_zero]; omega
    | succ j => rw [limbs, at_cons_succ]; exact ih _ j
theorem val_limbs (v : Int) (n : Nat) (h0 : 0 ≤ v) (h : v < pw n) : val (limbs v n) = v := by
  induction n generalizing v with
  | zero => simp [pw] at h; simp [limbs, val]; omega
  | succ n ih =>
    rw [limbs, val, ih _ (by omega) (by rw [pw] at h; omega)]; omega
/-- a limb's two bytes -/
def two (n : Int) : List UInt8 := [UInt8.ofNat (n % 256).toNat, UInt8.ofNat (n / 256 % 256).toNat]
/-- the bytes of limbs -/
def bytes (s : List Int) : List UInt8 := s.flatMap two
theorem bytes_append (a b : List Int) : bytes (a ++ b) = bytes a ++ bytes b := by simp [bytes]
theorem bytes_length (s : List Int) : (bytes s).length = 2 * s.length := by
  induction s with
  | nil => rfl
  | cons x r ih => rw [bytes, List.flatMap_cons, List.length_append, List.length_cons]; rw [bytes] at ih; rw [ih]; simp [two]; omega
/-- the 32 bytes of a number -/
def out32 (v : Int) : List UInt8 := bytes (limbs v 16)
theorem out32_length (v : Int) : (out32 v).length = 32 := by rw [out32, bytes_length, limbs_length]
/-- a limb out of bytes -/
def limb (l : List UInt8) (j : Nat) : Int := (l.getD (2 * j) 0).toNat + 256 * (l.getD (2 * j + 1) 0).toNat
/-- the number of 32 bytes, without the highest bit -/
def rd (l : List UInt8) : List Int := (List.range 16).map fun j => if j = 15 then limb l 15 % 32768 else limb l j
def num (l : List UInt8) : Int := val (rd l)
theorem rd_norm (l : List UInt8) : Norm (rd l) := by
  refine ⟨by simp [rd], fun j hj => ?_⟩
  have h1 : at0 (rd l) j = if j = 15 then limb l 15 % 32768 else limb l j := by unfold at0 rd; simp [hj]
  have h2 := (l.getD (2 * j) 0).toNat_lt
  have h3 := (l.getD (2 * j + 1) 0).toNat_lt
  rw [h1]
  split
  · omega
  · unfold limb; omega
theorem Norm.red {s : List Int} (h : Norm s) : Red s := by
  refine ⟨h.1, fun j => ?_⟩
  by_cases hj : j < 16
  · have := h.2 j hj; omega
  · rw [at_out _ _ (by rw [h.1]; omega)]; omega
/-- the bits of a secret, and the highest one of a point, that do not count -/
def clamp (l : List UInt8) : List UInt8 := (l.set 0 (l.getD 0 0 &&& 248)).set 31 (l.getD 31 0 &&& 127 ||| 64)
/-- a bit of a secret -/
def kbit (k : List UInt8) (i : Nat) : Int := ((k.getD (i / 8) 0).toNat / 2 ^ (i % 8) % 2 : Nat)
/-- what the ladder keeps -/
structure L4 where
  x2 : Int
  z2 : Int
  x3 : Int
  z3 : Int
def L4.sw (s : L4) (b : Int) : L4 := if b = 1 then ⟨s.x3, s.z3, s.x2, s.z2⟩ else s
/-- a step of the ladder, between the swaps -/
def L4.mid (s : L4) (u : Int) : L4 :=
  let a := s.x2 + s.z2
  let b := s.x2 - s.z2
  let c := s.x3 + s.z3
  let d := s.x3 - s.z3
  let aa := a * a % P
  let bb := b * b % P
  let da := d * a % P
  let cb := c * b % P
  let e := aa - bb
  let t := (da - cb) * (da - cb) % P
  ⟨aa * bb % P, e * (aa + e * 121665 % P) % P, (da + cb) * (da + cb) % P, t * u % P⟩
def L4.step (s : L4) (u b : Int) : L4 := ((s.sw b).mid u).sw b
/-- the ladder: n bits are still to come -/
def ladder (k : List UInt8) (u : Int) : Nat → L4
  | 0 => ⟨1, 0, u, 1⟩
  | n + 1 => (ladder k u n).step u (kbit k (254 - n))
/-- one divided by a number, by squaring: n bits are done -/
def turn (z : Int) : Nat → Int
  | 0 => z % P
  | n + 1 => if 253 - n ≠ 2 ∧ 253 - n ≠ 4 then turn z n * turn z n % P * z % P else turn z n * turn z n % P
/-- what a secret and a point share -/
def share (k l : List UInt8) : Int := (ladder (clamp k) (num l) 255).x2 * turn (ladder (clamp k) (num l) 255).z2 254 % P
end Go.Con.Cv
