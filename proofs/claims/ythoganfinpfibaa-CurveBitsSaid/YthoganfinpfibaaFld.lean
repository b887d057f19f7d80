/-
  Numbers modulo 2^255 - 19 in sixteen limbs of sixteen bits, which may be below 0: plain laws.
-/
import Derived.Lib.Hide
set_option linter.unusedVariables false
set_option linter.unusedSimpArgs false
namespace Go.Con.Cv
/-- a limb -/
def at0 (s : List Int) (i : Nat) : Int := s.getD i 0
/-- the number of limbs -/
def val : List Int → Int
  | [] => 0
  | x :: r => x + 65536 * val r
/-- the base's powers -/
def pw : Nat → Int
  | 0 => 1
  | n + 1 => 65536 * pw n
theorem pw_pos (n : Nat) : 0 < pw n := by
  induction n with
  | zero => decide
  | succ n ih => rw [pw]; omega
theorem at_cons_zero (x : Int) (r : List Int) : at0 (x :: r) 0 = x := rfl
theorem at_cons_succ (x : Int) (r : List Int) (i : Nat) : at0 (x :: r) (i + 1) = at0 r i := rfl
theorem at_set (s : List Int) (i j : Nat) (x : Int) (hi : i < s.length) : at0 (s.set i x) j = if i = j then x else at0 s j := by
  unfold at0
  by_cases h : i = j
  · subst h; simp [hi]
  · simp [h, List.getElem?_set]
theorem at_out (s : List Int) (i : Nat) (h : s.length ≤ i) : at0 s i = 0 := by unfold at0; simp [h]
theorem val_set (s : List Int) (i : Nat) (x : Int) (hi : i < s.length) : val (s.set i x) = val s + (x - at0 s i) * pw i := by
  induction s generalizing i with
  | nil => simp at hi
  | cons y r ih =>
    cases i with
    | zero => simp [val, at0, pw]; omega
    | succ i =>
      have h := ih i (by simpa using hi)
      rw [List.set_cons_succ, val, val, h, at_cons_succ, pw]
      grind
theorem val_append (a b : List Int) : val (a ++ b) = val a + pw a.length * val b := by
  induction a with
  | nil => simp [val, pw]
  | cons x r ih =>
    rw [List.cons_append, val, val, ih, List.length_cons, pw]
    grind
theorem val_take_succ (s : List Int) (k : Nat) : val (s.take (k + 1)) = val (s.take k) + at0 s k * pw k := by
  induction s generalizing k with
  | nil => simp [val, at0]
  | cons x r ih =>
    cases k with
    | zero => simp [val, at0, pw]
    | succ k =>
      rw [List.take_succ_cons, List.take_succ_cons, val, val, ih k, at_cons_succ, pw]
      grind
theorem val_split (s : List Int) (k : Nat) (h : k ≤ s.length) : val s = val (s.take k) + pw k * val (s.drop k) := by
  have := val_append (s.take k) (s.drop k)
  rw [List.take_append_drop] at this
  rw [this, List.length_take, Nat.min_eq_left h]
theorem val_replicate (n : Nat) : val (List.replicate n 0) = 0 := by
  induction n with
  | zero => rfl
  | succ n ih => rw [List.replicate_succ, val, ih]; rfl
/-- digits -/
theorem val_digits (s : List Int) : ∀ k, (∀ j, j < k → 0 ≤ at0 s j ∧ at0 s j < 65536) → 0 ≤ val (s.take k) ∧ val (s.take k) < pw k
  | 0, _ => by simp [val, pw]
  | k + 1, h => by
    have ih := val_digits s k (fun j hj => h j (by omega))
    have hk := h k (by omega)
    rw [val_take_succ, pw]
    have hp := pw_pos k
    have h1 : 0 ≤ at0 s k * pw k := Int.mul_nonneg hk.1 (Int.le_of_lt hp)
    have h2 : (at0 s k + 1) * pw k ≤ 65536 * pw k := Int.mul_le_mul_of_nonneg_right (by omega) (Int.le_of_lt hp)
    have h3 : (at0 s k + 1) * pw k = at0 s k * pw k + pw k := by grind
    omega
/-- a number of limbs is bounded by them -/
theorem val_le (s : List Int) (A B : Int) (hA : A ≤ 0) (hB : 0 ≤ B) (h : ∀ j, A ≤ at0 s j ∧ at0 s j ≤ B) : ∀ k, A * pw k ≤ val (s.take k) * 65535 ∧ val (s.take k) * 65535 ≤ B * pw k
  | 0 => by simp [val, pw]; omega
  | k + 1 => by
    have ih := val_le s A B hA hB h k
    have hk := h k
    have hp := pw_pos k
    rw [val_take_succ, pw]
    have h1 : at0 s k * pw k ≤ B * pw k := Int.mul_le_mul_of_nonneg_right hk.2 (Int.le_of_lt hp)
    have h2 : A * pw k ≤ at0 s k * pw k := Int.mul_le_mul_of_nonneg_right hk.1 (Int.le_of_lt hp)
    have h3 : B * (65536 * pw k) = 65536 * (B * pw k) := by grind
    have h4 : A * (65536 * pw k) = 65536 * (A * pw k) := by grind
    have h5 : (val (s.take k) + at0 s k * pw k) * 65535 = val (s.take k) * 65535 + 65535 * (at0 s k * pw k) := by grind
    rw [h3, h4, h5]
    omega
/-- one limb's carry -/
def cstep (s : List Int) (k : Nat) : List Int :=
  if k < 15 then (s.set k (at0 s k % 65536)).set (k + 1) (at0 (s.set k (at0 s k % 65536)) (k + 1) + at0 s k / 65536)
  else (s.set k (at0 s k % 65536)).set 0 (at0 (s.set k (at0 s k % 65536)) 0 + 38 * (at0 s k / 65536))
def ck (s : List Int) : Nat → List Int
  | 0 => s
  | k + 1 => cstep (ck s k) k
theorem cstep_length (s : List Int) (k : Nat) : (cstep s k).length = s.length := by
  unfold cstep; split <;> simp
theorem ck_length (s : List Int) (k : Nat) : (ck s k).length = s.length := by
  induction k with
  | zero => rfl
  | succ k ih => rw [ck, cstep_length, ih]
/-- what holds within a carry -/
structure Mid (s q : List Int) (B : Int) (k : Nat) : Prop where
  v : val q = val s
  dig : ∀ j, j < k → 0 ≤ at0 q j ∧ at0 q j < 65536
  rest : ∀ j, k < j → at0 q j = at0 s j
  here : -(2 * B) ≤ at0 q k ∧ at0 q k ≤ 2 * B
theorem ck_mid (s : List Int) (B : Int) (hs : s.length = 16) (hB : 65536 ≤ B) (h : ∀ j, -B ≤ at0 s j ∧ at0 s j ≤ B) : ∀ k, k ≤ 15 → Mid s (ck s k) B k
  | 0, _ => ⟨rfl, fun j hj => by omega, fun j _ => rfl, by have := h 0; exact ⟨by show _ ≤ at0 s 0; omega, by show at0 s 0 ≤ _; omega⟩⟩
  | k + 1, hk => by
    have ih := ck_mid s B hs hB h k (by omega)
    have hl : (ck s k).length = 16 := by rw [ck_length]; exact hs
    obtain ⟨q, hq⟩ : ∃ q, q = ck s k := ⟨_, rfl⟩
    rw [ck]
    rw [← hq] at ih hl ⊢
    obtain ⟨v, dig, rest, here⟩ := ih
    have e1 : at0 (q.set k (at0 q k % 65536)) (k + 1) = at0 s (k + 1) := by rw [at_set _ _ _ _ (by omega), if_neg (by omega), rest _ (by omega)]
    have hc : cstep q k = (q.set k (at0 q k % 65536)).set (k + 1) (at0 s (k + 1) + at0 q k / 65536) := by
      unfold cstep; rw [if_pos (by omega), e1]
    have hn := h (k + 1)
    have at' : ∀ j, at0 (cstep q k) j = if k + 1 = j then at0 s (k + 1) + at0 q k / 65536 else if k = j then at0 q k % 65536 else at0 q j := fun j => by
      rw [hc, at_set _ _ _ _ (by rw [List.length_set]; omega), at_set _ _ _ _ (by omega)]
    refine ⟨?_, fun j hj => ?_, fun j hj => ?_, ?_⟩
    · rw [hc, val_set _ _ _ (by rw [List.length_set]; omega), val_set _ _ _ (by omega), e1, v, pw]
      have h2 : at0 q k = 65536 * (at0 q k / 65536) + at0 q k % 65536 := by omega
      generalize at0 q k / 65536 = c at *
      generalize at0 q k % 65536 = r at *
      rw [h2]; grind
    · rw [at' j, if_neg (by omega)]
      split
      · omega
      · exact dig j (by omega)
    · rw [at' j, if_neg (by omega), if_neg (by omega)]
      exact rest j (by omega)
    · rw [at' (k + 1), if_pos rfl]; omega
/-- what a carry makes -/
structure Carried (s y : List Int) (c : Int) : Prop where
  len : y.length = 16
  v : val y = val s - c * (pw 16 - 38)
  dig : ∀ j, 1 ≤ j → j < 16 → 0 ≤ at0 y j ∧ at0 y j < 65536
  low : 38 * c ≤ at0 y 0 ∧ at0 y 0 < 65536 + 38 * c
  lo : c * pw 16 ≤ val s
  hi : val s < (c + 1) * pw 16
theorem carried (s : List Int) (B : Int) (hs : s.length = 16) (hB : 65536 ≤ B) (h : ∀ j, -B ≤ at0 s j ∧ at0 s j ≤ B) : ∃ c, Carried s (ck s 16) c := by
  obtain ⟨v, dig, rest, here⟩ := ck_mid s B hs hB h 15 (by omega)
  have hl : (ck s 15).length = 16 := by rw [ck_length]; exact hs
  obtain ⟨q, hq⟩ : ∃ q, q = ck s 15 := ⟨_, rfl⟩
  have hck : ck s 16 = cstep q 15 := by rw [hq]; rfl
  rw [hck]
  rw [← hq] at v dig rest here hl
  clear hck
  have e1 : at0 (q.set 15 (at0 q 15 % 65536)) 0 = at0 q 0 := by rw [at_set _ _ _ _ (by omega), if_neg (by omega)]
  have hc : cstep q 15 = (q.set 15 (at0 q 15 % 65536)).set 0 (at0 q 0 + 38 * (at0 q 15 / 65536)) := by
    unfold cstep; rw [if_neg (by omega), e1]
  have at' : ∀ j, at0 (cstep q 15) j = if 0 = j then at0 q 0 + 38 * (at0 q 15 / 65536) else if 15 = j then at0 q 15 % 65536 else at0 q j := fun j => by
    rw [hc, at_set _ _ _ _ (by rw [List.length_set]; omega), at_set _ _ _ _ (by omega)]
  have hd := val_digits q 15 dig
  have hv : val q = val (q.take 15) + at0 q 15 * pw 15 := by
    have := val_take_succ q 15
    rw [List.take_of_length_le (by omega)] at this
    exact this
  have h2 : at0 q 15 = 65536 * (at0 q 15 / 65536) + at0 q 15 % 65536 := by omega
  have hr : 0 ≤ at0 q 15 % 65536 ∧ at0 q 15 % 65536 < 65536 := by omega
  have d0 := dig 0 (by omega)
  refine ⟨at0 q 15 / 65536, by rw [cstep_length]; exact hl, ?_, fun j h1 hj => ?_, ?_, ?_, ?_⟩
  · rw [hc, val_set _ _ _ (by rw [List.length_set]; omega), val_set _ _ _ (by omega), e1, ← v]
    generalize at0 q 15 / 65536 = c at *
    generalize at0 q 15 % 65536 = r at *
    rw [h2, show pw 16 = 65536 * pw 15 from rfl, show pw 0 = 1 from rfl]; grind
  · rw [at' j, if_neg (by omega)]
    split
    · exact hr
    · exact dig j (by omega)
  · rw [at' 0, if_pos rfl]; omega
  · rw [← v, hv]
    generalize at0 q 15 / 65536 = c at *
    generalize at0 q 15 % 65536 = r at *
    rw [h2, show pw 16 = 65536 * pw 15 from rfl]
    have hp := pw_pos 15
    have h5 : 0 ≤ r * pw 15 := Int.mul_nonneg hr.1 (Int.le_of_lt hp)
    have h6 : (65536 * c + r) * pw 15 = c * (65536 * pw 15) + r * pw 15 := by grind
    omega
  · rw [← v, hv]
    generalize at0 q 15 / 65536 = c at *
    generalize at0 q 15 % 65536 = r at *
    rw [h2, show pw 16 = 65536 * pw 15 from rfl]
    have hp := pw_pos 15
    have h5 : r * pw 15 ≤ 65535 * pw 15 := Int.mul_le_mul_of_nonneg_right (by omega) (Int.le_of_lt hp)
    have h6 : (65536 * c + r) * pw 15 = c * (65536 * pw 15) + r * pw 15 := by grind
    have h7 : (c + 1) * (65536 * pw 15) = c * (65536 * pw 15) + 65536 * pw 15 := by grind
    omega
theorem pw16 : pw 16 = 115792089237316195423570985008687907853269984665640564039457584007913129639936 := by decide
/-- the prime -/
def P : Int := 57896044618658097711785492504343953926634992332820282019728792003956564819949
theorem two_P : pw 16 - 38 = 2 * P := by decide
/-- almost in order -/
def Red (s : List Int) : Prop := s.length = 16 ∧ ∀ j, -38 ≤ at0 s j ∧ at0 s j ≤ 65573
/-- the same modulo the prime -/
def Cg (a b : Int) : Prop := ∃ k, a = b + k * P
theorem Cg.refl (a : Int) : Cg a a := ⟨0, by omega⟩
theorem Cg.symm {a b : Int} (h : Cg a b) : Cg b a := by obtain ⟨k, h⟩ := h; exact ⟨-k, by rw [h]; grind⟩
theorem Cg.trans {a b c : Int} (h : Cg a b) (g : Cg b c) : Cg a c := by obtain ⟨k, h⟩ := h; obtain ⟨l, g⟩ := g; exact ⟨k + l, by rw [h, g]; grind⟩
theorem Cg.add {a b c d : Int} (h : Cg a b) (g : Cg c d) : Cg (a + c) (b + d) := by obtain ⟨k, h⟩ := h; obtain ⟨l, g⟩ := g; exact ⟨k + l, by rw [h, g]; grind⟩
theorem Cg.sub {a b c d : Int} (h : Cg a b) (g : Cg c d) : Cg (a - c) (b - d) := by obtain ⟨k, h⟩ := h; obtain ⟨l, g⟩ := g; exact ⟨k - l, by rw [h, g]; grind⟩
theorem Cg.mul {a b c d : Int} (h : Cg a b) (g : Cg c d) : Cg (a * c) (b * d) := by obtain ⟨k, h⟩ := h; obtain ⟨l, g⟩ := g; exact ⟨k * d + b * l + k * l * P, by rw [h, g]; grind⟩
theorem Cg.mod (a : Int) : Cg a (a % P) := ⟨a / P, by have := Int.emod_add_mul_ediv a P; rw [Int.mul_comm] at this; omega⟩
theorem Cg.eq {a b : Int} (h : Cg a b) : a % P = b % P := by obtain ⟨k, h⟩ := h; rw [h, Int.add_mul_emod_self_right]
theorem Carried.cg {s y : List Int} {c : Int} (h : Carried s y c) : Cg (val y) (val s) := ⟨-(2 * c), by rw [h.v, two_P]; grind⟩
/-- two carries bring a product in order -/
theorem twice (s : List Int) (hs : s.length = 16) (h : ∀ j, -200000000000000 ≤ at0 s j ∧ at0 s j ≤ 200000000000000) : Red (ck (ck s 16) 16) ∧ Cg (val (ck (ck s 16) 16)) (val s) := by
  obtain ⟨c, h1⟩ := carried s 200000000000000 hs (by decide) h
  obtain ⟨y, hy⟩ : ∃ y, y = ck s 16 := ⟨_, rfl⟩
  rw [← hy] at h1 ⊢
  have hv := val_le s (-200000000000000) 200000000000000 (by decide) (by decide) h 16
  rw [List.take_of_length_le (by omega)] at hv
  have h2 := h1.lo
  have h3 := h1.hi
  have h4 := h1.low
  rw [pw16] at hv h2 h3
  have hcb : -3100000000 ≤ c ∧ c ≤ 3100000000 := by omega
  have hyb : ∀ j, -117800065536 ≤ at0 y j ∧ at0 y j ≤ 117800065536 := fun j => by
    by_cases hj : j = 0
    · subst hj; omega
    · by_cases hj2 : j < 16
      · have := h1.dig j (by omega) hj2; omega
      · rw [at_out _ _ (by rw [h1.len]; omega)]; omega
  obtain ⟨d, g1⟩ := carried y 117800065536 h1.len (by decide) hyb
  have hd : ∀ j, j < 16 → 0 ≤ at0 (y.set 0 (at0 y 0 - 38 * c)) j ∧ at0 (y.set 0 (at0 y 0 - 38 * c)) j < 65536 := fun j hj => by
    rw [at_set _ _ _ _ (by rw [h1.len]; omega)]
    split
    · omega
    · exact h1.dig j (by omega) hj
  have hz := val_digits _ 16 hd
  rw [List.take_of_length_le (by rw [List.length_set, h1.len]; omega), val_set _ _ _ (by rw [h1.len]; omega), show pw 0 = 1 from rfl, pw16] at hz
  have g2 := g1.lo
  have g3 := g1.hi
  have g4 := g1.low
  rw [pw16] at g2 g3
  have hdb : -1 ≤ d ∧ d ≤ 1 := by omega
  refine ⟨⟨g1.len, fun j => ?_⟩, g1.cg.trans h1.cg⟩
  by_cases hj : j = 0
  · subst hj; omega
  · by_cases hj2 : j < 16
    · have := g1.dig j (by omega) hj2; omega
    · rw [at_out _ _ (by rw [g1.len]; omega)]; omega
/-- all limbs in order -/
def Norm (s : List Int) : Prop := s.length = 16 ∧ ∀ j, j < 16 → 0 ≤ at0 s j ∧ at0 s j < 65536
theorem Norm.bd {s : List Int} (h : Norm s) : 0 ≤ val s ∧ val s < pw 16 := by
  have := val_digits s 16 h.2
  rwa [List.take_of_length_le (by rw [h.1]; omega)] at this
theorem Carried.norm {s y : List Int} (h : Carried s y 0) : Norm y ∧ val y = val s := by
  refine ⟨⟨h.len, fun j hj => ?_⟩, by rw [h.v]; omega⟩
  by_cases h0 : j = 0
  · subst h0; have := h.low; omega
  · exact h.dig j (by omega) hj
/-- three carries bring it in order -/
theorem thrice (s : List Int) (h : Red s) : Norm (ck (ck (ck s 16) 16) 16) ∧ Cg (val (ck (ck (ck s 16) 16) 16)) (val s) := by
  have h0 : ∀ j, -65573 ≤ at0 s j ∧ at0 s j ≤ 65573 := fun j => by have := h.2 j; omega
  obtain ⟨c, h1⟩ := carried s 65573 h.1 (by decide) h0
  obtain ⟨y, hy⟩ : ∃ y, y = ck s 16 := ⟨_, rfl⟩
  rw [← hy] at h1 ⊢
  have hv := val_le s (-38) 65573 (by decide) (by decide) h.2 16
  rw [List.take_of_length_le (by rw [h.1]; omega)] at hv
  have h2 := h1.lo
  have h3 := h1.hi
  have h4 := h1.low
  have h5 := h1.v
  rw [pw16] at hv h2 h3 h5
  have hcb : -1 ≤ c ∧ c ≤ 1 := by omega
  have hyv : 0 ≤ val y ∧ val y < 115792089237316195423570985008687907853269984665640564039457584007913129639936 := by
    have h3c : c = -1 ∨ c = 0 ∨ c = 1 := by omega
    rcases h3c with rfl | rfl | rfl <;> omega
  have hyb : ∀ j, -65573 ≤ at0 y j ∧ at0 y j ≤ 65573 := fun j => by
    by_cases hj : j = 0
    · subst hj; omega
    · by_cases hj2 : j < 16
      · have := h1.dig j (by omega) hj2; omega
      · rw [at_out _ _ (by rw [h1.len]; omega)]; omega
  obtain ⟨d, g1⟩ := carried y 65573 h1.len (by decide) hyb
  have g2 := g1.lo
  have g3 := g1.hi
  rw [pw16] at g2 g3
  obtain rfl : d = 0 := by omega
  obtain ⟨n1, n2⟩ := g1.norm
  obtain ⟨z, hz⟩ : ∃ z, z = ck y 16 := ⟨_, rfl⟩
  rw [← hz] at g1 n1 n2 ⊢
  have hzb : ∀ j, -65573 ≤ at0 z j ∧ at0 z j ≤ 65573 := fun j => by
    by_cases hj2 : j < 16
    · have := n1.2 j hj2; omega
    · rw [at_out _ _ (by rw [n1.1]; omega)]; omega
  obtain ⟨e, f1⟩ := carried z 65573 n1.1 (by decide) hzb
  have f2 := f1.lo
  have f3 := f1.hi
  rw [pw16] at f2 f3
  obtain rfl : e = 0 := by omega
  obtain ⟨m1, m2⟩ := f1.norm
  exact ⟨m1, by rw [m2, n2]; exact h1.cg⟩
theorem pw_add (i k : Nat) : pw (i + k) = pw i * pw k := by
  induction i with
  | zero => simp [pw]
  | succ i ih => rw [show i + 1 + k = (i + k) + 1 by omega, pw, pw, ih]; grind
/-- within a product -/
structure Prod (x y t : List Int) (i k : Nat) : Prop where
  len : t.length = 31
  v : val t = val (x.take i) * val y + at0 x i * pw i * val (y.take k)
  bd : ∀ j, -((16 * i + k) * 19600000000) ≤ at0 t j ∧ at0 t j ≤ (16 * i + k) * 19600000000
theorem Prod.start (x y : List Int) : Prod x y (List.replicate 31 0) 0 0 := by
  refine ⟨by simp, ?_, fun j => ?_⟩
  · rw [val_replicate]; simp [val]
  · unfold at0
    rw [List.getD_eq_getElem?_getD, List.getElem?_replicate]
    split <;> simp
/-- limbs that may be multiplied -/
def Fit (s : List Int) : Prop := s.length = 16 ∧ ∀ j, -140000 ≤ at0 s j ∧ at0 s j ≤ 140000
theorem mul_bd (a b : Int) (ha : -140000 ≤ a ∧ a ≤ 140000) (hb : -140000 ≤ b ∧ b ≤ 140000) : -19600000000 ≤ a * b ∧ a * b ≤ 19600000000 := by
  have h1 : 0 ≤ (140000 - a) * (140000 + b) := Int.mul_nonneg (by omega) (by omega)
  have h2 : 0 ≤ (140000 + a) * (140000 - b) := Int.mul_nonneg (by omega) (by omega)
  have h3 : 0 ≤ (140000 - a) * (140000 - b) := Int.mul_nonneg (by omega) (by omega)
  have h4 : 0 ≤ (140000 + a) * (140000 + b) := Int.mul_nonneg (by omega) (by omega)
  have e1 : (140000 - a) * (140000 + b) = 19600000000 + 140000 * b - 140000 * a - a * b := by grind
  have e2 : (140000 + a) * (140000 - b) = 19600000000 - 140000 * b + 140000 * a - a * b := by grind
  have e3 : (140000 - a) * (140000 - b) = 19600000000 - 140000 * b - 140000 * a + a * b := by grind
  have e4 : (140000 + a) * (140000 + b) = 19600000000 + 140000 * b + 140000 * a + a * b := by grind
  omega
theorem Prod.step {x y t : List Int} {i k : Nat} (hx : Fit x) (hy : Fit y) (hi : i < 16) (hk : k < 16) (h : Prod x y t i k) : Prod x y (t.set (i + k) (at0 t (i + k) + at0 x i * at0 y k)) i (k + 1) := by
  have hb := mul_bd _ _ (hx.2 i) (hy.2 k)
  refine ⟨by rw [List.length_set]; exact h.len, ?_, fun j => ?_⟩
  · rw [val_set _ _ _ (by rw [h.len]; omega), h.v, val_take_succ, pw_add]; grind
  · have h1 := h.bd j
    have h2 := h.bd (i + k)
    rw [at_set _ _ _ _ (by rw [h.len]; omega)]
    split <;> omega
theorem Prod.next {x y t : List Int} {i : Nat} (hy : y.length = 16) (h : Prod x y t i 16) : Prod x y t (i + 1) 0 := by
  refine ⟨h.len, ?_, fun j => by have := h.bd j; omega⟩
  have e : val (y.take 16) = val y := by rw [List.take_of_length_le (by omega)]
  rw [h.v, e, val_take_succ, List.take_zero, val]
  grind
/-- within the folding of a product -/
structure Fold (t o : List Int) (k : Nat) : Prop where
  len : o.length = 16
  v : val o = val (t.take k) + 38 * val ((t.drop 16).take k)
  rest : ∀ j, k ≤ j → at0 o j = 0
  bd : ∀ j, -195686400000000 ≤ at0 o j ∧ at0 o j ≤ 195686400000000
theorem Fold.start (t : List Int) : Fold t (List.replicate 16 0) 0 := by
  have h : ∀ j, at0 (List.replicate 16 0) j = 0 := fun j => by
    unfold at0
    rw [List.getD_eq_getElem?_getD, List.getElem?_replicate]
    split <;> simp
  refine ⟨by simp, ?_, fun j _ => h j, fun j => by rw [h j]; omega⟩
  rw [val_replicate]; simp [val]
theorem at_drop (t : List Int) (i k : Nat) : at0 (t.drop i) k = at0 t (k + i) := by
  unfold at0; simp [List.getElem?_drop, Nat.add_comm]
theorem Fold.step {t o : List Int} {k : Nat} (ht : t.length = 31) (hb : ∀ j, -5017600000000 ≤ at0 t j ∧ at0 t j ≤ 5017600000000) (hk : k < 15) (h : Fold t o k) : Fold t ((o.set k (at0 t k)).set k (at0 t k + 38 * at0 t (k + 16))) (k + 1) := by
  have h1 := hb k
  have h2 := hb (k + 16)
  rw [List.set_set]
  have hat : ∀ j, at0 (o.set k (at0 t k + 38 * at0 t (k + 16))) j = if k = j then at0 t k + 38 * at0 t (k + 16) else at0 o j := fun j => at_set _ _ _ _ (by rw [h.len]; omega)
  refine ⟨by rw [List.length_set]; exact h.len, ?_, fun j hj => ?_, fun j => ?_⟩
  · rw [val_set _ _ _ (by rw [h.len]; omega), h.v, h.rest k (Nat.le_refl _), val_take_succ, val_take_succ, at_drop]; grind
  · rw [hat, if_neg (by omega)]; exact h.rest j (by omega)
  · rw [hat]
    split
    · omega
    · exact h.bd j
theorem Fold.last {t o : List Int} (ht : t.length = 31) (hb : ∀ j, -5017600000000 ≤ at0 t j ∧ at0 t j ≤ 5017600000000) (h : Fold t o 15) : Fold t (o.set 15 (at0 t 15)) 16 := by
  have h1 := hb 15
  have hat : ∀ j, at0 (o.set 15 (at0 t 15)) j = if 15 = j then at0 t 15 else at0 o j := fun j => at_set _ _ _ _ (by rw [h.len]; omega)
  refine ⟨by rw [List.length_set]; exact h.len, ?_, fun j hj => ?_, fun j => ?_⟩
  · rw [val_set _ _ _ (by rw [h.len]; omega), h.v, h.rest 15 (Nat.le_refl _), val_take_succ t 15, val_take_succ (t.drop 16) 15, at_drop, at_out t (15 + 16) (by omega)]; grind
  · rw [hat, if_neg (by omega)]; exact h.rest j (by omega)
  · rw [hat]
    split
    · omega
    · exact h.bd j
/-- a product, folded and carried twice -/
theorem times_red {x y t o : List Int} (hx : x.length = 16) (ht : Prod x y t 16 0) (h : Fold t o 16) : Red (ck (ck o 16) 16) ∧ Cg (val (ck (ck o 16) 16)) (val x * val y) := by
  obtain ⟨h1, h2⟩ := twice o h.len (fun j => by have := h.bd j; omega)
  refine ⟨h1, h2.trans ?_⟩
  have e1 := val_split t 16 (by rw [ht.len]; omega)
  have e2 := ht.v
  rw [List.take_of_length_le (by omega), List.take_zero, val] at e2
  have e3 := h.v
  rw [List.take_of_length_le (l := t.drop 16) (by rw [List.length_drop, ht.len]; omega)] at e3
  have e4 := two_P
  refine ⟨-(2 * val (t.drop 16)), ?_⟩
  rw [e3]
  have e5 : val x * val y = val t := by rw [e2]; grind
  rw [e5, e1]
  have e6 : pw 16 = 2 * P + 38 := by omega
  rw [e6]; grind
end Go.Con.Cv
