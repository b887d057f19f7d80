/-
  Numbers: Fermat's little theorem, and a test of primes that kernel reckoning can bear.
-/
set_option linter.unusedVariables false
namespace Go.Con.Cv
/-- a prime -/
def Pr (p : Nat) : Prop := 1 < p ∧ ∀ d, d ∣ p → d = 1 ∨ d = p
theorem Pr.cop {p a : Nat} (hp : Pr p) (h : ¬ p ∣ a) : Nat.gcd p a = 1 := by
  rcases hp.2 _ (Nat.gcd_dvd_left p a) with h1 | h1
  · exact h1
  · exact absurd (h1 ▸ Nat.gcd_dvd_right p a) h
theorem Pr.mul {p a b : Nat} (hp : Pr p) (h : p ∣ a * b) : p ∣ a ∨ p ∣ b := by
  by_cases ha : p ∣ a
  · exact .inl ha
  · exact .inr (Nat.Coprime.dvd_of_dvd_mul_left (hp.cop ha) h)
/-- binomials -/
def ch : Nat → Nat → Nat
  | _, 0 => 1
  | 0, _ + 1 => 0
  | n + 1, k + 1 => ch n k + ch n (k + 1)
theorem ch_zero (n : Nat) : ch n 0 = 1 := by cases n <;> rfl
theorem ch_mul (n : Nat) : ∀ k, (k + 1) * ch (n + 1) (k + 1) = (n + 1) * ch n k := by
  induction n with
  | zero => intro k; cases k with
    | zero => rfl
    | succ k => simp [ch]
  | succ n ih =>
    intro k
    cases k with
    | zero =>
      have h := ih 0
      have e : ch (n + 1 + 1) (0 + 1) = ch (n + 1) 0 + ch (n + 1) (0 + 1) := rfl
      rw [e]
      rw [ch_zero] at h ⊢
      omega
    | succ k =>
      have h1 := ih k
      have h2 := ih (k + 1)
      rw [ch]
      have e : (k + 1 + 1) * (ch (n + 1) (k + 1) + ch (n + 1) (k + 1 + 1)) = (k + 1) * ch (n + 1) (k + 1) + ch (n + 1) (k + 1) + (k + 1 + 1) * ch (n + 1) (k + 1 + 1) := by grind
      rw [e, h1, h2]
      have e3 : ch (n + 1) (k + 1) = ch n k + ch n (k + 1) := rfl
      rw [e3]; grind
/-- a sum of so many terms -/
def sm (f : Nat → Nat) : Nat → Nat
  | 0 => 0
  | k + 1 => sm f k + f k
theorem sm_congr {f g : Nat → Nat} : ∀ k, (∀ j, j < k → f j = g j) → sm f k = sm g k
  | 0, _ => rfl
  | k + 1, h => by rw [sm, sm, sm_congr k (fun j hj => h j (by omega)), h k (by omega)]
theorem sm_add (f g : Nat → Nat) : ∀ k, sm (fun j => f j + g j) k = sm f k + sm g k
  | 0 => rfl
  | k + 1 => by rw [sm, sm, sm, sm_add f g k]; omega
theorem sm_mul (a : Nat) (f : Nat → Nat) : ∀ k, sm (fun j => a * f j) k = a * sm f k
  | 0 => rfl
  | k + 1 => by rw [sm, sm, sm_mul a f k]; grind
theorem sm_first (f : Nat → Nat) : ∀ k, sm f (k + 1) = f 0 + sm (fun j => f (j + 1)) k
  | 0 => by simp [sm]
  | k + 1 => by rw [sm, sm_first f k, sm]; omega
theorem sm_dvd {p : Nat} {f : Nat → Nat} : ∀ k, (∀ j, j < k → p ∣ f j) → p ∣ sm f k
  | 0, _ => Nat.dvd_zero _
  | k + 1, h => Nat.dvd_add (sm_dvd k fun j hj => h j (by omega)) (h k (by omega))
theorem ch_out : ∀ n k, n < k → ch n k = 0
  | 0, k + 1, _ => rfl
  | n + 1, k + 1, h => by rw [ch, ch_out n k (by omega), ch_out n (k + 1) (by omega)]
theorem binom (a : Nat) : ∀ n, (a + 1) ^ n = sm (fun j => ch n j * a ^ j) (n + 1)
  | 0 => by simp [sm, ch]
  | n + 1 => by
    rw [Nat.pow_succ, binom a n, sm_first _ (n + 1), ch_zero]
    have e1 : sm (fun j => ch (n + 1) (j + 1) * a ^ (j + 1)) (n + 1) = sm (fun j => a * (ch n j * a ^ j) + ch n (j + 1) * a ^ (j + 1)) (n + 1) :=
      sm_congr _ fun j _ => by rw [ch]; grind
    rw [e1, sm_add, sm_mul]
    have e2 := sm_first (fun j => ch n j * a ^ j) (n + 1)
    have e3 : sm (fun j => ch n j * a ^ j) (n + 1 + 1) = sm (fun j => ch n j * a ^ j) (n + 1) := by rw [sm, ch_out n (n + 1) (by omega)]; omega
    rw [e3, ch_zero] at e2
    grind
theorem Pr.ch {p : Nat} (hp : Pr p) (j : Nat) (h0 : 0 < j) (h1 : j < p) : p ∣ ch p j := by
  obtain ⟨k, rfl⟩ : ∃ k, j = k + 1 := ⟨j - 1, by omega⟩
  obtain ⟨n, rfl⟩ : ∃ n, p = n + 1 := ⟨p - 1, by have := hp.1; omega⟩
  have h := ch_mul n k
  rcases hp.mul (a := k + 1) (b := Cv.ch (n + 1) (k + 1)) ⟨Cv.ch n k, h⟩ with h2 | h2
  · have := Nat.le_of_dvd (by omega) h2; omega
  · exact h2
theorem Pr.step {p : Nat} (hp : Pr p) (a : Nat) : (a + 1) ^ p % p = (a ^ p + 1) % p := by
  obtain ⟨n, rfl⟩ : ∃ n, p = n + 1 := ⟨p - 1, by have := hp.1; omega⟩
  rw [binom a (n + 1), sm, sm_first]
  have hd : n + 1 ∣ sm (fun j => Cv.ch (n + 1) (j + 1) * a ^ (j + 1)) n := sm_dvd _ fun j hj => Nat.dvd_trans (hp.ch (j + 1) (by omega) (by omega)) (Nat.dvd_mul_right _ _)
  obtain ⟨k, hk⟩ := hd
  rw [hk, ch_zero]
  have e1 : Cv.ch (n + 1) (n + 1) = 1 := by
    have : ∀ m, Cv.ch m m = 1 := fun m => by
      induction m with
      | zero => rfl
      | succ m ih => rw [Cv.ch, ih, ch_out m (m + 1) (by omega)]
    exact this _
  rw [e1]
  have e2 : 1 * a ^ 0 + (n + 1) * k + 1 * a ^ (n + 1) = (a ^ (n + 1) + 1) + (n + 1) * k := by simp; omega
  rw [e2, Nat.add_mul_mod_self_left]
theorem Pr.fermat {p : Nat} (hp : Pr p) : ∀ a, a ^ p % p = a % p
  | 0 => by rw [Nat.zero_pow (by have := hp.1; omega)]
  | a + 1 => by
    rw [hp.step, Nat.add_mod, hp.fermat a, ← Nat.add_mod]
theorem Pr.little {p : Nat} (hp : Pr p) {a : Nat} (ha : ¬ p ∣ a) : a ^ (p - 1) % p = 1 := by
  have h := hp.fermat a
  have e : a ^ p = a * a ^ (p - 1) := by
    have : p = (p - 1) + 1 := by have := hp.1; omega
    rw [this, Nat.pow_succ, Nat.add_sub_cancel, Nat.mul_comm]
  have hpos : 1 ≤ a ^ (p - 1) := Nat.pos_of_ne_zero (fun h0 => ha (by
    have : a = 0 := by
      rcases Nat.eq_zero_or_pos a with h | h
      · exact h
      · have := Nat.pow_pos (n := p - 1) h; omega
    rw [this]; exact Nat.dvd_zero _))
  have hd : p ∣ a * (a ^ (p - 1) - 1) := by
    rw [Nat.mul_sub, Nat.mul_one, ← e]
    have hle : a ≤ a ^ p := by rw [e]; exact Nat.le_mul_of_pos_right _ hpos
    exact Nat.dvd_of_mod_eq_zero (Nat.sub_mod_eq_zero_of_mod_eq h)
  rcases hp.mul hd with h1 | h1
  · exact absurd h1 ha
  · obtain ⟨k, hk⟩ := h1
    have : a ^ (p - 1) = 1 + p * k := by omega
    rw [this, Nat.add_mul_mod_self_left, Nat.mod_eq_of_lt hp.1]
/-- powers modulo p are alike at the greatest divisor of their exponents -/
theorem Pr.pow_gcd {p a : Nat} (hp : Pr p) : ∀ m n : Nat, a ^ m % p = 1 → a ^ n % p = 1 → a ^ Nat.gcd m n % p = 1 := by
  intro m n
  induction m, n using Nat.gcd.induction with
  | H0 n => intro _ h; rw [Nat.gcd_zero_left]; exact h
  | H1 m n hm ih =>
    intro h1 h2
    rw [Nat.gcd_rec]
    refine ih ?_ h1
    have e : n = m * (n / m) + n % m := (Nat.div_add_mod n m).symm
    rw [e, Nat.pow_add, Nat.pow_mul, Nat.mul_mod, Nat.pow_mod, h1, Nat.one_pow] at h2
    rw [Nat.mod_eq_of_lt hp.1, Nat.one_mul, Nat.mod_mod] at h2
    exact h2
/-- a^e modulo m, by squaring -/
def pm (a m : Nat) : Nat → Nat → Nat
  | 0, _ => 1 % m
  | f + 1, e => if e = 0 then 1 % m else (pm a m f (e / 2) * pm a m f (e / 2) % m) * (if e % 2 = 1 then a else 1) % m
theorem pm_eq (a m : Nat) : ∀ f e, e < 2 ^ f → pm a m f e = a ^ e % m
  | 0, e, h => by
    have : e = 0 := by simp at h; omega
    subst this; simp [pm]
  | f + 1, e, h => by
    rw [pm]
    by_cases h0 : e = 0
    · subst h0; simp
    · rw [if_neg h0, pm_eq a m f (e / 2) (by rw [Nat.pow_succ] at h; omega)]
      have e1 : e = 2 * (e / 2) + e % 2 := (Nat.div_add_mod e 2).symm
      have e2 : (if e % 2 = 1 then a else 1) = a ^ (e % 2) := by
        rcases Nat.mod_two_eq_zero_or_one e with h | h <;> rw [h] <;> simp
      rw [e2, ← Nat.mul_mod, Nat.mul_mod, Nat.mod_mod, ← Nat.mul_mod, ← Nat.pow_add, ← Nat.pow_add, ← Nat.two_mul, ← e1]
/-- a number without small divisors -/
def noDiv (n : Nat) : Nat → Bool
  | 0 => true
  | k + 1 => (k + 1 == 1 || n % (k + 1) != 0) && noDiv n k
theorem noDiv_spec (n : Nat) : ∀ k, noDiv n k = true → ∀ d, 2 ≤ d → d ≤ k → ¬ d ∣ n
  | 0, _, d, h1, h2 => by omega
  | k + 1, h, d, h1, h2 => by
    rw [noDiv, Bool.and_eq_true] at h
    by_cases hd : d = k + 1
    · subst hd
      intro hdv
      have := h.1
      rw [Bool.or_eq_true, beq_iff_eq, bne_iff_ne] at this
      rcases this with h3 | h3
      · omega
      · exact h3 (Nat.mod_eq_zero_of_dvd hdv)
    · exact noDiv_spec n k h.2 d h1 (by omega)
/-- the least divisor is a prime -/
theorem least (n : Nat) (hn : 1 < n) : ∃ p, Pr p ∧ p ∣ n ∧ (p = n ∨ p * p ≤ n) := by
  have hex : ∃ k, ∃ d, d = k ∧ 2 ≤ d ∧ d ∣ n := ⟨n, n, rfl, hn, Nat.dvd_refl n⟩
  have key : ∀ k, (∃ d, d ≤ k ∧ 2 ≤ d ∧ d ∣ n) → ∃ p, 2 ≤ p ∧ p ∣ n ∧ ∀ d, 2 ≤ d → d ∣ n → p ≤ d := by
    intro k
    induction k with
    | zero => rintro ⟨d, h1, h2, _⟩; omega
    | succ k ih =>
      rintro ⟨d, h1, h2, h3⟩
      by_cases h : ∃ d, d ≤ k ∧ 2 ≤ d ∧ d ∣ n
      · exact ih h
      · refine ⟨d, h2, h3, fun c h4 h5 => ?_⟩
        by_cases hc : c ≤ k
        · exact absurd ⟨c, hc, h4, h5⟩ h
        · omega
  obtain ⟨p, h1, h2, h3⟩ := key n ⟨n, Nat.le_refl _, hn, Nat.dvd_refl _⟩
  refine ⟨p, ⟨by omega, fun d hd => ?_⟩, h2, ?_⟩
  · by_cases hd1 : d = 1
    · exact .inl hd1
    · have hd0 : d ≠ 0 := fun e => by subst e; have := Nat.eq_zero_of_zero_dvd hd; omega
      have hle := Nat.le_of_dvd (by omega) hd
      exact .inr (Nat.le_antisymm hle (h3 d (by omega) (Nat.dvd_trans hd h2)))
  · obtain ⟨e, he⟩ := h2
    by_cases h : e = 1
    · left; rw [he, h, Nat.mul_one]
    · right
      have he0 : e ≠ 0 := fun e0 => by rw [e0] at he; omega
      have := h3 e (by omega) ⟨p, by rw [he, Nat.mul_comm]⟩
      rw [he]; exact Nat.mul_le_mul_left p this
theorem pr_small {n k : Nat} (h1 : 1 < n) (h2 : n < (k + 1) * (k + 1)) (h3 : noDiv n k = true) : Pr n := by
  obtain ⟨p, hp, hd, h⟩ := least n h1
  rcases h with rfl | h
  · exact hp
  · exfalso
    by_cases hpk : p ≤ k
    · exact noDiv_spec n k h3 p hp.1 hpk hd
    · have : (k + 1) * (k + 1) ≤ p * p := Nat.mul_le_mul (by omega) (by omega)
      omega
/-- one prime q that divides n - 1 -/
structure Wit (n q a r : Nat) : Prop where
  n1 : n - 1 = q * r
  one : a ^ (n - 1) % n = 1
  cop : Nat.gcd (a ^ r % n + (n - 1)) n = 1
theorem Wit.dvd {n q a r p : Nat} (hn : 1 < n) (hq : Pr q) (h : Wit n q a r) (hp : Pr p) (hd : p ∣ n) : q ∣ p - 1 := by
  obtain ⟨m, hm⟩ := hd
  have modn : ∀ x, x % n % p = x % p := fun x => by rw [hm]; exact Nat.mod_mul_right_mod x p m
  have h1 : a ^ (n - 1) % p = 1 := by rw [← modn, h.one, Nat.mod_eq_of_lt hp.1]
  have ha : ¬ p ∣ a := fun hd => by
    rw [Nat.pow_mod, Nat.mod_eq_zero_of_dvd hd, Nat.zero_pow (by omega)] at h1
    simp at h1
  have hl := hp.little ha
  have b1 : (a ^ r) ^ q % p = 1 := by rw [← Nat.pow_mul, Nat.mul_comm, ← h.n1]; exact h1
  have b2 : (a ^ r) ^ (p - 1) % p = 1 := by
    rw [← Nat.pow_mul, Nat.mul_comm, Nat.pow_mul, Nat.pow_mod, hl, Nat.one_pow, Nat.mod_eq_of_lt hp.1]
  by_cases hqp : q ∣ p - 1
  · exact hqp
  · exfalso
    have hg := hp.pow_gcd q (p - 1) b1 b2
    rw [hq.cop hqp, Nat.pow_one] at hg
    have e1 := modn (a ^ r)
    rw [hg] at e1
    have e2 := Nat.div_add_mod (a ^ r % n) p
    rw [e1] at e2
    have hdv : p ∣ Nat.gcd (a ^ r % n + (n - 1)) n := Nat.dvd_gcd ⟨a ^ r % n / p + m, by rw [Nat.mul_add, ← hm]; omega⟩ ⟨m, hm⟩
    rw [h.cop] at hdv
    have := Nat.le_of_dvd (by omega) hdv
    have := hp.1
    omega
theorem pr_one {n q a r : Nat} (hn : 1 < n) (hq : Pr q) (h : Wit n q a r) (hb : n < (q + 1) * (q + 1)) : Pr n := by
  obtain ⟨p, hp, hd, hc⟩ := least n hn
  rcases hc with rfl | hc
  · exact hp
  · exfalso
    have := Nat.le_of_dvd (by have := hp.1; omega) (h.dvd hn hq hp hd)
    have : (q + 1) * (q + 1) ≤ p * p := Nat.mul_le_mul (by have := hp.1; omega) (by have := hp.1; omega)
    omega
theorem pr_two {n q a r q' a' r' : Nat} (hn : 1 < n) (hq : Pr q) (h : Wit n q a r) (hq' : Pr q') (h' : Wit n q' a' r') (hne : ¬ q ∣ q') (hb : n < (q * q' + 1) * (q * q' + 1)) : Pr n := by
  obtain ⟨p, hp, hd, hc⟩ := least n hn
  rcases hc with rfl | hc
  · exact hp
  · exfalso
    have hdv : q * q' ∣ p - 1 := Nat.Coprime.mul_dvd_of_dvd_of_dvd (hq.cop hne) (h.dvd hn hq hp hd) (h'.dvd hn hq' hp hd)
    have := Nat.le_of_dvd (by have := hp.1; omega) hdv
    have : (q * q' + 1) * (q * q' + 1) ≤ p * p := Nat.mul_le_mul (by have := hp.1; omega) (by have := hp.1; omega)
    omega
/-- the same by reckoning -/
def witB (n q a r f : Nat) : Bool := n - 1 == q * r && (pm a n f (n - 1) == 1 && Nat.gcd (pm a n f r + (n - 1)) n == 1)
theorem wit_of {n q a r : Nat} (f : Nat) (hn : 1 < n) (hf : n ≤ 2 ^ f) (h : witB n q a r f = true) : Wit n q a r := by
  unfold witB at h
  rw [Bool.and_eq_true, Bool.and_eq_true, beq_iff_eq, beq_iff_eq, beq_iff_eq] at h
  obtain ⟨h1, h2, h3⟩ := h
  have hr : r < 2 ^ f := by
    rcases Nat.eq_zero_or_pos q with h0 | h0
    · subst h0; rw [Nat.zero_mul] at h1; omega
    · have : r ≤ q * r := Nat.le_mul_of_pos_left _ h0
      omega
  rw [pm_eq _ _ _ _ (by omega)] at h2
  rw [pm_eq _ _ _ _ hr] at h3
  exact ⟨h1, h2, h3⟩
theorem pr0 : Pr 103 := pr_small (k := 10) (by decide) (by decide) (by decide +kernel)
theorem pr1 : Pr 127 := pr_small (k := 11) (by decide) (by decide) (by decide +kernel)
theorem pr2 : Pr 991 := pr_small (k := 31) (by decide) (by decide) (by decide +kernel)
theorem pr3 : Pr 2281 := pr_small (k := 47) (by decide) (by decide) (by decide +kernel)
theorem pr4 : Pr 2551 := pr_small (k := 50) (by decide) (by decide) (by decide +kernel)
theorem pr5 : Pr 3911 := pr_small (k := 62) (by decide) (by decide) (by decide +kernel)
theorem pr6 : Pr 4153 := pr_small (k := 64) (by decide) (by decide) (by decide +kernel)
theorem pr7 : Pr 8053 := pr_small (k := 89) (by decide) (by decide) (by decide +kernel)
theorem pr8 : Pr 28859 := pr_small (k := 169) (by decide) (by decide) (by decide +kernel)
theorem pr9 : Pr 430751 := pr_small (k := 656) (by decide) (by decide) (by decide +kernel)
theorem pr10 : Pr 531581 := pr_small (k := 729) (by decide) (by decide) (by decide +kernel)
theorem pr11 : Pr 569003 := pr_small (k := 754) (by decide) (by decide) (by decide +kernel)
theorem pr12 : Pr 1224481 := pr_one (by decide) pr4 (wit_of (q := 2551) (a := 2) (r := 480) 21 (by decide) (by decide +kernel) (by decide +kernel)) (by decide +kernel)
theorem pr13 : Pr 8574133 := pr_two (by decide) pr2 (wit_of (q := 991) (a := 2) (r := 8652) 24 (by decide) (by decide +kernel) (by decide +kernel)) pr0 (wit_of (q := 103) (a := 2) (r := 83244) 24 (by decide) (by decide +kernel) (by decide +kernel)) (by decide +kernel) (by decide +kernel)
theorem pr14 : Pr 2773320623 := pr_one (by decide) pr11 (wit_of (q := 569003) (a := 2) (r := 4874) 32 (by decide) (by decide +kernel) (by decide +kernel)) (by decide +kernel)
theorem pr15 : Pr 72106336199 := pr_one (by decide) pr14 (wit_of (q := 2773320623) (a := 2) (r := 26) 37 (by decide) (by decide +kernel) (by decide +kernel)) (by decide +kernel)
theorem pr16 : Pr 1013266244677 := pr_two (by decide) pr7 (wit_of (q := 8053) (a := 2) (r := 125824692) 40 (by decide) (by decide +kernel) (by decide +kernel)) pr5 (wit_of (q := 3911) (a := 2) (r := 259081116) 40 (by decide) (by decide +kernel) (by decide +kernel)) (by decide +kernel) (by decide +kernel)
theorem pr17 : Pr 5171003929967 := pr_two (by decide) pr8 (wit_of (q := 28859) (a := 2) (r := 179181674) 43 (by decide) (by decide +kernel) (by decide +kernel)) pr3 (wit_of (q := 2281) (a := 2) (r := 2266989886) 43 (by decide) (by decide +kernel) (by decide +kernel)) (by decide +kernel) (by decide +kernel)
theorem pr18 : Pr 1257559732178653 := pr_two (by decide) pr12 (wit_of (q := 1224481) (a := 2) (r := 1027014492) 51 (by decide) (by decide +kernel) (by decide +kernel)) pr10 (wit_of (q := 531581) (a := 2) (r := 2365697292) 51 (by decide) (by decide +kernel) (by decide +kernel)) (by decide +kernel) (by decide +kernel)
theorem pr19 : Pr 1919519569386763 := pr_two (by decide) pr13 (wit_of (q := 8574133) (a := 2) (r := 223873314) 51 (by decide) (by decide +kernel) (by decide +kernel)) pr1 (wit_of (q := 127) (a := 2) (r := 15114327318006) 51 (by decide) (by decide +kernel) (by decide +kernel)) (by decide +kernel) (by decide +kernel)
theorem pr20 : Pr 31757755568855353 := pr_two (by decide) pr9 (wit_of (q := 430751) (a := 2) (r := 73726481352) 55 (by decide) (by decide +kernel) (by decide +kernel)) pr6 (wit_of (q := 4153) (a := 2) (r := 7646943310584) 55 (by decide) (by decide +kernel) (by decide +kernel)) (by decide +kernel) (by decide +kernel)
theorem pr21 : Pr 4434155615661930479 := pr_one (by decide) pr18 (wit_of (q := 1257559732178653) (a := 2) (r := 3526) 62 (by decide) (by decide +kernel) (by decide +kernel)) (by decide +kernel)
theorem pr22 : Pr 22561162540501040539 := pr_one (by decide) pr17 (wit_of (q := 5171003929967) (a := 2) (r := 4363014) 65 (by decide) (by decide +kernel) (by decide +kernel)) (by decide +kernel)
theorem pr23 : Pr 172054593956031949258510691 := pr_one (by decide) pr21 (wit_of (q := 4434155615661930479) (a := 2) (r := 38802110) 88 (by decide) (by decide +kernel) (by decide +kernel)) (by decide +kernel)
theorem pr24 : Pr 75445702479781427272750846543864801 := pr_two (by decide) pr19 (wit_of (q := 1919519569386763) (a := 2) (r := 39304471641247389600) 116 (by decide) (by decide +kernel) (by decide +kernel)) pr15 (wit_of (q := 72106336199) (a := 2) (r := 1046311689884858398375200) 116 (by decide) (by decide +kernel) (by decide +kernel)) (by decide +kernel) (by decide +kernel)
theorem pr25 : Pr 19757330305831588566944191468367130476339 := pr_one (by decide) pr23 (wit_of (q := 172054593956031949258510691) (a := 2) (r := 114831751082918) 134 (by decide) (by decide +kernel) (by decide +kernel)) (by decide +kernel)
theorem pr26 : Pr 203852586375664218368381551393371968928013 := pr_two (by decide) pr22 (wit_of (q := 22561162540501040539) (a := 2) (r := 9035553288077017678308) 138 (by decide) (by decide +kernel) (by decide +kernel)) pr16 (wit_of (q := 1013266244677) (a := 2) (r := 201183635048107748313396499356) 138 (by decide) (by decide +kernel) (by decide +kernel)) (by decide +kernel) (by decide +kernel)
theorem pr27 : Pr 276602624281642239937218680557139826668747 := pr_one (by decide) pr25 (wit_of (q := 19757330305831588566944191468367130476339) (a := 2) (r := 14) 138 (by decide) (by decide +kernel) (by decide +kernel)) (by decide +kernel)
theorem pr28 : Pr 104719073621178708975837602950775180438320278101 := pr_one (by decide) pr26 (wit_of (q := 203852586375664218368381551393371968928013) (a := 2) (r := 513700) 157 (by decide) (by decide +kernel) (by decide +kernel)) (by decide +kernel)
theorem pr29 : Pr 27413359092552162435694767700453926735143482401279781 := pr_one (by decide) pr28 (wit_of (q := 104719073621178708975837602950775180438320278101) (a := 2) (r := 261780) 175 (by decide) (by decide +kernel) (by decide +kernel)) (by decide +kernel)
theorem pr30 : Pr 74058212732561358302231226437062788676166966415465897661863160754340907 := pr_two (by decide) pr24 (wit_of (q := 75445702479781427272750846543864801) (a := 2) (r := 981609426360740691344999861639072106) 236 (by decide) (by decide +kernel) (by decide +kernel)) pr20 (wit_of (q := 31757755568855353) (a := 2) (r := 2331972502653487852620185443007392165117953542933313402) 236 (by decide) (by decide +kernel) (by decide +kernel)) (by decide +kernel) (by decide +kernel)
theorem pr31 : Pr 7237005577332262213973186563042994240857116359379907606001950938285454250989 := pr_one (by decide) pr27 (wit_of (q := 276602624281642239937218680557139826668747) (a := 2) (r := 26163907866482859529727157400808004) 253 (by decide) (by decide +kernel) (by decide +kernel)) (by decide +kernel)
theorem pr32 : Pr 14474011154664524427946373126085988481603263447650325797860494125407373907997 := pr_one (by decide) pr29 (wit_of (q := 27413359092552162435694767700453926735143482401279781) (a := 2) (r := 527991155910437724961516) 253 (by decide) (by decide +kernel) (by decide +kernel)) (by decide +kernel)
theorem pr33 : Pr 57896044618658097711785492504343953926634992332820282019728792003956564819949 := pr_one (by decide) pr30 (wit_of (q := 74058212732561358302231226437062788676166966415465897661863160754340907) (a := 2) (r := 781764) 255 (by decide) (by decide +kernel) (by decide +kernel)) (by decide +kernel)
theorem pr_P : Pr 57896044618658097711785492504343953926634992332820282019728792003956564819949 := pr33
theorem pr_L : Pr 7237005577332262213973186563042994240857116359379907606001950938285454250989 := pr31
theorem pr_M : Pr 14474011154664524427946373126085988481603263447650325797860494125407373907997 := pr32
end Go.Con.Cv
