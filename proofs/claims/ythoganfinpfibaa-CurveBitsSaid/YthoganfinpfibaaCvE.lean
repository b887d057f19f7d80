/-
  Edwards' curves over the numbers modulo a prime: the group of their points, and the ladder on its quotient.
-/
set_option linter.unusedVariables false
set_option linter.unusedSectionVars false
namespace Go.Con.Cv
variable {n : Nat} [NeZero n]
/-- reciprocals, and 2 is not 0 -/
structure Fl (iv : Fin n → Fin n) : Prop where
  two : (2 : Fin n) ≠ 0
  inv : ∀ x : Fin n, x ≠ 0 → x * iv x = 1
theorem Fl.mul {iv : Fin n → Fin n} (h : Fl iv) {x y : Fin n} (hxy : x * y = 0) : x = 0 ∨ y = 0 := by
  by_cases hx : x = 0
  · exact .inl hx
  · refine .inr ?_
    have := h.inv x hx
    grobner
theorem Fl.mul_ne {iv : Fin n → Fin n} (h : Fl iv) {x y : Fin n} (hx : x ≠ 0) (hy : y ≠ 0) : x * y ≠ 0 := fun e => by
  rcases h.mul e with h1 | h1
  · exact hx h1
  · exact hy h1
theorem Fl.cancel {iv : Fin n → Fin n} (h : Fl iv) {a x y : Fin n} (ha : a ≠ 0) (e : a * x = a * y) : x = y := by
  have := h.inv a ha
  grobner
theorem Fl.one {iv : Fin n → Fin n} (h : Fl iv) : (1 : Fin n) ≠ 0 := fun e => h.two (by grobner)
structure Pt (n : Nat) where
  x : Fin n
  y : Fin n
/-- on the curve -/
def On (D : Fin n) (p : Pt n) : Prop := p.x * p.x + p.y * p.y = 1 + D * p.x * p.x * p.y * p.y
/-- no square -/
def Ns (D : Fin n) : Prop := ∀ z : Fin n, z * z ≠ D
section
variable {iv : Fin n → Fin n} {D : Fin n}
theorem On.apart (h : Fl iv) (hD : Ns D) {p q : Pt n} (hp : On D p) (hq : On D q) : (D * p.x * q.x * p.y * q.y) * (D * p.x * q.x * p.y * q.y) ≠ 1 := by
  intro he
  obtain ⟨x1, y1⟩ := p
  obtain ⟨x2, y2⟩ := q
  unfold On at hp hq
  simp only at hp hq he
  have hx1 : x1 ≠ 0 := fun e => h.one (by rw [e] at he; grobner)
  have hy1 : y1 ≠ 0 := fun e => h.one (by rw [e] at he; grobner)
  have hxy := h.mul_ne hx1 hy1
  obtain ⟨e, hee⟩ : ∃ e, e = D * x1 * x2 * y1 * y2 := ⟨_, rfl⟩
  have hs : (x1 + e * y1) * (x1 + e * y1) = D * ((x1 * y1 * (x2 + y2)) * (x1 * y1 * (x2 + y2))) := by grobner
  have hd : (x1 - e * y1) * (x1 - e * y1) = D * ((x1 * y1 * (x2 - y2)) * (x1 * y1 * (x2 - y2))) := by grobner
  have hno : ∀ a b : Fin n, b ≠ 0 → a * a ≠ D * (b * b) := fun a b hb hab => hD (a * iv b) (by have := h.inv b hb; grobner)
  by_cases h1 : x2 + y2 = 0
  · by_cases h2 : x2 - y2 = 0
    · have h3 : x2 = 0 := by
        have : 2 * x2 = 0 := by grobner
        rcases h.mul this with h4 | h4
        · exact absurd h4 h.two
        · exact h4
      apply h.one
      rw [h3] at he; grobner
    · exact hno _ _ (h.mul_ne hxy h2) hd
  · exact hno _ _ (h.mul_ne hxy h1) hs
theorem On.dens (h : Fl iv) (hD : Ns D) {p q : Pt n} (hp : On D p) (hq : On D q) : 1 + D * p.x * q.x * p.y * q.y ≠ 0 ∧ 1 - D * p.x * q.x * p.y * q.y ≠ 0 := by
  have := hp.apart h hD hq
  exact ⟨fun e => this (by grobner), fun e => this (by grobner)⟩
def add (iv : Fin n → Fin n) (D : Fin n) (p q : Pt n) : Pt n :=
  ⟨(p.x * q.y + p.y * q.x) * iv (1 + D * p.x * q.x * p.y * q.y), (p.y * q.y - p.x * q.x) * iv (1 - D * p.x * q.x * p.y * q.y)⟩
def zero : Pt n := ⟨0, 1⟩
def neg (p : Pt n) : Pt n := ⟨-p.x, p.y⟩
theorem zero_on (D : Fin n) : On D (zero : Pt n) := by unfold On zero; grind
theorem neg_on {p : Pt n} (hp : On D p) : On D (neg p) := by unfold On neg at *; grind
/-- the sum, without reciprocals -/
theorem add_spec (h : Fl iv) (hD : Ns D) {p q : Pt n} (hp : On D p) (hq : On D q) :
    (add iv D p q).x * (1 + D * p.x * q.x * p.y * q.y) = p.x * q.y + p.y * q.x ∧ (add iv D p q).y * (1 - D * p.x * q.x * p.y * q.y) = p.y * q.y - p.x * q.x := by
  obtain ⟨h1, h2⟩ := hp.dens h hD hq
  have e1 := h.inv _ h1
  have e2 := h.inv _ h2
  unfold add
  simp only
  exact ⟨by grobner, by grobner⟩
theorem closed (D x1 y1 x2 y2 : Fin n) (e1 : x1*x1 + y1*y1 = 1 + D*x1*x1*y1*y1) (e2 : x2*x2 + y2*y2 = 1 + D*x2*x2*y2*y2) : (x1*y2+y1*x2)*(x1*y2+y1*x2)*((1 - D*x1*x2*y1*y2)*(1 - D*x1*x2*y1*y2)) + (y1*y2-x1*x2)*(y1*y2-x1*x2)*((1 + D*x1*x2*y1*y2)*(1 + D*x1*x2*y1*y2)) = (1 + D*x1*x2*y1*y2)*(1 + D*x1*x2*y1*y2)*((1 - D*x1*x2*y1*y2)*(1 - D*x1*x2*y1*y2)) + D * ((x1*y2+y1*x2)*(x1*y2+y1*x2)) * ((y1*y2-x1*x2)*(y1*y2-x1*x2)) := by grobner
theorem add_on (h : Fl iv) (hD : Ns D) {p q : Pt n} (hp : On D p) (hq : On D q) : On D (add iv D p q) := by
  obtain ⟨h1, h2⟩ := hp.dens h hD hq
  obtain ⟨s1, s2⟩ := add_spec h hD hp hq
  obtain ⟨x1, y1⟩ := p
  obtain ⟨x2, y2⟩ := q
  obtain ⟨X, hX⟩ : ∃ X, X = (add iv D ⟨x1, y1⟩ ⟨x2, y2⟩).x := ⟨_, rfl⟩
  obtain ⟨Y, hY⟩ : ∃ Y, Y = (add iv D ⟨x1, y1⟩ ⟨x2, y2⟩).y := ⟨_, rfl⟩
  unfold On at hp hq ⊢
  simp only at hp hq s1 s2 h1 h2
  rw [← hX] at s1 ⊢
  rw [← hY] at s2 ⊢
  clear hX hY
  have id1 := closed D x1 y1 x2 y2 hp hq
  rw [← s1, ← s2] at id1
  generalize 1 + D * x1 * x2 * y1 * y2 = A at *
  generalize 1 - D * x1 * x2 * y1 * y2 = B at *
  refine h.cancel (h.mul_ne (h.mul_ne h1 h2) (h.mul_ne h1 h2)) (x := X * X + Y * Y) (y := 1 + D * X * X * Y * Y) ?_
  clear s1 s2 hp hq h1 h2 h hD
  grobner
theorem add_comm' (p q : Pt n) : add iv D p q = add iv D q p := by
  unfold add
  have e1 : p.x * q.y + p.y * q.x = q.x * p.y + q.y * p.x := by grobner
  have e2 : p.y * q.y - p.x * q.x = q.y * p.y - q.x * p.x := by grobner
  have e3 : D * p.x * q.x * p.y * q.y = D * q.x * p.x * q.y * p.y := by grobner
  rw [e1, e2, e3]
theorem pt_ext {p q : Pt n} (h1 : p.x = q.x) (h2 : p.y = q.y) : p = q := by cases p; cases q; simp at h1 h2; rw [h1, h2]
theorem add_zero' (h : Fl iv) (hD : Ns D) {p : Pt n} (hp : On D p) : add iv D p zero = p := by
  obtain ⟨s1, s2⟩ := add_spec h hD hp (zero_on D)
  unfold zero at *
  simp only at s1 s2
  exact pt_ext (by grobner) (by grobner)
theorem add_neg (h : Fl iv) (hD : Ns D) {p : Pt n} (hp : On D p) : add iv D p (neg p) = zero := by
  obtain ⟨s1, s2⟩ := add_spec h hD hp (neg_on hp)
  obtain ⟨h1, h2⟩ := hp.dens h hD (neg_on hp)
  obtain ⟨x, y⟩ := p
  unfold neg On at *
  simp only at s1 s2 h1 h2 hp
  refine pt_ext ?_ ?_
  · show _ = (0 : Fin n)
    exact h.cancel h1 (by grobner)
  · show _ = (1 : Fin n)
    exact h.cancel h2 (by grobner)
theorem assocx (D x1 y1 x2 y2 x3 y3 : Fin n) (e1 : x1*x1 + y1*y1 = 1 + D*x1*x1*y1*y1) (e2 : x2*x2 + y2*y2 = 1 + D*x2*x2*y2*y2) (e3 : x3*x3 + y3*y3 = 1 + D*x3*x3*y3*y3) :
  ((x1*y2+y1*x2)*(1 - D*x1*x2*y1*y2)*y3 + (y1*y2-x1*x2)*(1 + D*x1*x2*y1*y2)*x3) * ((1 + D*x2*x3*y2*y3)*(1 - D*x2*x3*y2*y3) + D*x1*y1*(x2*y3+y2*x3)*(y2*y3-x2*x3))
  = (x1*(y2*y3-x2*x3)*(1 + D*x2*x3*y2*y3) + y1*(x2*y3+y2*x3)*(1 - D*x2*x3*y2*y3)) * ((1 + D*x1*x2*y1*y2)*(1 - D*x1*x2*y1*y2) + D*x3*y3*(x1*y2+y1*x2)*(y1*y2-x1*x2)) := by
  grobner
theorem assocy (D x1 y1 x2 y2 x3 y3 : Fin n) (e1 : x1*x1 + y1*y1 = 1 + D*x1*x1*y1*y1) (e2 : x2*x2 + y2*y2 = 1 + D*x2*x2*y2*y2) (e3 : x3*x3 + y3*y3 = 1 + D*x3*x3*y3*y3) :
  ((y1*y2-x1*x2)*(1 + D*x1*x2*y1*y2)*y3 - (x1*y2+y1*x2)*(1 - D*x1*x2*y1*y2)*x3) * ((1 + D*x2*x3*y2*y3)*(1 - D*x2*x3*y2*y3) - D*x1*y1*(x2*y3+y2*x3)*(y2*y3-x2*x3))
  = (y1*(y2*y3-x2*x3)*(1 + D*x2*x3*y2*y3) - x1*(x2*y3+y2*x3)*(1 - D*x2*x3*y2*y3)) * ((1 + D*x1*x2*y1*y2)*(1 - D*x1*x2*y1*y2) - D*x3*y3*(x1*y2+y1*x2)*(y1*y2-x1*x2)) := by
  grobner
theorem fin_x {A B E F P Q xl xr N M : Fin n} (s3 : xl * P = N) (s4 : xr * Q = M) (ix : N * (A * B) * (E * F * Q) = M * (E * F) * (A * B * P)) : A * B * (E * F) * (P * Q) * xl = A * B * (E * F) * (P * Q) * xr := by
  subst s3 s4
  grobner
theorem rgx1 (A B E F D x1 y1 x3 y3 xu yu xv yv : Fin n) : (xu * A * B * y3 + yu * B * A * x3) * (E * F + D * x1 * y1 * (xv * E) * (yv * F)) = (xu * y3 + yu * x3) * (A * B) * (E * F * (1 + D * x1 * xv * y1 * yv)) := by grobner
theorem rgx2 (A B E F D x1 y1 x3 y3 xu yu xv yv : Fin n) : (x1 * (yv * F) * E + y1 * (xv * E) * F) * (A * B + D * x3 * y3 * (xu * A) * (yu * B)) = (x1 * yv + y1 * xv) * (E * F) * (A * B * (1 + D * xu * x3 * yu * y3)) := by grobner
theorem rgy1 (A B E F D x1 y1 x3 y3 xu yu xv yv : Fin n) : (yu * B * A * y3 - xu * A * B * x3) * (E * F - D * x1 * y1 * (xv * E) * (yv * F)) = (yu * y3 - xu * x3) * (A * B) * (E * F * (1 - D * x1 * xv * y1 * yv)) := by grobner
theorem rgy2 (A B E F D x1 y1 x3 y3 xu yu xv yv : Fin n) : (y1 * (yv * F) * E - x1 * (xv * E) * F) * (A * B - D * x3 * y3 * (xu * A) * (yu * B)) = (y1 * yv - x1 * xv) * (E * F) * (A * B * (1 - D * xu * x3 * yu * y3)) := by grobner
/-- associativity -/
theorem add_assoc' (h : Fl iv) (hD : Ns D) {p q r : Pt n} (hp : On D p) (hq : On D q) (hr : On D r) : add iv D (add iv D p q) r = add iv D p (add iv D q r) := by
  obtain ⟨a1, b1⟩ := hp.dens h hD hq
  obtain ⟨a2, b2⟩ := hq.dens h hD hr
  obtain ⟨s1, t1⟩ := add_spec h hD hp hq
  obtain ⟨s2, t2⟩ := add_spec h hD hq hr
  have hpq := add_on h hD hp hq
  have hqr := add_on h hD hq hr
  obtain ⟨a3, b3⟩ := hpq.dens h hD hr
  obtain ⟨a4, b4⟩ := hp.dens h hD hqr
  obtain ⟨s3, t3⟩ := add_spec h hD hpq hr
  obtain ⟨s4, t4⟩ := add_spec h hD hp hqr
  clear hpq hqr
  generalize add iv D (add iv D p q) r = L at s3 t3 ⊢
  generalize add iv D p (add iv D q r) = R at s4 t4 ⊢
  generalize add iv D p q = u at s1 t1 s3 t3 a3 b3
  generalize add iv D q r = v at s2 t2 s4 t4 a4 b4
  obtain ⟨x1, y1⟩ := p
  obtain ⟨x2, y2⟩ := q
  obtain ⟨x3, y3⟩ := r
  obtain ⟨xu, yu⟩ := u
  obtain ⟨xv, yv⟩ := v
  obtain ⟨xl, yl⟩ := L
  obtain ⟨xr, yr⟩ := R
  unfold On at hp hq hr
  simp only at *
  have ix := assocx D x1 y1 x2 y2 x3 y3 hp hq hr
  have iy := assocy D x1 y1 x2 y2 x3 y3 hp hq hr
  clear hp hq hr
  obtain ⟨A, hA⟩ : ∃ A, A = 1 + D * x1 * x2 * y1 * y2 := ⟨_, rfl⟩
  obtain ⟨B, hB⟩ : ∃ B, B = 1 - D * x1 * x2 * y1 * y2 := ⟨_, rfl⟩
  obtain ⟨E, hE⟩ : ∃ E, E = 1 + D * x2 * x3 * y2 * y3 := ⟨_, rfl⟩
  obtain ⟨F, hF⟩ : ∃ F, F = 1 - D * x2 * x3 * y2 * y3 := ⟨_, rfl⟩
  rw [← s1, ← t1, ← s2, ← t2, ← hA, ← hB, ← hE, ← hF] at ix iy
  rw [← hA] at a1 s1
  rw [← hB] at b1 t1
  rw [← hE] at a2 s2
  rw [← hF] at b2 t2
  clear hA hB hE hF s1 t1 s2 t2
  rw [rgx1, rgx2] at ix
  rw [rgy1, rgy2] at iy
  have k1 : xl = xr := h.cancel (h.mul_ne (h.mul_ne (h.mul_ne a1 b1) (h.mul_ne a2 b2)) (h.mul_ne a3 a4)) (fin_x s3 s4 ix)
  have k2 : yl = yr := h.cancel (h.mul_ne (h.mul_ne (h.mul_ne a1 b1) (h.mul_ne a2 b2)) (h.mul_ne b3 b4)) (fin_x t3 t4 iy)
  rw [k1, k2]
/-- multiples -/
def mul (iv : Fin n → Fin n) (D : Fin n) (p : Pt n) : Nat → Pt n
  | 0 => zero
  | k + 1 => add iv D (mul iv D p k) p
theorem mul_on (h : Fl iv) (hD : Ns D) {p : Pt n} (hp : On D p) : ∀ k, On D (mul iv D p k)
  | 0 => zero_on D
  | k + 1 => add_on h hD (mul_on h hD hp k) hp
theorem mul_add (h : Fl iv) (hD : Ns D) {p : Pt n} (hp : On D p) (a : Nat) : ∀ b, mul iv D p (a + b) = add iv D (mul iv D p a) (mul iv D p b)
  | 0 => (add_zero' h hD (mul_on h hD hp a)).symm
  | b + 1 => by
    rw [← Nat.add_assoc, mul, mul, mul_add h hD hp a b, add_assoc' h hD (mul_on h hD hp a) (mul_on h hD hp b) hp]
theorem mul_zero (h : Fl iv) (hD : Ns D) : ∀ k, mul iv D (zero : Pt n) k = zero
  | 0 => rfl
  | k + 1 => by rw [mul, mul_zero h hD k, add_zero' h hD (zero_on D)]
theorem mul_mul' (h : Fl iv) (hD : Ns D) {p : Pt n} (hp : On D p) (a : Nat) : ∀ b, mul iv D (mul iv D p a) b = mul iv D p (a * b)
  | 0 => rfl
  | b + 1 => by rw [mul, mul_mul' h hD hp a b, ← mul_add h hD hp, Nat.mul_succ]
theorem mul_one' (h : Fl iv) (hD : Ns D) {p : Pt n} (hp : On D p) : mul iv D p 1 = p := by
  rw [mul, mul, add_comm', add_zero' h hD hp]
theorem mul_gcd (h : Fl iv) (hD : Ns D) {p : Pt n} (hp : On D p) : ∀ a b : Nat, mul iv D p a = zero → mul iv D p b = zero → mul iv D p (Nat.gcd a b) = zero := by
  intro a b
  induction a, b using Nat.gcd.induction with
  | H0 b => intro _ h2; rw [Nat.gcd_zero_left]; exact h2
  | H1 a b ha ih =>
    intro h1 h2
    rw [Nat.gcd_rec]
    refine ih ?_ h1
    rw [← Nat.div_add_mod b a, mul_add h hD hp, ← mul_mul' h hD hp, h1, mul_zero h hD, add_comm', add_zero' h hD (mul_on h hD hp _)] at h2
    exact h2
theorem mul_ne (h : Fl iv) (hD : Ns D) {p : Pt n} (hp : On D p) {l a : Nat} (hl : ∀ d, d ∣ l → d = 1 ∨ d = l) (h0 : p ≠ zero) (h1 : mul iv D p l = zero) (ha : ¬ l ∣ a) : mul iv D p a ≠ zero := fun e => by
  have hg := mul_gcd h hD hp l a h1 e
  rcases hl _ (Nat.gcd_dvd_left l a) with h2 | h2
  · rw [h2, mul_one' h hD hp] at hg; exact h0 hg
  · exact ha (h2 ▸ Nat.gcd_dvd_right l a)
/-- x : z stands for a point -/
structure Rep (s x z : Fin n) (p : Pt n) : Prop where
  nz : x ≠ 0 ∨ z ≠ 0
  eq : x * (1 - p.y) = s * z * (1 + p.y)
theorem Rep.scale (h : Fl iv) {s x z : Fin n} {p : Pt n} (hs : s * s = 1) (hr : Rep s x z p) : ∃ k, k ≠ 0 ∧ x = s * k * (1 + p.y) ∧ z = k * (1 - p.y) := by
  obtain ⟨hn, e⟩ := hr
  have h2 := h.inv 2 h.two
  obtain ⟨X, y⟩ := p
  simp only at e ⊢
  obtain ⟨k, hk⟩ : ∃ k, k = (s * x + z) * iv 2 := ⟨_, rfl⟩
  have k0 : 2 * k = s * x + z := by grobner
  have k1 : x = s * k * (1 + y) := h.cancel h.two (by clear hk h2 hn; grobner)
  have k2 : z = k * (1 - y) := h.cancel h.two (by clear hk h2 hn; grobner)
  refine ⟨k, fun h0 => ?_, k1, k2⟩
  rcases hn with h3 | h3
  · apply h3; rw [k1, h0]; grobner
  · apply h3; rw [k2, h0]; grobner
theorem ns_den (h : Fl iv) (hD : Ns D) (y : Fin n) : 1 - D * (y * y) ≠ 0 := fun e => by
  by_cases hy : y = 0
  · apply h.one; rw [hy] at e; grobner
  · refine hD (iv y) ?_
    have := h.inv y hy
    grobner
theorem ns_one (h : Fl iv) (hD : Ns D) : 1 - D ≠ 0 := fun e => hD 1 (by grobner)
theorem On.sq {p : Pt n} (hp : On D p) : p.x * p.x * (1 - D * (p.y * p.y)) = 1 - p.y * p.y := by
  unfold On at hp; grobner
theorem mul_ne0 (h : Fl iv) {x y : Fin n} (hxy : x * y ≠ 0) : x ≠ 0 ∧ y ≠ 0 := ⟨fun e => hxy (by rw [e]; grobner), fun e => hxy (by rw [e]; grobner)⟩
theorem four (h : Fl iv) : (4 : Fin n) ≠ 0 := by
  have h2 := h.mul_ne h.two h.two
  have e0 : ∀ x : Fin n, 2 * 2 * x = 4 * x := fun x => by grobner
  intro e; apply h2
  have := e0 1
  rw [e] at this; grobner
theorem sixteen (h : Fl iv) : (16 : Fin n) ≠ 0 := by
  have h2 := h.mul_ne (four h) (four h)
  have e0 : ∀ x : Fin n, 4 * 4 * x = 16 * x := fun x => by grobner
  intro e; apply h2
  have := e0 1
  rw [e] at this; grobner
theorem sne (h : Fl iv) {s : Fin n} (hs : s * s = 1) : s ≠ 0 := fun e => h.one (by rw [e] at hs; grobner)
/-- doubling: what the numbers are -/
theorem dbl_num (h : Fl iv) {D s a k y : Fin n} (hs : s * s = 1) (ha : 2 * (1 - D) * (2 * a + 1) = s * (2 * (1 + D))) (h1 : 1 - D ≠ 0) :
    (s * k * (1 + y) + k * (1 - y)) * (s * k * (1 + y) + k * (1 - y)) * ((s * k * (1 + y) - k * (1 - y)) * (s * k * (1 + y) - k * (1 - y))) = 16 * (k * k * (k * k)) * (y * y) := by
  clear ha h1
  grobner
theorem dbl_den (h : Fl iv) {D s a k y : Fin n} (hs : s * s = 1) (ha : 2 * (1 - D) * (2 * a + 1) = s * (2 * (1 + D))) :
    (1 - D) * (((s * k * (1 + y) + k * (1 - y)) * (s * k * (1 + y) + k * (1 - y)) - (s * k * (1 + y) - k * (1 - y)) * (s * k * (1 + y) - k * (1 - y))) * ((s * k * (1 + y) + k * (1 - y)) * (s * k * (1 + y) + k * (1 - y)) + ((s * k * (1 + y) + k * (1 - y)) * (s * k * (1 + y) + k * (1 - y)) - (s * k * (1 + y) - k * (1 - y)) * (s * k * (1 + y) - k * (1 - y))) * a)) = 16 * s * (k * k * (k * k)) * ((1 - y * y) * (1 - D * (y * y))) := by
  have ha' : 2 * (2 * ((1 - D) * a)) = s * (2 * (1 + D)) - 2 * (1 - D) := by grobner
  have ha2 : 2 * ((1 - D) * a) = s * (1 + D) - (1 - D) := h.cancel h.two (by grobner)
  clear ha ha'
  obtain ⟨c, hc⟩ : ∃ c, c = (1 - D) * a := ⟨_, rfl⟩
  rw [← hc] at ha2
  have e1 : (s * k * (1 + y) + k * (1 - y)) * (s * k * (1 + y) + k * (1 - y)) - (s * k * (1 + y) - k * (1 - y)) * (s * k * (1 + y) - k * (1 - y)) = 4 * (s * (k * k) * (1 - y * y)) := by grobner
  have e2 : (s * k * (1 + y) + k * (1 - y)) * (s * k * (1 + y) + k * (1 - y)) = k * k * (2 + 2 * (y * y) + 2 * s * (1 - y * y)) := by grobner
  rw [e1, e2]
  have e3 : (1 - D) * (4 * (s * (k * k) * (1 - y * y)) * (k * k * (2 + 2 * (y * y) + 2 * s * (1 - y * y)) + 4 * (s * (k * k) * (1 - y * y)) * a)) = 4 * (s * (k * k) * (1 - y * y)) * ((1 - D) * (k * k * (2 + 2 * (y * y) + 2 * s * (1 - y * y))) + 2 * (s * (k * k) * (1 - y * y)) * (2 * c)) := by rw [hc]; grobner
  rw [e3, ha2]
  clear hc ha2 e1 e2 e3
  grobner
/-- doubling -/
theorem Rep.dbl (h : Fl iv) (hD : Ns D) {s a x z : Fin n} {p : Pt n} (hs : s * s = 1) (ha : 2 * (1 - D) * (2 * a + 1) = s * (2 * (1 + D))) (hp : On D p) (hr : Rep s x z p) :
    Rep s ((x + z) * (x + z) * ((x - z) * (x - z))) (((x + z) * (x + z) - (x - z) * (x - z)) * ((x + z) * (x + z) + ((x + z) * (x + z) - (x - z) * (x - z)) * a)) (add iv D p p) := by
  obtain ⟨k, hk, rfl, rfl⟩ := hr.scale h hs
  obtain ⟨s1, s2⟩ := add_spec h hD hp hp
  obtain ⟨d1, d2⟩ := hp.dens h hD hp
  have hsq := hp.sq
  have hnd := ns_den h hD p.y
  have hn1 := ns_one h hD
  have hon := hp
  unfold On at hon
  generalize add iv D p p = q at s1 s2 ⊢
  obtain ⟨X, y⟩ := p
  obtain ⟨X2, y2⟩ := q
  simp only at *
  have hnum := dbl_num h (k := k) (y := y) hs ha hn1
  have hden := dbl_den h (k := k) (y := y) hs ha
  generalize (s * k * (1 + y) + k * (1 - y)) * (s * k * (1 + y) + k * (1 - y)) * ((s * k * (1 + y) - k * (1 - y)) * (s * k * (1 + y) - k * (1 - y))) = N at *
  generalize (((s * k * (1 + y) + k * (1 - y)) * (s * k * (1 + y) + k * (1 - y)) - (s * k * (1 + y) - k * (1 - y)) * (s * k * (1 + y) - k * (1 - y))) * ((s * k * (1 + y) + k * (1 - y)) * (s * k * (1 + y) + k * (1 - y)) + ((s * k * (1 + y) + k * (1 - y)) * (s * k * (1 + y) + k * (1 - y)) - (s * k * (1 + y) - k * (1 - y)) * (s * k * (1 + y) - k * (1 - y))) * a)) = M at *
  have hk4 := h.mul_ne (h.mul_ne hk hk) (h.mul_ne hk hk)
  refine ⟨?_, ?_⟩
  · by_cases hy : y = 0
    · right
      intro hM
      have h16 := h.mul_ne (h.mul_ne (sixteen h) (sne h hs)) hk4
      apply h16
      rw [hM, hy] at hden
      clear h16 hsq hnd hnum
      grobner
    · left
      rw [hnum]
      exact h.mul_ne (h.mul_ne (sixteen h) hk4) (h.mul_ne hy hy)
  · show N * (1 - y2) = s * M * (1 + y2)
    -- (1 - y2) (1 - Dt) = 2 (1 - y^2), (1 + y2) (1 - Dt) = 2 (1 - X^2)
    have t1 : (1 - y2) * (1 - D * X * X * y * y) = 2 - 2 * (y * y) := by clear hden hnum hsq s1; grobner
    have t2 : (1 + y2) * (1 - D * X * X * y * y) = 2 - 2 * (X * X) := by clear hden hnum hsq s1; grobner
    refine h.cancel (h.mul_ne (h.mul_ne hn1 d2) hnd) ?_
    have u1 : (1 - D) * (1 - D * X * X * y * y) * (1 - D * (y * y)) * (N * (1 - y2)) = (1 - D) * N * (1 - D * (y * y)) * ((1 - y2) * (1 - D * X * X * y * y)) := by clear t1 t2 hden hnum hsq hon s1 s2; grobner
    have u2 : (1 - D) * (1 - D * X * X * y * y) * (1 - D * (y * y)) * (s * M * (1 + y2)) = s * ((1 - D) * M) * (1 - D * (y * y)) * ((1 + y2) * (1 - D * X * X * y * y)) := by clear t1 t2 hden hnum hsq hon s1 s2 u1; grobner
    have u3 : (1 - D * (y * y)) * (2 - 2 * (X * X)) = 2 * (y * y) * (1 - D) := by clear t1 t2 hden hnum u1 u2 s1 s2 hon; grobner
    rw [u1, u2, t1, t2, hden, hnum]
    have u4 : s * (16 * s * (k * k * (k * k)) * ((1 - y * y) * (1 - D * (y * y)))) * (1 - D * (y * y)) * (2 - 2 * (X * X)) = (s * s) * (16 * (k * k * (k * k)) * ((1 - y * y) * (1 - D * (y * y)))) * ((1 - D * (y * y)) * (2 - 2 * (X * X))) := by clear t1 t2 hden hnum u1 u2 u3 s1 s2 hon hsq hs ha; grobner
    rw [u4, u3, hs]
    clear t1 t2 hden hnum u1 u2 u3 u4 s1 s2 hon hsq hs ha
    grobner
theorem dif_id (D y1 y2 : Fin n) : (y1 + y2) * (y1 + y2) * ((1 - y1 * y2) * (1 - y1 * y2) * ((1 - D * (y1 * y1)) * (1 - D * (y2 * y2))) - (1 - y1 * y1) * (1 - y2 * y2) * ((1 - D * (y1 * y2)) * (1 - D * (y1 * y2))))
    = (y1 - y2) * (y1 - y2) * ((1 + y1 * y2) * (1 + y1 * y2) * ((1 - D * (y1 * y1)) * (1 - D * (y2 * y2))) - (1 - y1 * y1) * (1 - y2 * y2) * ((1 + D * (y1 * y2)) * (1 + D * (y1 * y2)))) := by grobner
theorem dif_sq {D x1 y1 x2 y2 e f : Fin n} (h1 : x1 * x1 * e = 1 - y1 * y1) (h2 : x2 * x2 * f = 1 - y2 * y2) : x1 * x2 * (x1 * x2) * (e * f) = (1 - y1 * y1) * (1 - y2 * y2) := by rw [← h1, ← h2]; clear h1 h2; grobner
theorem dif_pq (D x1 y1 x2 y2 : Fin n) : (1 - D * x1 * x2 * y1 * y2 - (y1 * y2 - x1 * x2)) * (1 + D * x1 * x2 * y1 * y2 - (y1 * y2 + x1 * x2)) = (1 - y1 * y2) * (1 - y1 * y2) - x1 * x2 * (x1 * x2) * ((1 - D * (y1 * y2)) * (1 - D * (y1 * y2))) := by grobner
theorem dif_pr (D x1 y1 x2 y2 : Fin n) : (1 - D * x1 * x2 * y1 * y2 + (y1 * y2 - x1 * x2)) * (1 + D * x1 * x2 * y1 * y2 + (y1 * y2 + x1 * x2)) = (1 + y1 * y2) * (1 + y1 * y2) - x1 * x2 * (x1 * x2) * ((1 + D * (y1 * y2)) * (1 + D * (y1 * y2))) := by grobner
theorem dif_core (h : Fl iv) (hD : Ns D) {x1 y1 x2 y2 ys yb : Fin n} (h1 : x1 * x1 * (1 - D * (y1 * y1)) = 1 - y1 * y1) (h2 : x2 * x2 * (1 - D * (y2 * y2)) = 1 - y2 * y2) (d1 : 1 + D * x1 * x2 * y1 * y2 ≠ 0) (d2 : 1 - D * x1 * x2 * y1 * y2 ≠ 0)
    (hs : ys * (1 - D * x1 * x2 * y1 * y2) = y1 * y2 - x1 * x2) (hb : yb * (1 + D * x1 * x2 * y1 * y2) = y1 * y2 + x1 * x2) :
    (y1 + y2) * (y1 + y2) * ((1 - ys) * (1 - yb)) = (y1 - y2) * (y1 - y2) * ((1 + ys) * (1 + yb)) := by
  have n1 := ns_den h hD y1
  have n2 := ns_den h hD y2
  have hq := dif_pq D x1 y1 x2 y2
  have hr := dif_pr D x1 y1 x2 y2
  have hsq := dif_sq (D := D) h1 h2
  have hid := dif_id D y1 y2
  generalize 1 - D * (y1 * y1) = E at *
  generalize 1 - D * (y2 * y2) = F at *
  generalize 1 + D * x1 * x2 * y1 * y2 = A at *
  generalize 1 - D * x1 * x2 * y1 * y2 = B at *
  rw [← hs, ← hb] at hq hr
  refine h.cancel (h.mul_ne (h.mul_ne d1 d2) (h.mul_ne n1 n2)) ?_
  have e1 : A * B * (E * F) * ((y1 + y2) * (y1 + y2) * ((1 - ys) * (1 - yb))) = (y1 + y2) * (y1 + y2) * (((B - ys * B) * (A - yb * A)) * (E * F)) := by clear hs hb hq hr hsq hid h1 h2; grobner
  have e2 : A * B * (E * F) * ((y1 - y2) * (y1 - y2) * ((1 + ys) * (1 + yb))) = (y1 - y2) * (y1 - y2) * (((B + ys * B) * (A + yb * A)) * (E * F)) := by clear hs hb hq hr hsq hid h1 h2 e1; grobner
  rw [e1, e2, hq, hr]
  clear e1 e2 hq hr hs hb d1 d2 n1 n2
  rw [← hsq] at hid
  clear hsq h1 h2
  generalize x1 * x2 * (x1 * x2) = T at *
  grobner
theorem dif_num {s k m y1 y2 : Fin n} (hs : s * s = 1) : (s * m * (1 + y2) - m * (1 - y2)) * (s * k * (1 + y1) + k * (1 - y1)) + (s * m * (1 + y2) + m * (1 - y2)) * (s * k * (1 + y1) - k * (1 - y1)) = 4 * (k * m) * (y1 + y2) := by grobner
theorem dif_den {s k m y1 y2 : Fin n} (hs : s * s = 1) : (s * m * (1 + y2) - m * (1 - y2)) * (s * k * (1 + y1) + k * (1 - y1)) - (s * m * (1 + y2) + m * (1 - y2)) * (s * k * (1 + y1) - k * (1 - y1)) = 4 * s * (k * m) * (y2 - y1) := by grobner
/-- adding, when the difference is known -/
theorem Rep.dif (h : Fl iv) (hD : Ns D) {s u x z x3 z3 : Fin n} {q b : Pt n} (hs : s * s = 1) (hq : On D q) (hb : On D b) (hu : u ≠ 0) (hub : Rep s u 1 b) (h1 : Rep s x z q) (h2 : Rep s x3 z3 (add iv D q b)) :
    Rep s (((x3 - z3) * (x + z) + (x3 + z3) * (x - z)) * ((x3 - z3) * (x + z) + (x3 + z3) * (x - z))) (((x3 - z3) * (x + z) - (x3 + z3) * (x - z)) * ((x3 - z3) * (x + z) - (x3 + z3) * (x - z)) * u) (add iv D q (add iv D q b)) := by
  obtain ⟨k, hk, rfl, rfl⟩ := h1.scale h hs
  obtain ⟨m, hm, rfl, rfl⟩ := h2.scale h hs
  have hr := add_on h hD hq hb
  have hbr : add iv D (add iv D q b) (neg q) = b := by
    rw [add_comm' q b, add_assoc' h hD hb hq (neg_on hq), add_neg h hD hq, add_zero' h hD hb]
  obtain ⟨-, t1⟩ := add_spec h hD hr (neg_on hq)
  rw [hbr] at t1
  generalize add iv D q b = r at *
  obtain ⟨-, t2⟩ := add_spec h hD hq hr
  obtain ⟨d1, d2⟩ := hq.dens h hD hr
  have sq1 := hq.sq
  have sq2 := hr.sq
  have e0 := hub.eq
  have on1 := hq
  have on2 := hr
  unfold On at on1 on2
  generalize add iv D q r = w at *
  obtain ⟨x1, y1⟩ := q
  obtain ⟨x2, y2⟩ := r
  obtain ⟨xs, ys⟩ := w
  obtain ⟨xb, yb⟩ := b
  unfold neg at t1
  simp only at *
  have hbb : yb * (1 + D * x1 * x2 * y1 * y2) = y1 * y2 + x1 * x2 := by
    clear t2 sq1 sq2 e0 on1 on2
    grobner
  have hcore := dif_core h hD sq1 sq2 d1 d2 t2 hbb
  have hyb : 1 - yb ≠ 0 := fun e => by
    have h2' : 2 * s = 0 := by
      clear t1 t2 sq1 sq2 on1 on2 hbb hcore
      grobner
    rcases h.mul h2' with h3 | h3
    · exact h.two h3
    · exact sne h hs h3
  rw [dif_num hs, dif_den hs]
  have hkm := h.mul_ne hk hm
  refine ⟨?_, ?_⟩
  · by_cases ha : y1 + y2 = 0
    · right
      by_cases hd : y2 - y1 = 0
      · exfalso
        have hy1 : y1 = 0 := by
          have : 2 * y1 = 0 := by clear t1 t2 sq1 sq2 on1 on2 hbb hcore e0 hs; grobner
          rcases h.mul this with h3 | h3
          · exact absurd h3 h.two
          · exact h3
        have hy2 : y2 = 0 := by rw [hy1] at ha; clear t1 t2 sq1 sq2 on1 on2 hbb hcore e0 hs; grobner
        subst hy1 hy2
        have f1 : x1 * x1 = 1 := by clear t1 t2 sq1 sq2 on2 hbb hcore e0 hs; grobner
        have f2 : x2 * x2 = 1 := by clear t1 t2 sq1 sq2 on1 hbb hcore e0 hs f1; grobner
        have f3 : yb = x1 * x2 := by clear t1 t2 sq1 sq2 on1 on2 hcore e0 hs f1 f2; grobner
        have f4 : (1 - yb) * (1 + yb) = 0 := by rw [f3]; clear t1 t2 sq1 sq2 on1 on2 hcore e0 hs hbb; grobner
        rcases h.mul f4 with f5 | f5
        · exact hyb f5
        · have f6 : 2 * u = 0 := by
            have : yb = -1 := by clear t1 t2 sq1 sq2 on1 on2 hcore e0 hs hbb f1 f2 f3 f4; grobner
            rw [this] at e0
            clear t1 t2 sq1 sq2 on1 on2 hcore hs hbb f1 f2 f3 f4 f5 this
            grobner
          rcases h.mul f6 with f7 | f7
          · exact h.two f7
          · exact hu f7
      · have hx := h.mul_ne (h.mul_ne (h.mul_ne (four h) (sne h hs)) hkm) hd
        exact h.mul_ne (h.mul_ne hx hx) hu
    · left
      have hx := h.mul_ne (h.mul_ne (four h) hkm) ha
      exact h.mul_ne hx hx
  · show 4 * (k * m) * (y1 + y2) * (4 * (k * m) * (y1 + y2)) * (1 - ys) = s * (4 * s * (k * m) * (y2 - y1) * (4 * s * (k * m) * (y2 - y1)) * u) * (1 + ys)
    refine h.cancel hyb ?_
    have g1 : (1 - yb) * (4 * (k * m) * (y1 + y2) * (4 * (k * m) * (y1 + y2)) * (1 - ys)) = 16 * (k * m * (k * m)) * ((y1 + y2) * (y1 + y2) * ((1 - ys) * (1 - yb))) := by clear t1 t2 sq1 sq2 on1 on2 hcore e0 hs hbb; grobner
    have g2 : (1 - yb) * (s * (4 * s * (k * m) * (y2 - y1) * (4 * s * (k * m) * (y2 - y1)) * u) * (1 + ys)) = 16 * (s * s) * s * (k * m * (k * m)) * ((y1 - y2) * (y1 - y2) * (1 + ys)) * (u * (1 - yb)) := by clear t1 t2 sq1 sq2 on1 on2 hcore e0 hs hbb g1; grobner
    rw [g1, g2, hcore, e0, hs]
    have g3 : 16 * 1 * s * (k * m * (k * m)) * ((y1 - y2) * (y1 - y2) * (1 + ys)) * (s * 1 * (1 + yb)) = 16 * (s * s) * (k * m * (k * m)) * ((y1 - y2) * (y1 - y2) * (1 + ys)) * (1 + yb) := by clear t1 t2 sq1 sq2 on1 on2 hcore e0 hs hbb g1 g2; grobner
    rw [g3, hs]
    clear t1 t2 sq1 sq2 on1 on2 hcore e0 hs hbb g1 g2 g3
    grobner
end
end Go.Con.Cv
