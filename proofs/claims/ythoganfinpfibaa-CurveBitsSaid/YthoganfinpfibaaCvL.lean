/-
  The ladder in whole numbers stands for multiples of a point on an Edwards curve.
-/
import Derived.Test.YthoganfinpfibaaFlw
import Derived.Test.YthoganfinpfibaaCvN
import Derived.Test.YthoganfinpfibaaCvE
set_option linter.unusedVariables false
set_option linter.unusedSectionVars false
set_option linter.unusedSimpArgs false
namespace Go.Con.Cv
/-- a ladder over any bits -/
def lad (β : Nat → Int) (u : Int) : Nat → L4
  | 0 => ⟨1, 0, u, 1⟩
  | n + 1 => (lad β u n).step u (β n)
/-- the number that the bits are -/
def scal (β : Nat → Int) : Nat → Nat
  | 0 => 0
  | n + 1 => 2 * scal β n + (β n).toNat
theorem ladder_lad (k : List UInt8) (u : Int) : ∀ n, ladder k u n = lad (fun i => kbit k (254 - i)) u n
  | 0 => rfl
  | n + 1 => by rw [ladder, lad, ladder_lad k u n]
/-- the bits of a number, N of them -/
def ebit (e N : Nat) (i : Nat) : Int := ((e / 2 ^ (N - 1 - i) % 2 : Nat) : Int)
theorem scal_ebit (e N : Nat) (h : e < 2 ^ N) : ∀ n, n ≤ N → scal (ebit e N) n = e / 2 ^ (N - n)
  | 0, _ => by rw [scal, Nat.sub_zero, Nat.div_eq_of_lt h]
  | n + 1, hn => by
    rw [scal, scal_ebit e N h n (by omega), ebit, Int.toNat_natCast]
    obtain ⟨m, hm⟩ : ∃ m, N - n = m + 1 := ⟨N - n - 1, by omega⟩
    rw [hm, show N - 1 - n = m by omega, show N - (n + 1) = m by omega, Nat.pow_succ, ← Nat.div_div_eq_div_mul]
    omega
section
variable {n : Nat} [NeZero n]
/-- a number modulo n -/
def em (n : Nat) [NeZero n] (a : Int) : Fin n := ⟨(a % n).toNat, by
  have h0 : 0 < n := Nat.pos_of_ne_zero (NeZero.ne n)
  have h1 := Int.emod_nonneg a (b := (n : Int)) (by omega)
  have h2 := Int.emod_lt_of_pos a (b := (n : Int)) (by omega)
  omega⟩
theorem em_val (a : Int) : ((em n a).val : Int) = a % n := by
  have h0 : 0 < n := Nat.pos_of_ne_zero (NeZero.ne n)
  have h1 := Int.emod_nonneg a (b := (n : Int)) (by omega)
  show (((a % n).toNat : Nat) : Int) = _
  omega
theorem fin_int {x y : Fin n} (h : (x.val : Int) = y.val) : x = y := Fin.ext (by omega)
theorem em_add (a b : Int) : em n (a + b) = em n a + em n b := by
  apply fin_int
  rw [em_val, Fin.val_add, Int.natCast_emod, Int.natCast_add, em_val, em_val, Int.emod_add_emod, Int.add_emod_emod]
theorem em_mul (a b : Int) : em n (a * b) = em n a * em n b := by
  apply fin_int
  rw [em_val, Fin.val_mul, Int.natCast_emod, Int.natCast_mul, em_val, em_val, ← Int.mul_emod]
theorem em_mod (a : Int) : em n (a % n) = em n a := by
  apply fin_int
  rw [em_val, em_val, Int.emod_emod]
theorem em_zero : em n 0 = 0 := by
  apply fin_int
  rw [em_val]; simp
theorem em_neg (a : Int) : em n (-a) = - em n a := by
  have h : em n (-a) + em n a = 0 := by rw [← em_add, show -a + a = 0 by omega, em_zero]
  grobner
theorem em_sub (a b : Int) : em n (a - b) = em n a - em n b := by
  have h : em n (a - b) + em n b = em n a := by rw [← em_add, show a - b + b = a by omega]
  grobner
theorem em_one (h : 1 < n) : em n 1 = 1 := by
  apply fin_int
  rw [em_val, Int.emod_eq_of_lt (by omega) (by omega)]
  have : ((1 : Fin n).val) = 1 := by
    rw [show (1 : Fin n) = Fin.ofNat n 1 from rfl, Fin.val_ofNat, Nat.mod_eq_of_lt h]
  rw [this]; rfl
theorem em_inj {a b : Int} (ha : 0 ≤ a ∧ a < n) (hb : 0 ≤ b ∧ b < n) (h : em n a = em n b) : a = b := by
  have := congrArg (fun x : Fin n => (x.val : Int)) h
  simp only [em_val] at this
  rwa [Int.emod_eq_of_lt ha.1 ha.2, Int.emod_eq_of_lt hb.1 hb.2] at this
/-- what the ladder keeps, modulo the prime -/
theorem em_modP (hn : (n : Int) = P) (a : Int) : em n (a % P) = em n a := by rw [← hn, em_mod]
structure Ivr (iv : Fin n → Fin n) (D s : Fin n) (b : Pt n) (q : L4) (m : Nat) : Prop where
  r2 : Rep s (em n q.x2) (em n q.z2) (mul iv D b m)
  r3 : Rep s (em n q.x3) (em n q.z3) (mul iv D b (m + 1))
variable {iv : Fin n → Fin n} {D s : Fin n} {b : Pt n}
theorem Rep.congr {s x z x' z' : Fin n} {p p' : Pt n} (h : Rep s x z p) (hx : x' = x) (hz : z' = z) (hp : p' = p) : Rep s x' z' p' := by subst hx hz hp; exact h
theorem mid_x2 (hn : (n : Int) = P) (q : L4) (u : Int) : em n (q.mid u).x2 = (em n q.x2 + em n q.z2) * (em n q.x2 + em n q.z2) * ((em n q.x2 - em n q.z2) * (em n q.x2 - em n q.z2)) := by
  simp only [L4.mid, em_modP hn, em_mul, em_add, em_sub]
theorem mid_z2 (hn : (n : Int) = P) (q : L4) (u : Int) : em n (q.mid u).z2 = ((em n q.x2 + em n q.z2) * (em n q.x2 + em n q.z2) - (em n q.x2 - em n q.z2) * (em n q.x2 - em n q.z2)) * ((em n q.x2 + em n q.z2) * (em n q.x2 + em n q.z2) + ((em n q.x2 + em n q.z2) * (em n q.x2 + em n q.z2) - (em n q.x2 - em n q.z2) * (em n q.x2 - em n q.z2)) * em n 121665) := by
  simp only [L4.mid, em_modP hn, em_mul, em_add, em_sub]
theorem mid_x3 (hn : (n : Int) = P) (q : L4) (u : Int) : em n (q.mid u).x3 = ((em n q.x3 - em n q.z3) * (em n q.x2 + em n q.z2) + (em n q.x3 + em n q.z3) * (em n q.x2 - em n q.z2)) * ((em n q.x3 - em n q.z3) * (em n q.x2 + em n q.z2) + (em n q.x3 + em n q.z3) * (em n q.x2 - em n q.z2)) := by
  simp only [L4.mid, em_modP hn, em_mul, em_add, em_sub]
theorem mid_z3 (hn : (n : Int) = P) (q : L4) (u : Int) : em n (q.mid u).z3 = ((em n q.x3 - em n q.z3) * (em n q.x2 + em n q.z2) - (em n q.x3 + em n q.z3) * (em n q.x2 - em n q.z2)) * ((em n q.x3 - em n q.z3) * (em n q.x2 + em n q.z2) - (em n q.x3 + em n q.z3) * (em n q.x2 - em n q.z2)) * em n u := by
  simp only [L4.mid, em_modP hn, em_mul, em_add, em_sub]
/-- a point that the ladder may begin with -/
structure Base (iv : Fin n → Fin n) (D s : Fin n) (b : Pt n) (u : Int) : Prop where
  fl : Fl iv
  ns : Ns D
  ss : s * s = 1
  a24 : 2 * (1 - D) * (2 * em n 121665 + 1) = s * (2 * (1 + D))
  on : On D b
  u0 : em n u ≠ 0
  ub : Rep s (em n u) 1 b
theorem sw_zero (q : L4) : q.sw 0 = q := by unfold L4.sw; rw [if_neg (by decide)]
theorem sw_one (q : L4) : q.sw 1 = ⟨q.x3, q.z3, q.x2, q.z2⟩ := by unfold L4.sw; rw [if_pos rfl]
theorem Ivr.step {u : Int} (hn : (n : Int) = P) (h : Base iv D s b u) {q : L4} {m : Nat} (hq : Ivr iv D s b q m) (c : Int) (hc : c = 0 ∨ c = 1) : Ivr iv D s b (q.step u c) (2 * m + c.toNat) := by
  have om := mul_on h.fl h.ns h.on m
  have om1 := mul_on h.fl h.ns h.on (m + 1)
  have e2 : mul iv D b (2 * m) = add iv D (mul iv D b m) (mul iv D b m) := by rw [← mul_add h.fl h.ns h.on, Nat.two_mul]
  have e3 : mul iv D b (2 * m + 1) = add iv D (mul iv D b m) (add iv D (mul iv D b m) b) := by
    rw [show 2 * m + 1 = m + (m + 1) by omega, mul_add h.fl h.ns h.on]; rfl
  have e4 : mul iv D b (2 * m + 1 + 1) = add iv D (mul iv D b (m + 1)) (mul iv D b (m + 1)) := by rw [← mul_add h.fl h.ns h.on, show 2 * m + 1 + 1 = m + 1 + (m + 1) by omega]
  rcases hc with rfl | rfl
  · rw [L4.step, sw_zero, sw_zero]
    refine ⟨?_, ?_⟩
    · exact (hq.r2.dbl h.fl h.ns h.ss h.a24 om).congr (mid_x2 hn q u) (mid_z2 hn q u) e2
    · exact (Rep.dif h.fl h.ns h.ss om h.on h.u0 h.ub hq.r2 hq.r3).congr (mid_x3 hn q u) (mid_z3 hn q u) e3
  · rw [L4.step, sw_one, sw_one]
    refine ⟨?_, ?_⟩
    · refine (Rep.dif h.fl h.ns h.ss om h.on h.u0 h.ub hq.r2 hq.r3).congr ?_ ?_ e3
      · rw [mid_x3 hn]
        simp only
        grobner
      · rw [mid_z3 hn]
        simp only
        grobner
    · exact (hq.r3.dbl h.fl h.ns h.ss h.a24 om1).congr (mid_x2 hn _ u) (mid_z2 hn _ u) e4
theorem lad_ivr {u : Int} (hn : (n : Int) = P) (h1 : 1 < n) (h : Base iv D s b u) (β : Nat → Int) (hβ : ∀ i, β i = 0 ∨ β i = 1) : ∀ k, Ivr iv D s b (lad β u k) (scal β k)
  | 0 => by
    refine ⟨⟨.inl ?_, ?_⟩, ?_⟩
    · show em n 1 ≠ 0
      rw [em_one h1]; exact h.fl.one
    · show em n 1 * (1 - 1) = s * em n 0 * (1 + 1)
      rw [em_zero]; grobner
    · refine h.ub.congr rfl (em_one h1) ?_
      show mul iv D b (0 + 1) = b
      rw [Nat.zero_add, mul_one' h.fl h.ns h.on]
  | k + 1 => (lad_ivr hn h1 h β hβ k).step hn h (β k) (hβ k)
theorem Rep.top (h : Fl iv) {x z : Fin n} {p : Pt n} (hs : s * s = 1) (hr : Rep s x z p) : (z = 0 ↔ p.y = 1) ∧ (x = 0 ↔ p.y = -1) := by
  obtain ⟨k, hk, rfl, rfl⟩ := hr.scale h hs
  have hs0 := sne h hs
  refine ⟨⟨fun e => ?_, fun e => by rw [e]; grobner⟩, ⟨fun e => ?_, fun e => by rw [e]; grobner⟩⟩
  · rcases h.mul e with h1 | h1
    · exact absurd h1 hk
    · grobner
  · rcases h.mul e with h1 | h1
    · exact absurd h1 (h.mul_ne hs0 hk)
    · grobner
theorem On.y1 (h : Fl iv) (hD : Ns D) {p : Pt n} (hp : On D p) (hy : p.y = 1) : p = zero := by
  have h1 := ns_one h hD
  unfold On at hp
  rw [hy] at hp
  have h2 : (1 - D) * (p.x * p.x) = 0 := by grobner
  rcases h.mul h2 with h3 | h3
  · exact absurd h3 h1
  · rcases h.mul h3 with h4 | h4 <;> exact pt_ext h4 hy
theorem On.ym (h : Fl iv) (hD : Ns D) {p : Pt n} (hp : On D p) (hy : p.y = -1) : add iv D p p = zero := by
  have h1 := ns_one h hD
  have hx : p.x = 0 := by
    unfold On at hp
    rw [hy] at hp
    have h2 : (1 - D) * (p.x * p.x) = 0 := by grobner
    rcases h.mul h2 with h3 | h3
    · exact absurd h3 h1
    · rcases h.mul h3 with h4 | h4 <;> exact h4
  obtain ⟨s1, s2⟩ := add_spec h hD hp hp
  rw [hx, hy] at s1 s2
  exact pt_ext (by show _ = (0 : Fin n); grobner) (by show _ = (1 : Fin n); grobner)
end
end Go.Con.Cv
