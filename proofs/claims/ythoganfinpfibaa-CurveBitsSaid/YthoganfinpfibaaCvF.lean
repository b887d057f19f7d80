/-
  What two share on the curve: plain laws modulo the prime.
-/
import Derived.Test.YthoganfinpfibaaCvL
set_option linter.unusedVariables false
set_option linter.unusedSectionVars false
set_option linter.unusedSimpArgs false
namespace Go.Con.Cv
/-- the prime -/
def PN : Nat := 57896044618658097711785492504343953926634992332820282019728792003956564819949
theorem PN_P : (PN : Int) = P := by decide
theorem pr_PN : Pr PN := pr_P
theorem PN_1 : 1 < PN := pr_PN.1
instance : NeZero PN := ⟨by decide⟩
section
variable {n : Nat} [NeZero n]
/-- powers -/
def pwr (z : Fin n) : Nat → Fin n
  | 0 => 1
  | k + 1 => pwr z k * z
theorem pwr_val (h1 : 1 < n) (z : Fin n) : ∀ k, (pwr z k).val = z.val ^ k % n
  | 0 => by
    show (1 : Fin n).val = _
    rw [show (1 : Fin n) = Fin.ofNat n 1 from rfl, Fin.val_ofNat, Nat.pow_zero]
  | k + 1 => by rw [pwr, Fin.val_mul, pwr_val h1 z k, Nat.pow_succ, Nat.mod_mul_mod]
theorem pwr_add (z : Fin n) (a : Nat) : ∀ b, pwr z (a + b) = pwr z a * pwr z b
  | 0 => by rw [Nat.add_zero, pwr]; grobner
  | b + 1 => by rw [← Nat.add_assoc, pwr, pwr, pwr_add z a b]; grobner
theorem pwr_zero : ∀ k, 0 < k → pwr (0 : Fin n) k = 0
  | k + 1, _ => by rw [pwr]; grobner
theorem val_zero' (x : Fin n) (h : x.val = 0) : x = 0 := Fin.ext (by rw [h]; rfl)
/-- reciprocals are powers -/
theorem fl_pwr (hp : Pr n) (h2 : 2 < n) : Fl (fun z : Fin n => pwr z (n - 2)) := by
  refine ⟨fun e => ?_, fun x hx => ?_⟩
  · have := congrArg Fin.val e
    rw [show (2 : Fin n) = Fin.ofNat n 2 from rfl, Fin.val_ofNat, Nat.mod_eq_of_lt h2] at this
    cases this
  · have e : x * pwr x (n - 2) = pwr x (n - 1) := by
      rw [show n - 1 = (n - 2) + 1 by omega, pwr]; grobner
    show x * pwr x (n - 2) = 1
    rw [e]
    apply Fin.ext
    rw [pwr_val hp.1, hp.little (a := x.val) (fun hd => hx (val_zero' x (Nat.eq_zero_of_dvd_of_lt hd x.isLt))), show (1 : Fin n) = Fin.ofNat n 1 from rfl, Fin.val_ofNat, Nat.mod_eq_of_lt hp.1]
theorem two_eq : (1 : Fin n) + 1 = 2 := by
  have h1 : ∀ x : Fin n, x * (1 + 1) = x * 2 := fun x => by grobner
  have h2 : ∀ x : Fin n, 1 * x = x := fun x => by grobner
  have h3 := h1 1
  rw [h2, h2] at h3
  exact h3
/-- no square, by reckoning -/
theorem ns_of (hp : Pr n) (h2 : 2 < n) (D : Fin n) (h : D.val ^ ((n - 1) / 2) % n = n - 1) (ho : n % 2 = 1) : Ns D := fun z hz => by
  have e1 : pwr D ((n - 1) / 2) = pwr z (n - 1) := by
    have : ∀ k, pwr (z * z) k = pwr z (2 * k) := fun k => by
      induction k with
      | zero => rfl
      | succ k ih => rw [pwr, ih, show 2 * (k + 1) = 2 * k + 1 + 1 by omega, pwr, pwr]; grobner
    rw [← hz, this, show 2 * ((n - 1) / 2) = n - 1 by omega]
  have e2 := congrArg Fin.val e1
  rw [pwr_val hp.1, pwr_val hp.1, h] at e2
  by_cases hd : n ∣ z.val
  · have hz0 : z = 0 := val_zero' z (Nat.eq_zero_of_dvd_of_lt hd z.isLt)
    rw [hz0, show ((0 : Fin n).val) = 0 from rfl, Nat.zero_pow (by omega)] at e2
    simp at e2; omega
  · rw [hp.little hd] at e2; omega
end
/-- the reciprocal -/
def iv (z : Fin PN) : Fin PN := pwr z (PN - 2)
theorem fl_iv : Fl iv := fl_pwr pr_PN (by decide)
theorem iv_zero : iv 0 = 0 := pwr_zero _ (by decide)
/-- exponents of 'turned' -/
def tex : Nat → Nat
  | 0 => 1
  | k + 1 => 2 * tex k + (if 253 - k ≠ 2 ∧ 253 - k ≠ 4 then 1 else 0)
theorem em_turn (z : Int) : ∀ k, em PN (turn z k) = pwr (em PN z) (tex k)
  | 0 => by rw [turn, em_modP PN_P, tex, pwr, pwr]; grobner
  | k + 1 => by
    rw [turn, tex]
    have ih := em_turn z k
    split
    · rw [em_modP PN_P, em_mul, em_modP PN_P, em_mul, ih, Nat.two_mul, pwr, pwr_add]
    · rw [em_modP PN_P, em_mul, ih, Nat.add_zero, Nat.two_mul, pwr_add]
theorem em_inv (z : Int) : em PN (turn z 254) = iv (em PN z) := by
  have e : tex 254 = PN - 2 := by decide +kernel
  rw [em_turn, e]; rfl
theorem P_pos : 0 < P := by decide
theorem share_bd (k l : List UInt8) : 0 ≤ share k l ∧ share k l < P := ⟨Int.emod_nonneg _ (by decide), Int.emod_lt_of_pos _ P_pos⟩
/-- the scalar of a secret -/
def sc (k : List UInt8) : Nat := scal (fun i => kbit (clamp k) (254 - i)) 255
theorem em_share (k l : List UInt8) : em PN (share k l) = em PN (ladder (clamp k) (num l) 255).x2 * iv (em PN (ladder (clamp k) (num l) 255).z2) := by
  rw [share, em_modP PN_P, em_mul, em_inv]
theorem share_ext {a b : Int} (ha : 0 ≤ a ∧ a < P) (hb : 0 ≤ b ∧ b < P) (h : em PN a = em PN b) : a = b := em_inj (by rw [PN_P]; exact ha) (by rw [PN_P]; exact hb) h
theorem kbit_or (k : List UInt8) (i : Nat) : kbit k i = 0 ∨ kbit k i = 1 := by unfold kbit; omega
theorem top_bit : ∀ x : Fin 256, ((UInt8.ofNat x.val &&& 127 ||| 64).toNat / 2 ^ 6 % 2 : Nat) = 1 := by decide +kernel
theorem low_bit : ∀ x : Fin 256, ((UInt8.ofNat x.val &&& 248).toNat / 2 ^ 0 % 2 : Nat) = 0 ∧ ((UInt8.ofNat x.val &&& 248).toNat / 2 ^ 1 % 2 : Nat) = 0 ∧ ((UInt8.ofNat x.val &&& 248).toNat / 2 ^ 2 % 2 : Nat) = 0 := by decide +kernel
theorem kbit_top (k : List UInt8) (h : k.length = 32) : kbit (clamp k) (254 - 0) = 1 := by
  have e : (clamp k).getD (254 / 8) 0 = k.getD 31 0 &&& 127 ||| 64 := by simp [clamp, h]
  have hx := top_bit ⟨(k.getD 31 0).toNat, (k.getD 31 0).toNat_lt⟩
  simp only [UInt8.ofNat_toNat] at hx
  unfold kbit
  rw [Nat.sub_zero, e, show 254 % 8 = 6 from rfl, hx]; rfl
theorem kbit_low (k : List UInt8) (h : k.length = 32) (i : Nat) (hi : i < 3) : kbit (clamp k) i = 0 := by
  have e : (clamp k).getD (i / 8) 0 = k.getD 0 0 &&& 248 := by rw [show i / 8 = 0 by omega]; simp [clamp, h]
  have hx := low_bit ⟨(k.getD 0 0).toNat, (k.getD 0 0).toNat_lt⟩
  simp only [UInt8.ofNat_toNat] at hx
  unfold kbit
  rw [e, show i % 8 = i by omega]
  have hc : i = 0 ∨ i = 1 ∨ i = 2 := by omega
  rcases hc with rfl | rfl | rfl
  · rw [hx.1]; rfl
  · rw [hx.2.1]; rfl
  · rw [hx.2.2]; rfl
variable {D s : Fin PN} {b : Pt PN}
theorem share_rep {u : Int} (h : Base iv D s b u) (k l : List UInt8) (hl : num l = u) : Rep s (em PN (ladder (clamp k) u 255).x2) (em PN (ladder (clamp k) u 255).z2) (mul iv D b (sc k)) := by
  have := (lad_ivr PN_P PN_1 h (fun i => kbit (clamp k) (254 - i)) (fun i => kbit_or _ _) 255).r2
  rw [← ladder_lad] at this
  exact this
/-- what the order of a point is -/
structure Ord (D : Fin PN) (b : Pt PN) (L : Nat) : Prop where
  pr : Pr L
  gt : 2 ^ 252 < L
  eight : mul iv D b 8 ≠ zero
  all : mul iv D b (8 * L) = zero
theorem Ord.ne {L : Nat} {u : Int} (o : Ord D b L) (h : Base iv D s b u) {j : Nat} (hj : ¬ L ∣ j) : mul iv D b (8 * j) ≠ zero := by
  rw [← mul_mul' h.fl h.ns h.on]
  exact mul_ne h.fl h.ns (mul_on h.fl h.ns h.on 8) o.pr.2 o.eight (by rw [mul_mul' h.fl h.ns h.on]; exact o.all) hj
/-- multiples that are not nought -/
def Good (L m : Nat) : Prop := ∃ j, m = 8 * j ∧ ¬ L ∣ j
theorem Good.mul {L m k : Nat} (hp : Pr L) (h8 : 2 ^ 252 < L) (hm : Good L m) (hk : Good L k) : Good L (m * k) := by
  obtain ⟨j, rfl, hj⟩ := hm
  obtain ⟨i, rfl, hi⟩ := hk
  refine ⟨j * (8 * i), by rw [Nat.mul_assoc], fun hd => ?_⟩
  rcases hp.mul hd with h | h
  · exact hj h
  · rcases hp.mul h with h | h
    · have := Nat.le_of_dvd (by decide) h; have : (8 : Nat) < 2 ^ 252 := by decide
      omega
    · exact hi h
theorem Ord.good {L m : Nat} {u : Int} (o : Ord D b L) (h : Base iv D s b u) (hm : Good L m) : (mul iv D b m).y ≠ 1 ∧ (mul iv D b m).y ≠ -1 := by
  obtain ⟨j, rfl, hj⟩ := hm
  have hon := mul_on h.fl h.ns h.on (8 * j)
  refine ⟨fun e => o.ne h hj (hon.y1 h.fl h.ns e), fun e => ?_⟩
  have := hon.ym h.fl h.ns e
  rw [← mul_add h.fl h.ns h.on, show 8 * j + 8 * j = 8 * (2 * j) by omega] at this
  refine o.ne h (fun hd => ?_) this
  rcases o.pr.mul hd with h2 | h2
  · have := Nat.le_of_dvd (by decide) h2
    have h3 := o.gt
    have : (2 : Nat) < 2 ^ 252 := by decide
    omega
  · exact hj h2
/-- what is shared stands for the multiple, and may be multiplied again -/
theorem share_good {k : List UInt8} {L : Nat} {u : Int} (o : Ord D b L) (h : Base iv D s b u) {m : Nat} (hm : Good L (m * sc k)) (l : List UInt8) {v : Int} (hb : Base iv D s (mul iv D b m) v) (hl : num l = v) : share k l ≠ 0 ∧ Base iv D s (mul iv D b (m * sc k)) (share k l) := by
  have hr := share_rep hb k l hl
  rw [mul_mul' h.fl h.ns h.on] at hr
  obtain ⟨g1, g2⟩ := o.good h hm
  obtain ⟨t1, t2⟩ := hr.top h.fl h.ss
  have hz : em PN (ladder (clamp k) v 255).z2 ≠ 0 := fun e => g1 (t1.1 e)
  have hx : em PN (ladder (clamp k) v 255).x2 ≠ 0 := fun e => g2 (t2.1 e)
  have he := em_share k l
  rw [hl] at he
  have hi := h.fl.inv _ hz
  have h0 : em PN (share k l) ≠ 0 := by
    rw [he]
    refine h.fl.mul_ne hx (fun e => h.fl.one ?_)
    rw [e] at hi; grobner
  refine ⟨fun e => h0 (by rw [e, em_zero]), ⟨h.fl, h.ns, h.ss, h.a24, mul_on h.fl h.ns h.on _, h0, ⟨.inl h0, ?_⟩⟩⟩
  rw [he]
  have e := hr.eq
  generalize em PN (ladder (clamp k) v 255).x2 = X at *
  generalize em PN (ladder (clamp k) v 255).z2 = Z at *
  generalize iv Z = W at *
  clear t1 t2 he h0 hr
  grobner
theorem share_one {L : Nat} {u : Int} (o : Ord D b L) (h : Base iv D s b u) {m : Nat} (hm : Good L m) {v v' : Int} (hv : Base iv D s (mul iv D b m) v) (hv' : Base iv D s (mul iv D b m) v') (b1 : 0 ≤ v ∧ v < P) (b2 : 0 ≤ v' ∧ v' < P) : v = v' := by
  refine share_ext b1 b2 ?_
  have hy : 1 - (mul iv D b m).y ≠ 0 := fun e => (o.good h hm).1 (by grobner)
  exact h.fl.cancel hy (by have e1 := hv.ub.eq; have e2 := hv'.ub.eq; grobner)
/-- the scalars of secrets -/
theorem sc_form (k : List UInt8) (h32 : k.length = 32) : ∃ j, sc k = 8 * j ∧ 2 ^ 251 ≤ j ∧ j < 2 ^ 252 := by
  obtain ⟨K, hK⟩ : ∃ K, K = clamp k := ⟨_, rfl⟩
  obtain ⟨β, hβ⟩ : ∃ β : Nat → Int, β = fun i => kbit (clamp k) (254 - i) := ⟨_, rfl⟩
  have h01 : ∀ i, β i = 0 ∨ β i = 1 := fun i => by rw [hβ]; exact kbit_or _ _
  have top : β 0 = 1 := by rw [hβ]; exact kbit_top k h32
  have l0 : β 252 = 0 := by rw [hβ]; exact kbit_low k h32 2 (by decide)
  have l1 : β 253 = 0 := by rw [hβ]; exact kbit_low k h32 1 (by decide)
  have l2 : β 254 = 0 := by rw [hβ]; exact kbit_low k h32 0 (by decide)
  have hs : sc k = scal β 255 := by rw [hβ]; rfl
  have hb : ∀ m, 2 ^ m ≤ scal β (m + 1) ∧ scal β (m + 1) < 2 ^ (m + 1) := by
    intro m
    induction m with
    | zero => rw [scal, scal, top]; decide
    | succ m ih =>
      rw [scal]
      have := h01 (m + 1)
      rw [Nat.pow_succ, Nat.pow_succ 2 (m + 1)]
      omega
  have h252 := hb 251
  refine ⟨scal β 252, ?_, h252.1, h252.2⟩
  rw [hs, scal, scal, scal, l0, l1, l2, show (0 : Int).toNat = 0 from rfl]
  omega
theorem sc_good {L : Nat} (h : 2 ^ 252 < L) (k : List UInt8) (h32 : k.length = 32) : Good L (sc k) := by
  obtain ⟨j, h1, h2, h3⟩ := sc_form k h32
  refine ⟨j, h1, fun hd => ?_⟩
  have := Nat.le_of_dvd (Nat.lt_of_lt_of_le (by decide) h2) hd
  omega

/-- a base, by reckoning -/
theorem base_of (Dn sn X Y : Nat) (u : Int) (hns : pm Dn PN 255 ((PN - 1) / 2) = PN - 1) (hD : Dn < PN) (hs : sn * sn % PN = 1) (ha : 2 * (PN + 1 - Dn) * (2 * 121665 + 1) % PN = sn * (2 * (1 + Dn)) % PN) (hs1 : sn < PN) (hX : X < PN) (hY : Y < PN)
    (hon : (X * X + Y * Y) % PN = (1 + Dn * X * X * Y * Y) % PN) (hu0 : 0 < u) (huP : u < P) (hub : (u.toNat * (PN + 1 - Y)) % PN = sn * (1 + Y) % PN) : Base iv (em PN Dn) (em PN sn) ⟨em PN X, em PN Y⟩ u := by
  have hcast : ∀ a b : Nat, a % PN = b % PN → em PN (a : Int) = em PN (b : Int) := fun a b h => by
    apply fin_int
    rw [em_val, em_val, ← Int.natCast_emod, ← Int.natCast_emod, h]
  have n1 : em PN ((1 : Nat) : Int) = 1 := em_one PN_1
  have np : em PN ((PN : Nat) : Int) = 0 := by
    apply fin_int
    rw [em_val, Int.emod_self]; rfl
  have hadd : ∀ a b : Nat, em PN ((a + b : Nat) : Int) = em PN (a : Int) + em PN (b : Int) := fun a b => by rw [Int.natCast_add, em_add]
  have hmul : ∀ a b : Nat, em PN ((a * b : Nat) : Int) = em PN (a : Int) * em PN (b : Int) := fun a b => by rw [Int.natCast_mul, em_mul]
  have hsub : ∀ a : Nat, a < PN → em PN ((PN + 1 - a : Nat) : Int) = 1 - em PN (a : Int) := fun a ha => by
    rw [Int.natCast_sub (by omega), em_sub, hadd, np, n1]; grobner
  have n2 : em PN ((2 : Nat) : Int) = 2 := by
    have := hadd 1 1
    rw [n1] at this; rw [this]; exact two_eq
  have hu : ((u.toNat : Nat) : Int) = u := by omega
  refine ⟨fl_iv, ?_, ?_, ?_, ?_, ?_, ⟨.inr fl_iv.one, ?_⟩⟩
  · refine ns_of pr_PN (by decide) _ ?_ (by decide)
    have : (em PN (Dn : Int)).val = Dn := by
      have := em_val (n := PN) (Dn : Int)
      rw [Int.emod_eq_of_lt (by omega) (by omega)] at this
      omega
    rw [this, ← pm_eq _ _ 255 _ (by decide)]; exact hns
  · have := hcast (sn * sn) 1 (by rw [hs]; decide)
    rw [hmul, n1] at this; exact this
  · have := hcast _ _ ha
    rw [hmul, hmul, hadd, hmul, hmul, hmul, hadd, n1, n2, hsub _ hD] at this
    exact this
  · have := hcast _ _ hon
    rw [hadd, hmul, hmul, hadd, hmul, hmul, hmul, hmul, n1] at this
    exact this
  · intro e
    have := congrArg (fun x : Fin PN => (x.val : Int)) e
    simp only [em_val] at this
    rw [PN_P, Int.emod_eq_of_lt (by omega) huP] at this
    simp at this
    omega
  · have := hcast _ _ hub
    rw [hmul, hmul, hadd, n1, hsub _ hY, hu] at this
    show em PN u * (1 - em PN (Y : Int)) = em PN (sn : Int) * 1 * (1 + em PN (Y : Int))
    rw [this]; grobner
theorem em_z {a : Int} (h0 : 0 ≤ a ∧ a < P) (h : em PN a = 0) : a = 0 := share_ext h0 ⟨Int.le_refl _, P_pos⟩ (by rw [h, em_zero])
theorem lad_bd (β : Nat → Int) (u : Int) : ∀ k, 0 < k → 0 ≤ (lad β u k).z2 ∧ (lad β u k).z2 < P
  | k + 1, _ => by
    have hz : ∀ q : L4, (0 ≤ (q.mid u).z2 ∧ (q.mid u).z2 < P) ∧ (0 ≤ (q.mid u).z3 ∧ (q.mid u).z3 < P) := fun q =>
      ⟨⟨Int.emod_nonneg _ (by decide), Int.emod_lt_of_pos _ P_pos⟩, ⟨Int.emod_nonneg _ (by decide), Int.emod_lt_of_pos _ P_pos⟩⟩
    rw [lad, L4.step]
    unfold L4.sw
    split
    · exact (hz _).2
    · exact (hz _).1
/-- its order, by reckoning -/
theorem ord_of {u : Int} (h : Base iv D s b u) (L : Nat) (hp : Pr L) (hg : 2 ^ 252 < L) (hl : 8 * L < 2 ^ 256) (h8 : (lad (ebit 8 4) u 4).z2 ≠ 0) (ha : (lad (ebit (8 * L) 256) u 256).z2 = 0) : Ord D b L := by
  have h01 : ∀ e N i, ebit e N i = 0 ∨ ebit e N i = 1 := fun e N i => by unfold ebit; omega
  refine ⟨hp, hg, fun e => h8 ?_, ?_⟩
  · have hr := (lad_ivr PN_P PN_1 h (ebit 8 4) (h01 8 4) 4).r2
    rw [scal_ebit 8 4 (by decide) 4 (by decide)] at hr
    have h9 : mul iv D b (8 / 2 ^ (4 - 4)) = zero := e
    have ht := (hr.top h.fl h.ss).1.2 (by rw [h9]; rfl)
    exact em_z (lad_bd _ _ 4 (by decide)) ht
  · have hr := (lad_ivr PN_P PN_1 h (ebit (8 * L) 256) (h01 _ _) 256).r2
    rw [scal_ebit (8 * L) 256 hl 256 (by decide), Nat.sub_self, Nat.pow_zero, Nat.div_one] at hr
    exact (mul_on h.fl h.ns h.on _).y1 h.fl h.ns ((hr.top h.fl h.ss).1.1 (by rw [ha, em_zero]))

theorem base2 : ∃ D s b L, Base iv D s b 2 ∧ Ord D b L := by
  have h := base_of 28692721048178265397853269683490922171210976843790175684556505508326675974058 57896044618658097711785492504343953926634992332820282019728792003956564819948 32065679123207371837161887042422126473440588175635437574654347924003801580755 3 2 (by decide +kernel) (by decide +kernel) (by decide +kernel) (by decide +kernel) (by decide +kernel) (by decide +kernel) (by decide +kernel) (by decide +kernel) (by decide) (by decide) (by decide +kernel)
  exact ⟨_, _, _, 14474011154664524427946373126085988481603263447650325797860494125407373907997, h, ord_of h _ pr_M (by decide +kernel) (by decide +kernel) (by decide +kernel) (by decide +kernel)⟩
theorem base3 : ∃ D s b L, Base iv D s b 3 ∧ Ord D b L := by
  have h := base_of 28692721048178265397853269683490922171210976843790175684556505508326675974058 57896044618658097711785492504343953926634992332820282019728792003956564819948 3682169400040840111092909783844767488804033305061471942786024437441852950726 2 3 (by decide +kernel) (by decide +kernel) (by decide +kernel) (by decide +kernel) (by decide +kernel) (by decide +kernel) (by decide +kernel) (by decide +kernel) (by decide) (by decide) (by decide +kernel)
  exact ⟨_, _, _, 14474011154664524427946373126085988481603263447650325797860494125407373907997, h, ord_of h _ pr_M (by decide +kernel) (by decide +kernel) (by decide +kernel) (by decide +kernel)⟩
theorem base4 : ∃ D s b L, Base iv D s b 4 ∧ Ord D b L := by
  have h := base_of 20800338683988658368647408995589388737092878452977063003340006470870624536394 1 20508589649930586089570533404659280742315514376806881400292713504627928619041 34737626771194858627071295502606372355980995399692169211837275202373938891970 4 (by decide +kernel) (by decide +kernel) (by decide +kernel) (by decide +kernel) (by decide +kernel) (by decide +kernel) (by decide +kernel) (by decide +kernel) (by decide) (by decide) (by decide +kernel)
  exact ⟨_, _, _, 7237005577332262213973186563042994240857116359379907606001950938285454250989, h, ord_of h _ pr_L (by decide +kernel) (by decide +kernel) (by decide +kernel) (by decide +kernel)⟩
theorem base5 : ∃ D s b L, Base iv D s b 5 ∧ Ord D b L := by
  have h := base_of 28692721048178265397853269683490922171210976843790175684556505508326675974058 57896044618658097711785492504343953926634992332820282019728792003956564819948 21614971902811018776371083671337489151686871949735244119412540222766402942130 28948022309329048855892746252171976963317496166410141009864396001978282409976 5 (by decide +kernel) (by decide +kernel) (by decide +kernel) (by decide +kernel) (by decide +kernel) (by decide +kernel) (by decide +kernel) (by decide +kernel) (by decide) (by decide) (by decide +kernel)
  exact ⟨_, _, _, 14474011154664524427946373126085988481603263447650325797860494125407373907997, h, ord_of h _ pr_M (by decide +kernel) (by decide +kernel) (by decide +kernel) (by decide +kernel)⟩
theorem base6 : ∃ D s b L, Base iv D s b 6 ∧ Ord D b L := by
  have h := base_of 20800338683988658368647408995589388737092878452977063003340006470870624536394 1 19376780039462327808380171548702722817192514675710707759395090655240387290537 24812590550853470447908068216147408825700710999780120865598053715981384922836 6 (by decide +kernel) (by decide +kernel) (by decide +kernel) (by decide +kernel) (by decide +kernel) (by decide +kernel) (by decide +kernel) (by decide +kernel) (by decide) (by decide) (by decide +kernel)
  exact ⟨_, _, _, 7237005577332262213973186563042994240857116359379907606001950938285454250989, h, ord_of h _ pr_L (by decide +kernel) (by decide +kernel) (by decide +kernel) (by decide +kernel)⟩
theorem base7 : ∃ D s b L, Base iv D s b 7 ∧ Ord D b L := by
  have h := base_of 20800338683988658368647408995589388737092878452977063003340006470870624536394 1 17925512123371862172136608251410747952113741228168584786973621899917666135609 14474011154664524427946373126085988481658748083205070504932198000989141204988 7 (by decide +kernel) (by decide +kernel) (by decide +kernel) (by decide +kernel) (by decide +kernel) (by decide +kernel) (by decide +kernel) (by decide +kernel) (by decide) (by decide) (by decide +kernel)
  exact ⟨_, _, _, 7237005577332262213973186563042994240857116359379907606001950938285454250989, h, ord_of h _ pr_L (by decide +kernel) (by decide +kernel) (by decide +kernel) (by decide +kernel)⟩
theorem base8 : ∃ D s b L, Base iv D s b 8 ∧ Ord D b L := by
  have h := base_of 20800338683988658368647408995589388737092878452977063003340006470870624536394 1 14793505554161292162952879661203002155632242541060023780761963224178504248572 51463150772140531299364882226083514601453326518062472906425592892405835395511 8 (by decide +kernel) (by decide +kernel) (by decide +kernel) (by decide +kernel) (by decide +kernel) (by decide +kernel) (by decide +kernel) (by decide +kernel) (by decide) (by decide) (by decide +kernel)
  exact ⟨_, _, _, 7237005577332262213973186563042994240857116359379907606001950938285454250989, h, ord_of h _ pr_L (by decide +kernel) (by decide +kernel) (by decide +kernel) (by decide +kernel)⟩
theorem base9 : ∃ D s b L, Base iv D s b 9 ∧ Ord D b L := by
  have h := base_of 20800338683988658368647408995589388737092878452977063003340006470870624536394 1 9771384041963202563870679428059935816164187996444183106833894008023910952347 46316835694926478169428394003475163141307993866256225615783033603165251855960 9 (by decide +kernel) (by decide +kernel) (by decide +kernel) (by decide +kernel) (by decide +kernel) (by decide +kernel) (by decide +kernel) (by decide +kernel) (by decide) (by decide) (by decide +kernel)
  exact ⟨_, _, _, 7237005577332262213973186563042994240857116359379907606001950938285454250989, h, ord_of h _ pr_L (by decide +kernel) (by decide +kernel) (by decide +kernel) (by decide +kernel)⟩
theorem base10 : ∃ D s b L, Base iv D s b 10 ∧ Ord D b L := by
  have h := base_of 20800338683988658368647408995589388737092878452977063003340006470870624536394 1 46350544086598272700915486025736097039828607082174142178859791712669962060968 5263276783514372519253226591303995811512272030256389274520799273086960438178 10 (by decide +kernel) (by decide +kernel) (by decide +kernel) (by decide +kernel) (by decide +kernel) (by decide +kernel) (by decide +kernel) (by decide +kernel) (by decide) (by decide) (by decide +kernel)
  exact ⟨_, _, _, 7237005577332262213973186563042994240857116359379907606001950938285454250989, h, ord_of h _ pr_L (by decide +kernel) (by decide +kernel) (by decide +kernel) (by decide +kernel)⟩
theorem base11 : ∃ D s b L, Base iv D s b 11 ∧ Ord D b L := by
  have h := base_of 20800338683988658368647408995589388737092878452977063003340006470870624536394 1 44641080531145002766614471963518746256294209407851541410468560344819738692368 9649340769776349618630915417390658987772498722136713669954798667326094136659 11 (by decide +kernel) (by decide +kernel) (by decide +kernel) (by decide +kernel) (by decide +kernel) (by decide +kernel) (by decide +kernel) (by decide +kernel) (by decide) (by decide) (by decide +kernel)
  exact ⟨_, _, _, 7237005577332262213973186563042994240857116359379907606001950938285454250989, h, ord_of h _ pr_L (by decide +kernel) (by decide +kernel) (by decide +kernel) (by decide +kernel)⟩
theorem base12 : ∃ D s b L, Base iv D s b 12 ∧ Ord D b L := by
  have h := base_of 28692721048178265397853269683490922171210976843790175684556505508326675974058 57896044618658097711785492504343953926634992332820282019728792003956564819948 34196106732627306722680834125398945623228640181324725157439122419039833836186 52632767835143725192532265913039958115122720302563892745207992730869604381773 12 (by decide +kernel) (by decide +kernel) (by decide +kernel) (by decide +kernel) (by decide +kernel) (by decide +kernel) (by decide +kernel) (by decide +kernel) (by decide) (by decide) (by decide +kernel)
  exact ⟨_, _, _, 14474011154664524427946373126085988481603263447650325797860494125407373907997, h, ord_of h _ pr_M (by decide +kernel) (by decide +kernel) (by decide +kernel) (by decide +kernel)⟩
theorem base13 : ∃ D s b L, Base iv D s b 13 ∧ Ord D b L := by
  have h := base_of 20800338683988658368647408995589388737092878452977063003340006470870624536394 1 23186388564182142132257943652719722374607179821088188255287612417599000678868 41354317584755784079846780360245681376167851666300201442663422859968974871393 13 (by decide +kernel) (by decide +kernel) (by decide +kernel) (by decide +kernel) (by decide +kernel) (by decide +kernel) (by decide +kernel) (by decide +kernel) (by decide) (by decide) (by decide +kernel)
  exact ⟨_, _, _, 7237005577332262213973186563042994240857116359379907606001950938285454250989, h, ord_of h _ pr_L (by decide +kernel) (by decide +kernel) (by decide +kernel) (by decide +kernel)⟩
theorem base14 : ∃ D s b L, Base iv D s b 14 ∧ Ord D b L := by
  have h := base_of 28692721048178265397853269683490922171210976843790175684556505508326675974058 57896044618658097711785492504343953926634992332820282019728792003956564819948 33899274838782884861046332592755978208534479991647388742683308848632235697164 53442502724915167118571223850163649778432300614911029556672731080575290603031 14 (by decide +kernel) (by decide +kernel) (by decide +kernel) (by decide +kernel) (by decide +kernel) (by decide +kernel) (by decide +kernel) (by decide +kernel) (by decide) (by decide) (by decide +kernel)
  exact ⟨_, _, _, 14474011154664524427946373126085988481603263447650325797860494125407373907997, h, ord_of h _ pr_M (by decide +kernel) (by decide +kernel) (by decide +kernel) (by decide +kernel)⟩
theorem base15 : ∃ D s b L, Base iv D s b 15 ∧ Ord D b L := by
  have h := base_of 20800338683988658368647408995589388737092878452977063003340006470870624536394 1 32887437911889007803214493316549785766790460049742049874249928852770381949080 36185027886661311069865932815214971204146870208012676262330495002472853012469 15 (by decide +kernel) (by decide +kernel) (by decide +kernel) (by decide +kernel) (by decide +kernel) (by decide +kernel) (by decide +kernel) (by decide +kernel) (by decide) (by decide) (by decide +kernel)
  exact ⟨_, _, _, 7237005577332262213973186563042994240857116359379907606001950938285454250989, h, ord_of h _ pr_L (by decide +kernel) (by decide +kernel) (by decide +kernel) (by decide +kernel)⟩
theorem base16 : ∃ D s b L, Base iv D s b 16 ∧ Ord D b L := by
  have h := base_of 20800338683988658368647408995589388737092878452977063003340006470870624536394 1 51561416144477174548144136147003824708919917097186314789366716055861091945046 34056496834504763359873819120202325839197054313423695305722818825856802835265 16 (by decide +kernel) (by decide +kernel) (by decide +kernel) (by decide +kernel) (by decide +kernel) (by decide +kernel) (by decide +kernel) (by decide +kernel) (by decide) (by decide) (by decide +kernel)
  exact ⟨_, _, _, 7237005577332262213973186563042994240857116359379907606001950938285454250989, h, ord_of h _ pr_L (by decide +kernel) (by decide +kernel) (by decide +kernel) (by decide +kernel)⟩
theorem base17 : ∃ D s b L, Base iv D s b 17 ∧ Ord D b L := by
  have h := base_of 20800338683988658368647408995589388737092878452977063003340006470870624536394 1 38861663903288537055342652200867762152127298789841464568860011149915485842567 25731575386070265649682441113041757300726663259031236453212796446202917697756 17 (by decide +kernel) (by decide +kernel) (by decide +kernel) (by decide +kernel) (by decide +kernel) (by decide +kernel) (by decide +kernel) (by decide +kernel) (by decide) (by decide) (by decide +kernel)
  exact ⟨_, _, _, 7237005577332262213973186563042994240857116359379907606001950938285454250989, h, ord_of h _ pr_L (by decide +kernel) (by decide +kernel) (by decide +kernel) (by decide +kernel)⟩
theorem base18 : ∃ D s b L, Base iv D s b 18 ∧ Ord D b L := by
  have h := base_of 20800338683988658368647408995589388737092878452977063003340006470870624536394 1 39403970968009270696389903822670562210240359001089214987096528919327943574536 15235801215436341503101445395879987875430261140215863689402313685251727584198 18 (by decide +kernel) (by decide +kernel) (by decide +kernel) (by decide +kernel) (by decide +kernel) (by decide +kernel) (by decide +kernel) (by decide +kernel) (by decide) (by decide) (by decide +kernel)
  exact ⟨_, _, _, 7237005577332262213973186563042994240857116359379907606001950938285454250989, h, ord_of h _ pr_L (by decide +kernel) (by decide +kernel) (by decide +kernel) (by decide +kernel)⟩
end Go.Con.Cv
