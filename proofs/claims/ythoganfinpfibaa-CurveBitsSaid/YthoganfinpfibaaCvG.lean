/-
  What two, or three, share; small points: plain laws.
-/
import Derived.Test.YthoganfinpfibaaCvF
import Derived.Test.YthoganfinpfibaaFsh
set_option linter.unusedVariables false
set_option linter.unusedSectionVars false
set_option linter.unusedSimpArgs false
namespace Go.Con.Cv
theorem nine_num : num (9 :: List.replicate 31 0) = 9 := by decide
theorem base_one {D s : Fin PN} {b : Pt PN} {u : Int} (h : Base iv D s b u) : Base iv D s (mul iv D b 1) u := by rw [mul_one' h.fl h.ns h.on]; exact h
/-- one that shares with a point -/
theorem go_one {D s : Fin PN} {b : Pt PN} {L : Nat} {u : Int} (o : Ord D b L) (h : Base iv D s b u) (k l : List UInt8) (hk : k.length = 32) (hl : num l = u) : share k l ≠ 0 ∧ Base iv D s (mul iv D b (sc k)) (share k l) := by
  have := share_good o h (k := k) (m := 1) (by rw [Nat.one_mul]; exact sc_good o.gt k hk) l (base_one h) hl
  rwa [Nat.one_mul] at this
/-- and another one behind it -/
theorem go_next {D s : Fin PN} {b : Pt PN} {L : Nat} {u : Int} (o : Ord D b L) (h : Base iv D s b u) (k : List UInt8) (hk : k.length = 32) {m : Nat} (hm : Good L m) {v : Int} (h0 : 0 ≤ v ∧ v < P) (hb : Base iv D s (mul iv D b m) v) : share k (out32 v) ≠ 0 ∧ Base iv D s (mul iv D b (m * sc k)) (share k (out32 v)) :=
  share_good o h (hm.mul o.pr o.gt (sc_good o.gt k hk)) (out32 v) hb (num_out32 v h0.1 h0.2)
theorem point_ne (x : List UInt8) (hx : x.length = 32) : share x (9 :: List.replicate 31 0) ≠ 0 := by
  obtain ⟨D, s, b, L, h, o⟩ := base9
  exact (go_one o h x _ hx nine_num).1
theorem share_two (x y l : List UInt8) (hx : x.length = 32) (hy : y.length = 32) (hl : num l = 9) :
    share x (out32 (share y l)) ≠ 0 ∧ share y (out32 (share x l)) ≠ 0 ∧ share x (out32 (share y l)) = share y (out32 (share x l)) := by
  obtain ⟨D, s, b, L, h, o⟩ := base9
  obtain ⟨a1, a2⟩ := go_one o h x l hx hl
  obtain ⟨b1, b2⟩ := go_one o h y l hy hl
  obtain ⟨c1, c2⟩ := go_next o h x hx (sc_good o.gt y hy) (share_bd _ _) b2
  obtain ⟨d1, d2⟩ := go_next o h y hy (sc_good o.gt x hx) (share_bd _ _) a2
  refine ⟨c1, d1, ?_⟩
  rw [Nat.mul_comm] at d2
  exact share_one o h ((sc_good o.gt y hy).mul o.pr o.gt (sc_good o.gt x hx)) c2 d2 (share_bd _ _) (share_bd _ _)
theorem share_three (x y z l : List UInt8) (hx : x.length = 32) (hy : y.length = 32) (hz : z.length = 32) (hl : num l = 9) :
    share y (out32 (share x l)) ≠ 0 ∧ share z (out32 (share y (out32 (share x l)))) ≠ 0 ∧ share x (out32 (share z l)) ≠ 0 ∧ share y (out32 (share x (out32 (share z l)))) ≠ 0 ∧
      share z (out32 (share y (out32 (share x l)))) = share y (out32 (share x (out32 (share z l)))) := by
  obtain ⟨D, s, b, L, h, o⟩ := base9
  have gx := sc_good o.gt x hx
  have gy := sc_good o.gt y hy
  have gz := sc_good o.gt z hz
  obtain ⟨a1, a2⟩ := go_one o h x l hx hl
  obtain ⟨b1, b2⟩ := go_next o h y hy gx (share_bd _ _) a2
  obtain ⟨c1, c2⟩ := go_next o h z hz (gx.mul o.pr o.gt gy) (share_bd _ _) b2
  obtain ⟨d1, d2⟩ := go_one o h z l hz hl
  obtain ⟨e1, e2⟩ := go_next o h x hx gz (share_bd _ _) d2
  obtain ⟨f1, f2⟩ := go_next o h y hy (gz.mul o.pr o.gt gx) (share_bd _ _) e2
  refine ⟨b1, c1, e1, f1, ?_⟩
  have e : sc x * sc y * sc z = sc z * sc x * sc y := by rw [Nat.mul_comm (sc z), Nat.mul_right_comm]
  rw [e] at c2
  exact share_one o h ((gz.mul o.pr o.gt gx).mul o.pr o.gt gy) c2 f2 (share_bd _ _) (share_bd _ _)
/-- points that are the same modulo the prime share the same -/
theorem lad_cong {u u' : Int} (hu : em PN u = em PN u') (β : Nat → Int) (hβ : ∀ i, β i = 0 ∨ β i = 1) : ∀ k, em PN (lad β u k).x2 = em PN (lad β u' k).x2 ∧ em PN (lad β u k).z2 = em PN (lad β u' k).z2 ∧ em PN (lad β u k).x3 = em PN (lad β u' k).x3 ∧ em PN (lad β u k).z3 = em PN (lad β u' k).z3
  | 0 => ⟨rfl, rfl, hu, rfl⟩
  | k + 1 => by
    obtain ⟨h1, h2, h3, h4⟩ := lad_cong hu β hβ k
    rw [lad, lad, L4.step, L4.step]
    rcases hβ k with h | h
    · rw [h, sw_zero, sw_zero, sw_zero, sw_zero]
      simp only [mid_x2 PN_P, mid_z2 PN_P, mid_x3 PN_P, mid_z3 PN_P, h1, h2, h3, h4, hu, and_self]
    · rw [h, sw_one, sw_one, sw_one, sw_one]
      simp only [mid_x2 PN_P, mid_z2 PN_P, mid_x3 PN_P, mid_z3 PN_P, h1, h2, h3, h4, hu, and_self]
theorem share_cong (k l l' : List UInt8) (h : em PN (num l) = em PN (num l')) : share k l = share k l' := by
  refine share_ext (share_bd _ _) (share_bd _ _) ?_
  obtain ⟨h1, h2, -, -⟩ := lad_cong h (fun i => kbit (clamp k) (254 - i)) (fun i => kbit_or _ _) 255
  rw [em_share, em_share, ladder_lad, ladder_lad, h1, h2]
/-- the same bits that count, the same number -/
theorem share_same (k l k' l' : List UInt8) (h : clamp k = clamp k') (g : num l = num l') : share k l = share k' l' := by unfold share; rw [h, g]
/-- nought -/
theorem share_nought {k l : List UInt8} (h : em PN (ladder (clamp k) (num l) 255).z2 = 0) : share k l = 0 := by
  refine em_z (share_bd k l) ?_
  rw [em_share, h, iv_zero]; grobner
/-- the ladder of the point 0 -/
def Cl0 (q : L4) (m : Nat) : Prop := if m % 2 = 0 then em PN q.z2 = 0 ∧ em PN q.x3 = 0 else em PN q.x2 = 0 ∧ em PN q.z3 = 0
theorem cl0 {u : Int} (hu : em PN u = 0) (β : Nat → Int) (hβ : ∀ i, β i = 0 ∨ β i = 1) : ∀ k, Cl0 (lad β u k) (scal β k)
  | 0 => by rw [Cl0, if_pos (by rw [scal])]; exact ⟨em_zero, hu⟩
  | k + 1 => by
    have ih := cl0 hu β hβ k
    rw [scal, lad, L4.step]
    generalize lad β u k = q at ih ⊢
    generalize scal β k = m at ih ⊢
    unfold Cl0 at ih ⊢
    rcases hβ k with h | h
    · rw [h, show (0 : Int).toNat = 0 from rfl, if_pos (by omega), sw_zero, sw_zero, mid_z2 PN_P, mid_x3 PN_P]
      split at ih
      · obtain ⟨h1, h2⟩ := ih
        rw [h1, h2]; exact ⟨by grobner, by grobner⟩
      · obtain ⟨h1, h2⟩ := ih
        rw [h1, h2]; exact ⟨by grobner, by grobner⟩
    · rw [h, show (1 : Int).toNat = 1 from rfl, if_neg (by omega), sw_one, sw_one]
      simp only
      rw [mid_z2 PN_P, mid_x3 PN_P]
      simp only
      split at ih
      · obtain ⟨h1, h2⟩ := ih
        rw [h1, h2]; exact ⟨by grobner, by grobner⟩
      · obtain ⟨h1, h2⟩ := ih
        rw [h1, h2]; exact ⟨by grobner, by grobner⟩
/-- the ladder of the points 1 and -1 -/
def Cp (v x z : Fin PN) (m : Nat) : Prop := (m % 4 = 0 → z = 0) ∧ (m % 4 = 2 → x = 0) ∧ (m % 2 = 1 → x = v * z)
theorem cp_dbl {v x z a : Fin PN} {m : Nat} (hv : v * v = 1) (h : Cp v x z m) : Cp v ((x + z) * (x + z) * ((x - z) * (x - z))) (((x + z) * (x + z) - (x - z) * (x - z)) * ((x + z) * (x + z) + ((x + z) * (x + z) - (x - z) * (x - z)) * a)) (2 * m) := by
  obtain ⟨h1, h2, h3⟩ := h
  refine ⟨fun h => ?_, fun h => ?_, fun h => by omega⟩
  · by_cases h0 : m % 4 = 0
    · rw [h1 h0]; clear h1 h2 h3; grobner
    · rw [h2 (by omega)]; clear h1 h2 h3; grobner
  · rw [h3 (by omega)]; clear h1 h2 h3; grobner
theorem cp_dif {v x z x' z' : Fin PN} {m : Nat} (hv : v * v = 1) (h : Cp v x z m) (g : Cp v x' z' (m + 1)) :
    Cp v (((x' - z') * (x + z) + (x' + z') * (x - z)) * ((x' - z') * (x + z) + (x' + z') * (x - z))) (((x' - z') * (x + z) - (x' + z') * (x - z)) * ((x' - z') * (x + z) - (x' + z') * (x - z)) * v) (2 * m + 1) := by
  obtain ⟨h1, h2, h3⟩ := h
  obtain ⟨g1, g2, g3⟩ := g
  refine ⟨fun h => by omega, fun h => by omega, fun _ => ?_⟩
  have hc : m % 4 = 0 ∨ m % 4 = 1 ∨ m % 4 = 2 ∨ m % 4 = 3 := by omega
  rcases hc with hm | hm | hm | hm
  · have e1 := h1 hm; have e2 := g3 (by omega); rw [e1, e2]; clear h1 h2 h3 g1 g2 g3 e1 e2; grobner
  · have e1 := h3 (by omega); have e2 := g2 (by omega); rw [e1, e2]; clear h1 h2 h3 g1 g2 g3 e1 e2; grobner
  · have e1 := h2 hm; have e2 := g3 (by omega); rw [e1, e2]; clear h1 h2 h3 g1 g2 g3 e1 e2; grobner
  · have e1 := h3 (by omega); have e2 := g1 (by omega); rw [e1, e2]; clear h1 h2 h3 g1 g2 g3 e1 e2; grobner
theorem cp_congr {v x z x' z' : Fin PN} {m m' : Nat} (h : Cp v x z m) (hx : x' = x) (hz : z' = z) (hm : m' = m) : Cp v x' z' m' := by subst hx hz hm; exact h
theorem cl1 {u : Int} (hv : em PN u * em PN u = 1) (β : Nat → Int) (hβ : ∀ i, β i = 0 ∨ β i = 1) : ∀ k, Cp (em PN u) (em PN (lad β u k).x2) (em PN (lad β u k).z2) (scal β k) ∧ Cp (em PN u) (em PN (lad β u k).x3) (em PN (lad β u k).z3) (scal β k + 1)
  | 0 => by
    refine ⟨⟨fun _ => em_zero, fun h => by rw [scal] at h; omega, fun h => by rw [scal] at h; omega⟩, ⟨fun h => by rw [scal] at h; omega, fun h => by rw [scal] at h; omega, fun _ => ?_⟩⟩
    show em PN u = em PN u * em PN 1
    rw [em_one PN_1]; clear hv; grobner
  | k + 1 => by
    obtain ⟨ih1, ih2⟩ := cl1 hv β hβ k
    rw [scal, lad, L4.step]
    generalize lad β u k = q at ih1 ih2 ⊢
    generalize scal β k = m at ih1 ih2 ⊢
    rcases hβ k with h | h
    · rw [h, show (0 : Int).toNat = 0 from rfl, Nat.add_zero, sw_zero, sw_zero]
      exact ⟨cp_congr (cp_dbl hv ih1) (mid_x2 PN_P q u) (mid_z2 PN_P q u) rfl, cp_congr (cp_dif hv ih1 ih2) (mid_x3 PN_P q u) (mid_z3 PN_P q u) rfl⟩
    · rw [h, show (1 : Int).toNat = 1 from rfl, sw_one, sw_one]
      refine ⟨cp_congr (cp_dif hv ih1 ih2) ?_ ?_ rfl, cp_congr (cp_dbl hv ih2) (mid_x2 PN_P _ u) (mid_z2 PN_P _ u) (by omega)⟩
      · rw [mid_x3 PN_P]; simp only; clear hv; grobner
      · rw [mid_z3 PN_P]; simp only; clear hv; grobner
theorem share_small (k l : List UInt8) (hk : k.length = 32) (h : em PN (num l) = 0 ∨ em PN (num l) * em PN (num l) = 1) : share k l = 0 := by
  refine share_nought ?_
  obtain ⟨j, hj, -, -⟩ := sc_form k hk
  rw [ladder_lad]
  rcases h with h | h
  · have := cl0 h (fun i => kbit (clamp k) (254 - i)) (fun i => kbit_or _ _) 255
    rw [Cl0, if_pos (by have e : scal (fun i => kbit (clamp k) (254 - i)) 255 = 8 * j := hj; omega)] at this
    exact this.1
  · have := (cl1 h (fun i => kbit (clamp k) (254 - i)) (fun i => kbit_or _ _) 255).1.1
    exact this (by have e : scal (fun i => kbit (clamp k) (254 - i)) 255 = 8 * j := hj; omega)
/-- small numbers from 2 on -/
theorem share_over (x l : List UInt8) (k : Nat) (hx : x.length = 32) (h2 : 2 ≤ k) (h18 : k ≤ 18) (hl : num l = k) : share x l ≠ 0 := by
  have hc : k = 2 ∨ k = 3 ∨ k = 4 ∨ k = 5 ∨ k = 6 ∨ k = 7 ∨ k = 8 ∨ k = 9 ∨ k = 10 ∨ k = 11 ∨ k = 12 ∨ k = 13 ∨ k = 14 ∨ k = 15 ∨ k = 16 ∨ k = 17 ∨ k = 18 := by omega
  rcases hc with rfl | rfl | rfl | rfl | rfl | rfl | rfl | rfl | rfl | rfl | rfl | rfl | rfl | rfl | rfl | rfl | rfl
  · obtain ⟨D, s, b, L, h, o⟩ := base2; exact (go_one o h x l hx hl).1
  · obtain ⟨D, s, b, L, h, o⟩ := base3; exact (go_one o h x l hx hl).1
  · obtain ⟨D, s, b, L, h, o⟩ := base4; exact (go_one o h x l hx hl).1
  · obtain ⟨D, s, b, L, h, o⟩ := base5; exact (go_one o h x l hx hl).1
  · obtain ⟨D, s, b, L, h, o⟩ := base6; exact (go_one o h x l hx hl).1
  · obtain ⟨D, s, b, L, h, o⟩ := base7; exact (go_one o h x l hx hl).1
  · obtain ⟨D, s, b, L, h, o⟩ := base8; exact (go_one o h x l hx hl).1
  · obtain ⟨D, s, b, L, h, o⟩ := base9; exact (go_one o h x l hx hl).1
  · obtain ⟨D, s, b, L, h, o⟩ := base10; exact (go_one o h x l hx hl).1
  · obtain ⟨D, s, b, L, h, o⟩ := base11; exact (go_one o h x l hx hl).1
  · obtain ⟨D, s, b, L, h, o⟩ := base12; exact (go_one o h x l hx hl).1
  · obtain ⟨D, s, b, L, h, o⟩ := base13; exact (go_one o h x l hx hl).1
  · obtain ⟨D, s, b, L, h, o⟩ := base14; exact (go_one o h x l hx hl).1
  · obtain ⟨D, s, b, L, h, o⟩ := base15; exact (go_one o h x l hx hl).1
  · obtain ⟨D, s, b, L, h, o⟩ := base16; exact (go_one o h x l hx hl).1
  · obtain ⟨D, s, b, L, h, o⟩ := base17; exact (go_one o h x l hx hl).1
  · obtain ⟨D, s, b, L, h, o⟩ := base18; exact (go_one o h x l hx hl).1
end Go.Con.Cv
namespace Go.Proofs.Ythoganfinpfibaa
open Go.RowKit Go.Con
theorem Shared_ok (vs vp : Value) (l lp : List UInt8) (w : World) (hl : l.length = 32) (hlp : lp.length = 32) (hR : Rd w vs l) (hP : Rd w vp lp) (h : Cv.share l lp ≠ 0) :
    Calls Try.prog 12 #[vs, vp] w (FreshBE w (Cv.out32 (Cv.share l lp)) 0) :=
  (Shared_any vs vp l lp w hl hlp hR hP).mono fun e w' ⟨⟨v, h1, h2⟩, hb⟩ => ⟨v, by rw [h1, if_neg h], by rwa [if_neg h] at h2, hb⟩
theorem Shared_zero (vs vp : Value) (l lp : List UInt8) (w : World) (hl : l.length = 32) (hlp : lp.length = 32) (hR : Rd w vs l) (hP : Rd w vp lp) (h : Cv.share l lp = 0) :
    Calls Try.prog 12 #[vs, vp] w (FreshBE w [] 12) :=
  (Shared_any vs vp l lp w hl hlp hR hP).mono fun e w' ⟨⟨v, h1, h2⟩, hb⟩ => ⟨v, by rw [h1, if_pos h], by rwa [if_pos h] at h2, hb⟩
theorem Point_ok (vs : Value) (l : List UInt8) (w : World) (hl : l.length = 32) (hR : Rd w vs l) :
    Calls Try.prog 15 #[vs] w (FreshBE w (Cv.out32 (Cv.share l nine)) 0) :=
  (Point_any vs l w hl hR).mono fun e w' ⟨⟨v, h1, h2⟩, hb⟩ => by
    have hn : Cv.share l nine ≠ 0 := Cv.point_ne l hl
    exact ⟨v, by rw [h1, if_neg hn], by rwa [if_neg hn] at h2, hb⟩
theorem Shared_badF (a1 a2 : Option Addr) (n1 c1 n2 c2 : Nat) (w : World) (h : ¬ (n1 = 32 ∧ n2 = 32)) :
    Calls Try.prog 12 #[.slice a1 n1 c1, .slice a2 n2 c2] w (FreshBE w [] 1) :=
  (Shared_bad a1 a2 n1 c1 n2 c2 w h).mono fun e w' ⟨h1, hb⟩ => ⟨_, h1, Own.nil _ _, hb⟩
theorem Point_badF (a1 : Option Addr) (n1 c1 : Nat) (w : World) (h : ¬ n1 = 32) :
    Calls Try.prog 15 #[.slice a1 n1 c1] w (FreshBE w [] 1) :=
  (Point_bad a1 n1 c1 w h).mono fun e w' ⟨h1, hb⟩ => ⟨_, h1, Own.nil _ _, hb⟩
end Go.Proofs.Ythoganfinpfibaa
