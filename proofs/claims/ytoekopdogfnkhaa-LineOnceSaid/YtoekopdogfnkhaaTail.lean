/-
  What is left of shown bytes behind the first ones; the same test in the form of quiet regions.
-/
import Derived.Test.YtoekopdogfnkhaaSameK
set_option linter.unusedVariables false
set_option linter.unusedSimpArgs false
namespace Go.Proofs.Ytoekopdogfnkhaa
open Go.RowKit Go.Con
theorem Rd.shapeN {w : World} {v : Value} {l : List UInt8} (h : Rd w v l) (n : Nat) (hn : l.length = n) (h0 : 0 < n) : ∃ b off c, v = .slice (some ⟨b, off, none⟩) n c ∧ n ≤ c ∧ c ≤ maxLen := by
  subst hn
  obtain ⟨a, c, rfl, h1, h2, _, h3⟩ := h
  obtain ⟨b, off, rfl, _⟩ := h3 (by intro h; rw [h] at h0; exact absurd h0 (by decide))
  exact ⟨b, off, c, rfl, h1, h2⟩
theorem Rd.tail {w : World} {b off n c : Nat} {l : List UInt8} (h : Rd w (.slice (some ⟨b, off, none⟩) n c) l) (k m : Nat) (hk : k < n) (hm : m = n - k) : Rd w (.slice (some ⟨b, off + k, none⟩) m (c - k)) (l.drop k) := by
  subst hm
  obtain ⟨a', c', he, hlc, hcm, h0, hcell⟩ := h
  injection he with e1 e2 e3
  subst e1 e2 e3
  have hlen : (l.drop k).length = l.length - k := by simp
  refine ⟨_, _, by rw [hlen], by omega, by omega, (fun h => by cases h), fun hne => ?_⟩
  obtain ⟨b', o', e4, hc⟩ := hcell (by intro h; rw [h] at hk; exact absurd hk (by simp))
  injection e4 with e4
  injection e4 with e5 e6 e7
  subst e5 e6
  refine ⟨_, _, rfl, fun i hi => ?_⟩
  rw [hlen] at hi
  rw [show off + k + i = off + (k + i) by omega, hc (k + i) (by omega)]
  simp [List.getElem?_drop]
/-- a cut from lo to hi -/
theorem Rd.mid {w : World} {b off n c : Nat} {l : List UInt8} (h : Rd w (.slice (some ⟨b, off, none⟩) n c) l) (k m : Nat) (hk : k < n) (hm : k + m ≤ n) : Rd w (.slice (some ⟨b, off + k, none⟩) m (c - k)) ((l.drop k).take m) := by
  have h1 := h.tail k (n - k) hk rfl
  obtain ⟨_, _, e, _⟩ := h
  injection e with _ e2 _
  exact h1.pre m (by simp; omega)
theorem same_trueR (a b : Value) (x y : List UInt8) (w : World) (ha : Rd w a x) (hb : Rd w b y) (h : x = y) :
    Calls Try.prog 11 #[a, b] w fun e w' => e = .returned (.bool true) ∧ w' = w :=
  (same_true a b x y w ha hb h).mono fun e w' ⟨he, hw⟩ => ⟨he, hw.symm⟩
theorem same_R (a b : Value) (x y : List UInt8) (w : World) (t : Bool) (ha : Rd w a x) (hb : Rd w b y) (h : (x == y) = t) :
    Calls Try.prog 11 #[a, b] w fun e w' => e = .returned (.bool t) ∧ w' = w :=
  (same_any a b x y w ha hb).mono fun e w' ⟨he, hw⟩ => ⟨by rw [he, h], hw.symm⟩
end Go.Proofs.Ytoekopdogfnkhaa
