/-
  The walk of sha.Same.
-/
import Derived.Test.YtoekopdogfnkhaaBy2
set_option linter.unusedVariables false
set_option linter.unusedSimpArgs false
namespace Go.Proofs.Ytoekopdogfnkhaa
open Go.RowKit Go.Con

theorem orZero (q : Int) (a b : UInt8) (x : UInt8) (h : q = x.toNat) : bits .or .u8 q (bits .xor .u8 (a.toNat : Int) (b.toNat : Int)) = ((x ||| (a ^^^ b)).toNat : Int) := by
  rw [h, u8_xorF, u8_orF]
theorem orIff (x a b : UInt8) : (x ||| (a ^^^ b)) = 0 ↔ x = 0 ∧ a = b := by
  rw [← UInt8.toBitVec_inj, ← UInt8.toBitVec_inj, ← UInt8.toBitVec_inj]
  simp only [UInt8.toBitVec_or, UInt8.toBitVec_xor, UInt8.toBitVec_ofNat]
  rw [BitVec.or_eq_zero_iff]
  constructor
  · rintro ⟨h1, h2⟩; exact ⟨h1, BitVec.xor_eq_zero_iff.1 h2⟩
  · rintro ⟨h1, h2⟩; exact ⟨h1, BitVec.xor_eq_zero_iff.2 h2⟩

set_option maxHeartbeats 400000 in
theorem shaSame_ne (n m c d : Nat) (a b : Option Addr) (w : World) (hne : ((n : Int) != (m : Int)) = true) :
    Calls Try.prog 25 #[.slice a n c, .slice b m d] w fun e w' => e = .returned (.bool false) ∧ ∃ k, w' = w.drewN k := by
  go_enter Try.func25, Try.ntmps25
  go_wp2
  go_ret
  exact ⟨rfl, 0, rfl⟩

set_option maxHeartbeats 400000 in
theorem shaSame_nil (c d : Nat) (a b : Option Addr) (w : World) :
    Calls Try.prog 25 #[.slice a 0 c, .slice b 0 d] w fun e w' => e = .returned (.bool true) ∧ ∃ k, w' = w.drewN k := by
  go_enter Try.func25, Try.ntmps25
  go_wp2
  refine wp_loop_rounds 1 ?_
  rw [rounds_succ]
  go_wp2
  go_ret
  exact ⟨rfl, 0, rfl⟩

set_option maxHeartbeats 400000 in
theorem shaSame_eq (x y : List UInt8) (n c d b1 o1 b2 o2 : Nat) (w : World) (hm : n ≤ 9223372036854775807) (hx : x.length = n) (hy : y.length = n)
    (h1 : ∀ i, i < n → w.cell? ⟨b1, o1 + i, none⟩ = some (u8v (x.getD i 0))) (h2 : ∀ i, i < n → w.cell? ⟨b2, o2 + i, none⟩ = some (u8v (y.getD i 0))) :
    Calls Try.prog 25 #[.slice (some ⟨b1, o1, none⟩) n c, .slice (some ⟨b2, o2, none⟩) n d] w fun e w' => e = .returned (.bool (x == y)) ∧ ∃ k, w' = w.drewN k := by
  have H1 := Lib.hid h1
  have H2 := Lib.hid h2
  have Hx := Lib.hid hx
  have Hy := Lib.hid hy
  clear h1 h2 hx hy
  go_enter Try.func25, Try.ntmps25
  go_wp2
  go_loopw [5, 14] (fun q j wr => ∃ k : Nat, ∃ z : UInt8, ∃ nd, k ≤ n ∧ j = .int .i64 k ∧ q = .int .u8 z.toNat ∧ (z = 0 ↔ x.take k = y.take k) ∧ wr = w.drewN nd) (fun _ j _ => n - (intOf j).toNat)
  case atStart => exact ⟨0, 0, 0, Nat.zero_le _, rfl, rfl, by simp, rfl⟩
  case round =>
    obtain ⟨k, z, nd, hk, rfl, rfl, hq, rfl⟩ := hrel
    have HQ := Lib.hid hq
    clear hq
    by_cases hlt : k < n
    · obtain ⟨xk, hxk⟩ : ∃ t, t = x.getD k 0 := ⟨_, rfl⟩
      obtain ⟨yk, hyk⟩ : ∃ t, t = y.getD k 0 := ⟨_, rfl⟩
      have c1 : w.cell? ⟨b1, o1 + k, none⟩ = some (.int .u8 xk.toNat) := by rw [hxk]; exact H1.out k hlt
      have c2 : w.cell? ⟨b2, o2 + k, none⟩ = some (.int .u8 yk.toNat) := by rw [hyk]; exact H2.out k hlt
      have HX := Lib.hid hxk
      have HY := Lib.hid hyk
      clear hxk hyk
      go_wp2
      go_quiet (fail)
      go_wp2
      go_roundw
      case rel =>
        refine ⟨k + 1, z ||| (xk ^^^ yk), _, by omega, by go_num, by rw [orZero _ _ _ z rfl], ?_, rfl⟩
        rw [orIff, HQ.out]
        have hx1 : k < x.length := by rw [Hx.out]; exact hlt
        have hy1 : k < y.length := by rw [Hy.out]; exact hlt
        rw [List.take_succ_eq_append_getElem hx1, List.take_succ_eq_append_getElem hy1, HX.out, HY.out]
        constructor
        · rintro ⟨e1, e2⟩
          have : x[k] = y[k] := by simpa [hx1, hy1] using e2
          rw [e1, this]
        · intro e
          have := List.append_inj e (by simp; omega)
          refine ⟨this.1, ?_⟩
          have h := this.2
          simpa [hx1, hy1] using h
      case measure => simp [intOf]; omega
    · have hz : ((z.toNat : Int) == 0) = (x == y) := by
        have hkn : k = n := by omega
        have h := HQ.out
        rw [hkn, List.take_of_length_le (by rw [Hx.out]; omega), List.take_of_length_le (by rw [Hy.out]; omega)] at h
        rw [Bool.eq_iff_iff, beq_iff_eq, beq_iff_eq, ← h]
        constructor
        · intro e; apply UInt8.toNat_inj.1; simpa using e
        · intro e; rw [e]; rfl
      have HZ := Lib.hid hz
      clear hz
      go_wp2
      go_ret
      exact ⟨by rw [← HZ.out]; rfl, _, rfl⟩

theorem shaSame_any (a b : Value) (x y : List UInt8) (w : World) (ha : Rd w a x) (hb : Rd w b y) :
    Calls Try.prog 25 #[a, b] w fun e w' => e = .returned (.bool (x == y)) ∧ ∃ k, w' = w.drewN k := by
  obtain ⟨p, c, rfl, h1, h2, h0, h3⟩ := ha
  obtain ⟨q, d, rfl, k1, k2, k0, k3⟩ := hb
  by_cases hne : x.length = y.length
  · by_cases hx : x = []
    · subst hx
      have hy : y = [] := List.eq_nil_of_length_eq_zero (by simpa using hne.symm)
      subst hy
      exact shaSame_nil c d p q w
    · obtain ⟨b1, o1, rfl, hc1⟩ := h3 hx
      obtain ⟨b2, o2, rfl, hc2⟩ := k3 (by intro h; subst h; exact hx (List.eq_nil_of_length_eq_zero (by simpa using hne)))
      rw [← hne] at hc2 ⊢
      exact shaSame_eq x y x.length c d b1 o1 b2 o2 w (Nat.le_trans h1 h2) rfl hne.symm hc1 hc2
  · have : (x == y) = false := by
      rw [beq_eq_false_iff_ne]; intro h; exact hne (by rw [h])
    rw [this]
    exact shaSame_ne _ _ _ _ _ _ w (by rw [bne_iff_ne]; omega)

theorem shaSame_true (a b : Value) (x y : List UInt8) (w : World) (ha : Rd w a x) (hb : Rd w b y) (h : x = y) :
    Calls Try.prog 25 #[a, b] w fun e w' => e = .returned (.bool true) ∧ ∃ k, w' = w.drewN k :=
  (shaSame_any a b x y w ha hb).mono fun e w' ⟨he, hw⟩ => ⟨by rw [he, h]; simp, hw⟩
theorem shaSame_false (a b : Value) (x y : List UInt8) (w : World) (ha : Rd w a x) (hb : Rd w b y) (h : x ≠ y) :
    Calls Try.prog 25 #[a, b] w fun e w' => e = .returned (.bool false) ∧ ∃ k, w' = w.drewN k :=
  (shaSame_any a b x y w ha hb).mono fun e w' ⟨he, hw⟩ => ⟨by rw [he, beq_eq_false_iff_ne.2 h], hw⟩

end Go.Proofs.Ytoekopdogfnkhaa
