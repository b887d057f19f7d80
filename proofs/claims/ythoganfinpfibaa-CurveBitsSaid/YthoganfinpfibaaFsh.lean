/-
  The walks of curve's Shared and Point.
-/
import Derived.Test.YthoganfinpfibaaFdx
import Derived.Test.YthoganfinpfibaaApZ
import Derived.Test.YthoganfinpfibaaCvF
import Derived.Test.YthoganfinpfibaaTail
set_option linter.unusedVariables false
set_option linter.unusedSimpArgs false
namespace Go.Con.Cv
theorem limb_cons (x : Int) (r : List Int) (j : Nat) : limb (bytes (x :: r)) (j + 1) = limb (bytes r) j := by
  have e : bytes (x :: r) = two x ++ bytes r := rfl
  unfold limb
  rw [e]
  have h1 : ∀ i, (two x ++ bytes r).getD (i + 2) 0 = (bytes r).getD i 0 := fun i => by simp [two]
  rw [show 2 * (j + 1) = 2 * j + 2 by omega, show 2 * j + 2 + 1 = (2 * j + 1) + 2 by omega, h1, h1]
theorem limb_bytes : ∀ (s : List Int), (∀ j, 0 ≤ at0 s j ∧ at0 s j < 65536) → ∀ j, j < s.length → limb (bytes s) j = at0 s j
  | x :: r, h, 0, _ => by
    have h0 := h 0
    rw [at_cons_zero] at h0 ⊢
    have e : bytes (x :: r) = two x ++ bytes r := rfl
    unfold limb
    rw [e]
    have a1 : (two x ++ bytes r).getD (2 * 0) 0 = UInt8.ofNat (x % 256).toNat := rfl
    have a2 : (two x ++ bytes r).getD (2 * 0 + 1) 0 = UInt8.ofNat (x / 256 % 256).toNat := rfl
    rw [a1, a2, UInt8.toNat_ofNat', UInt8.toNat_ofNat']
    omega
  | x :: r, h, j + 1, hj => by
    rw [limb_cons, at_cons_succ]
    exact limb_bytes r (fun i => by have := h (i + 1); rwa [at_cons_succ] at this) j (by simpa using hj)
theorem at_rd (l : List UInt8) (j : Nat) (hj : j < 16) : at0 (rd l) j = if j = 15 then limb l 15 % 32768 else limb l j := by unfold at0 rd; simp [hj]
/-- bytes are read as they were written -/
theorem num_out32 (v : Int) (h0 : 0 ≤ v) (h1 : v < P) : num (out32 v) = v := by
  have hl := limbs_length v 16
  have hd := limbs_norm v 16
  have hv := val_limbs v 16 h0 (by rw [pw16]; rw [P_lit] at h1; omega)
  have h15 : at0 (limbs v 16) 15 < 32768 := by
    have e := val_take_succ (limbs v 16) 15
    rw [List.take_of_length_le (by omega), hv] at e
    have hd2 := (val_digits (limbs v 16) 15 (fun j _ => hd j)).1
    have hp : pw 15 = 1766847064778384329583297500742918515827483896875618958121606201292619776 := by decide
    rw [hp] at e
    rw [P_lit] at h1
    have := hd 15
    omega
  have e : rd (out32 v) = limbs v 16 := by
    refine Con.lim_ext (by simp [rd, hl]) (fun j a1 => ?_)
    have hj : j < 16 := by simpa [rd] using a1
    have hb : limb (out32 v) j = at0 (limbs v 16) j := limb_bytes (limbs v 16) hd j (by rw [hl]; exact hj)
    rw [at_rd _ _ hj]
    split
    · rename_i e15; subst e15
      rw [hb]
      have := hd 15; omega
    · exact hb
  rw [num, e, hv]
theorem out32_zero {v : Int} (h0 : 0 ≤ v) (h1 : v < P) : (∀ j, j < 32 → (out32 v).getD j 0 = 0) ↔ v = 0 := by
  refine ⟨fun h => ?_, fun h => by subst h; decide⟩
  rw [← num_out32 v h0 h1]
  have e : rd (out32 v) = List.replicate 16 0 := by
    refine Con.lim_ext (by simp [rd]) (fun j a1 => ?_)
    have hj : j < 16 := by simpa [rd] using a1
    have hz : ∀ i, i < 16 → limb (out32 v) i = 0 := fun i hi => by
      unfold limb; rw [h (2 * i) (by omega), h (2 * i + 1) (by omega)]; rfl
    have hr : at0 (List.replicate 16 0) j = 0 := by
      unfold at0
      rw [List.getD_eq_getElem?_getD, List.getElem?_replicate]
      split <;> simp
    rw [at_rd _ _ hj, hr]
    split
    · rw [hz 15 (by decide)]; simp
    · rw [hz j hj]
  rw [num, e, val_replicate]
theorem or_zero8 (z b : UInt8) : (z ||| b) = 0 ↔ z = 0 ∧ b = 0 := by
  rw [← UInt8.toNat_inj, UInt8.toNat_or, ← UInt8.toNat_inj (a := z), ← UInt8.toNat_inj (a := b)]
  exact Nat.or_eq_zero_iff
end Go.Con.Cv
namespace Go.Proofs.Ythoganfinpfibaa
open Go.RowKit Go.Con
theorem Shared_bad (a1 a2 : Option Addr) (n1 c1 n2 c2 : Nat) (w : World) (h : ¬ (n1 = 32 ∧ n2 = 32)) :
    Calls Try.prog 12 #[.slice a1 n1 c1, .slice a2 n2 c2] w fun e w' => e = .returned (.tuple #[.slice none 0 0, .int .i64 1]) ∧ Below w.heap.size w w' := by
  by_cases h1 : n1 = 32
  · have h2 : ¬ n2 = 32 := fun e => h ⟨h1, e⟩
    subst h1
    have hd2 : (((n2 : Nat) : Int) != 32) = true := by rw [bne_iff_ne]; omega
    clear h
    go_enter Try.func12, Try.ntmps12
    go_wp2
    go_ret2
    exact ⟨rfl, Below.refl _ _⟩
  · have hd1 : (((n1 : Nat) : Int) != 32) = true := by rw [bne_iff_ne]; omega
    clear h
    go_enter Try.func12, Try.ntmps12
    go_wp2
    go_ret2
    exact ⟨rfl, Below.refl _ _⟩
/-- what is shared, if it is not nought -/
def ShPost (w : World) (k l : List UInt8) (e : Ending) (w' : World) : Prop :=
  (∃ v', e = .returned (.tuple #[v', .int .i64 (if Cv.share k l = 0 then 12 else 0)]) ∧ Own w' w.heap.size v' (if Cv.share k l = 0 then [] else Cv.out32 (Cv.share k l))) ∧ Below w.heap.size w w'
set_option maxRecDepth 100000 in
set_option maxHeartbeats 2000000 in
theorem Shared_any (vs vp : Value) (l lp : List UInt8) (w : World) (hl : l.length = 32) (hlp : lp.length = 32) (hR : Rd w vs l) (hP : Rd w vp lp) :
    Calls Try.prog 12 #[vs, vp] w (ShPost w l lp) := by
  obtain ⟨sa, cs, hvs, hcs, hcms⟩ := hR.sliceN 32 hl
  subst hvs
  obtain ⟨b, off, c, hvp, hc, hcm⟩ := hP.shapeN 32 hlp (by decide)
  subst hvp
  have HT := Lib.hid (ctimes_any off c b _ l lp w hl hlp hR hP)
  have hbd := Cv.share_bd l lp
  have HBD := Lib.hid hbd
  have HZZ := Lib.hid (Cv.out32_zero hbd.1 hbd.2)
  have HLEN := Lib.hid (Cv.out32_length (Cv.share l lp))
  clear hbd hR hP hl hlp
  go_enter Try.func12, Try.ntmps12
  go_wp2_with fail
  refine HT.out.mono ?_
  rintro e w1 ⟨v1, rfl, hown, hb⟩
  obtain ⟨g, cap, hv1, hgb, hgl, hgc, hgm⟩ := hown.shape (by intro h; have := HLEN.out; rw [h] at this; cases this)
  rw [HLEN.out] at hv1 hgc
  subst hv1
  obtain ⟨O, hO⟩ : ∃ O, O = Cv.out32 (Cv.share l lp) := ⟨_, rfl⟩
  rw [← hO] at hown HZZ HLEN
  have HO := Lib.hid hO
  have HOWN := Lib.hid hown
  have HB := Lib.hid hb
  clear hown hb hO HT
  go_wp2_with fail
  go_loop [7, 23] (fun a i => ∃ (k : Nat) (z : UInt8), k ≤ 32 ∧ i = .int .i64 k ∧ a = .int .u8 z.toNat ∧ Hid (z = 0 ↔ ∀ j, j < k → O.getD j 0 = 0)) (fun _ i => 32 - (intOf i).toNat)
  case atStart => exact ⟨0, 0, by omega, rfl, rfl, Lib.hid ⟨fun _ j hj => by omega, fun _ => rfl⟩⟩
  case round =>
    obtain ⟨k, z, hk, rfl, rfl, HZ⟩ := hrel
    by_cases hlt : k < 32
    · have hd0 : decide ((k : Int) < 32) = true := by rw [decide_eq_true_eq]; omega
      obtain ⟨y, hy⟩ : ∃ y, y = O.getD k 0 := ⟨_, rfl⟩
      have c1 := HOWN.out.cellC k (by rw [HLEN.out]; omega)
      rw [← hy] at c1
      have HY := Lib.hid hy
      clear hy
      go_wp2_with fail
      have e := u8_orF z y
      rw [e]
      clear e
      go_round
      case rel =>
        refine ⟨k + 1, z ||| y, by omega, by go_num, rfl, Lib.hid ?_⟩
        rw [Cv.or_zero8, HZ.out, HY.out]
        refine ⟨fun h j hj => ?_, fun h => ⟨fun j hj => h j (by omega), h k (by omega)⟩⟩
        by_cases hjk : j = k
        · subst hjk; exact h.2
        · exact h.1 j (by omega)
      case measure => simp [intOf]; omega
    · have hd0 : decide ((k : Int) < 32) = false := by rw [decide_eq_false_iff_not]; omega
      have hk32 : k = 32 := by omega
      rw [hk32] at HZ
      have hz := HZ.out
      rw [HZZ.out] at hz
      clear hk32
      by_cases hs : Cv.share l lp = 0
      · have hz0 : z = 0 := hz.2 hs
        subst hz0
        have HS := Lib.hid hs
        clear hz hs
        go_wp2
        go_ret2
        exact ⟨⟨.slice none 0 0, by rw [if_pos HS.out]; rfl, by rw [if_pos HS.out]; exact Own.nil _ _⟩, HB.out⟩
      · have hz0 : ((z.toNat : Int) == 0) = false := by
          rw [beq_eq_false_iff_ne]
          intro e
          exact hs (hz.1 (by rw [← UInt8.toNat_inj]; show z.toNat = 0; omega))
        have HS := Lib.hid hs
        clear hz hs
        go_wp2
        go_ret2
        exact ⟨⟨.slice (some ⟨g, 0, none⟩) 32 cap, by rw [if_neg HS.out]; rfl, by rw [if_neg HS.out, ← HO.out]; exact HOWN.out⟩, HB.out⟩
/-- the point nine -/
def nine : List UInt8 := 9 :: List.replicate 31 0
theorem num_nine : Cv.num nine = 9 := by decide
set_option maxHeartbeats 1000000 in
theorem Point_any (vs : Value) (l : List UInt8) (w : World) (hl : l.length = 32) (hR : Rd w vs l) :
    Calls Try.prog 15 #[vs] w (ShPost w l nine) := by
  have HR := Lib.hid hR
  have HL := Lib.hid hl
  clear hR hl
  go_enter Try.func15, Try.ntmps15
  go_upto_region 2 with (refine makeB _ rfl _ _ rfl 32 _ _ rfl rfl rfl rfl (by decide) ?_; intro w1 hom hb1; have HOM := Lib.hid hom; have HB1 := Lib.hid hb1; clear hom hb1)
  have c0 := HOM.out.cellC 0 (by decide)
  have f0 := HOM.out.freeC 0
  go_upto_region 3 with fail
  have ho := HOM.out.setC 0 9
  have hb2 := HB1.out.setCell (p := ⟨w.heap.size, 0, none⟩) (Nat.le_refl _) (.int .u8 ((9 : UInt8).toNat))
  rw [show (((9 : UInt8).toNat : Nat) : Int) = 9 from rfl] at ho hb2
  generalize w1.setCell ⟨w.heap.size, 0, none⟩ (.int .u8 9) = w2 at ho hb2 ⊢
  have HO := Lib.hid ho.rd
  have HB2 := Lib.hid hb2
  clear ho hb2 c0 f0 HOM HB1
  go_wp2_with fail
  refine (Shared_any _ _ l nine w2 HL.out rfl (HR.out.stay HB2.out) HO.out).mono ?_
  rintro e w3 ⟨⟨v3, rfl, ho3⟩, hb3⟩
  have O3 := Lib.hid (ho3.mono HB2.out.size)
  have B3 := Lib.hid (HB2.out.trans (hb3.mono HB2.out.size))
  obtain ⟨cc, hcc⟩ : ∃ c : Int, c = (if Cv.share l nine = 0 then 12 else 0) := ⟨_, rfl⟩
  rw [← hcc]
  have HC := Lib.hid hcc
  clear ho3 hb3 hcc
  go_wp2_with fail
  go_ret2
  exact ⟨⟨v3, by rw [← HC.out]; rfl, O3.out⟩, B3.out⟩
theorem Point_bad (a1 : Option Addr) (n1 c1 : Nat) (w : World) (h : ¬ n1 = 32) :
    Calls Try.prog 15 #[.slice a1 n1 c1] w fun e w' => e = .returned (.tuple #[.slice none 0 0, .int .i64 1]) ∧ Below w.heap.size w w' := by
  have H := Lib.hid h
  clear h
  go_enter Try.func15, Try.ntmps15
  go_upto_region 2 with (refine makeB _ rfl _ _ rfl 32 _ _ rfl rfl rfl rfl (by decide) ?_; intro w1 hom hb1; have HOM := Lib.hid hom; have HB1 := Lib.hid hb1; clear hom hb1)
  have c0 := HOM.out.cellC 0 (by decide)
  have f0 := HOM.out.freeC 0
  go_upto_region 3 with fail
  have hb2 := HB1.out.setCell (p := ⟨w.heap.size, 0, none⟩) (Nat.le_refl _) (.int .u8 9)
  generalize w1.setCell ⟨w.heap.size, 0, none⟩ (.int .u8 9) = w2 at hb2 ⊢
  have HB2 := Lib.hid hb2
  clear hb2 c0 f0 HOM HB1
  go_wp2_with fail
  refine (Shared_bad _ _ _ _ _ _ w2 (fun e => H.out e.1)).mono ?_
  rintro e w3 ⟨rfl, hb3⟩
  have B3 := Lib.hid (HB2.out.trans (hb3.mono HB2.out.size))
  clear hb3
  go_wp2_with fail
  go_ret2
  exact ⟨rfl, B3.out⟩
end Go.Proofs.Ythoganfinpfibaa
