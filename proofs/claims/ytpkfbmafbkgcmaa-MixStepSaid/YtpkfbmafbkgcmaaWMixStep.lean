/-
  The walk of conclavekeep.MixStep: the counter counts blocks.
-/
import Derived.Test.YtpkfbmafbkgcmaaChaP
set_option linter.unusedVariables false
set_option linter.unusedSimpArgs false
namespace Go.Proofs.Ytpkfbmafbkgcmaa
open Go.RowKit Go.Con

set_option maxRecDepth 100000 in
set_option maxHeartbeats 1000000 in
theorem walk_MixStep (va : Value) (a : List UInt8) (vm : Value) (m : Int) (vb : Value) (b : List UInt8) (vl : Value) (l : Int) (w : World) (ha : Rd w va a) (hm : IsInt vm m) (hb : Rd w vb b) (hl : IsInt vl l) :
    Calls Try.prog 5 #[va, vm, vb, vl] w fun e w' => e = .returned (.bool true) ∧ Below w.heap.size w w' := by
  obtain ⟨aa, ca, rfl, hlca, hcma⟩ := ha.slice
  have R_a := Lib.hid ha
  clear ha
  obtain ⟨rfl, hm1, hm2⟩ := hm
  obtain ⟨ab, cb, rfl, hlcb, hcmb⟩ := hb.slice
  have R_b := Lib.hid hb
  clear hb
  obtain ⟨rfl, hl1, hl2⟩ := hl
  have HB0 := Lib.hid (Below.refl w.heap.size w)
  have s0 : w.heap.size ≤ w.heap.size := Nat.le_refl _
  have p0 := pick_nonneg m 1073741814 (by decide)
  have p1 := pick_lt m 1073741814 (by decide)
  obtain ⟨c, hc⟩ : ∃ c : Nat, pick m 1073741814 = (c : Int) := ⟨(pick m 1073741814).toNat, by omega⟩
  have hpm := fun w => picked_any m 1073741814 w hm1 hm2 (by decide)
  rw [hc] at hpm
  have HPM := Lib.hid hpm
  have hcl : c < 1073741814 := by omega
  clear hpm hc p0 p1
  have p0 := pick_nonneg l 200 (by decide)
  have p1 := pick_lt l 200 (by decide)
  obtain ⟨n, hn⟩ : ∃ n : Nat, pick l 200 = (n : Int) := ⟨(pick l 200).toNat, by omega⟩
  have hpl := fun w => picked_any l 200 w hl1 hl2 (by decide)
  rw [hn] at hpl
  have HPL := Lib.hid hpl
  have hnl : n < 200 := by omega
  clear hpl hn p0 p1
  go_enter Try.func5, Try.ntmps5
  go_wp2_with fail
  refine (filled_any _ a 32 _ R_a.out (by decide)).mono ?_
  rintro e w1 ⟨vk, rfl, hok, hb1⟩
  have T1 := Lib.hid hb1
  replace R_a := Lib.hid (R_a.out.stay T1.out)
  replace R_b := Lib.hid (R_b.out.stay T1.out)
  have HB1 := Lib.hid (HB0.out.trans (T1.out.mono s0))
  have s1 := HB1.out.size
  have R_k := Lib.hid hok.rd
  clear hb1 hok
  go_wp2_with fail
  refine (filled_any _ b 12 _ R_b.out (by decide)).mono ?_
  rintro e w2 ⟨vn, rfl, hon, hb2⟩
  have T2 := Lib.hid hb2
  replace R_a := Lib.hid (R_a.out.stay T2.out)
  replace R_b := Lib.hid (R_b.out.stay T2.out)
  replace R_k := Lib.hid (R_k.out.stay T2.out)
  have HB2 := Lib.hid (HB1.out.trans (T2.out.mono s1))
  have s2 := HB2.out.size
  have R_n := Lib.hid hon.rd
  clear hb2 hon
  go_wp2_with fail
  refine (HPM.out _).mono ?_
  rintro e _ ⟨rfl, rfl⟩
  go_wp2_with fail
  refine (HPL.out _).mono ?_
  rintro e _ ⟨rfl, rfl⟩
  go_wp2_with ((refine makeB _ rfl _ _ rfl (64 + n) _ _ rfl rfl (by omega) (by omega) (by omega) ?_; intro w3 hom hb3; have HOM := Lib.hid hom; have HBM := Lib.hid hb3; clear hom hb3))
  have T3 := Lib.hid HBM.out
  replace R_a := Lib.hid (R_a.out.stay T3.out)
  replace R_b := Lib.hid (R_b.out.stay T3.out)
  replace R_k := Lib.hid (R_k.out.stay T3.out)
  replace R_n := Lib.hid (R_n.out.stay T3.out)
  have HB3 := Lib.hid (HB2.out.trans (T3.out.mono s2))
  have s3 := HB3.out.size
  have R_z := Lib.hid HOM.out.rd
  clear HOM HBM
  refine (Mix_nat _ _ _ _ _ _ _ c _ R_k.out R_n.out R_z.out (fill_length _ _) (fill_length _ _) (by omega) (by simp; omega) rfl).mono ?_
  rintro e w4 ⟨vx, rfl, hox, hb4⟩
  have T4 := Lib.hid hb4
  replace R_a := Lib.hid (R_a.out.stay T4.out)
  replace R_b := Lib.hid (R_b.out.stay T4.out)
  replace R_k := Lib.hid (R_k.out.stay T4.out)
  replace R_n := Lib.hid (R_n.out.stay T4.out)
  replace R_z := Lib.hid (R_z.out.stay T4.out)
  have HB4 := Lib.hid (HB3.out.trans (T4.out.mono s3))
  have s4 := HB4.out.size
  have R_x := Lib.hid hox.rd
  clear hb4 hox
  clear R_z
  obtain ⟨X, hX⟩ : ∃ X, X = Cha.mix (fill a 32) c (fill b 12) (List.replicate (64 + n) 0) := ⟨_, rfl⟩
  have hXl : X.length = 64 + n := by rw [hX, Cha.mix_length]; simp
  have hXX : X.drop 64 = Cha.mix (fill a 32) (c + 1) (fill b 12) (List.replicate n 0) := by rw [hX]; exact Cha.mix_noughts _ _ _ _
  rw [← hX] at R_x
  have HXL := Lib.hid hXl
  have HXX := Lib.hid hXX
  clear hX hXl hXX
  obtain ⟨bx, ox, cx, hvx, hcx, hcm⟩ := R_x.out.shapeN (64 + n) HXL.out (by omega)
  subst hvx
  go_wp2_with ((refine makeB _ rfl _ _ rfl n _ _ rfl rfl rfl rfl (by omega) ?_; intro w5 hom hb5; have HOM := Lib.hid hom; have HBM := Lib.hid hb5; clear hom hb5))
  have T5 := Lib.hid HBM.out
  replace R_a := Lib.hid (R_a.out.stay T5.out)
  replace R_b := Lib.hid (R_b.out.stay T5.out)
  replace R_k := Lib.hid (R_k.out.stay T5.out)
  replace R_n := Lib.hid (R_n.out.stay T5.out)
  replace R_x := Lib.hid (R_x.out.stay T5.out)
  have HB5 := Lib.hid (HB4.out.trans (T5.out.mono s4))
  have s5 := HB5.out.size
  have R_z := Lib.hid HOM.out.rd
  clear HOM HBM
  refine (Mix_nat _ _ _ _ _ _ _ (c + 1) _ R_k.out R_n.out R_z.out (fill_length _ _) (fill_length _ _) (by omega) (by simp; omega) (by omega)).mono ?_
  rintro e w6 ⟨vy, rfl, hoy, hb6⟩
  have T6 := Lib.hid hb6
  replace R_a := Lib.hid (R_a.out.stay T6.out)
  replace R_b := Lib.hid (R_b.out.stay T6.out)
  replace R_k := Lib.hid (R_k.out.stay T6.out)
  replace R_n := Lib.hid (R_n.out.stay T6.out)
  replace R_x := Lib.hid (R_x.out.stay T6.out)
  replace R_z := Lib.hid (R_z.out.stay T6.out)
  have HB6 := Lib.hid (HB5.out.trans (T6.out.mono s5))
  have s6 := HB6.out.size
  have R_y := Lib.hid hoy.rd
  clear hb6 hoy
  clear R_z
  by_cases hcx64 : cx = 64
  · have hn0 : n = 0 := by omega
    have hx0 : X.drop 64 = [] := List.drop_of_length_le (by rw [HXL.out]; omega)
    have HX0 := Lib.hid hx0
    subst hcx64
    subst hn0
    clear hx0
    go_wp2_with fail
    refine (same_true _ _ _ _ _ (Rd.empty _ _) R_y.out (by rw [← HXX.out, HX0.out])).mono ?_
    rintro e _ ⟨rfl, rfl⟩
    go_wp2
    go_ret
    exact ⟨rfl, HB6.out⟩
  · have hr := R_x.out.cut 64 (64 + n) (by omega) (Nat.le_refl _)
    rw [List.take_of_length_le (by rw [HXL.out]; exact Nat.le_refl _), if_neg hcx64, show 64 + n - 64 = n by omega] at hr
    have HR := Lib.hid hr
    clear hr
    go_wp2_with fail
    refine (same_true _ _ _ _ _ (RdShift HR.out) R_y.out HXX.out).mono ?_
    rintro e _ ⟨rfl, rfl⟩
    go_wp2
    go_ret
    exact ⟨rfl, HB6.out⟩

end Go.Proofs.Ytpkfbmafbkgcmaa
