/-
  The walk of conclavekeep.MixTwice: mixed twice is as it was.
-/
import Derived.Test.YtpkfbmafbkgcmaaChaP
set_option linter.unusedVariables false
set_option linter.unusedSimpArgs false
namespace Go.Proofs.Ytpkfbmafbkgcmaa
open Go.RowKit Go.Con

set_option maxRecDepth 100000 in
set_option maxHeartbeats 1000000 in
theorem walk_MixTwice (va : Value) (a : List UInt8) (vm : Value) (m : Int) (vb : Value) (b : List UInt8) (vd : Value) (d : List UInt8) (w : World) (ha : Rd w va a) (hm : IsInt vm m) (hb : Rd w vb b) (hd : Rd w vd d) :
    Calls Try.prog 4 #[va, vm, vb, vd] w fun e w' => e = .returned (.bool true) ∧ Below w.heap.size w w' := by
  obtain ⟨aa, ca, rfl, hlca, hcma⟩ := ha.slice
  have R_a := Lib.hid ha
  clear ha
  obtain ⟨rfl, hm1, hm2⟩ := hm
  obtain ⟨ab, cb, rfl, hlcb, hcmb⟩ := hb.slice
  have R_b := Lib.hid hb
  clear hb
  obtain ⟨ad, cd, rfl, hlcd, hcmd⟩ := hd.slice
  have R_d := Lib.hid hd
  clear hd
  have HB0 := Lib.hid (Below.refl w.heap.size w)
  have s0 : w.heap.size ≤ w.heap.size := Nat.le_refl _
  have p0 := pick_nonneg m 1073741825 (by decide)
  have p1 := pick_lt m 1073741825 (by decide)
  obtain ⟨c, hc⟩ : ∃ c : Nat, pick m 1073741825 = (c : Int) := ⟨(pick m 1073741825).toNat, by omega⟩
  have hpm := fun w => picked_any m 1073741825 w hm1 hm2 (by decide)
  rw [hc] at hpm
  have HPM := Lib.hid hpm
  have hcl : c < 1073741825 := by omega
  clear hpm hc p0 p1
  obtain ⟨Dd, hDd⟩ : ∃ D, D = d.take 300 := ⟨_, rfl⟩
  have hDld : Dd.length ≤ 300 := by rw [hDd]; simp; omega
  have hsd := fun v w (h : Rd w v d) => some_any v d 300 w h (by decide)
  rw [← hDd] at hsd
  have HSd := Lib.hid hsd
  have DLd := Lib.hid hDld
  have HDd := Lib.hid hDd
  clear hDd hDld hsd
  go_enter Try.func4, Try.ntmps4
  go_wp2_with fail
  refine (filled_any _ a 32 _ R_a.out (by decide)).mono ?_
  rintro e w1 ⟨vk, rfl, hok, hb1⟩
  have T1 := Lib.hid hb1
  replace R_a := Lib.hid (R_a.out.stay T1.out)
  replace R_b := Lib.hid (R_b.out.stay T1.out)
  replace R_d := Lib.hid (R_d.out.stay T1.out)
  have HB1 := Lib.hid (HB0.out.trans (T1.out.mono s0))
  have s1 := HB1.out.size
  have R_k := Lib.hid hok.rd
  clear hb1 hok
  go_wp2_with fail
  refine (filled_any _ b 12 _ R_b.out (by decide)).mono ?_
  rintro e w2 ⟨vn, rfl, hon, hb2⟩
  have T2 := Lib.hid hb2
  replace R_a := Lib.hid (R_a.out.stay T2.out)
  replace R_b := Lib.hid (R_b.out.stay T2.out)
  replace R_d := Lib.hid (R_d.out.stay T2.out)
  replace R_k := Lib.hid (R_k.out.stay T2.out)
  have HB2 := Lib.hid (HB1.out.trans (T2.out.mono s1))
  have s2 := HB2.out.size
  have R_n := Lib.hid hon.rd
  clear hb2 hon
  go_wp2_with fail
  refine (HPM.out _).mono ?_
  rintro e _ ⟨rfl, rfl⟩
  go_wp2_with fail
  refine (HSd.out _ _ R_d.out).mono ?_
  rintro e w3 ⟨vp, rfl, hop, hb3⟩
  have T3 := Lib.hid hb3
  replace R_a := Lib.hid (R_a.out.stay T3.out)
  replace R_b := Lib.hid (R_b.out.stay T3.out)
  replace R_d := Lib.hid (R_d.out.stay T3.out)
  replace R_k := Lib.hid (R_k.out.stay T3.out)
  replace R_n := Lib.hid (R_n.out.stay T3.out)
  have HB3 := Lib.hid (HB2.out.trans (T3.out.mono s2))
  have s3 := HB3.out.size
  have R_p := Lib.hid hop.rd
  clear hb3 hop
  obtain ⟨ap, cp, hvp, _, _⟩ := R_p.out.slice
  subst hvp
  go_wp2_with fail
  refine (Mix_nat _ _ _ _ _ _ _ c _ R_k.out R_n.out R_p.out (fill_length _ _) (fill_length _ _) (by omega) (by have := DLd.out; omega) rfl).mono ?_
  rintro e w4 ⟨vx, rfl, hox, hb4⟩
  have T4 := Lib.hid hb4
  replace R_a := Lib.hid (R_a.out.stay T4.out)
  replace R_b := Lib.hid (R_b.out.stay T4.out)
  replace R_d := Lib.hid (R_d.out.stay T4.out)
  replace R_k := Lib.hid (R_k.out.stay T4.out)
  replace R_n := Lib.hid (R_n.out.stay T4.out)
  replace R_p := Lib.hid (R_p.out.stay T4.out)
  have HB4 := Lib.hid (HB3.out.trans (T4.out.mono s3))
  have s4 := HB4.out.size
  have R_x := Lib.hid hox.rd
  clear hb4 hox
  obtain ⟨X, hX⟩ : ∃ X, X = Cha.mix (fill a 32) c (fill b 12) Dd := ⟨_, rfl⟩
  have hXl : X.length = Dd.length := by rw [hX]; exact Cha.mix_length _ _ _ _
  have hXX : Cha.mix (fill a 32) c (fill b 12) X = Dd := by rw [hX]; exact Cha.mix_twice _ _ _ _
  rw [← hX] at R_x
  have HX := Lib.hid hX
  have HXL := Lib.hid hXl
  have HXX := Lib.hid hXX
  clear hX hXl hXX
  obtain ⟨ax, cx, hvx, _, _⟩ := R_x.out.sliceN Dd.length HXL.out
  subst hvx
  go_wp2_with fail
  refine (Mix_nat _ _ _ _ _ X _ c _ R_k.out R_n.out R_x.out (fill_length _ _) (fill_length _ _) (by omega) (by rw [HXL.out]; have := DLd.out; omega) rfl).mono ?_
  rintro e w5 ⟨vy, rfl, hoy, hb5⟩
  have T5 := Lib.hid hb5
  replace R_a := Lib.hid (R_a.out.stay T5.out)
  replace R_b := Lib.hid (R_b.out.stay T5.out)
  replace R_d := Lib.hid (R_d.out.stay T5.out)
  replace R_k := Lib.hid (R_k.out.stay T5.out)
  replace R_n := Lib.hid (R_n.out.stay T5.out)
  replace R_p := Lib.hid (R_p.out.stay T5.out)
  replace R_x := Lib.hid (R_x.out.stay T5.out)
  have HB5 := Lib.hid (HB4.out.trans (T5.out.mono s4))
  have s5 := HB5.out.size
  have R_y := Lib.hid hoy.rd
  clear hb5 hoy
  go_wp2_with fail
  refine (same_true _ _ _ _ _ R_y.out R_p.out HXX.out).mono ?_
  rintro e _ ⟨rfl, rfl⟩
  go_wp2
  go_ret
  exact ⟨rfl, HB5.out⟩

end Go.Proofs.Ytpkfbmafbkgcmaa
