/-
  The walk of conclavekeep.SumLong: a digest has 32 bytes.
-/
import Derived.Test.YtdjnbnbhpjiicaaDoorShaM
import Derived.Test.YtdjnbnbhpjiicaaDoorSome
import Derived.Test.YtdjnbnbhpjiicaaDoorSameK
import Derived.Test.YtdjnbnbhpjiicaaDoorShaSame
import Derived.Test.YtdjnbnbhpjiicaaDoorKnF
import Derived.Test.YtdjnbnbhpjiicaaDoorFrm
namespace Go.Proofs.YtdjnbnbhpjiicaaDoor
open Go.RowKit Go.Con

set_option maxRecDepth 100000 in
set_option maxHeartbeats 1000000 in
theorem walk_SumLong (va : Value) (a : List UInt8) (vb : Value) (b : List UInt8) (w : World) (ha : Rd w va a) (hb : Rd w vb b) (hk : Kn w) :
    Calls Tryd.prog 6 #[va, vb] w fun e w' => e = .returned (.bool true) ∧ Below w.heap.size w w' := by
  obtain ⟨aa, ca, rfl, hlca, hcma⟩ := ha.slice
  have R_a := Lib.hid ha
  clear ha
  obtain ⟨ab, cb, rfl, hlcb, hcmb⟩ := hb.slice
  have R_b := Lib.hid hb
  clear hb
  have HK := Lib.hid hk
  clear hk
  have HB0 := Lib.hid (Below.refl w.heap.size w)
  have s0 : w.heap.size ≤ w.heap.size := Nat.le_refl _
  go_enter Tryd.func6, Tryd.ntmps6
  go_wp2_with fail
  refine (some_any _ a 300 _ R_a.out (by decide)).mono ?_
  rintro e w1 ⟨vsa, rfl, hosa, hb1⟩
  have T1 := Lib.hid hb1
  replace R_a := Lib.hid (R_a.out.stay T1.out)
  replace R_b := Lib.hid (R_b.out.stay T1.out)
  have HB1 := Lib.hid (HB0.out.trans (T1.out.mono s0))
  have s1 := HB1.out.size
  have R_sa := Lib.hid hosa.rd
  clear hb1 hosa
  go_wp2_with fail
  refine (Sum_ok _ (a.take 300) _ R_sa.out (by simp; omega) (HK.out.stay HB1.out)).mono ?_
  rintro e w2 ⟨vx, rfl, hox, hb2⟩
  have T2 := Lib.hid hb2
  replace R_a := Lib.hid (R_a.out.stay T2.out)
  replace R_b := Lib.hid (R_b.out.stay T2.out)
  replace R_sa := Lib.hid (R_sa.out.stay T2.out)
  have HB2 := Lib.hid (HB1.out.trans (T2.out.mono s1))
  have s2 := HB2.out.size
  have R_x := Lib.hid hox.rd
  clear hb2 hox
  obtain ⟨ax, cx, rfl, hlcx, hcmx⟩ := R_x.out.sliceN 32 (Sha.sum_length _)
  clear R_sa
  go_wp2_with fail
  refine (some_any _ a 300 _ R_a.out (by decide)).mono ?_
  rintro e w3 ⟨vsb, rfl, hosb, hb3⟩
  have T3 := Lib.hid hb3
  replace R_a := Lib.hid (R_a.out.stay T3.out)
  replace R_b := Lib.hid (R_b.out.stay T3.out)
  replace R_x := Lib.hid (R_x.out.stay T3.out)
  have HB3 := Lib.hid (HB2.out.trans (T3.out.mono s2))
  have s3 := HB3.out.size
  have R_sb := Lib.hid hosb.rd
  clear hb3 hosb
  go_wp2_with fail
  refine (Sum_ok _ (a.take 300) _ R_sb.out (by simp; omega) (HK.out.stay HB3.out)).mono ?_
  rintro e w4 ⟨vy, rfl, hoy, hb4⟩
  have T4 := Lib.hid hb4
  replace R_a := Lib.hid (R_a.out.stay T4.out)
  replace R_b := Lib.hid (R_b.out.stay T4.out)
  replace R_x := Lib.hid (R_x.out.stay T4.out)
  replace R_sb := Lib.hid (R_sb.out.stay T4.out)
  have HB4 := Lib.hid (HB3.out.trans (T4.out.mono s3))
  have s4 := HB4.out.size
  have R_y := Lib.hid hoy.rd
  clear hb4 hoy
  obtain ⟨ay, cy, rfl, hlcy, hcmy⟩ := R_y.out.sliceN 32 (Sha.sum_length _)
  clear R_sb
  go_wp2_with fail
  refine (some_any _ b 300 _ R_b.out (by decide)).mono ?_
  rintro e w5 ⟨vsc, rfl, hosc, hb5⟩
  have T5 := Lib.hid hb5
  replace R_a := Lib.hid (R_a.out.stay T5.out)
  replace R_b := Lib.hid (R_b.out.stay T5.out)
  replace R_x := Lib.hid (R_x.out.stay T5.out)
  replace R_y := Lib.hid (R_y.out.stay T5.out)
  have HB5 := Lib.hid (HB4.out.trans (T5.out.mono s4))
  have s5 := HB5.out.size
  have R_sc := Lib.hid hosc.rd
  clear hb5 hosc
  go_wp2_with fail
  refine (Sum_ok _ (b.take 300) _ R_sc.out (by simp; omega) (HK.out.stay HB5.out)).mono ?_
  rintro e w6 ⟨vz, rfl, hoz, hb6⟩
  have T6 := Lib.hid hb6
  replace R_a := Lib.hid (R_a.out.stay T6.out)
  replace R_b := Lib.hid (R_b.out.stay T6.out)
  replace R_x := Lib.hid (R_x.out.stay T6.out)
  replace R_y := Lib.hid (R_y.out.stay T6.out)
  replace R_sc := Lib.hid (R_sc.out.stay T6.out)
  have HB6 := Lib.hid (HB5.out.trans (T6.out.mono s5))
  have s6 := HB6.out.size
  have R_z := Lib.hid hoz.rd
  clear hb6 hoz
  obtain ⟨az, cz, rfl, hlcz, hcmz⟩ := R_z.out.sliceN 32 (Sha.sum_length _)
  clear R_sc
  go_wp2_with ((refine makeB _ rfl _ _ rfl 2001 _ _ rfl rfl rfl rfl (by decide) ?_; intro w7 hom hb7; have HOM := Lib.hid hom; have HBM := Lib.hid hb7; clear hom hb7))
  have T7 := Lib.hid HBM.out
  replace R_a := Lib.hid (R_a.out.stay T7.out)
  replace R_b := Lib.hid (R_b.out.stay T7.out)
  replace R_x := Lib.hid (R_x.out.stay T7.out)
  replace R_y := Lib.hid (R_y.out.stay T7.out)
  replace R_z := Lib.hid (R_z.out.stay T7.out)
  have HB7 := Lib.hid (HB6.out.trans (T7.out.mono s6))
  have s7 := HB7.out.size
  have R_m := Lib.hid HOM.out.rd
  refine (Sum_long _ _ _ R_m.out (by simp)).mono ?_
  rintro e w8 ⟨vn, rfl, hon, hb8⟩
  have T8 := Lib.hid hb8
  replace R_a := Lib.hid (R_a.out.stay T8.out)
  replace R_b := Lib.hid (R_b.out.stay T8.out)
  replace R_x := Lib.hid (R_x.out.stay T8.out)
  replace R_y := Lib.hid (R_y.out.stay T8.out)
  replace R_z := Lib.hid (R_z.out.stay T8.out)
  replace R_m := Lib.hid (R_m.out.stay T8.out)
  have HB8 := Lib.hid (HB7.out.trans (T8.out.mono s7))
  have s8 := HB8.out.size
  have R_n := Lib.hid hon.rd
  clear hb8 hon
  clear R_m
  clear R_n
  go_wp2_with fail
  refine (shaSame_true _ _ _ _ _ R_x.out R_y.out rfl).mono ?_
  rintro e w9 ⟨rfl, hd9⟩
  have hb9 : Below w8.heap.size w8 w9 := by obtain ⟨q, rfl⟩ := hd9; exact below_drewN (Below.refl _ _) q
  have T9 := Lib.hid hb9
  replace R_a := Lib.hid (R_a.out.stay T9.out)
  replace R_b := Lib.hid (R_b.out.stay T9.out)
  replace R_x := Lib.hid (R_x.out.stay T9.out)
  replace R_y := Lib.hid (R_y.out.stay T9.out)
  replace R_z := Lib.hid (R_z.out.stay T9.out)
  have HB9 := Lib.hid (HB8.out.trans (T9.out.mono s8))
  have s9 := HB9.out.size
  clear hb9 hd9
  go_wp2_with fail
  refine (shaSame_any _ _ _ _ _ R_x.out R_z.out).mono ?_
  rintro e w10 ⟨rfl, hd10⟩
  have hb10 : Below w9.heap.size w9 w10 := by obtain ⟨q, rfl⟩ := hd10; exact below_drewN (Below.refl _ _) q
  have T10 := Lib.hid hb10
  replace R_a := Lib.hid (R_a.out.stay T10.out)
  replace R_b := Lib.hid (R_b.out.stay T10.out)
  replace R_x := Lib.hid (R_x.out.stay T10.out)
  replace R_y := Lib.hid (R_y.out.stay T10.out)
  replace R_z := Lib.hid (R_z.out.stay T10.out)
  have HB10 := Lib.hid (HB9.out.trans (T10.out.mono s9))
  have s10 := HB10.out.size
  clear hb10 hd10
  go_wp2_with fail
  refine (same_any _ _ _ _ _ R_x.out R_z.out).mono ?_
  rintro e _ ⟨rfl, rfl⟩
  go_wp2_with fail
  refine (shaSame_false _ _ _ _ _ R_x.out (Rd.pre R_x.out 31 (by rw [Sha.sum_length]; decide)) (by intro h; have := congrArg List.length h; simp [Sha.sum_length] at this)).mono ?_
  rintro e w11 ⟨rfl, hd11⟩
  have hb11 : Below w10.heap.size w10 w11 := by obtain ⟨q, rfl⟩ := hd11; exact below_drewN (Below.refl _ _) q
  have T11 := Lib.hid hb11
  replace R_a := Lib.hid (R_a.out.stay T11.out)
  replace R_b := Lib.hid (R_b.out.stay T11.out)
  replace R_x := Lib.hid (R_x.out.stay T11.out)
  replace R_y := Lib.hid (R_y.out.stay T11.out)
  replace R_z := Lib.hid (R_z.out.stay T11.out)
  have HB11 := Lib.hid (HB10.out.trans (T11.out.mono s10))
  have s11 := HB11.out.size
  clear hb11 hd11
  go_wp2
  go_ret
  exact ⟨rfl, HB11.out⟩

end Go.Proofs.YtdjnbnbhpjiicaaDoor
