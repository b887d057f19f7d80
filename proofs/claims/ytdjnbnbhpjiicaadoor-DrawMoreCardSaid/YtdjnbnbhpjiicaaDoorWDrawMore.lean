/-
  The walk of conclavekeep.DrawMore: more bytes that are drawn begin with the fewer.
-/
import Derived.Test.YtdjnbnbhpjiicaaDoorShaP
namespace Go.Proofs.YtdjnbnbhpjiicaaDoor
open Go.RowKit Go.Con

set_option maxRecDepth 100000 in
set_option maxHeartbeats 1000000 in
theorem walk_DrawMore (va : Value) (a : List UInt8) (vb : Value) (b : List UInt8) (vc : Value) (c : List UInt8) (vn : Value) (n : Int) (vm : Value) (m : Int) (w : World) (ha : Rd w va a) (hb : Rd w vb b) (hc : Rd w vc c) (hn : IsInt vn n) (hm : IsInt vm m) (hk : Kn w) :
    Calls Tryd.prog 10 #[va, vb, vc, vn, vm] w fun e w' => e = .returned (.bool true) ∧ Below w.heap.size w w' := by
  obtain ⟨aa, ca, rfl, hlca, hcma⟩ := ha.slice
  have R_a := Lib.hid ha
  clear ha
  obtain ⟨ab, cb, rfl, hlcb, hcmb⟩ := hb.slice
  have R_b := Lib.hid hb
  clear hb
  obtain ⟨ac, cc, rfl, hlcc, hcmc⟩ := hc.slice
  have R_c := Lib.hid hc
  clear hc
  obtain ⟨rfl, hn1, hn2⟩ := hn
  obtain ⟨rfl, hm1, hm2⟩ := hm
  have HK := Lib.hid hk
  clear hk
  have HB0 := Lib.hid (Below.refl w.heap.size w)
  have s0 : w.heap.size ≤ w.heap.size := Nat.le_refl _
  have p0 := pick_nonneg n 513 (by decide)
  have p1 := pick_lt n 513 (by decide)
  obtain ⟨k, hk1⟩ : ∃ k : Nat, pick n 513 = (k : Int) := ⟨(pick n 513).toNat, by omega⟩
  have q0 := pick_nonneg m ((k : Int) + 1) (by omega)
  have q1 := pick_lt m ((k : Int) + 1) (by omega)
  obtain ⟨j, hj1⟩ : ∃ j : Nat, pick m ((k : Int) + 1) = (j : Int) := ⟨(pick m ((k : Int) + 1)).toNat, by omega⟩
  have hk512 : k ≤ 512 := by omega
  have hjk : j ≤ k := by omega
  have hpn := fun w => picked_any n 513 w hn1 hn2 (by decide)
  have hpm := fun w => picked_any m ((k : Int) + 1) w hm1 hm2 (by omega)
  rw [hk1] at hpn
  rw [hj1] at hpm
  have HPN := Lib.hid hpn
  have HPM := Lib.hid hpm
  clear hpn hpm hk1 hj1 p0 p1 q0 q1
  go_enter Tryd.func10, Tryd.ntmps10
  go_wp2_with fail
  refine (HPN.out _).mono ?_
  rintro e _ ⟨rfl, rfl⟩
  go_wp2_with fail
  refine (HPM.out _).mono ?_
  rintro e _ ⟨rfl, rfl⟩
  go_wp2_with fail
  refine (some_any _ a 60 _ R_a.out (by decide)).mono ?_
  rintro e w1 ⟨vs0, rfl, hos0, hb1⟩
  have T1 := Lib.hid hb1
  replace R_a := Lib.hid (R_a.out.stay T1.out)
  replace R_b := Lib.hid (R_b.out.stay T1.out)
  replace R_c := Lib.hid (R_c.out.stay T1.out)
  have HB1 := Lib.hid (HB0.out.trans (T1.out.mono s0))
  have s1 := HB1.out.size
  have R_s0 := Lib.hid hos0.rd
  clear hb1 hos0
  go_wp2_with fail
  refine (some_any _ b 60 _ R_b.out (by decide)).mono ?_
  rintro e w2 ⟨vt0, rfl, hot0, hb2⟩
  have T2 := Lib.hid hb2
  replace R_a := Lib.hid (R_a.out.stay T2.out)
  replace R_b := Lib.hid (R_b.out.stay T2.out)
  replace R_c := Lib.hid (R_c.out.stay T2.out)
  replace R_s0 := Lib.hid (R_s0.out.stay T2.out)
  have HB2 := Lib.hid (HB1.out.trans (T2.out.mono s1))
  have s2 := HB2.out.size
  have R_t0 := Lib.hid hot0.rd
  clear hb2 hot0
  go_wp2_with fail
  refine (some_any _ c 60 _ R_c.out (by decide)).mono ?_
  rintro e w3 ⟨vu0, rfl, hou0, hb3⟩
  have T3 := Lib.hid hb3
  replace R_a := Lib.hid (R_a.out.stay T3.out)
  replace R_b := Lib.hid (R_b.out.stay T3.out)
  replace R_c := Lib.hid (R_c.out.stay T3.out)
  replace R_s0 := Lib.hid (R_s0.out.stay T3.out)
  replace R_t0 := Lib.hid (R_t0.out.stay T3.out)
  have HB3 := Lib.hid (HB2.out.trans (T3.out.mono s2))
  have s3 := HB3.out.size
  have R_u0 := Lib.hid hou0.rd
  clear hb3 hou0
  go_wp2_with fail
  refine (Draw_ok _ _ _ _ _ _ k _ R_s0.out R_t0.out R_u0.out (by simp; omega) (by simp; omega) (by simp; omega) hk512 (HK.out.stay HB3.out)).mono ?_
  rintro e w4 ⟨vx, rfl, hrx, _, hb4⟩
  have T4 := Lib.hid hb4
  replace R_a := Lib.hid (R_a.out.stay T4.out)
  replace R_b := Lib.hid (R_b.out.stay T4.out)
  replace R_c := Lib.hid (R_c.out.stay T4.out)
  replace R_s0 := Lib.hid (R_s0.out.stay T4.out)
  replace R_t0 := Lib.hid (R_t0.out.stay T4.out)
  replace R_u0 := Lib.hid (R_u0.out.stay T4.out)
  have HB4 := Lib.hid (HB3.out.trans (T4.out.mono s3))
  have s4 := HB4.out.size
  have R_x := Lib.hid hrx
  clear hb4 hrx
  obtain ⟨ax, cx, rfl, hlcx, hcmx⟩ := R_x.out.sliceN k (Sha.draw_length _ _ _ _)
  clear R_s0
  clear R_t0
  clear R_u0
  go_wp2_with fail
  refine (some_any _ a 60 _ R_a.out (by decide)).mono ?_
  rintro e w5 ⟨vs1, rfl, hos1, hb5⟩
  have T5 := Lib.hid hb5
  replace R_a := Lib.hid (R_a.out.stay T5.out)
  replace R_b := Lib.hid (R_b.out.stay T5.out)
  replace R_c := Lib.hid (R_c.out.stay T5.out)
  replace R_x := Lib.hid (R_x.out.stay T5.out)
  have HB5 := Lib.hid (HB4.out.trans (T5.out.mono s4))
  have s5 := HB5.out.size
  have R_s1 := Lib.hid hos1.rd
  clear hb5 hos1
  go_wp2_with fail
  refine (some_any _ b 60 _ R_b.out (by decide)).mono ?_
  rintro e w6 ⟨vt1, rfl, hot1, hb6⟩
  have T6 := Lib.hid hb6
  replace R_a := Lib.hid (R_a.out.stay T6.out)
  replace R_b := Lib.hid (R_b.out.stay T6.out)
  replace R_c := Lib.hid (R_c.out.stay T6.out)
  replace R_x := Lib.hid (R_x.out.stay T6.out)
  replace R_s1 := Lib.hid (R_s1.out.stay T6.out)
  have HB6 := Lib.hid (HB5.out.trans (T6.out.mono s5))
  have s6 := HB6.out.size
  have R_t1 := Lib.hid hot1.rd
  clear hb6 hot1
  go_wp2_with fail
  refine (some_any _ c 60 _ R_c.out (by decide)).mono ?_
  rintro e w7 ⟨vu1, rfl, hou1, hb7⟩
  have T7 := Lib.hid hb7
  replace R_a := Lib.hid (R_a.out.stay T7.out)
  replace R_b := Lib.hid (R_b.out.stay T7.out)
  replace R_c := Lib.hid (R_c.out.stay T7.out)
  replace R_x := Lib.hid (R_x.out.stay T7.out)
  replace R_s1 := Lib.hid (R_s1.out.stay T7.out)
  replace R_t1 := Lib.hid (R_t1.out.stay T7.out)
  have HB7 := Lib.hid (HB6.out.trans (T7.out.mono s6))
  have s7 := HB7.out.size
  have R_u1 := Lib.hid hou1.rd
  clear hb7 hou1
  go_wp2_with fail
  refine (Draw_ok _ _ _ _ _ _ j _ R_s1.out R_t1.out R_u1.out (by simp; omega) (by simp; omega) (by simp; omega) (by omega) (HK.out.stay HB7.out)).mono ?_
  rintro e w8 ⟨vy, rfl, hry, _, hb8⟩
  have T8 := Lib.hid hb8
  replace R_a := Lib.hid (R_a.out.stay T8.out)
  replace R_b := Lib.hid (R_b.out.stay T8.out)
  replace R_c := Lib.hid (R_c.out.stay T8.out)
  replace R_x := Lib.hid (R_x.out.stay T8.out)
  replace R_s1 := Lib.hid (R_s1.out.stay T8.out)
  replace R_t1 := Lib.hid (R_t1.out.stay T8.out)
  replace R_u1 := Lib.hid (R_u1.out.stay T8.out)
  have HB8 := Lib.hid (HB7.out.trans (T8.out.mono s7))
  have s8 := HB8.out.size
  have R_y := Lib.hid hry
  clear hb8 hry
  obtain ⟨ay, cy, rfl, hlcy, hcmy⟩ := R_y.out.sliceN j (Sha.draw_length _ _ _ _)
  clear R_s1
  clear R_t1
  clear R_u1
  go_wp2_with fail
  refine (some_any _ a 60 _ R_a.out (by decide)).mono ?_
  rintro e w9 ⟨vs2, rfl, hos2, hb9⟩
  have T9 := Lib.hid hb9
  replace R_a := Lib.hid (R_a.out.stay T9.out)
  replace R_b := Lib.hid (R_b.out.stay T9.out)
  replace R_c := Lib.hid (R_c.out.stay T9.out)
  replace R_x := Lib.hid (R_x.out.stay T9.out)
  replace R_y := Lib.hid (R_y.out.stay T9.out)
  have HB9 := Lib.hid (HB8.out.trans (T9.out.mono s8))
  have s9 := HB9.out.size
  have R_s2 := Lib.hid hos2.rd
  clear hb9 hos2
  go_wp2_with fail
  refine (some_any _ b 60 _ R_b.out (by decide)).mono ?_
  rintro e w10 ⟨vt2, rfl, hot2, hb10⟩
  have T10 := Lib.hid hb10
  replace R_a := Lib.hid (R_a.out.stay T10.out)
  replace R_b := Lib.hid (R_b.out.stay T10.out)
  replace R_c := Lib.hid (R_c.out.stay T10.out)
  replace R_x := Lib.hid (R_x.out.stay T10.out)
  replace R_y := Lib.hid (R_y.out.stay T10.out)
  replace R_s2 := Lib.hid (R_s2.out.stay T10.out)
  have HB10 := Lib.hid (HB9.out.trans (T10.out.mono s9))
  have s10 := HB10.out.size
  have R_t2 := Lib.hid hot2.rd
  clear hb10 hot2
  go_wp2_with fail
  refine (some_any _ c 60 _ R_c.out (by decide)).mono ?_
  rintro e w11 ⟨vu2, rfl, hou2, hb11⟩
  have T11 := Lib.hid hb11
  replace R_a := Lib.hid (R_a.out.stay T11.out)
  replace R_b := Lib.hid (R_b.out.stay T11.out)
  replace R_c := Lib.hid (R_c.out.stay T11.out)
  replace R_x := Lib.hid (R_x.out.stay T11.out)
  replace R_y := Lib.hid (R_y.out.stay T11.out)
  replace R_s2 := Lib.hid (R_s2.out.stay T11.out)
  replace R_t2 := Lib.hid (R_t2.out.stay T11.out)
  have HB11 := Lib.hid (HB10.out.trans (T11.out.mono s10))
  have s11 := HB11.out.size
  have R_u2 := Lib.hid hou2.rd
  clear hb11 hou2
  go_wp2_with fail
  refine (Draw_long _ _ _ _ _ _ 513 _ R_s2.out R_t2.out R_u2.out (by simp; omega) (by simp; omega) (by simp; omega) (by decide)).mono ?_
  rintro e w12 ⟨vz, rfl, hrz, _, hb12⟩
  have T12 := Lib.hid hb12
  replace R_a := Lib.hid (R_a.out.stay T12.out)
  replace R_b := Lib.hid (R_b.out.stay T12.out)
  replace R_c := Lib.hid (R_c.out.stay T12.out)
  replace R_x := Lib.hid (R_x.out.stay T12.out)
  replace R_y := Lib.hid (R_y.out.stay T12.out)
  replace R_s2 := Lib.hid (R_s2.out.stay T12.out)
  replace R_t2 := Lib.hid (R_t2.out.stay T12.out)
  replace R_u2 := Lib.hid (R_u2.out.stay T12.out)
  have HB12 := Lib.hid (HB11.out.trans (T12.out.mono s11))
  have s12 := HB12.out.size
  have R_z := Lib.hid hrz
  clear hb12 hrz
  clear R_s2
  clear R_t2
  clear R_u2
  go_wp2_with fail
  refine (same_true _ _ _ _ _ (Rd.pre R_x.out j (by rw [Sha.draw_length]; omega)) R_y.out (Sha.draw_pre _ _ _ _ _ hjk)).mono ?_
  rintro e _ ⟨rfl, rfl⟩
  go_wp2
  go_ret
  exact ⟨rfl, HB12.out⟩

end Go.Proofs.YtdjnbnbhpjiicaaDoor
