/-
  The walk of conclavekeep.MacKey: a long key is its digest, and noughts behind a short one are nothing.
-/
import Derived.Test.YtdjnbnbhpjiicaaDoorShaP
namespace Go.Proofs.YtdjnbnbhpjiicaaDoor
open Go.RowKit Go.Con

set_option maxRecDepth 100000 in
set_option maxHeartbeats 1000000 in
theorem walk_MacKey (va : Value) (a : List UInt8) (vb : Value) (b : List UInt8) (vm : Value) (m : Int) (w : World) (ha : Rd w va a) (hb : Rd w vb b) (hm : IsInt vm m) (hk : Kn w) :
    Calls Tryd.prog 8 #[va, vb, vm] w fun e w' => e = .returned (.bool true) ∧ Below w.heap.size w w' := by
  obtain ⟨aa, ca, rfl, hlca, hcma⟩ := ha.slice
  have R_a := Lib.hid ha
  clear ha
  obtain ⟨ab, cb, rfl, hlcb, hcmb⟩ := hb.slice
  have R_b := Lib.hid hb
  clear hb
  obtain ⟨rfl, hm1, hm2⟩ := hm
  have HK := Lib.hid hk
  clear hk
  have HB0 := Lib.hid (Below.refl w.heap.size w)
  have s0 : w.heap.size ≤ w.heap.size := Nat.le_refl _
  have hmx : maxLen ≤ 9223372036854775807 := by decide
  have p0 := pick_nonneg (a.length : Int) 100 (by decide)
  have p1 := pick_lt (a.length : Int) 100 (by decide)
  have q0 := pick_nonneg m 24 (by decide)
  have q1 := pick_lt m 24 (by decide)
  obtain ⟨n1, hn1⟩ : ∃ n : Nat, 65 + pick (a.length : Int) 100 = (n : Int) := ⟨(65 + pick (a.length : Int) 100).toNat, by omega⟩
  obtain ⟨n2, hn2⟩ : ∃ n : Nat, (((a.take 40).length : Nat) : Int) + pick m 24 = (n : Int) := ⟨((((a.take 40).length : Nat) : Int) + pick m 24).toNat, by omega⟩
  have hl40 : (a.take 40).length ≤ 40 := by simp; omega
  have e1 : Sha.mac (Sha.sum (fill a n1)) (b.take 200) = Sha.mac (fill a n1) (b.take 200) := Sha.mac_long _ _ (by rw [fill_length]; omega)
  have e2 : Sha.mac (fill (a.take 40) n2) (b.take 200) = Sha.mac (a.take 40) (b.take 200) := Sha.mac_fill _ _ _ (by omega) (by omega)
  have E1 := Lib.hid e1
  have E2 := Lib.hid e2
  have N1 := Lib.hid hn1
  have N2 := Lib.hid hn2
  have B1 := Lib.hid (show n1 ≤ 164 by omega)
  have B2 := Lib.hid (show n2 ≤ 63 by omega)
  have HL := Lib.hid hl40
  obtain ⟨short, hshort⟩ : ∃ s, s = a.take 40 := ⟨_, rfl⟩
  have HS := Lib.hid hshort
  rw [← hshort] at N2 E2 HL
  have hl40b : short.length ≤ 40 := HL.out
  clear e1 e2 hn1 hn2 hl40 hshort
  go_enter Tryd.func8, Tryd.ntmps8
  go_wp2_with fail
  refine (picked_any _ 100 _ (by omega) (by omega) (by decide)).mono ?_
  rintro e _ ⟨rfl, rfl⟩
  go_wp2_with fail
  refine (filled_int _ a _ n1 _ R_a.out (by have := B1.out; omega) N1.out).mono ?_
  rintro e w1 ⟨vk, rfl, hok, hb1⟩
  have T1 := Lib.hid hb1
  replace R_a := Lib.hid (R_a.out.stay T1.out)
  replace R_b := Lib.hid (R_b.out.stay T1.out)
  have HB1 := Lib.hid (HB0.out.trans (T1.out.mono s0))
  have s1 := HB1.out.size
  have R_k := Lib.hid hok.rd
  clear hb1 hok
  go_wp2_with fail
  refine (Sum_ok _ _ _ R_k.out (by rw [fill_length]; have := B1.out; omega) (HK.out.stay HB1.out)).mono ?_
  rintro e w2 ⟨vs, rfl, hos, hb2⟩
  have T2 := Lib.hid hb2
  replace R_a := Lib.hid (R_a.out.stay T2.out)
  replace R_b := Lib.hid (R_b.out.stay T2.out)
  replace R_k := Lib.hid (R_k.out.stay T2.out)
  have HB2 := Lib.hid (HB1.out.trans (T2.out.mono s1))
  have s2 := HB2.out.size
  have R_s := Lib.hid hos.rd
  clear hb2 hos
  go_wp2_with fail
  refine (some_any _ b 200 _ R_b.out (by decide)).mono ?_
  rintro e w3 ⟨vd1, rfl, hod1, hb3⟩
  have T3 := Lib.hid hb3
  replace R_a := Lib.hid (R_a.out.stay T3.out)
  replace R_b := Lib.hid (R_b.out.stay T3.out)
  replace R_k := Lib.hid (R_k.out.stay T3.out)
  replace R_s := Lib.hid (R_s.out.stay T3.out)
  have HB3 := Lib.hid (HB2.out.trans (T3.out.mono s2))
  have s3 := HB3.out.size
  have R_d1 := Lib.hid hod1.rd
  clear hb3 hod1
  go_wp2_with fail
  refine (Mac_ok _ _ _ _ _ R_k.out R_d1.out (by rw [fill_length]; have := B1.out; omega) (by simp; omega) (HK.out.stay HB3.out)).mono ?_
  rintro e w4 ⟨vx, rfl, hox, hb4⟩
  have T4 := Lib.hid hb4
  replace R_a := Lib.hid (R_a.out.stay T4.out)
  replace R_b := Lib.hid (R_b.out.stay T4.out)
  replace R_k := Lib.hid (R_k.out.stay T4.out)
  replace R_s := Lib.hid (R_s.out.stay T4.out)
  replace R_d1 := Lib.hid (R_d1.out.stay T4.out)
  have HB4 := Lib.hid (HB3.out.trans (T4.out.mono s3))
  have s4 := HB4.out.size
  have R_x := Lib.hid hox.rd
  clear hb4 hox
  obtain ⟨ax, cx, rfl, hlcx, hcmx⟩ := R_x.out.sliceN 32 (Sha.mac_length _ _)
  clear R_d1
  clear R_k
  go_wp2_with fail
  refine (some_any _ b 200 _ R_b.out (by decide)).mono ?_
  rintro e w5 ⟨vd2, rfl, hod2, hb5⟩
  have T5 := Lib.hid hb5
  replace R_a := Lib.hid (R_a.out.stay T5.out)
  replace R_b := Lib.hid (R_b.out.stay T5.out)
  replace R_s := Lib.hid (R_s.out.stay T5.out)
  replace R_x := Lib.hid (R_x.out.stay T5.out)
  have HB5 := Lib.hid (HB4.out.trans (T5.out.mono s4))
  have s5 := HB5.out.size
  have R_d2 := Lib.hid hod2.rd
  clear hb5 hod2
  go_wp2_with fail
  refine (Mac_ok _ _ _ _ _ R_s.out R_d2.out (by rw [Sha.sum_length]; decide) (by simp; omega) (HK.out.stay HB5.out)).mono ?_
  rintro e w6 ⟨vy, rfl, hoy, hb6⟩
  have T6 := Lib.hid hb6
  replace R_a := Lib.hid (R_a.out.stay T6.out)
  replace R_b := Lib.hid (R_b.out.stay T6.out)
  replace R_s := Lib.hid (R_s.out.stay T6.out)
  replace R_x := Lib.hid (R_x.out.stay T6.out)
  replace R_d2 := Lib.hid (R_d2.out.stay T6.out)
  have HB6 := Lib.hid (HB5.out.trans (T6.out.mono s5))
  have s6 := HB6.out.size
  have R_y := Lib.hid hoy.rd
  clear hb6 hoy
  obtain ⟨ay, cy, rfl, hlcy, hcmy⟩ := R_y.out.sliceN 32 (Sha.mac_length _ _)
  clear R_d2
  clear R_s
  go_wp2_with fail
  refine (some_any _ a 40 _ R_a.out (by decide)).mono ?_
  rintro e w7 ⟨vh, rfl, hoh, hb7⟩
  have T7 := Lib.hid hb7
  replace R_a := Lib.hid (R_a.out.stay T7.out)
  replace R_b := Lib.hid (R_b.out.stay T7.out)
  replace R_x := Lib.hid (R_x.out.stay T7.out)
  replace R_y := Lib.hid (R_y.out.stay T7.out)
  have HB7 := Lib.hid (HB6.out.trans (T7.out.mono s6))
  have s7 := HB7.out.size
  have R_h := Lib.hid hoh.rd
  clear hb7 hoh
  rw [← HS.out] at R_h
  obtain ⟨ash, csh, rfl, hlsh, hcsh⟩ := R_h.out.slice
  go_wp2_with fail
  refine (some_any _ b 200 _ R_b.out (by decide)).mono ?_
  rintro e w8 ⟨vd3, rfl, hod3, hb8⟩
  have T8 := Lib.hid hb8
  replace R_a := Lib.hid (R_a.out.stay T8.out)
  replace R_b := Lib.hid (R_b.out.stay T8.out)
  replace R_x := Lib.hid (R_x.out.stay T8.out)
  replace R_y := Lib.hid (R_y.out.stay T8.out)
  replace R_h := Lib.hid (R_h.out.stay T8.out)
  have HB8 := Lib.hid (HB7.out.trans (T8.out.mono s7))
  have s8 := HB8.out.size
  have R_d3 := Lib.hid hod3.rd
  clear hb8 hod3
  go_wp2_with fail
  refine (Mac_ok _ _ _ _ _ R_h.out R_d3.out (by omega) (by simp; omega) (HK.out.stay HB8.out)).mono ?_
  rintro e w9 ⟨vz, rfl, hoz, hb9⟩
  have T9 := Lib.hid hb9
  replace R_a := Lib.hid (R_a.out.stay T9.out)
  replace R_b := Lib.hid (R_b.out.stay T9.out)
  replace R_x := Lib.hid (R_x.out.stay T9.out)
  replace R_y := Lib.hid (R_y.out.stay T9.out)
  replace R_h := Lib.hid (R_h.out.stay T9.out)
  replace R_d3 := Lib.hid (R_d3.out.stay T9.out)
  have HB9 := Lib.hid (HB8.out.trans (T9.out.mono s8))
  have s9 := HB9.out.size
  have R_z := Lib.hid hoz.rd
  clear hb9 hoz
  obtain ⟨az, cz, rfl, hlcz, hcmz⟩ := R_z.out.sliceN 32 (Sha.mac_length _ _)
  clear R_d3
  go_wp2_with fail
  refine (picked_any _ 24 _ (by omega) (by omega) (by decide)).mono ?_
  rintro e _ ⟨rfl, rfl⟩
  go_wp2_with fail
  refine (filled_int _ short _ n2 _ R_h.out (by have := B2.out; omega) N2.out).mono ?_
  rintro e w10 ⟨vf, rfl, hof, hb10⟩
  have T10 := Lib.hid hb10
  replace R_a := Lib.hid (R_a.out.stay T10.out)
  replace R_b := Lib.hid (R_b.out.stay T10.out)
  replace R_x := Lib.hid (R_x.out.stay T10.out)
  replace R_y := Lib.hid (R_y.out.stay T10.out)
  replace R_h := Lib.hid (R_h.out.stay T10.out)
  replace R_z := Lib.hid (R_z.out.stay T10.out)
  have HB10 := Lib.hid (HB9.out.trans (T10.out.mono s9))
  have s10 := HB10.out.size
  have R_f := Lib.hid hof.rd
  clear hb10 hof
  go_wp2_with fail
  refine (some_any _ b 200 _ R_b.out (by decide)).mono ?_
  rintro e w11 ⟨vd4, rfl, hod4, hb11⟩
  have T11 := Lib.hid hb11
  replace R_a := Lib.hid (R_a.out.stay T11.out)
  replace R_b := Lib.hid (R_b.out.stay T11.out)
  replace R_x := Lib.hid (R_x.out.stay T11.out)
  replace R_y := Lib.hid (R_y.out.stay T11.out)
  replace R_h := Lib.hid (R_h.out.stay T11.out)
  replace R_z := Lib.hid (R_z.out.stay T11.out)
  replace R_f := Lib.hid (R_f.out.stay T11.out)
  have HB11 := Lib.hid (HB10.out.trans (T11.out.mono s10))
  have s11 := HB11.out.size
  have R_d4 := Lib.hid hod4.rd
  clear hb11 hod4
  go_wp2_with fail
  refine (Mac_ok _ _ _ _ _ R_f.out R_d4.out (by rw [fill_length]; have := B2.out; omega) (by simp; omega) (HK.out.stay HB11.out)).mono ?_
  rintro e w12 ⟨vu, rfl, hou, hb12⟩
  have T12 := Lib.hid hb12
  replace R_a := Lib.hid (R_a.out.stay T12.out)
  replace R_b := Lib.hid (R_b.out.stay T12.out)
  replace R_x := Lib.hid (R_x.out.stay T12.out)
  replace R_y := Lib.hid (R_y.out.stay T12.out)
  replace R_h := Lib.hid (R_h.out.stay T12.out)
  replace R_z := Lib.hid (R_z.out.stay T12.out)
  replace R_f := Lib.hid (R_f.out.stay T12.out)
  replace R_d4 := Lib.hid (R_d4.out.stay T12.out)
  have HB12 := Lib.hid (HB11.out.trans (T12.out.mono s11))
  have s12 := HB12.out.size
  have R_u := Lib.hid hou.rd
  clear hb12 hou
  obtain ⟨au, cu, rfl, hlcu, hcmu⟩ := R_u.out.sliceN 32 (Sha.mac_length _ _)
  clear R_d4
  clear R_f
  go_wp2_with fail
  refine (same_true _ _ _ _ _ R_x.out R_y.out E1.out.symm).mono ?_
  rintro e _ ⟨rfl, rfl⟩
  go_wp2_with fail
  refine (same_true _ _ _ _ _ R_z.out R_u.out E2.out.symm).mono ?_
  rintro e _ ⟨rfl, rfl⟩
  go_wp2
  go_ret
  exact ⟨rfl, HB12.out⟩

end Go.Proofs.YtdjnbnbhpjiicaaDoor
