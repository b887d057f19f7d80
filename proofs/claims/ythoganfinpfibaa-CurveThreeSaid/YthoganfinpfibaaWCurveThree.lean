/-
  The walk of conclavekeep.CurveThree: three share the same in whatever order.
-/
import Derived.Test.YthoganfinpfibaaCvG
import Derived.Test.YthoganfinpfibaaFilled
import Derived.Test.YthoganfinpfibaaSameK
import Derived.Test.YthoganfinpfibaaFrm
set_option linter.unusedVariables false
set_option linter.unusedSimpArgs false
namespace Go.Proofs.Ythoganfinpfibaa
open Go.RowKit Go.Con

set_option maxRecDepth 100000 in
set_option maxHeartbeats 1000000 in
theorem walk_CurveThree (va : Value) (a : List UInt8) (vb : Value) (b : List UInt8) (vc : Value) (c : List UInt8) (w : World) (ha : Rd w va a) (hb : Rd w vb b) (hc : Rd w vc c) :
    Calls Try.prog 8 #[va, vb, vc] w fun e w' => e = .returned (.bool true) ∧ Below w.heap.size w w' := by
  obtain ⟨aa, ca, rfl, hlca, hcma⟩ := ha.slice
  have R_a := Lib.hid ha
  clear ha
  obtain ⟨ab, cb, rfl, hlcb, hcmb⟩ := hb.slice
  have R_b := Lib.hid hb
  clear hb
  obtain ⟨ac, cc, rfl, hlcc, hcmc⟩ := hc.slice
  have R_c := Lib.hid hc
  clear hc
  have HB0 := Lib.hid (Below.refl w.heap.size w)
  have s0 : w.heap.size ≤ w.heap.size := Nat.le_refl _
  obtain ⟨X, hXe⟩ : ∃ K, K = fill a 32 := ⟨_, rfl⟩
  have hXl : X.length = 32 := by rw [hXe]; exact fill_length _ _
  have hfX := fun v w (h : Rd w v a) => filled_any v a 32 w h (by decide)
  rw [← hXe] at hfX
  have HFX := Lib.hid hfX
  have HLX := Lib.hid hXl
  have HEX := Lib.hid hXe
  clear hXe hXl hfX
  obtain ⟨Y, hYe⟩ : ∃ K, K = fill b 32 := ⟨_, rfl⟩
  have hYl : Y.length = 32 := by rw [hYe]; exact fill_length _ _
  have hfY := fun v w (h : Rd w v b) => filled_any v b 32 w h (by decide)
  rw [← hYe] at hfY
  have HFY := Lib.hid hfY
  have HLY := Lib.hid hYl
  have HEY := Lib.hid hYe
  clear hYe hYl hfY
  obtain ⟨Z, hZe⟩ : ∃ K, K = fill c 32 := ⟨_, rfl⟩
  have hZl : Z.length = 32 := by rw [hZe]; exact fill_length _ _
  have hfZ := fun v w (h : Rd w v c) => filled_any v c 32 w h (by decide)
  rw [← hZe] at hfZ
  have HFZ := Lib.hid hfZ
  have HLZ := Lib.hid hZl
  have HEZ := Lib.hid hZe
  clear hZe hZl hfZ
  have H3 := Lib.hid (Cv.share_three X Y Z nine HLX.out HLY.out HLZ.out num_nine)
  go_enter Try.func8, Try.ntmps8
  go_wp2_with fail
  refine (HFX.out _ _ R_a.out).mono ?_
  rintro e w1 ⟨vx, rfl, hox, hb1⟩
  have T1 := Lib.hid hb1
  replace R_a := Lib.hid (R_a.out.stay T1.out)
  replace R_b := Lib.hid (R_b.out.stay T1.out)
  replace R_c := Lib.hid (R_c.out.stay T1.out)
  have HB1 := Lib.hid (HB0.out.trans (T1.out.mono s0))
  have s1 := HB1.out.size
  have R_x := Lib.hid hox.rd
  clear hb1 hox
  go_wp2_with fail
  refine (HFY.out _ _ R_b.out).mono ?_
  rintro e w2 ⟨vy, rfl, hoy, hb2⟩
  have T2 := Lib.hid hb2
  replace R_a := Lib.hid (R_a.out.stay T2.out)
  replace R_b := Lib.hid (R_b.out.stay T2.out)
  replace R_c := Lib.hid (R_c.out.stay T2.out)
  replace R_x := Lib.hid (R_x.out.stay T2.out)
  have HB2 := Lib.hid (HB1.out.trans (T2.out.mono s1))
  have s2 := HB2.out.size
  have R_y := Lib.hid hoy.rd
  clear hb2 hoy
  go_wp2_with fail
  refine (HFZ.out _ _ R_c.out).mono ?_
  rintro e w3 ⟨vz, rfl, hoz, hb3⟩
  have T3 := Lib.hid hb3
  replace R_a := Lib.hid (R_a.out.stay T3.out)
  replace R_b := Lib.hid (R_b.out.stay T3.out)
  replace R_c := Lib.hid (R_c.out.stay T3.out)
  replace R_x := Lib.hid (R_x.out.stay T3.out)
  replace R_y := Lib.hid (R_y.out.stay T3.out)
  have HB3 := Lib.hid (HB2.out.trans (T3.out.mono s2))
  have s3 := HB3.out.size
  have R_z := Lib.hid hoz.rd
  clear hb3 hoz
  go_wp2_with fail
  refine (Point_ok _ X _ HLX.out R_x.out).mono ?_
  rintro e w4 ⟨vp, rfl, hop, hb4⟩
  have T4 := Lib.hid hb4
  replace R_a := Lib.hid (R_a.out.stay T4.out)
  replace R_b := Lib.hid (R_b.out.stay T4.out)
  replace R_c := Lib.hid (R_c.out.stay T4.out)
  replace R_x := Lib.hid (R_x.out.stay T4.out)
  replace R_y := Lib.hid (R_y.out.stay T4.out)
  replace R_z := Lib.hid (R_z.out.stay T4.out)
  have HB4 := Lib.hid (HB3.out.trans (T4.out.mono s3))
  have s4 := HB4.out.size
  have R_p := Lib.hid hop.rd
  clear hb4 hop
  go_wp2_with fail
  refine (Shared_ok _ _ Y _ _ HLY.out (Cv.out32_length _) R_y.out R_p.out H3.out.1).mono ?_
  rintro e w5 ⟨vq, rfl, hoq, hb5⟩
  have T5 := Lib.hid hb5
  replace R_a := Lib.hid (R_a.out.stay T5.out)
  replace R_b := Lib.hid (R_b.out.stay T5.out)
  replace R_c := Lib.hid (R_c.out.stay T5.out)
  replace R_x := Lib.hid (R_x.out.stay T5.out)
  replace R_y := Lib.hid (R_y.out.stay T5.out)
  replace R_z := Lib.hid (R_z.out.stay T5.out)
  replace R_p := Lib.hid (R_p.out.stay T5.out)
  have HB5 := Lib.hid (HB4.out.trans (T5.out.mono s4))
  have s5 := HB5.out.size
  have R_q := Lib.hid hoq.rd
  clear hb5 hoq
  go_wp2_with fail
  refine (Shared_ok _ _ Z _ _ HLZ.out (Cv.out32_length _) R_z.out R_q.out H3.out.2.1).mono ?_
  rintro e w6 ⟨vr, rfl, hor, hb6⟩
  have T6 := Lib.hid hb6
  replace R_a := Lib.hid (R_a.out.stay T6.out)
  replace R_b := Lib.hid (R_b.out.stay T6.out)
  replace R_c := Lib.hid (R_c.out.stay T6.out)
  replace R_x := Lib.hid (R_x.out.stay T6.out)
  replace R_y := Lib.hid (R_y.out.stay T6.out)
  replace R_z := Lib.hid (R_z.out.stay T6.out)
  replace R_p := Lib.hid (R_p.out.stay T6.out)
  replace R_q := Lib.hid (R_q.out.stay T6.out)
  have HB6 := Lib.hid (HB5.out.trans (T6.out.mono s5))
  have s6 := HB6.out.size
  have R_r := Lib.hid hor.rd
  clear hb6 hor
  go_wp2_with fail
  refine (Point_ok _ Z _ HLZ.out R_z.out).mono ?_
  rintro e w7 ⟨vs, rfl, hos, hb7⟩
  have T7 := Lib.hid hb7
  replace R_a := Lib.hid (R_a.out.stay T7.out)
  replace R_b := Lib.hid (R_b.out.stay T7.out)
  replace R_c := Lib.hid (R_c.out.stay T7.out)
  replace R_x := Lib.hid (R_x.out.stay T7.out)
  replace R_y := Lib.hid (R_y.out.stay T7.out)
  replace R_z := Lib.hid (R_z.out.stay T7.out)
  replace R_p := Lib.hid (R_p.out.stay T7.out)
  replace R_q := Lib.hid (R_q.out.stay T7.out)
  replace R_r := Lib.hid (R_r.out.stay T7.out)
  have HB7 := Lib.hid (HB6.out.trans (T7.out.mono s6))
  have s7 := HB7.out.size
  have R_s := Lib.hid hos.rd
  clear hb7 hos
  go_wp2_with fail
  refine (Shared_ok _ _ X _ _ HLX.out (Cv.out32_length _) R_x.out R_s.out H3.out.2.2.1).mono ?_
  rintro e w8 ⟨vt, rfl, hot, hb8⟩
  have T8 := Lib.hid hb8
  replace R_a := Lib.hid (R_a.out.stay T8.out)
  replace R_b := Lib.hid (R_b.out.stay T8.out)
  replace R_c := Lib.hid (R_c.out.stay T8.out)
  replace R_x := Lib.hid (R_x.out.stay T8.out)
  replace R_y := Lib.hid (R_y.out.stay T8.out)
  replace R_z := Lib.hid (R_z.out.stay T8.out)
  replace R_p := Lib.hid (R_p.out.stay T8.out)
  replace R_q := Lib.hid (R_q.out.stay T8.out)
  replace R_r := Lib.hid (R_r.out.stay T8.out)
  replace R_s := Lib.hid (R_s.out.stay T8.out)
  have HB8 := Lib.hid (HB7.out.trans (T8.out.mono s7))
  have s8 := HB8.out.size
  have R_t := Lib.hid hot.rd
  clear hb8 hot
  go_wp2_with fail
  refine (Shared_ok _ _ Y _ _ HLY.out (Cv.out32_length _) R_y.out R_t.out H3.out.2.2.2.1).mono ?_
  rintro e w9 ⟨vu, rfl, hou, hb9⟩
  have T9 := Lib.hid hb9
  replace R_a := Lib.hid (R_a.out.stay T9.out)
  replace R_b := Lib.hid (R_b.out.stay T9.out)
  replace R_c := Lib.hid (R_c.out.stay T9.out)
  replace R_x := Lib.hid (R_x.out.stay T9.out)
  replace R_y := Lib.hid (R_y.out.stay T9.out)
  replace R_z := Lib.hid (R_z.out.stay T9.out)
  replace R_p := Lib.hid (R_p.out.stay T9.out)
  replace R_q := Lib.hid (R_q.out.stay T9.out)
  replace R_r := Lib.hid (R_r.out.stay T9.out)
  replace R_s := Lib.hid (R_s.out.stay T9.out)
  replace R_t := Lib.hid (R_t.out.stay T9.out)
  have HB9 := Lib.hid (HB8.out.trans (T9.out.mono s8))
  have s9 := HB9.out.size
  have R_u := Lib.hid hou.rd
  clear hb9 hou
  obtain ⟨ar, cr, rfl, hlcr, hcmr⟩ := R_r.out.sliceN 32 (Cv.out32_length _)
  go_wp2_with fail
  refine (same_true _ _ _ _ _ R_r.out R_u.out (by rw [H3.out.2.2.2.2])).mono ?_
  rintro e _ ⟨rfl, rfl⟩
  go_wp2
  go_ret
  exact ⟨rfl, HB9.out⟩

end Go.Proofs.Ythoganfinpfibaa
