/-
  The walk of conclavekeep.CurveShare: two share the same.
-/
import Derived.Test.YthoganfinpfibaaCvG
import Derived.Test.YthoganfinpfibaaFilled
import Derived.Test.YthoganfinpfibaaSameK
import Derived.Test.YthoganfinpfibaaFrm
set_option linter.unusedVariables false
set_option linter.unusedSimpArgs false
namespace Go.Proofs.Ythoganfinpfibaa
open Go.RowKit Go.Con

set_option maxRecDepth 100000 in
set_option maxHeartbeats 1000000 in
theorem walk_CurveShare (va : Value) (a : List UInt8) (vb : Value) (b : List UInt8) (w : World) (ha : Rd w va a) (hb : Rd w vb b) :
    Calls Try.prog 5 #[va, vb] w fun e w' => e = .returned (.bool true) ∧ Below w.heap.size w w' := by
  obtain ⟨aa, ca, rfl, hlca, hcma⟩ := ha.slice
  have R_a := Lib.hid ha
  clear ha
  obtain ⟨ab, cb, rfl, hlcb, hcmb⟩ := hb.slice
  have R_b := Lib.hid hb
  clear hb
  have HB0 := Lib.hid (Below.refl w.heap.size w)
  have s0 : w.heap.size ≤ w.heap.size := Nat.le_refl _
  obtain ⟨X, hXe⟩ : ∃ K, K = fill a 32 := ⟨_, rfl⟩
  have hXl : X.length = 32 := by rw [hXe]; exact fill_length _ _
  have hfX := fun v w (h : Rd w v a) => filled_any v a 32 w h (by decide)
  rw [← hXe] at hfX
  have HFX := Lib.hid hfX
  have HLX := Lib.hid hXl
  have HEX := Lib.hid hXe
  clear hXe hXl hfX
  obtain ⟨Y, hYe⟩ : ∃ K, K = fill b 32 := ⟨_, rfl⟩
  have hYl : Y.length = 32 := by rw [hYe]; exact fill_length _ _
  have hfY := fun v w (h : Rd w v b) => filled_any v b 32 w h (by decide)
  rw [← hYe] at hfY
  have HFY := Lib.hid hfY
  have HLY := Lib.hid hYl
  have HEY := Lib.hid hYe
  clear hYe hYl hfY
  have H2 := Lib.hid (Cv.share_two X Y nine HLX.out HLY.out num_nine)
  go_enter Try.func5, Try.ntmps5
  go_wp2_with fail
  refine (HFX.out _ _ R_a.out).mono ?_
  rintro e w1 ⟨vx, rfl, hox, hb1⟩
  have T1 := Lib.hid hb1
  replace R_a := Lib.hid (R_a.out.stay T1.out)
  replace R_b := Lib.hid (R_b.out.stay T1.out)
  have HB1 := Lib.hid (HB0.out.trans (T1.out.mono s0))
  have s1 := HB1.out.size
  have R_x := Lib.hid hox.rd
  clear hb1 hox
  go_wp2_with fail
  refine (HFY.out _ _ R_b.out).mono ?_
  rintro e w2 ⟨vy, rfl, hoy, hb2⟩
  have T2 := Lib.hid hb2
  replace R_a := Lib.hid (R_a.out.stay T2.out)
  replace R_b := Lib.hid (R_b.out.stay T2.out)
  replace R_x := Lib.hid (R_x.out.stay T2.out)
  have HB2 := Lib.hid (HB1.out.trans (T2.out.mono s1))
  have s2 := HB2.out.size
  have R_y := Lib.hid hoy.rd
  clear hb2 hoy
  go_wp2_with fail
  refine (Point_ok _ X _ HLX.out R_x.out).mono ?_
  rintro e w3 ⟨vp, rfl, hop, hb3⟩
  have T3 := Lib.hid hb3
  replace R_a := Lib.hid (R_a.out.stay T3.out)
  replace R_b := Lib.hid (R_b.out.stay T3.out)
  replace R_x := Lib.hid (R_x.out.stay T3.out)
  replace R_y := Lib.hid (R_y.out.stay T3.out)
  have HB3 := Lib.hid (HB2.out.trans (T3.out.mono s2))
  have s3 := HB3.out.size
  have R_p := Lib.hid hop.rd
  clear hb3 hop
  go_wp2_with fail
  refine (Point_ok _ Y _ HLY.out R_y.out).mono ?_
  rintro e w4 ⟨vq, rfl, hoq, hb4⟩
  have T4 := Lib.hid hb4
  replace R_a := Lib.hid (R_a.out.stay T4.out)
  replace R_b := Lib.hid (R_b.out.stay T4.out)
  replace R_x := Lib.hid (R_x.out.stay T4.out)
  replace R_y := Lib.hid (R_y.out.stay T4.out)
  replace R_p := Lib.hid (R_p.out.stay T4.out)
  have HB4 := Lib.hid (HB3.out.trans (T4.out.mono s3))
  have s4 := HB4.out.size
  have R_q := Lib.hid hoq.rd
  clear hb4 hoq
  go_wp2_with fail
  refine (Shared_ok _ _ X _ _ HLX.out (Cv.out32_length _) R_x.out R_q.out H2.out.1).mono ?_
  rintro e w5 ⟨vsv, rfl, hosv, hb5⟩
  have T5 := Lib.hid hb5
  replace R_a := Lib.hid (R_a.out.stay T5.out)
  replace R_b := Lib.hid (R_b.out.stay T5.out)
  replace R_x := Lib.hid (R_x.out.stay T5.out)
  replace R_y := Lib.hid (R_y.out.stay T5.out)
  replace R_p := Lib.hid (R_p.out.stay T5.out)
  replace R_q := Lib.hid (R_q.out.stay T5.out)
  have HB5 := Lib.hid (HB4.out.trans (T5.out.mono s4))
  have s5 := HB5.out.size
  have R_sv := Lib.hid hosv.rd
  clear hb5 hosv
  go_wp2_with fail
  refine (Shared_ok _ _ Y _ _ HLY.out (Cv.out32_length _) R_y.out R_p.out H2.out.2.1).mono ?_
  rintro e w6 ⟨vt, rfl, hot, hb6⟩
  have T6 := Lib.hid hb6
  replace R_a := Lib.hid (R_a.out.stay T6.out)
  replace R_b := Lib.hid (R_b.out.stay T6.out)
  replace R_x := Lib.hid (R_x.out.stay T6.out)
  replace R_y := Lib.hid (R_y.out.stay T6.out)
  replace R_p := Lib.hid (R_p.out.stay T6.out)
  replace R_q := Lib.hid (R_q.out.stay T6.out)
  replace R_sv := Lib.hid (R_sv.out.stay T6.out)
  have HB6 := Lib.hid (HB5.out.trans (T6.out.mono s5))
  have s6 := HB6.out.size
  have R_t := Lib.hid hot.rd
  clear hb6 hot
  obtain ⟨asv, csv, rfl, hlcsv, hcmsv⟩ := R_sv.out.sliceN 32 (Cv.out32_length _)
  obtain ⟨ap, cp, rfl, hlcp, hcmp⟩ := R_p.out.sliceN 32 (Cv.out32_length _)
  go_wp2_with fail
  refine (same_true _ _ _ _ _ R_sv.out R_t.out (by rw [H2.out.2.2])).mono ?_
  rintro e _ ⟨rfl, rfl⟩
  go_wp2
  go_ret
  exact ⟨rfl, HB6.out⟩

end Go.Proofs.Ythoganfinpfibaa
