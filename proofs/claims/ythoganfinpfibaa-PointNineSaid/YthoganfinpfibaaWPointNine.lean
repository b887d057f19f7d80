/-
  The walk of conclavekeep.PointNine: a point is what is shared with nine.
-/
import Derived.Test.YthoganfinpfibaaCvG
import Derived.Test.YthoganfinpfibaaFilled
import Derived.Test.YthoganfinpfibaaSameK
import Derived.Test.YthoganfinpfibaaFrm
set_option linter.unusedVariables false
set_option linter.unusedSimpArgs false
namespace Go.Proofs.Ythoganfinpfibaa
open Go.RowKit Go.Con

set_option maxRecDepth 100000 in
set_option maxHeartbeats 1000000 in
theorem walk_PointNine (va : Value) (a : List UInt8) (w : World) (ha : Rd w va a) :
    Calls Try.prog 9 #[va] w fun e w' => e = .returned (.bool true) ∧ Below w.heap.size w w' := by
  obtain ⟨aa, ca, rfl, hlca, hcma⟩ := ha.slice
  have R_a := Lib.hid ha
  clear ha
  have HB0 := Lib.hid (Below.refl w.heap.size w)
  have s0 : w.heap.size ≤ w.heap.size := Nat.le_refl _
  obtain ⟨K, hKe⟩ : ∃ K, K = fill a 32 := ⟨_, rfl⟩
  have hKl : K.length = 32 := by rw [hKe]; exact fill_length _ _
  have hfK := fun v w (h : Rd w v a) => filled_any v a 32 w h (by decide)
  rw [← hKe] at hfK
  have HFK := Lib.hid hfK
  have HLK := Lib.hid hKl
  have HEK := Lib.hid hKe
  clear hKe hKl hfK
  go_enter Try.func9, Try.ntmps9
  go_wp2_with fail
  refine (HFK.out _ _ R_a.out).mono ?_
  rintro e w1 ⟨vk, rfl, hok, hb1⟩
  have T1 := Lib.hid hb1
  replace R_a := Lib.hid (R_a.out.stay T1.out)
  have HB1 := Lib.hid (HB0.out.trans (T1.out.mono s0))
  have s1 := HB1.out.size
  have R_k := Lib.hid hok.rd
  clear hb1 hok
  go_upto_region 3 with (refine makeB _ rfl _ _ rfl 32 _ _ rfl rfl rfl rfl (by decide) ?_; intro wm hom hbm; have OM := Lib.hid hom; have BM := Lib.hid hbm; clear hom hbm)
  have c0 := OM.out.cellC 0 (by decide)
  have f0 := OM.out.freeC 0
  go_upto_region 4 with fail
  have ho := OM.out.setC 0 9
  have hb := BM.out.setCell (p := ⟨w1.heap.size, 0, none⟩) (Nat.le_refl _) (.int .u8 ((9 : UInt8).toNat))
  rw [show (((9 : UInt8).toNat : Nat) : Int) = 9 from rfl] at ho hb
  generalize hW : wm.setCell ⟨w1.heap.size, 0, none⟩ (.int .u8 9) = w2 at ho hb ⊢
  clear c0 f0 OM BM hW
  have T2 := Lib.hid hb
  replace R_a := Lib.hid (R_a.out.stay T2.out)
  replace R_k := Lib.hid (R_k.out.stay T2.out)
  have HB2 := Lib.hid (HB1.out.trans (T2.out.mono s1))
  have s2 := HB2.out.size
  have R_n : Hid (Rd w2 _ nine) := Lib.hid ho.rd
  clear ho hb
  go_wp2_with fail
  refine (Point_ok _ K _ HLK.out R_k.out).mono ?_
  rintro e w3 ⟨vp, rfl, hop, hb3⟩
  have T3 := Lib.hid hb3
  replace R_a := Lib.hid (R_a.out.stay T3.out)
  replace R_k := Lib.hid (R_k.out.stay T3.out)
  replace R_n := Lib.hid (R_n.out.stay T3.out)
  have HB3 := Lib.hid (HB2.out.trans (T3.out.mono s2))
  have s3 := HB3.out.size
  have R_p := Lib.hid hop.rd
  clear hb3 hop
  go_wp2_with fail
  refine (Shared_ok _ _ K nine _ HLK.out rfl R_k.out R_n.out (Cv.point_ne K HLK.out)).mono ?_
  rintro e w4 ⟨vs, rfl, hos, hb4⟩
  have T4 := Lib.hid hb4
  replace R_a := Lib.hid (R_a.out.stay T4.out)
  replace R_k := Lib.hid (R_k.out.stay T4.out)
  replace R_n := Lib.hid (R_n.out.stay T4.out)
  replace R_p := Lib.hid (R_p.out.stay T4.out)
  have HB4 := Lib.hid (HB3.out.trans (T4.out.mono s3))
  have s4 := HB4.out.size
  have R_s := Lib.hid hos.rd
  clear hb4 hos
  obtain ⟨ak, ck, rfl, hlck, hcmk⟩ := R_k.out.sliceN 32 (HLK.out)
  have hck : (31 : Int) ≤ (ck : Int) := by omega
  go_wp2_with fail
  refine (Point_badF _ _ _ _ (by decide)).mono ?_
  rintro e w5 ⟨vg, rfl, hog, hb5⟩
  have T5 := Lib.hid hb5
  replace R_a := Lib.hid (R_a.out.stay T5.out)
  replace R_k := Lib.hid (R_k.out.stay T5.out)
  replace R_n := Lib.hid (R_n.out.stay T5.out)
  replace R_p := Lib.hid (R_p.out.stay T5.out)
  replace R_s := Lib.hid (R_s.out.stay T5.out)
  have HB5 := Lib.hid (HB4.out.trans (T5.out.mono s4))
  have s5 := HB5.out.size
  have R_g := Lib.hid hog.rd
  clear hb5 hog
  obtain ⟨ap, cp, rfl, hlcp, hcmp⟩ := R_p.out.sliceN 32 (Cv.out32_length _)
  go_wp2_with fail
  refine (same_true _ _ _ _ _ R_p.out R_s.out rfl).mono ?_
  rintro e _ ⟨rfl, rfl⟩
  go_wp2
  go_ret
  exact ⟨rfl, HB5.out⟩

end Go.Proofs.Ythoganfinpfibaa
