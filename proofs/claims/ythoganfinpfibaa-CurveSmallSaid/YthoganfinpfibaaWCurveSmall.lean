/-
  The walk of conclavekeep.CurveSmall: small points share nothing.
-/
import Derived.Test.YthoganfinpfibaaCvG
import Derived.Test.YthoganfinpfibaaFilled
import Derived.Test.YthoganfinpfibaaSameK
import Derived.Test.YthoganfinpfibaaFrm
set_option linter.unusedVariables false
set_option linter.unusedSimpArgs false
namespace Go.Proofs.Ythoganfinpfibaa
open Go.RowKit Go.Con

theorem fill_set (k : Nat) (hk : k < 32) : (List.replicate k (255 : UInt8) ++ List.replicate (32 - k) 0).set k 255 = List.replicate (k + 1) 255 ++ List.replicate (32 - (k + 1)) 0 := by
  obtain ⟨m, hm⟩ : ∃ m, 32 - k = m + 1 := ⟨32 - k - 1, by omega⟩
  rw [hm, show 32 - (k + 1) = m by omega, List.replicate_succ, List.set_append_right _ _ (by simp)]
  simp [List.replicate_succ']
theorem small0 (x : List UInt8) (h : x.length = 32) : Cv.share x (List.replicate 32 0) = 0 := Cv.share_small x _ h (.inl (by rw [show Cv.num (List.replicate 32 0) = 0 by decide]; exact Cv.em_zero))
theorem small1 (x : List UInt8) (h : x.length = 32) : Cv.share x ((List.replicate 32 0).set 0 1) = 0 := Cv.share_small x _ h (.inr (by rw [← Cv.em_mul, show Cv.num ((List.replicate 32 0).set 0 1) = 1 by decide]; exact Cv.em_one Cv.PN_1))
theorem smallM (x : List UInt8) (h : x.length = 32) : Cv.share x (((List.replicate 32 255).set 0 236).set 31 127) = 0 := Cv.share_small x _ h (.inr (by
  rw [← Cv.em_mul, ← Cv.em_modP Cv.PN_P, show Cv.num (((List.replicate 32 255).set 0 236).set 31 127) * Cv.num (((List.replicate 32 255).set 0 236).set 31 127) % Cv.P = 1 by decide +kernel]; exact Cv.em_one Cv.PN_1))
set_option maxRecDepth 100000 in
set_option maxHeartbeats 4000000 in
theorem walk_CurveSmall (va : Value) (a : List UInt8) (w : World) (ha : Rd w va a) :
    Calls Try.prog 6 #[va] w fun e w' => e = .returned (.bool true) ∧ Below w.heap.size w w' := by
  obtain ⟨aa, ca, rfl, hlca, hcma⟩ := ha.slice
  have R_a := Lib.hid ha
  clear ha
  have HB0 := Lib.hid (Below.refl w.heap.size w)
  have s0 : w.heap.size ≤ w.heap.size := Nat.le_refl _
  obtain ⟨X, hXe⟩ : ∃ K, K = fill a 32 := ⟨_, rfl⟩
  have hXl : X.length = 32 := by rw [hXe]; exact fill_length _ _
  have hfX := fun v w (h : Rd w v a) => filled_any v a 32 w h (by decide)
  rw [← hXe] at hfX
  have HFX := Lib.hid hfX
  have HLX := Lib.hid hXl
  have HEX := Lib.hid hXe
  clear hXe hXl hfX
  go_enter Try.func6, Try.ntmps6
  go_wp2_with fail
  refine (HFX.out _ _ R_a.out).mono ?_
  rintro e w1 ⟨vx, rfl, hox, hb1⟩
  have T1 := Lib.hid hb1
  replace R_a := Lib.hid (R_a.out.stay T1.out)
  have HB1 := Lib.hid (HB0.out.trans (T1.out.mono s0))
  have s1 := HB1.out.size
  have R_x := Lib.hid hox.rd
  clear hb1 hox
  go_upto_region 3 with (refine makeB _ rfl _ _ rfl 32 _ _ rfl rfl rfl rfl (by decide) ?_; intro wm hom hbm; have OM := Lib.hid hom; have BM := Lib.hid hbm; clear hom hbm)
  obtain ⟨w2, hw2⟩ : ∃ W : World, W = wm := ⟨_, rfl⟩
  rw [← hw2] at OM BM ⊢
  clear hw2
  have T2 := Lib.hid BM.out
  replace R_a := Lib.hid (R_a.out.stay T2.out)
  replace R_x := Lib.hid (R_x.out.stay T2.out)
  have HB2 := Lib.hid (HB1.out.trans (T2.out.mono s1))
  have s2 := HB2.out.size
  have R_z := Lib.hid OM.out.rd
  clear OM BM
  go_upto_region 4 with (refine makeB _ rfl _ _ rfl 32 _ _ rfl rfl rfl rfl (by decide) ?_; intro wm hom hbm; have OM := Lib.hid hom; have BM := Lib.hid hbm; clear hom hbm)
  have c0 := OM.out.cellC 0 (by simp)
  have f0 := OM.out.freeC 0
  go_upto_region 5 with fail
  have ho := OM.out.setC 0 (1)
  have hb := BM.out.setCell (p := ⟨w2.heap.size, 0, none⟩) (Nat.le_refl _) (.int .u8 ((1 : UInt8).toNat))
  rw [show (((1 : UInt8).toNat : Nat) : Int) = 1 from rfl] at ho hb
  generalize hW : World.setCell wm _ _ = wn at ho hb ⊢
  clear c0 f0 OM BM hW
  have OM := Lib.hid ho
  have BM := Lib.hid hb
  clear ho hb
  obtain ⟨wm, hwm⟩ : ∃ W : World, W = wn := ⟨_, rfl⟩
  rw [← hwm] at OM BM ⊢
  clear hwm
  obtain ⟨w3, hw3⟩ : ∃ W : World, W = wm := ⟨_, rfl⟩
  rw [← hw3] at OM BM ⊢
  clear hw3
  have T3 := Lib.hid BM.out
  replace R_a := Lib.hid (R_a.out.stay T3.out)
  replace R_x := Lib.hid (R_x.out.stay T3.out)
  replace R_z := Lib.hid (R_z.out.stay T3.out)
  have HB3 := Lib.hid (HB2.out.trans (T3.out.mono s2))
  have s3 := HB3.out.size
  have R_o := Lib.hid OM.out.rd
  clear OM BM
  go_upto_region 6 with (refine makeB _ rfl _ _ rfl 32 _ _ rfl rfl rfl rfl (by decide) ?_; intro wm hom hbm; have OM := Lib.hid hom; have BM := Lib.hid hbm; clear hom hbm)
  go_wp2_with fail
  go_loopw [7] (fun i wr => ∃ k : Nat, k ≤ 32 ∧ i = .int .i64 k ∧ Hid (Own wr w3.heap.size (.slice (some ⟨w3.heap.size, 0, none⟩) 32 32) (List.replicate k 255 ++ List.replicate (32 - k) 0)) ∧ Hid (Below w3.heap.size w3 wr)) (fun i _ => 32 - (intOf i).toNat)
  case atStart => exact ⟨0, by omega, rfl, OM, BM⟩
  case round =>
    clear OM BM
    obtain ⟨k, hk, rfl, OM, BM⟩ := hrel
    by_cases hlt : k < 32
    · have hd0 : decide ((k : Int) < 32) = true := by rw [decide_eq_true_eq]; omega
      have c0 := OM.out.cellC k (by simp; omega)
      have f0 := OM.out.freeC k
      go_wp2_with fail
      go_roundw
      case rel =>
        have ho := OM.out.setC k 255
        rw [fill_set k hlt] at ho
        exact ⟨k + 1, by omega, by go_num, Lib.hid ho, Lib.hid (BM.out.setCell (Nat.le_refl _) _)⟩
      case measure => simp [intOf]; omega
    · have hd0 : decide ((k : Int) < 32) = false := by rw [decide_eq_false_iff_not]; omega
      obtain rfl : k = 32 := by omega
      have ho := OM.out
      rw [Nat.sub_self, List.replicate_zero, List.append_nil] at ho
      replace OM := Lib.hid ho
      clear ho hlt hk
      obtain ⟨wm, hwm⟩ : ∃ W : World, W = wr := ⟨_, rfl⟩
      rw [← hwm] at OM BM ⊢
      clear hwm
      go_upto_region 10 with fail
      have c0 := OM.out.cellC 0 (by simp)
      have f0 := OM.out.freeC 0
      go_upto_region 11 with fail
      have ho := OM.out.setC 0 (236)
      have hb := BM.out.setCell (p := ⟨w3.heap.size, 0, none⟩) (Nat.le_refl _) (.int .u8 ((236 : UInt8).toNat))
      rw [show (((236 : UInt8).toNat : Nat) : Int) = 236 from rfl] at ho hb
      generalize hW : World.setCell wm _ _ = wn at ho hb ⊢
      clear c0 f0 OM BM hW
      have OM := Lib.hid ho
      have BM := Lib.hid hb
      clear ho hb
      obtain ⟨wm, hwm⟩ : ∃ W : World, W = wn := ⟨_, rfl⟩
      rw [← hwm] at OM BM ⊢
      clear hwm
      have c0 := OM.out.cellC 31 (by simp)
      have f0 := OM.out.freeC 31
      go_upto_region 12 with fail
      have ho := OM.out.setC 31 (127)
      have hb := BM.out.setCell (p := ⟨w3.heap.size, 31, none⟩) (Nat.le_refl _) (.int .u8 ((127 : UInt8).toNat))
      rw [show (((127 : UInt8).toNat : Nat) : Int) = 127 from rfl] at ho hb
      generalize hW : World.setCell wm _ _ = wn at ho hb ⊢
      clear c0 f0 OM BM hW
      have OM := Lib.hid ho
      have BM := Lib.hid hb
      clear ho hb
      obtain ⟨wm, hwm⟩ : ∃ W : World, W = wn := ⟨_, rfl⟩
      rw [← hwm] at OM BM ⊢
      clear hwm
      obtain ⟨w4, hw4⟩ : ∃ W : World, W = wm := ⟨_, rfl⟩
      rw [← hw4] at OM BM ⊢
      clear hw4
      have T4 := Lib.hid BM.out
      replace R_a := Lib.hid (R_a.out.stay T4.out)
      replace R_x := Lib.hid (R_x.out.stay T4.out)
      replace R_z := Lib.hid (R_z.out.stay T4.out)
      replace R_o := Lib.hid (R_o.out.stay T4.out)
      have HB4 := Lib.hid (HB3.out.trans (T4.out.mono s3))
      have s4 := HB4.out.size
      have R_l := Lib.hid OM.out.rd
      clear OM BM
      go_wp2_with fail
      refine (Shared_zero _ _ X _ _ HLX.out rfl R_x.out R_z.out (small0 X HLX.out)).mono ?_
      rintro e w5 ⟨ve, rfl, hoe, hb5⟩
      have T5 := Lib.hid hb5
      replace R_a := Lib.hid (R_a.out.stay T5.out)
      replace R_x := Lib.hid (R_x.out.stay T5.out)
      replace R_z := Lib.hid (R_z.out.stay T5.out)
      replace R_o := Lib.hid (R_o.out.stay T5.out)
      replace R_l := Lib.hid (R_l.out.stay T5.out)
      have HB5 := Lib.hid (HB4.out.trans (T5.out.mono s4))
      have s5 := HB5.out.size
      have R_e := Lib.hid hoe.rd
      clear hb5 hoe
      go_wp2_with fail
      refine (Shared_zero _ _ X _ _ HLX.out rfl R_x.out R_o.out (small1 X HLX.out)).mono ?_
      rintro e w6 ⟨vf, rfl, hof, hb6⟩
      have T6 := Lib.hid hb6
      replace R_a := Lib.hid (R_a.out.stay T6.out)
      replace R_x := Lib.hid (R_x.out.stay T6.out)
      replace R_z := Lib.hid (R_z.out.stay T6.out)
      replace R_o := Lib.hid (R_o.out.stay T6.out)
      replace R_l := Lib.hid (R_l.out.stay T6.out)
      replace R_e := Lib.hid (R_e.out.stay T6.out)
      have HB6 := Lib.hid (HB5.out.trans (T6.out.mono s5))
      have s6 := HB6.out.size
      have R_f := Lib.hid hof.rd
      clear hb6 hof
      go_wp2_with fail
      refine (Shared_zero _ _ X _ _ HLX.out rfl R_x.out R_l.out (smallM X HLX.out)).mono ?_
      rintro e w7 ⟨vg, rfl, hog, hb7⟩
      have T7 := Lib.hid hb7
      replace R_a := Lib.hid (R_a.out.stay T7.out)
      replace R_x := Lib.hid (R_x.out.stay T7.out)
      replace R_z := Lib.hid (R_z.out.stay T7.out)
      replace R_o := Lib.hid (R_o.out.stay T7.out)
      replace R_l := Lib.hid (R_l.out.stay T7.out)
      replace R_e := Lib.hid (R_e.out.stay T7.out)
      replace R_f := Lib.hid (R_f.out.stay T7.out)
      have HB7 := Lib.hid (HB6.out.trans (T7.out.mono s6))
      have s7 := HB7.out.size
      have R_g := Lib.hid hog.rd
      clear hb7 hog
      go_wp2_with fail
      refine (Point_ok _ X _ HLX.out R_x.out).mono ?_
      rintro e w8 ⟨vh, rfl, hoh, hb8⟩
      have T8 := Lib.hid hb8
      replace R_a := Lib.hid (R_a.out.stay T8.out)
      replace R_x := Lib.hid (R_x.out.stay T8.out)
      replace R_z := Lib.hid (R_z.out.stay T8.out)
      replace R_o := Lib.hid (R_o.out.stay T8.out)
      replace R_l := Lib.hid (R_l.out.stay T8.out)
      replace R_e := Lib.hid (R_e.out.stay T8.out)
      replace R_f := Lib.hid (R_f.out.stay T8.out)
      replace R_g := Lib.hid (R_g.out.stay T8.out)
      have HB8 := Lib.hid (HB7.out.trans (T8.out.mono s7))
      have s8 := HB8.out.size
      have R_h := Lib.hid hoh.rd
      clear hb8 hoh
      go_wp2
      go_ret
      exact ⟨rfl, HB8.out⟩

end Go.Proofs.Ythoganfinpfibaa
