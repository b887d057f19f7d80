/-
  The walk of conclavekeep.CurveOver: a point is taken modulo the prime.
-/
import Derived.Test.YthoganfinpfibaaCvG
import Derived.Test.YthoganfinpfibaaFilled
import Derived.Test.YthoganfinpfibaaSameK
import Derived.Test.YthoganfinpfibaaFrm
import Derived.Test.YthoganfinpfibaaPick
set_option linter.unusedVariables false
set_option linter.unusedSimpArgs false
namespace Go.Proofs.Ythoganfinpfibaa
open Go.RowKit Go.Con

theorem fill_set (k : Nat) (hk : k < 32) : (List.replicate k (255 : UInt8) ++ List.replicate (32 - k) 0).set k 255 = List.replicate (k + 1) 255 ++ List.replicate (32 - (k + 1)) 0 := by
  obtain ⟨m, hm⟩ : ∃ m, 32 - k = m + 1 := ⟨32 - k - 1, by omega⟩
  rw [hm, show 32 - (k + 1) = m by omega, List.replicate_succ, List.set_append_right _ _ (by simp)]
  simp [List.replicate_succ']
def lowP (k : Nat) : List UInt8 := (List.replicate 32 0).set 0 (UInt8.ofNat k)
def highP (k : Nat) : List UInt8 := ((List.replicate 32 255).set 0 (UInt8.ofNat (237 + k))).set 31 127
theorem num_low (k : Nat) (h : k < 19) : Cv.num (lowP k) = k := (show ∀ k : Fin 19, Cv.num (lowP k.val) = k.val by decide +kernel) ⟨k, h⟩
theorem num_high (k : Nat) (h : k < 19) : Cv.num (highP k) = Cv.P + k := (show ∀ k : Fin 19, Cv.num (highP k.val) = Cv.P + k.val by decide +kernel) ⟨k, h⟩
theorem over_same (x : List UInt8) (k : Nat) (h : k < 19) : Cv.share x (highP k) = Cv.share x (lowP k) := Cv.share_cong x _ _ (by
  rw [num_low k h, num_high k h, ← Cv.em_modP Cv.PN_P, Int.add_emod_left, Cv.em_modP Cv.PN_P])
theorem over_small (x : List UInt8) (k : Nat) (hx : x.length = 32) (h : k < 2) : Cv.share x (lowP k) = 0 := Cv.share_small x _ hx (by
  rw [num_low k (by omega)]
  have hc : k = 0 ∨ k = 1 := by omega
  rcases hc with rfl | rfl
  · exact .inl Cv.em_zero
  · refine .inr ?_
    rw [← Cv.em_mul]; exact Cv.em_one Cv.PN_1)
theorem over_ne (x : List UInt8) (k : Nat) (hx : x.length = 32) (h : 2 ≤ k) (h19 : k < 19) : Cv.share x (lowP k) ≠ 0 := Cv.share_over x _ k hx h (by omega) (num_low k h19)
theorem picked_over (n m q : Int) (w : World) (h1 : -9223372036854775808 ≤ n) (h2 : n ≤ 9223372036854775807) (h3 : 0 < m) (hq : Hid (pick n m = q)) :
    Calls Try.prog 11 #[.int .i64 n, .int .i64 m] w fun e w' => e = .returned (.int .i64 q) ∧ w = w' :=
  (picked_any n m w h1 h2 h3).mono fun e w' ⟨he, hw⟩ => ⟨by rw [he, hq.out], hw⟩
set_option maxRecDepth 100000 in
set_option maxHeartbeats 4000000 in
theorem walk_CurveOver (va : Value) (a : List UInt8) (vi : Value) (i : Int) (w : World) (ha : Rd w va a) (hi : IsInt vi i) :
    Calls Try.prog 7 #[va, vi] w fun e w' => e = .returned (.bool true) ∧ Below w.heap.size w w' := by
  obtain ⟨aa, ca, rfl, hlca, hcma⟩ := ha.slice
  have R_a := Lib.hid ha
  clear ha
  obtain ⟨rfl, hi1, hi2⟩ := hi
  have HB0 := Lib.hid (Below.refl w.heap.size w)
  have s0 : w.heap.size ≤ w.heap.size := Nat.le_refl _
  obtain ⟨X, hXe⟩ : ∃ K, K = fill a 32 := ⟨_, rfl⟩
  have hXl : X.length = 32 := by rw [hXe]; exact fill_length _ _
  have hfX := fun v w (h : Rd w v a) => filled_any v a 32 w h (by decide)
  rw [← hXe] at hfX
  have HFX := Lib.hid hfX
  have HLX := Lib.hid hXl
  have HEX := Lib.hid hXe
  clear hXe hXl hfX
  have q0 := pick_nonneg i 19 (by omega)
  have q1 := pick_lt i 19 (by omega)
  obtain ⟨k, hk⟩ : ∃ k : Nat, pick i 19 = (k : Int) := ⟨(pick i 19).toNat, by omega⟩
  have hk19 : k < 19 := by omega
  have HPK := Lib.hid hk
  clear q0 q1 hk
  have hu1 : (((UInt8.ofNat k).toNat : Nat) : Int) = (k : Int) := by rw [UInt8.toNat_ofNat']; omega
  have hu2 : (((UInt8.ofNat (237 + k)).toNat : Nat) : Int) = 237 + (k : Int) := by rw [UInt8.toNat_ofNat']; omega
  have HU1 := Lib.hid hu1
  have HU2 := Lib.hid hu2
  clear hu1 hu2
  by_cases h2 : 2 ≤ k
  · have hd2 : decide (1 < (k : Int)) = true := by rw [decide_eq_true_eq]; omega
    go_enter Try.func7, Try.ntmps7
    go_wp2_with fail
    refine (HFX.out _ _ R_a.out).mono ?_
    rintro e w1 ⟨vx, rfl, hox, hb1⟩
    have T1 := Lib.hid hb1
    replace R_a := Lib.hid (R_a.out.stay T1.out)
    have HB1 := Lib.hid (HB0.out.trans (T1.out.mono s0))
    have s1 := HB1.out.size
    have R_x := Lib.hid hox.rd
    clear hb1 hox
    go_wp2_with fail
    refine (picked_over i 19 k _ hi1 hi2 (by decide) HPK).mono ?_
    rintro e _ ⟨rfl, rfl⟩
    go_upto_region 4 with (refine makeB _ rfl _ _ rfl 32 _ _ rfl rfl rfl rfl (by decide) ?_; intro wm hom hbm; have OM := Lib.hid hom; have BM := Lib.hid hbm; clear hom hbm)
    have c0 := OM.out.cellC 0 (by simp)
    have f0 := OM.out.freeC 0
    go_upto_region 5 with fail
    have ho := OM.out.setC 0 (UInt8.ofNat k)
    have hb := BM.out.setCell (p := ⟨w1.heap.size, 0, none⟩) (Nat.le_refl _) (.int .u8 ((UInt8.ofNat k : UInt8).toNat))
    rw [show (((UInt8.ofNat k : UInt8).toNat : Nat) : Int) = (k : Int) from HU1.out] at ho hb
    generalize hW : World.setCell wm _ _ = wn at ho hb ⊢
    clear c0 f0 OM BM hW
    have OM := Lib.hid ho
    have BM := Lib.hid hb
    clear ho hb
    obtain ⟨wm, hwm⟩ : ∃ W : World, W = wn := ⟨_, rfl⟩
    rw [← hwm] at OM BM ⊢
    clear hwm
    obtain ⟨w2, hw2⟩ : ∃ W : World, W = wm := ⟨_, rfl⟩
    rw [← hw2] at OM BM ⊢
    clear hw2
    have T2 := Lib.hid BM.out
    replace R_a := Lib.hid (R_a.out.stay T2.out)
    replace R_x := Lib.hid (R_x.out.stay T2.out)
    have HB2 := Lib.hid (HB1.out.trans (T2.out.mono s1))
    have s2 := HB2.out.size
    have R_l := Lib.hid OM.out.rd
    clear OM BM
    go_upto_region 6 with (refine makeB _ rfl _ _ rfl 32 _ _ rfl rfl rfl rfl (by decide) ?_; intro wm hom hbm; have OM := Lib.hid hom; have BM := Lib.hid hbm; clear hom hbm)
    go_wp2_with fail
    go_loopw [9] (fun i wr => ∃ k : Nat, k ≤ 32 ∧ i = .int .i64 k ∧ Hid (Own wr w2.heap.size (.slice (some ⟨w2.heap.size, 0, none⟩) 32 32) (List.replicate k 255 ++ List.replicate (32 - k) 0)) ∧ Hid (Below w2.heap.size w2 wr)) (fun i _ => 32 - (intOf i).toNat)
    case atStart => exact ⟨0, by omega, rfl, OM, BM⟩
    case round =>
      clear OM BM
      obtain ⟨k, hk, rfl, OM, BM⟩ := hrel
      by_cases hlt : k < 32
      · have hd0 : decide ((k : Int) < 32) = true := by rw [decide_eq_true_eq]; omega
        have c0 := OM.out.cellC k (by simp; omega)
        have f0 := OM.out.freeC k
        go_wp2_with fail
        go_roundw
        case rel =>
          have ho := OM.out.setC k 255
          rw [fill_set k hlt] at ho
          exact ⟨k + 1, by omega, by go_num, Lib.hid ho, Lib.hid (BM.out.setCell (Nat.le_refl _) _)⟩
        case measure => simp [intOf]; omega
      · have hd0 : decide ((k : Int) < 32) = false := by rw [decide_eq_false_iff_not]; omega
        obtain rfl : k = 32 := by omega
        have ho := OM.out
        rw [Nat.sub_self, List.replicate_zero, List.append_nil] at ho
        replace OM := Lib.hid ho
        clear ho hlt hk
        obtain ⟨wm, hwm⟩ : ∃ W : World, W = wr := ⟨_, rfl⟩
        rw [← hwm] at OM BM ⊢
        clear hwm
        go_upto_region 10 with fail
        have c0 := OM.out.cellC 0 (by simp)
        have f0 := OM.out.freeC 0
        go_upto_region 11 with fail
        have ho := OM.out.setC 0 (UInt8.ofNat (237 + k))
        have hb := BM.out.setCell (p := ⟨w2.heap.size, 0, none⟩) (Nat.le_refl _) (.int .u8 ((UInt8.ofNat (237 + k) : UInt8).toNat))
        rw [show (((UInt8.ofNat (237 + k) : UInt8).toNat : Nat) : Int) = 237 + (k : Int) from HU2.out] at ho hb
        generalize hW : World.setCell wm _ _ = wn at ho hb ⊢
        clear c0 f0 OM BM hW
        have OM := Lib.hid ho
        have BM := Lib.hid hb
        clear ho hb
        obtain ⟨wm, hwm⟩ : ∃ W : World, W = wn := ⟨_, rfl⟩
        rw [← hwm] at OM BM ⊢
        clear hwm
        have c0 := OM.out.cellC 31 (by simp)
        have f0 := OM.out.freeC 31
        go_upto_region 12 with fail
        have ho := OM.out.setC 31 (127)
        have hb := BM.out.setCell (p := ⟨w2.heap.size, 31, none⟩) (Nat.le_refl _) (.int .u8 ((127 : UInt8).toNat))
        rw [show (((127 : UInt8).toNat : Nat) : Int) = 127 from rfl] at ho hb
        generalize hW : World.setCell wm _ _ = wn at ho hb ⊢
        clear c0 f0 OM BM hW
        have OM := Lib.hid ho
        have BM := Lib.hid hb
        clear ho hb
        obtain ⟨wm, hwm⟩ : ∃ W : World, W = wn := ⟨_, rfl⟩
        rw [← hwm] at OM BM ⊢
        clear hwm
        obtain ⟨w3, hw3⟩ : ∃ W : World, W = wm := ⟨_, rfl⟩
        rw [← hw3] at OM BM ⊢
        clear hw3
        have T3 := Lib.hid BM.out
        replace R_a := Lib.hid (R_a.out.stay T3.out)
        replace R_x := Lib.hid (R_x.out.stay T3.out)
        replace R_l := Lib.hid (R_l.out.stay T3.out)
        have HB3 := Lib.hid (HB2.out.trans (T3.out.mono s2))
        have s3 := HB3.out.size
        have R_h := Lib.hid OM.out.rd
        clear OM BM
        go_wp2_with fail
        refine (Shared_ok _ _ X (lowP k) _ HLX.out rfl R_x.out R_l.out (over_ne X k HLX.out h2 hk19)).mono ?_
        rintro e w4 ⟨vs, rfl, hos, hb4⟩
        have T4 := Lib.hid hb4
        replace R_a := Lib.hid (R_a.out.stay T4.out)
        replace R_x := Lib.hid (R_x.out.stay T4.out)
        replace R_l := Lib.hid (R_l.out.stay T4.out)
        replace R_h := Lib.hid (R_h.out.stay T4.out)
        have HB4 := Lib.hid (HB3.out.trans (T4.out.mono s3))
        have s4 := HB4.out.size
        have R_s := Lib.hid hos.rd
        clear hb4 hos
        go_wp2_with fail
        refine (Shared_ok _ _ X (highP k) _ HLX.out rfl R_x.out R_h.out (by rw [over_same X k hk19]; exact over_ne X k HLX.out h2 hk19)).mono ?_
        rintro e w5 ⟨vt, rfl, hot, hb5⟩
        have T5 := Lib.hid hb5
        replace R_a := Lib.hid (R_a.out.stay T5.out)
        replace R_x := Lib.hid (R_x.out.stay T5.out)
        replace R_l := Lib.hid (R_l.out.stay T5.out)
        replace R_h := Lib.hid (R_h.out.stay T5.out)
        replace R_s := Lib.hid (R_s.out.stay T5.out)
        have HB5 := Lib.hid (HB4.out.trans (T5.out.mono s4))
        have s5 := HB5.out.size
        have R_t := Lib.hid hot.rd
        clear hb5 hot
        go_wp2_with fail
        refine (Point_ok _ X _ HLX.out R_x.out).mono ?_
        rintro e w6 ⟨vg, rfl, hog, hb6⟩
        have T6 := Lib.hid hb6
        replace R_a := Lib.hid (R_a.out.stay T6.out)
        replace R_x := Lib.hid (R_x.out.stay T6.out)
        replace R_l := Lib.hid (R_l.out.stay T6.out)
        replace R_h := Lib.hid (R_h.out.stay T6.out)
        replace R_s := Lib.hid (R_s.out.stay T6.out)
        replace R_t := Lib.hid (R_t.out.stay T6.out)
        have HB6 := Lib.hid (HB5.out.trans (T6.out.mono s5))
        have s6 := HB6.out.size
        have R_g := Lib.hid hog.rd
        clear hb6 hog
        go_wp2_with fail
        refine (same_true _ _ _ _ _ R_s.out R_t.out (by rw [over_same X k hk19])).mono ?_
        rintro e _ ⟨rfl, rfl⟩
        go_wp2
        go_ret
        exact ⟨rfl, HB6.out⟩
  · have hd2 : decide (1 < (k : Int)) = false := by rw [decide_eq_false_iff_not]; omega
    go_enter Try.func7, Try.ntmps7
    go_wp2_with fail
    refine (HFX.out _ _ R_a.out).mono ?_
    rintro e w1 ⟨vx, rfl, hox, hb1⟩
    have T1 := Lib.hid hb1
    replace R_a := Lib.hid (R_a.out.stay T1.out)
    have HB1 := Lib.hid (HB0.out.trans (T1.out.mono s0))
    have s1 := HB1.out.size
    have R_x := Lib.hid hox.rd
    clear hb1 hox
    go_wp2_with fail
    refine (picked_over i 19 k _ hi1 hi2 (by decide) HPK).mono ?_
    rintro e _ ⟨rfl, rfl⟩
    go_upto_region 4 with (refine makeB _ rfl _ _ rfl 32 _ _ rfl rfl rfl rfl (by decide) ?_; intro wm hom hbm; have OM := Lib.hid hom; have BM := Lib.hid hbm; clear hom hbm)
    have c0 := OM.out.cellC 0 (by simp)
    have f0 := OM.out.freeC 0
    go_upto_region 5 with fail
    have ho := OM.out.setC 0 (UInt8.ofNat k)
    have hb := BM.out.setCell (p := ⟨w1.heap.size, 0, none⟩) (Nat.le_refl _) (.int .u8 ((UInt8.ofNat k : UInt8).toNat))
    rw [show (((UInt8.ofNat k : UInt8).toNat : Nat) : Int) = (k : Int) from HU1.out] at ho hb
    generalize hW : World.setCell wm _ _ = wn at ho hb ⊢
    clear c0 f0 OM BM hW
    have OM := Lib.hid ho
    have BM := Lib.hid hb
    clear ho hb
    obtain ⟨wm, hwm⟩ : ∃ W : World, W = wn := ⟨_, rfl⟩
    rw [← hwm] at OM BM ⊢
    clear hwm
    obtain ⟨w2, hw2⟩ : ∃ W : World, W = wm := ⟨_, rfl⟩
    rw [← hw2] at OM BM ⊢
    clear hw2
    have T2 := Lib.hid BM.out
    replace R_a := Lib.hid (R_a.out.stay T2.out)
    replace R_x := Lib.hid (R_x.out.stay T2.out)
    have HB2 := Lib.hid (HB1.out.trans (T2.out.mono s1))
    have s2 := HB2.out.size
    have R_l := Lib.hid OM.out.rd
    clear OM BM
    go_upto_region 6 with (refine makeB _ rfl _ _ rfl 32 _ _ rfl rfl rfl rfl (by decide) ?_; intro wm hom hbm; have OM := Lib.hid hom; have BM := Lib.hid hbm; clear hom hbm)
    go_wp2_with fail
    go_loopw [9] (fun i wr => ∃ k : Nat, k ≤ 32 ∧ i = .int .i64 k ∧ Hid (Own wr w2.heap.size (.slice (some ⟨w2.heap.size, 0, none⟩) 32 32) (List.replicate k 255 ++ List.replicate (32 - k) 0)) ∧ Hid (Below w2.heap.size w2 wr)) (fun i _ => 32 - (intOf i).toNat)
    case atStart => exact ⟨0, by omega, rfl, OM, BM⟩
    case round =>
      clear OM BM
      obtain ⟨k, hk, rfl, OM, BM⟩ := hrel
      by_cases hlt : k < 32
      · have hd0 : decide ((k : Int) < 32) = true := by rw [decide_eq_true_eq]; omega
        have c0 := OM.out.cellC k (by simp; omega)
        have f0 := OM.out.freeC k
        go_wp2_with fail
        go_roundw
        case rel =>
          have ho := OM.out.setC k 255
          rw [fill_set k hlt] at ho
          exact ⟨k + 1, by omega, by go_num, Lib.hid ho, Lib.hid (BM.out.setCell (Nat.le_refl _) _)⟩
        case measure => simp [intOf]; omega
      · have hd0 : decide ((k : Int) < 32) = false := by rw [decide_eq_false_iff_not]; omega
        obtain rfl : k = 32 := by omega
        have ho := OM.out
        rw [Nat.sub_self, List.replicate_zero, List.append_nil] at ho
        replace OM := Lib.hid ho
        clear ho hlt hk
        obtain ⟨wm, hwm⟩ : ∃ W : World, W = wr := ⟨_, rfl⟩
        rw [← hwm] at OM BM ⊢
        clear hwm
        go_upto_region 10 with fail
        have c0 := OM.out.cellC 0 (by simp)
        have f0 := OM.out.freeC 0
        go_upto_region 11 with fail
        have ho := OM.out.setC 0 (UInt8.ofNat (237 + k))
        have hb := BM.out.setCell (p := ⟨w2.heap.size, 0, none⟩) (Nat.le_refl _) (.int .u8 ((UInt8.ofNat (237 + k) : UInt8).toNat))
        rw [show (((UInt8.ofNat (237 + k) : UInt8).toNat : Nat) : Int) = 237 + (k : Int) from HU2.out] at ho hb
        generalize hW : World.setCell wm _ _ = wn at ho hb ⊢
        clear c0 f0 OM BM hW
        have OM := Lib.hid ho
        have BM := Lib.hid hb
        clear ho hb
        obtain ⟨wm, hwm⟩ : ∃ W : World, W = wn := ⟨_, rfl⟩
        rw [← hwm] at OM BM ⊢
        clear hwm
        have c0 := OM.out.cellC 31 (by simp)
        have f0 := OM.out.freeC 31
        go_upto_region 12 with fail
        have ho := OM.out.setC 31 (127)
        have hb := BM.out.setCell (p := ⟨w2.heap.size, 31, none⟩) (Nat.le_refl _) (.int .u8 ((127 : UInt8).toNat))
        rw [show (((127 : UInt8).toNat : Nat) : Int) = 127 from rfl] at ho hb
        generalize hW : World.setCell wm _ _ = wn at ho hb ⊢
        clear c0 f0 OM BM hW
        have OM := Lib.hid ho
        have BM := Lib.hid hb
        clear ho hb
        obtain ⟨wm, hwm⟩ : ∃ W : World, W = wn := ⟨_, rfl⟩
        rw [← hwm] at OM BM ⊢
        clear hwm
        obtain ⟨w3, hw3⟩ : ∃ W : World, W = wm := ⟨_, rfl⟩
        rw [← hw3] at OM BM ⊢
        clear hw3
        have T3 := Lib.hid BM.out
        replace R_a := Lib.hid (R_a.out.stay T3.out)
        replace R_x := Lib.hid (R_x.out.stay T3.out)
        replace R_l := Lib.hid (R_l.out.stay T3.out)
        have HB3 := Lib.hid (HB2.out.trans (T3.out.mono s2))
        have s3 := HB3.out.size
        have R_h := Lib.hid OM.out.rd
        clear OM BM
        go_wp2_with fail
        refine (Shared_zero _ _ X (lowP k) _ HLX.out rfl R_x.out R_l.out (over_small X k HLX.out (by omega))).mono ?_
        rintro e w4 ⟨vs, rfl, hos, hb4⟩
        have T4 := Lib.hid hb4
        replace R_a := Lib.hid (R_a.out.stay T4.out)
        replace R_x := Lib.hid (R_x.out.stay T4.out)
        replace R_l := Lib.hid (R_l.out.stay T4.out)
        replace R_h := Lib.hid (R_h.out.stay T4.out)
        have HB4 := Lib.hid (HB3.out.trans (T4.out.mono s3))
        have s4 := HB4.out.size
        have R_s := Lib.hid hos.rd
        clear hb4 hos
        go_wp2_with fail
        refine (Shared_zero _ _ X (highP k) _ HLX.out rfl R_x.out R_h.out (by rw [over_same X k hk19]; exact over_small X k HLX.out (by omega))).mono ?_
        rintro e w5 ⟨vt, rfl, hot, hb5⟩
        have T5 := Lib.hid hb5
        replace R_a := Lib.hid (R_a.out.stay T5.out)
        replace R_x := Lib.hid (R_x.out.stay T5.out)
        replace R_l := Lib.hid (R_l.out.stay T5.out)
        replace R_h := Lib.hid (R_h.out.stay T5.out)
        replace R_s := Lib.hid (R_s.out.stay T5.out)
        have HB5 := Lib.hid (HB4.out.trans (T5.out.mono s4))
        have s5 := HB5.out.size
        have R_t := Lib.hid hot.rd
        clear hb5 hot
        go_wp2_with fail
        refine (Point_ok _ X _ HLX.out R_x.out).mono ?_
        rintro e w6 ⟨vg, rfl, hog, hb6⟩
        have T6 := Lib.hid hb6
        replace R_a := Lib.hid (R_a.out.stay T6.out)
        replace R_x := Lib.hid (R_x.out.stay T6.out)
        replace R_l := Lib.hid (R_l.out.stay T6.out)
        replace R_h := Lib.hid (R_h.out.stay T6.out)
        replace R_s := Lib.hid (R_s.out.stay T6.out)
        replace R_t := Lib.hid (R_t.out.stay T6.out)
        have HB6 := Lib.hid (HB5.out.trans (T6.out.mono s5))
        have s6 := HB6.out.size
        have R_g := Lib.hid hog.rd
        clear hb6 hog
        go_wp2_with fail
        refine (same_true _ _ _ _ _ R_s.out R_t.out (rfl)).mono ?_
        rintro e _ ⟨rfl, rfl⟩
        go_wp2
        go_ret
        exact ⟨rfl, HB6.out⟩

end Go.Proofs.Ythoganfinpfibaa
