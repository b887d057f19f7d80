/-
  The walk of conclavekeep.SealSize: sizes are told.
-/
import Derived.Test.YtpkfbmafbkgcmaaSeaL
import Derived.Test.YtpkfbmafbkgcmaaFrm
import Derived.Test.YtpkfbmafbkgcmaaPick
set_option linter.unusedVariables false
set_option linter.unusedSimpArgs false
namespace Go.Proofs.Ytpkfbmafbkgcmaa
open Go.RowKit Go.Con

set_option maxRecDepth 100000 in
set_option maxHeartbeats 2000000 in
theorem walk_SealSize (vk : Value) (k : List UInt8) (vn : Value) (n : List UInt8) (vm : Value) (m : Int) (w : World) (hk : Rd w vk k) (hn : Rd w vn n) (hm : IsInt vm m) :
    Calls Try.prog 17 #[vk, vn, vm] w fun e w' => e = .returned (.bool true) ∧ Below w.heap.size w w' := by
  obtain ⟨ak, ck, rfl, hlck, hcmk⟩ := hk.slice
  have R_k := Lib.hid hk
  clear hk
  obtain ⟨an, cn, rfl, hlcn, hcmn⟩ := hn.slice
  have R_n := Lib.hid hn
  clear hn
  obtain ⟨rfl, hm1, hm2⟩ := hm
  have HB0 := Lib.hid (Below.refl w.heap.size w)
  have s0 : w.heap.size ≤ w.heap.size := Nat.le_refl _
  obtain ⟨K, hKe⟩ : ∃ K, K = fill k 32 := ⟨_, rfl⟩
  have hKl : K.length = 32 := by rw [hKe]; exact fill_length _ _
  have hfK := fun v w (h : Rd w v k) => filled_any v k 32 w h (by decide)
  rw [← hKe] at hfK
  have HFK := Lib.hid hfK
  have HLK := Lib.hid hKl
  have HEK := Lib.hid hKe
  clear hKe hKl hfK
  obtain ⟨N, hNe⟩ : ∃ K, K = fill n 12 := ⟨_, rfl⟩
  have hNl : N.length = 12 := by rw [hNe]; exact fill_length _ _
  have hfN := fun v w (h : Rd w v n) => filled_any v n 12 w h (by decide)
  rw [← hNe] at hfN
  have HFN := Lib.hid hfN
  have HLN := Lib.hid hNl
  have HEN := Lib.hid hNe
  clear hNe hNl hfN
  have p0 := pick_nonneg m 16 (by decide)
  have p1 := pick_lt m 16 (by decide)
  obtain ⟨q, hq⟩ : ∃ c : Nat, pick m 16 = (c : Int) := ⟨(pick m 16).toNat, by omega⟩
  have hpm := fun w => picked_any m 16 w hm1 hm2 (by decide)
  rw [hq] at hpm
  have HPM := Lib.hid hpm
  have hq16 : q < 16 := by omega
  clear hpm hq p0 p1
  obtain ⟨X, hX⟩ : ∃ X, X = Sea.boxed K N [] (List.replicate 2000 0) := ⟨_, rfl⟩
  have hXl : X.length = 2016 := by rw [hX, Sea.boxed_length, List.length_replicate]
  have HX_ := Lib.hid hX
  have HXL_ := Lib.hid hXl
  clear hX hXl
  go_enter Try.func17, Try.ntmps17
  go_wp2_with fail
  refine (HFK.out _ _ R_k.out).mono ?_
  rintro e w1 ⟨vkk, rfl, hokk, hb1⟩
  have T1 := Lib.hid hb1
  replace R_k := Lib.hid (R_k.out.stay T1.out)
  replace R_n := Lib.hid (R_n.out.stay T1.out)
  have HB1 := Lib.hid (HB0.out.trans (T1.out.mono s0))
  have s1 := HB1.out.size
  have R_kk := Lib.hid hokk.rd
  clear hb1 hokk
  obtain ⟨akk, ckk, hvkk, hckk, hcmkk⟩ := R_kk.out.sliceN 32 (HLK.out)
  subst hvkk
  have hck1 : (31 : Int) ≤ (ckk : Int) := by omega
  have R0 := R_kk
  go_wp2_with fail
  refine (HFN.out _ _ R_n.out).mono ?_
  rintro e w2 ⟨vnn, rfl, honn, hb2⟩
  have T2 := Lib.hid hb2
  replace R_k := Lib.hid (R_k.out.stay T2.out)
  replace R_n := Lib.hid (R_n.out.stay T2.out)
  replace R_kk := Lib.hid (R_kk.out.stay T2.out)
  have HB2 := Lib.hid (HB1.out.trans (T2.out.mono s1))
  have s2 := HB2.out.size
  have R_nn := Lib.hid honn.rd
  have O_nn := Lib.hid honn
  clear hb2 honn
  obtain ⟨gn, cn_, hvn, hgn, hgnl, hcn, hcnm⟩ := O_nn.out.shape (by intro h; have := HLN.out; rw [h] at this; cases this)
  rw [HLN.out] at hvn hcn
  subst hvn
  go_wp2_with fail
  refine (Seal_bad _ _ none none 31 12 _ _ _ _ 0 0 _ (by omega)).mono ?_
  rintro e _ ⟨rfl, rfl⟩
  have R0_kk := Lib.hid (show Rd w1 _ K from R0.out)
  go_wp2_with (at_builtin; refine apBo rfl (.tmp 34) (.tmp 35) rfl w1.heap.size _ _ _ _ N [0] rfl (O_nn.out.alloc _) rfl rfl (newB _ 0 0 rfl) (by rw [HLN.out]; decide) (by have := T2.out.size; simp; omega) ?_; intro v3 wm ho3 hg3 hr3; have O3 := Lib.hid ho3; have G3 := Lib.hid hg3; have R3 := Lib.hid hr3; clear ho3 hg3 hr3)
  have h13 : (N ++ [0]).length = 13 := by rw [List.length_append, HLN.out]; rfl
  obtain ⟨a3, c3, hv3, _, _⟩ := O3.out.rd.sliceN 13 h13
  subst hv3
  have hbm : Below w1.heap.size w2 wm := ((Below.refl _ w2).alloc T2.out.size _).grown G3.out (by have := T2.out.size; simp; omega) (fun k hk => (O_nn.out.lt k hk).1)
  have R_k4 := Lib.hid (R0_kk.out.stay (T2.out.trans hbm))
  have HBm := Lib.hid (HB1.out.trans ((T2.out.trans hbm).mono s1))
  have sm := HBm.out.size
  have R_n4 := R3
  clear hbm G3 O3 h13
  refine (Seal_bad _ _ none none 32 13 _ _ _ _ 0 0 _ (by omega)).mono ?_
  rintro e _ ⟨rfl, rfl⟩
  clear R_kk R_nn
  have HB100 := HBm
  have s100 := sm
  go_wp2_with ((refine makeB _ rfl _ _ rfl 257 _ _ rfl rfl rfl rfl (by decide) ?_; intro w101 hom hb101; have HOM := Lib.hid hom; have HBM := Lib.hid hb101; clear hom hb101))
  have T101 := Lib.hid HBM.out
  replace R_k4 := Lib.hid (R_k4.out.stay T101.out)
  replace R_n4 := Lib.hid (R_n4.out.stay T101.out)
  have HB101 := Lib.hid (HB100.out.trans (T101.out.mono s100))
  have s101 := HB101.out.size
  have R_g := Lib.hid HOM.out.rd
  clear HOM HBM
  refine (Seal_bad _ _ _ none 32 12 _ _ _ _ 257 0 _ (by omega)).mono ?_
  rintro e _ ⟨rfl, rfl⟩
  go_wp2_with ((refine makeB _ rfl _ _ rfl 2001 _ _ rfl rfl rfl rfl (by decide) ?_; intro w102 hom hb102; have HOM := Lib.hid hom; have HBM := Lib.hid hb102; clear hom hb102))
  have T102 := Lib.hid HBM.out
  replace R_k4 := Lib.hid (R_k4.out.stay T102.out)
  replace R_n4 := Lib.hid (R_n4.out.stay T102.out)
  replace R_g := Lib.hid (R_g.out.stay T102.out)
  have HB102 := Lib.hid (HB101.out.trans (T102.out.mono s101))
  have s102 := HB102.out.size
  have R_h := Lib.hid HOM.out.rd
  clear HOM HBM
  refine (Seal_bad _ _ none _ 32 12 _ _ _ _ 0 2001 _ (by omega)).mono ?_
  rintro e _ ⟨rfl, rfl⟩
  go_wp2_with fail
  refine (HPM.out _).mono ?_
  rintro e _ ⟨rfl, rfl⟩
  go_wp2_with ((refine makeB _ rfl _ _ rfl q _ _ rfl rfl rfl rfl (by omega) ?_; intro w103 hom hb103; have HOM := Lib.hid hom; have HBM := Lib.hid hb103; clear hom hb103))
  have T103 := Lib.hid HBM.out
  replace R_k4 := Lib.hid (R_k4.out.stay T103.out)
  replace R_n4 := Lib.hid (R_n4.out.stay T103.out)
  replace R_g := Lib.hid (R_g.out.stay T103.out)
  replace R_h := Lib.hid (R_h.out.stay T103.out)
  have HB103 := Lib.hid (HB102.out.trans (T103.out.mono s102))
  have s103 := HB103.out.size
  have R_i := Lib.hid HOM.out.rd
  clear HOM HBM
  refine (Open_short _ _ none _ _ _ _ _ 0 q _ (by omega) hq16).mono ?_
  rintro e _ ⟨rfl, rfl⟩
  go_wp2_with ((refine makeB _ rfl _ _ rfl 2000 _ _ rfl rfl rfl rfl (by decide) ?_; intro w104 hom hb104; have HOM := Lib.hid hom; have HBM := Lib.hid hb104; clear hom hb104))
  have T104 := Lib.hid HBM.out
  replace R_k4 := Lib.hid (R_k4.out.stay T104.out)
  replace R_n4 := Lib.hid (R_n4.out.stay T104.out)
  replace R_g := Lib.hid (R_g.out.stay T104.out)
  replace R_h := Lib.hid (R_h.out.stay T104.out)
  replace R_i := Lib.hid (R_i.out.stay T104.out)
  have HB104 := Lib.hid (HB103.out.trans (T104.out.mono s103))
  have s104 := HB104.out.size
  have R_j := Lib.hid HOM.out.rd
  clear HOM HBM
  refine (Seal_ok _ _ _ _ K N [] _ _ R_k4.out R_n4.out (Rd.nil _) R_j.out HLK.out HLN.out (by decide) (by simp)).mono ?_
  rintro e w105 ⟨vx, rfl, hox, hb105⟩
  have T105 := Lib.hid hb105
  replace R_k4 := Lib.hid (R_k4.out.stay T105.out)
  replace R_n4 := Lib.hid (R_n4.out.stay T105.out)
  replace R_g := Lib.hid (R_g.out.stay T105.out)
  replace R_h := Lib.hid (R_h.out.stay T105.out)
  replace R_i := Lib.hid (R_i.out.stay T105.out)
  replace R_j := Lib.hid (R_j.out.stay T105.out)
  have HB105 := Lib.hid (HB104.out.trans (T105.out.mono s104))
  have s105 := HB105.out.size
  have R_x := Lib.hid hox.rd
  clear hb105 hox
  rw [← HX_.out] at R_x
  obtain ⟨ax, cx, hvx, hcx, hcmx⟩ := R_x.out.sliceN 2016 (HXL_.out)
  subst hvx
  go_wp2
  go_ret
  exact ⟨rfl, HB105.out⟩

end Go.Proofs.Ytpkfbmafbkgcmaa
