/-
  The walk of conclavekeep.SealEmpty: of nothing just the tag is sealed.
-/
import Derived.Test.YtpkfbmafbkgcmaaSeaL
import Derived.Test.YtpkfbmafbkgcmaaFrm
set_option linter.unusedVariables false
set_option linter.unusedSimpArgs false
namespace Go.Proofs.Ytpkfbmafbkgcmaa
open Go.RowKit Go.Con

set_option maxRecDepth 100000 in
set_option maxHeartbeats 2000000 in
theorem walk_SealEmpty (vk : Value) (k : List UInt8) (vn : Value) (n : List UInt8) (va : Value) (a : List UInt8) (w : World) (hk : Rd w vk k) (hn : Rd w vn n) (ha : Rd w va a) :
    Calls Try.prog 18 #[vk, vn, va] w fun e w' => e = .returned (.bool true) ∧ Below w.heap.size w w' := by
  obtain ⟨ak, ck, rfl, hlck, hcmk⟩ := hk.slice
  have R_k := Lib.hid hk
  clear hk
  obtain ⟨an, cn, rfl, hlcn, hcmn⟩ := hn.slice
  have R_n := Lib.hid hn
  clear hn
  obtain ⟨aa, ca, rfl, hlca, hcma⟩ := ha.slice
  have R_a := Lib.hid ha
  clear ha
  have HB0 := Lib.hid (Below.refl w.heap.size w)
  have s0 : w.heap.size ≤ w.heap.size := Nat.le_refl _
  obtain ⟨K, hKe⟩ : ∃ K, K = fill k 32 := ⟨_, rfl⟩
  have hKl : K.length = 32 := by rw [hKe]; exact fill_length _ _
  have hfK := fun v w (h : Rd w v k) => filled_any v k 32 w h (by decide)
  rw [← hKe] at hfK
  have HFK := Lib.hid hfK
  have HLK := Lib.hid hKl
  have HEK := Lib.hid hKe
  clear hKe hKl hfK
  obtain ⟨N, hNe⟩ : ∃ K, K = fill n 12 := ⟨_, rfl⟩
  have hNl : N.length = 12 := by rw [hNe]; exact fill_length _ _
  have hfN := fun v w (h : Rd w v n) => filled_any v n 12 w h (by decide)
  rw [← hNe] at hfN
  have HFN := Lib.hid hfN
  have HLN := Lib.hid hNl
  have HEN := Lib.hid hNe
  clear hNe hNl hfN
  obtain ⟨Da, hDa⟩ : ∃ D, D = a.take 60 := ⟨_, rfl⟩
  have hDla : Da.length ≤ 60 := by rw [hDa]; simp; omega
  have hsa := fun v w (h : Rd w v a) => some_any v a 60 w h (by decide)
  rw [← hDa] at hsa
  have HSa := Lib.hid hsa
  have DLa := Lib.hid hDla
  have HDa := Lib.hid hDa
  clear hDa hDla hsa
  obtain ⟨X, hX⟩ : ∃ X, X = Sea.boxed K N Da [] := ⟨_, rfl⟩
  have hXl : X.length = 16 := by rw [hX, Sea.boxed_length]; rfl
  have HX_ := Lib.hid hX
  have HXL_ := Lib.hid hXl
  clear hX hXl
  go_enter Try.func18, Try.ntmps18
  go_wp2_with fail
  refine (HFK.out _ _ R_k.out).mono ?_
  rintro e w1 ⟨vkk, rfl, hokk, hb1⟩
  have T1 := Lib.hid hb1
  replace R_k := Lib.hid (R_k.out.stay T1.out)
  replace R_n := Lib.hid (R_n.out.stay T1.out)
  replace R_a := Lib.hid (R_a.out.stay T1.out)
  have HB1 := Lib.hid (HB0.out.trans (T1.out.mono s0))
  have s1 := HB1.out.size
  have R_kk := Lib.hid hokk.rd
  clear hb1 hokk
  go_wp2_with fail
  refine (HFN.out _ _ R_n.out).mono ?_
  rintro e w2 ⟨vnn, rfl, honn, hb2⟩
  have T2 := Lib.hid hb2
  replace R_k := Lib.hid (R_k.out.stay T2.out)
  replace R_n := Lib.hid (R_n.out.stay T2.out)
  replace R_a := Lib.hid (R_a.out.stay T2.out)
  replace R_kk := Lib.hid (R_kk.out.stay T2.out)
  have HB2 := Lib.hid (HB1.out.trans (T2.out.mono s1))
  have s2 := HB2.out.size
  have R_nn := Lib.hid honn.rd
  clear hb2 honn
  go_wp2_with fail
  refine (HSa.out _ _ R_a.out).mono ?_
  rintro e w3 ⟨vaa, rfl, hoaa, hb3⟩
  have T3 := Lib.hid hb3
  replace R_k := Lib.hid (R_k.out.stay T3.out)
  replace R_n := Lib.hid (R_n.out.stay T3.out)
  replace R_a := Lib.hid (R_a.out.stay T3.out)
  replace R_kk := Lib.hid (R_kk.out.stay T3.out)
  replace R_nn := Lib.hid (R_nn.out.stay T3.out)
  have HB3 := Lib.hid (HB2.out.trans (T3.out.mono s2))
  have s3 := HB3.out.size
  have R_aa := Lib.hid hoaa.rd
  clear hb3 hoaa
  go_wp2_with fail
  refine (Seal_ok _ _ _ _ K N Da [] _ R_kk.out R_nn.out R_aa.out (Rd.nil _) HLK.out HLN.out (by have := DLa.out; omega) (by decide)).mono ?_
  rintro e w4 ⟨vx, rfl, hox, hb4⟩
  have T4 := Lib.hid hb4
  replace R_k := Lib.hid (R_k.out.stay T4.out)
  replace R_n := Lib.hid (R_n.out.stay T4.out)
  replace R_a := Lib.hid (R_a.out.stay T4.out)
  replace R_kk := Lib.hid (R_kk.out.stay T4.out)
  replace R_nn := Lib.hid (R_nn.out.stay T4.out)
  replace R_aa := Lib.hid (R_aa.out.stay T4.out)
  have HB4 := Lib.hid (HB3.out.trans (T4.out.mono s3))
  have s4 := HB4.out.size
  have R_x := Lib.hid hox.rd
  clear hb4 hox
  rw [← HX_.out] at R_x
  obtain ⟨ax, cx, hvx, hcx, hcmx⟩ := R_x.out.sliceN 16 (HXL_.out)
  subst hvx
  go_wp2_with fail
  refine (HSa.out _ _ R_a.out).mono ?_
  rintro e w5 ⟨vab, rfl, hoab, hb5⟩
  have T5 := Lib.hid hb5
  replace R_k := Lib.hid (R_k.out.stay T5.out)
  replace R_n := Lib.hid (R_n.out.stay T5.out)
  replace R_a := Lib.hid (R_a.out.stay T5.out)
  replace R_kk := Lib.hid (R_kk.out.stay T5.out)
  replace R_nn := Lib.hid (R_nn.out.stay T5.out)
  replace R_aa := Lib.hid (R_aa.out.stay T5.out)
  replace R_x := Lib.hid (R_x.out.stay T5.out)
  have HB5 := Lib.hid (HB4.out.trans (T5.out.mono s4))
  have s5 := HB5.out.size
  have R_ab := Lib.hid hoab.rd
  clear hb5 hoab
  go_wp2_with fail
  refine (Open_sealed _ _ _ _ K N Da [] X _ R_kk.out R_nn.out R_ab.out R_x.out HLK.out HLN.out (by have := DLa.out; omega) (by decide) HX_.out).mono ?_
  rintro e w6 ⟨vy, rfl, hoy, hb6⟩
  have T6 := Lib.hid hb6
  replace R_k := Lib.hid (R_k.out.stay T6.out)
  replace R_n := Lib.hid (R_n.out.stay T6.out)
  replace R_a := Lib.hid (R_a.out.stay T6.out)
  replace R_kk := Lib.hid (R_kk.out.stay T6.out)
  replace R_nn := Lib.hid (R_nn.out.stay T6.out)
  replace R_aa := Lib.hid (R_aa.out.stay T6.out)
  replace R_x := Lib.hid (R_x.out.stay T6.out)
  replace R_ab := Lib.hid (R_ab.out.stay T6.out)
  have HB6 := Lib.hid (HB5.out.trans (T6.out.mono s5))
  have s6 := HB6.out.size
  have R_y := Lib.hid hoy.rd
  clear hb6 hoy
  obtain ⟨ay, cy, hvy, hcy, hcmy⟩ := R_y.out.sliceN 0 (rfl)
  subst hvy
  go_wp2
  go_ret
  exact ⟨rfl, HB6.out⟩

end Go.Proofs.Ytpkfbmafbkgcmaa
