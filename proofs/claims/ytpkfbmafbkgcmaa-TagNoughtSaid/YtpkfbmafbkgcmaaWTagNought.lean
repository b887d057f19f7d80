/-
  The walk of conclavekeep.TagNought: under a nought the tag is the second half.
-/
import Derived.Test.YtpkfbmafbkgcmaaTag
import Derived.Test.YtpkfbmafbkgcmaaTagP
import Derived.Test.YtpkfbmafbkgcmaaFilled
import Derived.Test.YtpkfbmafbkgcmaaSome
import Derived.Test.YtpkfbmafbkgcmaaSameK
import Derived.Test.YtpkfbmafbkgcmaaFrm
import Derived.Test.YtpkfbmafbkgcmaaTail
set_option linter.unusedVariables false
set_option linter.unusedSimpArgs false
namespace Go.Proofs.Ytpkfbmafbkgcmaa
open Go.RowKit Go.Con

set_option maxRecDepth 100000 in
set_option maxHeartbeats 1000000 in
theorem walk_TagNought (va : Value) (a : List UInt8) (vd : Value) (d : List UInt8) (w : World) (ha : Rd w va a) (hd : Rd w vd d) :
    Calls Try.prog 7 #[va, vd] w fun e w' => e = .returned (.bool true) ∧ Below w.heap.size w w' := by
  obtain ⟨aa, ca, rfl, hlca, hcma⟩ := ha.slice
  have R_a := Lib.hid ha
  clear ha
  obtain ⟨ad, cd, rfl, hlcd, hcmd⟩ := hd.slice
  have R_d := Lib.hid hd
  clear hd
  have HB0 := Lib.hid (Below.refl w.heap.size w)
  have s0 : w.heap.size ≤ w.heap.size := Nat.le_refl _
  obtain ⟨Dd, hDd⟩ : ∃ D, D = d.take 200 := ⟨_, rfl⟩
  have hDld : Dd.length ≤ 200 := by rw [hDd]; simp; omega
  have hsd := fun v w (h : Rd w v d) => some_any v d 200 w h (by decide)
  rw [← hDd] at hsd
  have HSd := Lib.hid hsd
  have DLd := Lib.hid hDld
  have HDd := Lib.hid hDd
  clear hDd hDld hsd
  obtain ⟨K, hKe⟩ : ∃ K, K = fill a 32 := ⟨_, rfl⟩
  have hKl : K.length = 32 := by rw [hKe]; exact fill_length _ _
  have hfK := fun v w (h : Rd w v a) => filled_any v a 32 w h (by decide)
  rw [← hKe] at hfK
  have HFK := Lib.hid hfK
  have HLK := Lib.hid hKl
  have HEK := Lib.hid hKe
  clear hKe hKl hfK
  obtain ⟨S, hS⟩ : ∃ S, S = K.drop 16 := ⟨_, rfl⟩
  have hSl : S.length = 16 := by rw [hS, List.length_drop, HLK.out]
  have htn := Pol.tag_nought S Dd hSl
  have htk : Pol.tag K [] = S := by rw [hS]; exact Pol.tag_nil K HLK.out
  have HS := Lib.hid hS
  have HSL := Lib.hid hSl
  have HTN := Lib.hid htn
  have HTK := Lib.hid htk
  clear hS hSl htn htk
  go_enter Try.func7, Try.ntmps7
  go_wp2_with fail
  refine (HFK.out _ _ R_a.out).mono ?_
  rintro e w1 ⟨vk, rfl, hok, hb1⟩
  have T1 := Lib.hid hb1
  replace R_a := Lib.hid (R_a.out.stay T1.out)
  replace R_d := Lib.hid (R_d.out.stay T1.out)
  have HB1 := Lib.hid (HB0.out.trans (T1.out.mono s0))
  have s1 := HB1.out.size
  have R_k := Lib.hid hok.rd
  clear hb1 hok
  obtain ⟨bk, ok, ck, hvk, hck, hcmk⟩ := R_k.out.shapeN 32 HLK.out (by decide)
  subst hvk
  have hck1 : (16 : Int) ≤ (ck : Int) := by omega
  have hck2 : (31 : Int) ≤ (ck : Int) := by omega
  have hrs := R_k.out.tail 16 16 (by decide) rfl
  rw [← HS.out] at hrs
  have R_s := Lib.hid hrs
  clear hrs
  have hr31 := R_k.out.pre 31 (by rw [HLK.out]; decide)
  have R_x := Lib.hid hr31
  clear hr31
  go_wp2_with (first
    | (refine makeB _ rfl _ _ rfl 16 _ _ rfl rfl rfl rfl (by decide) ?_; intro wm hom hbm; have OM := Lib.hid hom; have BM := Lib.hid hbm; clear hom hbm)
    | (at_builtin; refine apB rfl (.tmp 18) (.tmp 19) rfl w1.heap.size _ _ (List.replicate 16 0) S rfl OM.out rfl (R_s.out.stay BM.out) (by rw [HSL.out]; decide) BM.out.size ?_; intro v2 w2 ho2 hg2; have O2 := Lib.hid ho2; have G2 := Lib.hid hg2; clear ho2 hg2))
  have T2 := Lib.hid (BM.out.grown G2.out BM.out.size (fun k hk => (OM.out.lt k hk).1))
  replace R_a := Lib.hid (R_a.out.stay T2.out)
  replace R_d := Lib.hid (R_d.out.stay T2.out)
  replace R_k := Lib.hid (R_k.out.stay T2.out)
  replace R_s := Lib.hid (R_s.out.stay T2.out)
  replace R_x := Lib.hid (R_x.out.stay T2.out)
  have HB2 := Lib.hid (HB1.out.trans (T2.out.mono s1))
  have s2 := HB2.out.size
  have R_y := Lib.hid O2.out.rd
  clear OM BM G2
  refine (HSd.out _ _ R_d.out).mono ?_
  rintro e w3 ⟨vp, rfl, hop, hb3⟩
  have T3 := Lib.hid hb3
  replace R_a := Lib.hid (R_a.out.stay T3.out)
  replace R_d := Lib.hid (R_d.out.stay T3.out)
  replace R_k := Lib.hid (R_k.out.stay T3.out)
  replace R_s := Lib.hid (R_s.out.stay T3.out)
  replace R_x := Lib.hid (R_x.out.stay T3.out)
  replace R_y := Lib.hid (R_y.out.stay T3.out)
  have HB3 := Lib.hid (HB2.out.trans (T3.out.mono s2))
  have s3 := HB3.out.size
  have R_p := Lib.hid hop.rd
  clear hb3 hop
  go_wp2_with fail
  refine (Tag_ok _ _ _ _ _ R_y.out R_p.out (by simp [HSL.out]) (by have := DLd.out; omega)).mono ?_
  rintro e w4 ⟨vt, rfl, hot, hb4⟩
  have T4 := Lib.hid hb4
  replace R_a := Lib.hid (R_a.out.stay T4.out)
  replace R_d := Lib.hid (R_d.out.stay T4.out)
  replace R_k := Lib.hid (R_k.out.stay T4.out)
  replace R_s := Lib.hid (R_s.out.stay T4.out)
  replace R_x := Lib.hid (R_x.out.stay T4.out)
  replace R_y := Lib.hid (R_y.out.stay T4.out)
  replace R_p := Lib.hid (R_p.out.stay T4.out)
  have HB4 := Lib.hid (HB3.out.trans (T4.out.mono s3))
  have s4 := HB4.out.size
  have R_t := Lib.hid hot.rd
  clear hb4 hot
  rw [HTN.out] at R_t
  clear R_y
  clear R_p
  go_wp2_with fail
  refine (Tag_ok _ _ K [] _ R_k.out (Rd.nil _) HLK.out (by decide)).mono ?_
  rintro e w5 ⟨vu, rfl, hou, hb5⟩
  have T5 := Lib.hid hb5
  replace R_a := Lib.hid (R_a.out.stay T5.out)
  replace R_d := Lib.hid (R_d.out.stay T5.out)
  replace R_k := Lib.hid (R_k.out.stay T5.out)
  replace R_s := Lib.hid (R_s.out.stay T5.out)
  replace R_x := Lib.hid (R_x.out.stay T5.out)
  replace R_t := Lib.hid (R_t.out.stay T5.out)
  have HB5 := Lib.hid (HB4.out.trans (T5.out.mono s4))
  have s5 := HB5.out.size
  have R_u := Lib.hid hou.rd
  clear hb5 hou
  rw [HTK.out] at R_u
  go_wp2_with fail
  refine (Tag_key _ _ 31 _ _ (by decide)).mono ?_
  rintro e _ ⟨rfl, rfl⟩
  go_wp2_with fail
  refine (same_true _ _ _ _ _ R_t.out R_s.out rfl).mono ?_
  rintro e _ ⟨rfl, rfl⟩
  go_wp2_with fail
  refine (same_true _ _ _ _ _ R_u.out R_s.out rfl).mono ?_
  rintro e _ ⟨rfl, rfl⟩
  go_wp2
  go_ret
  exact ⟨rfl, HB5.out⟩

end Go.Proofs.Ytpkfbmafbkgcmaa
