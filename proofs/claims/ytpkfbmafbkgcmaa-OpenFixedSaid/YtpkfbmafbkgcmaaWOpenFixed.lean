/-
  The walk of conclavekeep.OpenFixed: what is opened is what sealing makes.
-/
import Derived.Test.YtpkfbmafbkgcmaaSeaL
import Derived.Test.YtpkfbmafbkgcmaaFrm
set_option linter.unusedVariables false
set_option linter.unusedSimpArgs false
namespace Go.Proofs.Ytpkfbmafbkgcmaa
open Go.RowKit Go.Con

set_option maxRecDepth 100000 in
set_option maxHeartbeats 2000000 in
theorem walk_OpenFixed (vk : Value) (k : List UInt8) (vn : Value) (n : List UInt8) (va : Value) (a : List UInt8) (vp : Value) (p : List UInt8) (w : World) (hk : Rd w vk k) (hn : Rd w vn n) (ha : Rd w va a) (hp : Rd w vp p) :
    Calls Try.prog 16 #[vk, vn, va, vp] w fun e w' => e = .returned (.bool true) ∧ Below w.heap.size w w' := by
  obtain ⟨ak, ck, rfl, hlck, hcmk⟩ := hk.slice
  have R_k := Lib.hid hk
  clear hk
  obtain ⟨an, cn, rfl, hlcn, hcmn⟩ := hn.slice
  have R_n := Lib.hid hn
  clear hn
  obtain ⟨aa, ca, rfl, hlca, hcma⟩ := ha.slice
  have R_a := Lib.hid ha
  clear ha
  obtain ⟨ap, cp, rfl, hlcp, hcmp⟩ := hp.slice
  have R_p := Lib.hid hp
  clear hp
  have HB0 := Lib.hid (Below.refl w.heap.size w)
  have s0 : w.heap.size ≤ w.heap.size := Nat.le_refl _
  obtain ⟨K, hKe⟩ : ∃ K, K = fill k 32 := ⟨_, rfl⟩
  have hKl : K.length = 32 := by rw [hKe]; exact fill_length _ _
  have hfK := fun v w (h : Rd w v k) => filled_any v k 32 w h (by decide)
  rw [← hKe] at hfK
  have HFK := Lib.hid hfK
  have HLK := Lib.hid hKl
  have HEK := Lib.hid hKe
  clear hKe hKl hfK
  obtain ⟨N, hNe⟩ : ∃ K, K = fill n 12 := ⟨_, rfl⟩
  have hNl : N.length = 12 := by rw [hNe]; exact fill_length _ _
  have hfN := fun v w (h : Rd w v n) => filled_any v n 12 w h (by decide)
  rw [← hNe] at hfN
  have HFN := Lib.hid hfN
  have HLN := Lib.hid hNl
  have HEN := Lib.hid hNe
  clear hNe hNl hfN
  obtain ⟨Da, hDa⟩ : ∃ D, D = a.take 60 := ⟨_, rfl⟩
  have hDla : Da.length ≤ 60 := by rw [hDa]; simp; omega
  have hsa := fun v w (h : Rd w v a) => some_any v a 60 w h (by decide)
  rw [← hDa] at hsa
  have HSa := Lib.hid hsa
  have DLa := Lib.hid hDla
  have HDa := Lib.hid hDa
  clear hDa hDla hsa
  obtain ⟨Dp, hDp⟩ : ∃ D, D = p.take 300 := ⟨_, rfl⟩
  have hDlp : Dp.length ≤ 300 := by rw [hDp]; simp; omega
  have hsp := fun v w (h : Rd w v p) => some_any v p 300 w h (by decide)
  rw [← hDp] at hsp
  have HSp := Lib.hid hsp
  have DLp := Lib.hid hDlp
  have HDp := Lib.hid hDp
  clear hDp hDlp hsp
  obtain ⟨L, hL⟩ : ∃ L, Dp.length = L := ⟨_, rfl⟩
  have hLb : L ≤ 300 := by rw [← hL]; exact DLp.out
  have HL := Lib.hid hL
  clear hL
  by_cases hL16 : L < 16
  · have hd16 : decide ((L : Int) < 16) = true := by rw [decide_eq_true_eq]; omega
    go_enter Try.func16, Try.ntmps16
    go_wp2_with fail
    refine (HFK.out _ _ R_k.out).mono ?_
    rintro e w1 ⟨vkk, rfl, hokk, hb1⟩
    have T1 := Lib.hid hb1
    replace R_k := Lib.hid (R_k.out.stay T1.out)
    replace R_n := Lib.hid (R_n.out.stay T1.out)
    replace R_a := Lib.hid (R_a.out.stay T1.out)
    replace R_p := Lib.hid (R_p.out.stay T1.out)
    have HB1 := Lib.hid (HB0.out.trans (T1.out.mono s0))
    have s1 := HB1.out.size
    have R_kk := Lib.hid hokk.rd
    clear hb1 hokk
    go_wp2_with fail
    refine (HFN.out _ _ R_n.out).mono ?_
    rintro e w2 ⟨vnn, rfl, honn, hb2⟩
    have T2 := Lib.hid hb2
    replace R_k := Lib.hid (R_k.out.stay T2.out)
    replace R_n := Lib.hid (R_n.out.stay T2.out)
    replace R_a := Lib.hid (R_a.out.stay T2.out)
    replace R_p := Lib.hid (R_p.out.stay T2.out)
    replace R_kk := Lib.hid (R_kk.out.stay T2.out)
    have HB2 := Lib.hid (HB1.out.trans (T2.out.mono s1))
    have s2 := HB2.out.size
    have R_nn := Lib.hid honn.rd
    clear hb2 honn
    go_wp2_with fail
    refine (HSp.out _ _ R_p.out).mono ?_
    rintro e w3 ⟨vpp, rfl, hopp, hb3⟩
    have T3 := Lib.hid hb3
    replace R_k := Lib.hid (R_k.out.stay T3.out)
    replace R_n := Lib.hid (R_n.out.stay T3.out)
    replace R_a := Lib.hid (R_a.out.stay T3.out)
    replace R_p := Lib.hid (R_p.out.stay T3.out)
    replace R_kk := Lib.hid (R_kk.out.stay T3.out)
    replace R_nn := Lib.hid (R_nn.out.stay T3.out)
    have HB3 := Lib.hid (HB2.out.trans (T3.out.mono s2))
    have s3 := HB3.out.size
    have R_pp := Lib.hid hopp.rd
    clear hb3 hopp
    obtain ⟨app, cpp, hvpp, hcpp, hcmpp⟩ := R_pp.out.sliceN L (HL.out)
    subst hvpp
    go_wp2_with fail
    refine (HSa.out _ _ R_a.out).mono ?_
    rintro e w4 ⟨vaa, rfl, hoaa, hb4⟩
    have T4 := Lib.hid hb4
    replace R_k := Lib.hid (R_k.out.stay T4.out)
    replace R_n := Lib.hid (R_n.out.stay T4.out)
    replace R_a := Lib.hid (R_a.out.stay T4.out)
    replace R_p := Lib.hid (R_p.out.stay T4.out)
    replace R_kk := Lib.hid (R_kk.out.stay T4.out)
    replace R_nn := Lib.hid (R_nn.out.stay T4.out)
    replace R_pp := Lib.hid (R_pp.out.stay T4.out)
    have HB4 := Lib.hid (HB3.out.trans (T4.out.mono s3))
    have s4 := HB4.out.size
    have R_aa := Lib.hid hoaa.rd
    clear hb4 hoaa
    obtain ⟨m, hm⟩ : ∃ m, Da.length = m := ⟨_, rfl⟩
    have hm6 : m ≤ 60 := by rw [← hm]; exact DLa.out
    have HM := Lib.hid hm
    clear hm
    obtain ⟨aaa, caa, hvaa, hcaa, hcmaa⟩ := R_aa.out.sliceN m (HM.out)
    subst hvaa
    obtain ⟨akk, ckk, hvkk, hckk, hcmkk⟩ := R_kk.out.sliceN 32 (HLK.out)
    subst hvkk
    obtain ⟨ann, cnn, hvnn, hcnn, hcmnn⟩ := R_nn.out.sliceN 12 (HLN.out)
    subst hvnn
    go_wp2_with fail
    refine (Open_short _ _ _ _ _ _ _ _ m L _ (by omega) hL16).mono ?_
    rintro e _ ⟨rfl, rfl⟩
    go_wp2
    go_ret
    exact ⟨rfl, HB4.out⟩
  · obtain ⟨n, hn⟩ : ∃ n, L = n + 16 := ⟨L - 16, by omega⟩
    subst hn
    have hn3 : n ≤ 300 := by omega
    obtain ⟨P, hP⟩ : ∃ P, P = Cha.mix K 1 N (Dp.take n) := ⟨_, rfl⟩
    have hPl : P.length = n := by rw [hP, Cha.mix_length, List.length_take, HL.out]; omega
    have hag := Sea.boxed_again K N Da Dp n
    rw [← hP] at hag
    have HP_ := Lib.hid hP
    have HPL_ := Lib.hid hPl
    have HAG_ := Lib.hid hag
    clear hP hPl hag
    go_enter Try.func16, Try.ntmps16
    go_wp2_with fail
    refine (HFK.out _ _ R_k.out).mono ?_
    rintro e w1 ⟨vkk, rfl, hokk, hb1⟩
    have T1 := Lib.hid hb1
    replace R_k := Lib.hid (R_k.out.stay T1.out)
    replace R_n := Lib.hid (R_n.out.stay T1.out)
    replace R_a := Lib.hid (R_a.out.stay T1.out)
    replace R_p := Lib.hid (R_p.out.stay T1.out)
    have HB1 := Lib.hid (HB0.out.trans (T1.out.mono s0))
    have s1 := HB1.out.size
    have R_kk := Lib.hid hokk.rd
    clear hb1 hokk
    go_wp2_with fail
    refine (HFN.out _ _ R_n.out).mono ?_
    rintro e w2 ⟨vnn, rfl, honn, hb2⟩
    have T2 := Lib.hid hb2
    replace R_k := Lib.hid (R_k.out.stay T2.out)
    replace R_n := Lib.hid (R_n.out.stay T2.out)
    replace R_a := Lib.hid (R_a.out.stay T2.out)
    replace R_p := Lib.hid (R_p.out.stay T2.out)
    replace R_kk := Lib.hid (R_kk.out.stay T2.out)
    have HB2 := Lib.hid (HB1.out.trans (T2.out.mono s1))
    have s2 := HB2.out.size
    have R_nn := Lib.hid honn.rd
    clear hb2 honn
    go_wp2_with fail
    refine (HSp.out _ _ R_p.out).mono ?_
    rintro e w3 ⟨vpp, rfl, hopp, hb3⟩
    have T3 := Lib.hid hb3
    replace R_k := Lib.hid (R_k.out.stay T3.out)
    replace R_n := Lib.hid (R_n.out.stay T3.out)
    replace R_a := Lib.hid (R_a.out.stay T3.out)
    replace R_p := Lib.hid (R_p.out.stay T3.out)
    replace R_kk := Lib.hid (R_kk.out.stay T3.out)
    replace R_nn := Lib.hid (R_nn.out.stay T3.out)
    have HB3 := Lib.hid (HB2.out.trans (T3.out.mono s2))
    have s3 := HB3.out.size
    have R_pp := Lib.hid hopp.rd
    clear hb3 hopp
    obtain ⟨app, cpp, hvpp, hcpp, hcmpp⟩ := R_pp.out.sliceN (n + 16) (HL.out)
    subst hvpp
    go_wp2_with fail
    refine (HSa.out _ _ R_a.out).mono ?_
    rintro e w4 ⟨vaa, rfl, hoaa, hb4⟩
    have T4 := Lib.hid hb4
    replace R_k := Lib.hid (R_k.out.stay T4.out)
    replace R_n := Lib.hid (R_n.out.stay T4.out)
    replace R_a := Lib.hid (R_a.out.stay T4.out)
    replace R_p := Lib.hid (R_p.out.stay T4.out)
    replace R_kk := Lib.hid (R_kk.out.stay T4.out)
    replace R_nn := Lib.hid (R_nn.out.stay T4.out)
    replace R_pp := Lib.hid (R_pp.out.stay T4.out)
    have HB4 := Lib.hid (HB3.out.trans (T4.out.mono s3))
    have s4 := HB4.out.size
    have R_aa := Lib.hid hoaa.rd
    clear hb4 hoaa
    have hop := fun kv nv av dv w h1 h2 h3 h4 => Open_any kv nv av dv K N Da Dp n w h1 h2 h3 h4 HLK.out HLN.out (by have := DLa.out; omega) HL.out (by omega)
    have HOP := Lib.hid hop
    clear hop
    go_wp2_with fail
    refine (HOP.out _ _ _ _ _ R_kk.out R_nn.out R_aa.out R_pp.out).mono ?_
    rintro e w5 (⟨heq, vx, rfl, hox, hb5⟩ | ⟨_, rfl, hb5⟩)
    · rw [← HP_.out] at hox
      have HEQ := Lib.hid (HAG_.out heq)
      clear heq
      have T5 := Lib.hid hb5
      replace R_k := Lib.hid (R_k.out.stay T5.out)
      replace R_n := Lib.hid (R_n.out.stay T5.out)
      replace R_a := Lib.hid (R_a.out.stay T5.out)
      replace R_p := Lib.hid (R_p.out.stay T5.out)
      replace R_kk := Lib.hid (R_kk.out.stay T5.out)
      replace R_nn := Lib.hid (R_nn.out.stay T5.out)
      replace R_pp := Lib.hid (R_pp.out.stay T5.out)
      replace R_aa := Lib.hid (R_aa.out.stay T5.out)
      have HB5 := Lib.hid (HB4.out.trans (T5.out.mono s4))
      have s5 := HB5.out.size
      have R_x := Lib.hid hox.rd
      clear hox hb5
      obtain ⟨ax, cx, hvx, hcx, hcmx⟩ := R_x.out.sliceN n (HPL_.out)
      subst hvx
      go_wp2_with fail
      refine (HSa.out _ _ R_a.out).mono ?_
      rintro e w6 ⟨vab, rfl, hoab, hb6⟩
      have T6 := Lib.hid hb6
      replace R_k := Lib.hid (R_k.out.stay T6.out)
      replace R_n := Lib.hid (R_n.out.stay T6.out)
      replace R_a := Lib.hid (R_a.out.stay T6.out)
      replace R_p := Lib.hid (R_p.out.stay T6.out)
      replace R_kk := Lib.hid (R_kk.out.stay T6.out)
      replace R_nn := Lib.hid (R_nn.out.stay T6.out)
      replace R_pp := Lib.hid (R_pp.out.stay T6.out)
      replace R_aa := Lib.hid (R_aa.out.stay T6.out)
      replace R_x := Lib.hid (R_x.out.stay T6.out)
      have HB6 := Lib.hid (HB5.out.trans (T6.out.mono s5))
      have s6 := HB6.out.size
      have R_ab := Lib.hid hoab.rd
      clear hb6 hoab
      go_wp2_with fail
      refine (Seal_ok _ _ _ _ K N Da P _ R_kk.out R_nn.out R_ab.out R_x.out HLK.out HLN.out (by have := DLa.out; omega) (by rw [HPL_.out]; omega)).mono ?_
      rintro e w7 ⟨vy, rfl, hoy, hb7⟩
      have T7 := Lib.hid hb7
      replace R_k := Lib.hid (R_k.out.stay T7.out)
      replace R_n := Lib.hid (R_n.out.stay T7.out)
      replace R_a := Lib.hid (R_a.out.stay T7.out)
      replace R_p := Lib.hid (R_p.out.stay T7.out)
      replace R_kk := Lib.hid (R_kk.out.stay T7.out)
      replace R_nn := Lib.hid (R_nn.out.stay T7.out)
      replace R_pp := Lib.hid (R_pp.out.stay T7.out)
      replace R_aa := Lib.hid (R_aa.out.stay T7.out)
      replace R_x := Lib.hid (R_x.out.stay T7.out)
      replace R_ab := Lib.hid (R_ab.out.stay T7.out)
      have HB7 := Lib.hid (HB6.out.trans (T7.out.mono s6))
      have s7 := HB7.out.size
      have R_y := Lib.hid hoy.rd
      clear hb7 hoy
      rw [HEQ.out] at R_y
      go_wp2_with fail
      refine (same_true _ _ _ _ _ R_y.out R_pp.out rfl).mono ?_
      rintro e _ ⟨rfl, rfl⟩
      go_wp2
      go_ret
      exact ⟨rfl, HB7.out⟩
    · have T5 := Lib.hid hb5
      have HB5 := Lib.hid (HB4.out.trans (hb5.mono s4))
      clear hb5
      go_wp2
      go_ret
      exact ⟨rfl, HB5.out⟩

end Go.Proofs.Ytpkfbmafbkgcmaa
