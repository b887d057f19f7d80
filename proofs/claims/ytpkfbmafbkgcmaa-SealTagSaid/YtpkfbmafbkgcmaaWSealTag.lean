/-
  The walk of conclavekeep.SealTag: the tag is that of what is known and sealed, and their lengths.
-/
import Derived.Test.YtpkfbmafbkgcmaaSeaL
import Derived.Test.YtpkfbmafbkgcmaaFrm
set_option linter.unusedVariables false
set_option linter.unusedSimpArgs false
namespace Go.Proofs.Ytpkfbmafbkgcmaa
open Go.RowKit Go.Con

theorem new16 (W : World) (x y z : Int) (M L : Nat) (hx : x = ((UInt8.ofNat M).toNat : Int)) (hy : y = ((UInt8.ofNat L).toNat : Int)) (hz : z = ((UInt8.ofNat (L / 256)).toNat : Int)) :
    Rd (W.alloc (.cells #[.int .u8 x, .int .u8 0, .int .u8 0, .int .u8 0, .int .u8 0, .int .u8 0, .int .u8 0, .int .u8 0, .int .u8 y, .int .u8 z, .int .u8 0, .int .u8 0, .int .u8 0, .int .u8 0, .int .u8 0, .int .u8 0] 5)) (.slice (some ⟨W.heap.size, 0, none⟩) 16 16) [UInt8.ofNat M, 0, 0, 0, 0, 0, 0, 0, UInt8.ofNat L, UInt8.ofNat (L / 256), 0, 0, 0, 0, 0, 0] := by
  subst hx hy hz; exact Rd.newRow W [UInt8.ofNat M, 0, 0, 0, 0, 0, 0, 0, UInt8.ofNat L, UInt8.ofNat (L / 256), 0, 0, 0, 0, 0, 0] 16 rfl (by simp [maxLen])
set_option maxRecDepth 100000 in
set_option maxHeartbeats 2000000 in
theorem walk_SealTag (vk : Value) (k : List UInt8) (vn : Value) (n : List UInt8) (va : Value) (a : List UInt8) (vp : Value) (p : List UInt8) (w : World) (hk : Rd w vk k) (hn : Rd w vn n) (ha : Rd w va a) (hp : Rd w vp p) :
    Calls Try.prog 14 #[vk, vn, va, vp] w fun e w' => e = .returned (.bool true) ∧ Below w.heap.size w w' := by
  obtain ⟨ak, ck, rfl, hlck, hcmk⟩ := hk.slice
  have R_k := Lib.hid hk
  clear hk
  obtain ⟨an, cn, rfl, hlcn, hcmn⟩ := hn.slice
  have R_n := Lib.hid hn
  clear hn
  obtain ⟨aa, ca, rfl, hlca, hcma⟩ := ha.slice
  have R_a := Lib.hid ha
  clear ha
  obtain ⟨ap, cp, rfl, hlcp, hcmp⟩ := hp.slice
  have R_p := Lib.hid hp
  clear hp
  have HB0 := Lib.hid (Below.refl w.heap.size w)
  have s0 : w.heap.size ≤ w.heap.size := Nat.le_refl _
  obtain ⟨K, hKe⟩ : ∃ K, K = fill k 32 := ⟨_, rfl⟩
  have hKl : K.length = 32 := by rw [hKe]; exact fill_length _ _
  have hfK := fun v w (h : Rd w v k) => filled_any v k 32 w h (by decide)
  rw [← hKe] at hfK
  have HFK := Lib.hid hfK
  have HLK := Lib.hid hKl
  have HEK := Lib.hid hKe
  clear hKe hKl hfK
  obtain ⟨N, hNe⟩ : ∃ K, K = fill n 12 := ⟨_, rfl⟩
  have hNl : N.length = 12 := by rw [hNe]; exact fill_length _ _
  have hfN := fun v w (h : Rd w v n) => filled_any v n 12 w h (by decide)
  rw [← hNe] at hfN
  have HFN := Lib.hid hfN
  have HLN := Lib.hid hNl
  have HEN := Lib.hid hNe
  clear hNe hNl hfN
  obtain ⟨Da, hDa⟩ : ∃ D, D = a.take 60 := ⟨_, rfl⟩
  have hDla : Da.length ≤ 60 := by rw [hDa]; simp; omega
  have hsa := fun v w (h : Rd w v a) => some_any v a 60 w h (by decide)
  rw [← hDa] at hsa
  have HSa := Lib.hid hsa
  have DLa := Lib.hid hDla
  have HDa := Lib.hid hDa
  clear hDa hDla hsa
  obtain ⟨M, hM⟩ : ∃ L, Da.length = L := ⟨_, rfl⟩
  have hMb : M ≤ 60 := by rw [← hM]; exact DLa.out
  have HM := Lib.hid hM
  clear hM
  obtain ⟨Dp, hDp⟩ : ∃ D, D = p.take 300 := ⟨_, rfl⟩
  have hDlp : Dp.length ≤ 300 := by rw [hDp]; simp; omega
  have hsp := fun v w (h : Rd w v p) => some_any v p 300 w h (by decide)
  rw [← hDp] at hsp
  have HSp := Lib.hid hsp
  have DLp := Lib.hid hDlp
  have HDp := Lib.hid hDp
  clear hDp hDlp hsp
  obtain ⟨L, hL⟩ : ∃ L, Dp.length = L := ⟨_, rfl⟩
  have hLb : L ≤ 300 := by rw [← hL]; exact DLp.out
  have HL := Lib.hid hL
  clear hL
  obtain ⟨X, hX⟩ : ∃ X, X = Sea.boxed K N Da Dp := ⟨_, rfl⟩
  have hXl : X.length = L + 16 := by rw [hX, Sea.boxed_length, HL.out]
  obtain ⟨Y, hY⟩ : ∃ Y, Y = X.take L := ⟨_, rfl⟩
  have hYl : Y.length = L := by rw [hY, List.length_take, hXl]; omega
  obtain ⟨B, hB⟩ : ∃ B, B = Cha.block K (UInt32.ofNat 0) N := ⟨_, rfl⟩
  have hBl : B.length = 64 := by rw [hB]; exact Cha.block_length _ _ _
  obtain ⟨m, hm⟩ : ∃ m, m = (M + 15) / 16 * 16 := ⟨_, rfl⟩
  obtain ⟨l, hl⟩ : ∃ m, m = (L + 15) / 16 * 16 := ⟨_, rfl⟩
  have hpa : fill Da m = Sea.pad Da := Sea.fill_pad _ _ (by rw [HM.out]; exact hm)
  have hpy : fill Y l = Sea.pad Y := Sea.fill_pad _ _ (by rw [hYl]; exact hl)
  have hml : m ≤ 80 := by omega
  have hll : l ≤ 320 := by omega
  have hfa := fun v w (h : Rd w v Da) => filled_any v Da m w h (by omega)
  have hfy := fun v w (h : Rd w v Y) => filled_any v Y l w h (by omega)
  have hpal : (fill Da m).length = m := fill_length _ _
  have hpyl : (fill Y l).length = l := fill_length _ _
  have hXd : Pol.tag (B.take 32) (((fill Da m ++ fill Y l)) ++ [UInt8.ofNat M, 0, 0, 0, 0, 0, 0, 0, UInt8.ofNat L, UInt8.ofNat (L / 256), 0, 0, 0, 0, 0, 0]) = X.drop L := by
    have h1 : X.drop L = Sea.tag K N Da (Cha.mix K 1 N Dp) := by rw [hX, ← HL.out]; exact Sea.boxed_drop _ _ _ _
    have h2 : Y = Cha.mix K 1 N Dp := by rw [hY, hX, ← HL.out]; exact Sea.boxed_take _ _ _ _
    rw [h1, ← h2, Sea.tag, ← hB, Sea.data, HM.out, hYl, hpa, hpy, ← Sea.lengths M L (by omega) (by omega), List.append_assoc _ (Pol.leB 8 M)]
  have hmi : (m : Int) = ((M : Int) + 15) / 16 * 16 := by omega
  have hli : (l : Int) = ((L : Int) + 15) / 16 * 16 := by omega
  have HX_ := Lib.hid hX
  have HXL_ := Lib.hid hXl
  have HY_ := Lib.hid hY
  have HYL_ := Lib.hid hYl
  have HB_ := Lib.hid hB
  have HBL_ := Lib.hid hBl
  have HFA_ := Lib.hid hfa
  have HFY_ := Lib.hid hfy
  have HPAL_ := Lib.hid hpal
  have HPYL_ := Lib.hid hpyl
  have HXD_ := Lib.hid hXd
  have HMI_ := Lib.hid hmi
  have HLI_ := Lib.hid hli
  clear hX hXl hY hYl hB hBl hm hl hpa hpy hfa hfy hpal hpyl hXd hmi hli
  go_enter Try.func14, Try.ntmps14
  go_wp2_with fail
  refine (HFK.out _ _ R_k.out).mono ?_
  rintro e w1 ⟨vkk, rfl, hokk, hb1⟩
  have T1 := Lib.hid hb1
  replace R_k := Lib.hid (R_k.out.stay T1.out)
  replace R_n := Lib.hid (R_n.out.stay T1.out)
  replace R_a := Lib.hid (R_a.out.stay T1.out)
  replace R_p := Lib.hid (R_p.out.stay T1.out)
  have HB1 := Lib.hid (HB0.out.trans (T1.out.mono s0))
  have s1 := HB1.out.size
  have R_kk := Lib.hid hokk.rd
  clear hb1 hokk
  go_wp2_with fail
  refine (HFN.out _ _ R_n.out).mono ?_
  rintro e w2 ⟨vnn, rfl, honn, hb2⟩
  have T2 := Lib.hid hb2
  replace R_k := Lib.hid (R_k.out.stay T2.out)
  replace R_n := Lib.hid (R_n.out.stay T2.out)
  replace R_a := Lib.hid (R_a.out.stay T2.out)
  replace R_p := Lib.hid (R_p.out.stay T2.out)
  replace R_kk := Lib.hid (R_kk.out.stay T2.out)
  have HB2 := Lib.hid (HB1.out.trans (T2.out.mono s1))
  have s2 := HB2.out.size
  have R_nn := Lib.hid honn.rd
  clear hb2 honn
  go_wp2_with fail
  refine (HSa.out _ _ R_a.out).mono ?_
  rintro e w3 ⟨vaa, rfl, hoaa, hb3⟩
  have T3 := Lib.hid hb3
  replace R_k := Lib.hid (R_k.out.stay T3.out)
  replace R_n := Lib.hid (R_n.out.stay T3.out)
  replace R_a := Lib.hid (R_a.out.stay T3.out)
  replace R_p := Lib.hid (R_p.out.stay T3.out)
  replace R_kk := Lib.hid (R_kk.out.stay T3.out)
  replace R_nn := Lib.hid (R_nn.out.stay T3.out)
  have HB3 := Lib.hid (HB2.out.trans (T3.out.mono s2))
  have s3 := HB3.out.size
  have R_aa := Lib.hid hoaa.rd
  clear hb3 hoaa
  obtain ⟨aaa, caa, hvaa, hcaa, hcmaa⟩ := R_aa.out.sliceN M (HM.out)
  subst hvaa
  go_wp2_with fail
  refine (HSp.out _ _ R_p.out).mono ?_
  rintro e w4 ⟨vpp, rfl, hopp, hb4⟩
  have T4 := Lib.hid hb4
  replace R_k := Lib.hid (R_k.out.stay T4.out)
  replace R_n := Lib.hid (R_n.out.stay T4.out)
  replace R_a := Lib.hid (R_a.out.stay T4.out)
  replace R_p := Lib.hid (R_p.out.stay T4.out)
  replace R_kk := Lib.hid (R_kk.out.stay T4.out)
  replace R_nn := Lib.hid (R_nn.out.stay T4.out)
  replace R_aa := Lib.hid (R_aa.out.stay T4.out)
  have HB4 := Lib.hid (HB3.out.trans (T4.out.mono s3))
  have s4 := HB4.out.size
  have R_pp := Lib.hid hopp.rd
  clear hb4 hopp
  obtain ⟨app, cpp, hvpp, hcpp, hcmpp⟩ := R_pp.out.sliceN L (HL.out)
  subst hvpp
  go_wp2_with fail
  refine (Seal_ok _ _ _ _ K N Da Dp _ R_kk.out R_nn.out R_aa.out R_pp.out HLK.out HLN.out (by rw [HM.out]; omega) (by rw [HL.out]; omega)).mono ?_
  rintro e w5 ⟨vx, rfl, hox, hb5⟩
  have T5 := Lib.hid hb5
  replace R_k := Lib.hid (R_k.out.stay T5.out)
  replace R_n := Lib.hid (R_n.out.stay T5.out)
  replace R_a := Lib.hid (R_a.out.stay T5.out)
  replace R_p := Lib.hid (R_p.out.stay T5.out)
  replace R_kk := Lib.hid (R_kk.out.stay T5.out)
  replace R_nn := Lib.hid (R_nn.out.stay T5.out)
  replace R_aa := Lib.hid (R_aa.out.stay T5.out)
  replace R_pp := Lib.hid (R_pp.out.stay T5.out)
  have HB5 := Lib.hid (HB4.out.trans (T5.out.mono s4))
  have s5 := HB5.out.size
  have R_x := Lib.hid hox.rd
  clear hb5 hox
  rw [← HX_.out] at R_x
  obtain ⟨bx, ox, cx, hvx, hcx, hcmx⟩ := R_x.out.shapeN (L + 16) HXL_.out (by omega)
  subst hvx
  have hcx1 : (L : Int) ≤ (cx : Int) := by omega
  have hcx2 : (L : Int) + 16 ≤ (cx : Int) := by omega
  have hcx3 : ¬ (cx = L) := by omega
  go_wp2_with fail
  refine (Block_nat _ _ K N _ 0 _ R_kk.out R_nn.out HLK.out HLN.out (by decide) rfl).mono ?_
  rintro e w6 ⟨vb, rfl, hob, hb6⟩
  have T6 := Lib.hid hb6
  replace R_k := Lib.hid (R_k.out.stay T6.out)
  replace R_n := Lib.hid (R_n.out.stay T6.out)
  replace R_a := Lib.hid (R_a.out.stay T6.out)
  replace R_p := Lib.hid (R_p.out.stay T6.out)
  replace R_kk := Lib.hid (R_kk.out.stay T6.out)
  replace R_nn := Lib.hid (R_nn.out.stay T6.out)
  replace R_aa := Lib.hid (R_aa.out.stay T6.out)
  replace R_pp := Lib.hid (R_pp.out.stay T6.out)
  replace R_x := Lib.hid (R_x.out.stay T6.out)
  have HB6 := Lib.hid (HB5.out.trans (T6.out.mono s5))
  have s6 := HB6.out.size
  have R_b := Lib.hid hob.rd
  clear hb6 hob
  rw [← HB_.out] at R_b
  obtain ⟨bb, ob, cb, hvb, hcb, hcmb⟩ := R_b.out.shapeN 64 HBL_.out (by decide)
  subst hvb
  have hcb1 : (32 : Int) ≤ (cb : Int) := by omega
  go_wp2_with fail
  have R0_b := R_b
  have R0_x := R_x
  rw [← HMI_.out]
  refine (HFA_.out _ _ R_aa.out).mono ?_
  rintro e w7 ⟨vfa, rfl, hofa, hb7⟩
  have T7 := Lib.hid hb7
  replace R_k := Lib.hid (R_k.out.stay T7.out)
  replace R_n := Lib.hid (R_n.out.stay T7.out)
  replace R_a := Lib.hid (R_a.out.stay T7.out)
  replace R_p := Lib.hid (R_p.out.stay T7.out)
  replace R_kk := Lib.hid (R_kk.out.stay T7.out)
  replace R_nn := Lib.hid (R_nn.out.stay T7.out)
  replace R_aa := Lib.hid (R_aa.out.stay T7.out)
  replace R_pp := Lib.hid (R_pp.out.stay T7.out)
  replace R_x := Lib.hid (R_x.out.stay T7.out)
  replace R_b := Lib.hid (R_b.out.stay T7.out)
  have HB7 := Lib.hid (HB6.out.trans (T7.out.mono s6))
  have s7 := HB7.out.size
  have R_fa := Lib.hid hofa.rd
  have O_fa := Lib.hid hofa
  clear hb7 hofa
  go_wp2_with fail
  rw [← HLI_.out]
  have hry := R_x.out.pre L (by rw [HXL_.out]; omega)
  rw [← HY_.out] at hry
  have R_y := Lib.hid hry
  clear hry
  have base0 : w6.heap.size ≤ w7.heap.size := T7.out.size
  refine (HFY_.out _ _ R_y.out).mono ?_
  rintro e w8 ⟨vfy, rfl, hofy, hb8⟩
  have T8 := Lib.hid hb8
  replace R_k := Lib.hid (R_k.out.stay T8.out)
  replace R_n := Lib.hid (R_n.out.stay T8.out)
  replace R_a := Lib.hid (R_a.out.stay T8.out)
  replace R_p := Lib.hid (R_p.out.stay T8.out)
  replace R_kk := Lib.hid (R_kk.out.stay T8.out)
  replace R_nn := Lib.hid (R_nn.out.stay T8.out)
  replace R_aa := Lib.hid (R_aa.out.stay T8.out)
  replace R_pp := Lib.hid (R_pp.out.stay T8.out)
  replace R_x := Lib.hid (R_x.out.stay T8.out)
  replace R_b := Lib.hid (R_b.out.stay T8.out)
  replace R_fa := Lib.hid (R_fa.out.stay T8.out)
  replace R_y := Lib.hid (R_y.out.stay T8.out)
  have HB8 := Lib.hid (HB7.out.trans (T8.out.mono s7))
  have s8 := HB8.out.size
  have R_fy := Lib.hid hofy.rd
  clear hb8 hofy
  have O_fb := Lib.hid (O_fa.out.below T8.out (fun k hk => (O_fa.out.lt k hk).2))
  go_wp2_with (first
    | (at_builtin; refine apB rfl (.tmp 68) (.tmp 78) rfl w6.heap.size _ _ _ _ rfl O_fb.out rfl R_fy.out (by rw [HPAL_.out, HPYL_.out]; omega) (Nat.le_trans base0 T8.out.size) ?_; intro v2 wm ho2 hg2; have O2 := Lib.hid ho2; have G2 := Lib.hid hg2; clear ho2 hg2)
    | (at_builtin; refine apB rfl (.tmp 80) (.tmp 91) rfl w6.heap.size _ _ _ [UInt8.ofNat M, 0, 0, 0, 0, 0, 0, 0, UInt8.ofNat L, UInt8.ofNat (L / 256), 0, 0, 0, 0, 0, 0] rfl (O2.out.alloc _) rfl (new16 _ _ _ _ M L (by rw [UInt8.toNat_ofNat']; omega) (by rw [UInt8.toNat_ofNat']; omega) (by rw [UInt8.toNat_ofNat']; omega)) (by simp [HPAL_.out, HPYL_.out]; omega) (by have := G2.out.size; have := T8.out.size; simp; omega) ?_; intro v3 wn ho3 hg3; have O3 := Lib.hid ho3; have G3 := Lib.hid hg3; clear ho3 hg3))
  have hT : Below w6.heap.size w8 wn := ((((Below.refl w6.heap.size w8).grown G2.out (Nat.le_trans base0 T8.out.size) (fun k hk => (O_fb.out.lt k hk).1)).alloc (Nat.le_trans (Nat.le_trans base0 T8.out.size) G2.out.size) _).grown G3.out (by have := G2.out.size; have := T8.out.size; simp; omega) (fun k hk => (O2.out.lt k hk).1))
  have hall : Below w6.heap.size w6 wn := (T7.out.trans (T8.out.mono T7.out.size)).trans hT
  have RB := Lib.hid (R0_b.out.stay hall)
  have RX := Lib.hid (R0_x.out.stay hall)
  have R3 := Lib.hid O3.out.rd
  have HBn := Lib.hid (HB6.out.trans (hall.mono s6))
  have sn := HBn.out.size
  clear hT hall O2 G2 O3 G3 O_fb
  refine (Tag_ok _ _ (B.take 32) _ _ (RB.out.pre 32 (by rw [HBL_.out]; decide)) R3.out (by rw [List.length_take, HBL_.out]; rfl) (by simp [HPAL_.out, HPYL_.out]; omega)).mono ?_
  rintro e wt ⟨vt, rfl, hot, hbt⟩
  have RT := Lib.hid hot.rd
  have RX2 := Lib.hid ((RX.out.stay hbt).tail L 16 (by omega) (by omega))
  have HBt := Lib.hid (HBn.out.trans (hbt.mono sn))
  clear hot hbt
  rw [HXD_.out] at RT
  have hL16 : L + 16 - L = 16 := by omega
  go_wp2_with fail
  refine (same_true _ _ _ _ _ RT.out RX2.out rfl).mono ?_
  rintro e _ ⟨rfl, rfl⟩
  go_wp2
  go_ret
  exact ⟨rfl, HBt.out⟩

end Go.Proofs.Ytpkfbmafbkgcmaa
