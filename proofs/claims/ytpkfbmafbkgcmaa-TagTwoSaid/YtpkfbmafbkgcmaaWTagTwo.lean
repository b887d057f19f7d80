/-
  The walk of conclavekeep.TagTwo: under a first half that is one, two blocks are added.
-/
import Derived.Test.YtpkfbmafbkgcmaaTag
import Derived.Test.YtpkfbmafbkgcmaaTagP
import Derived.Test.YtpkfbmafbkgcmaaStp
import Derived.Test.YtpkfbmafbkgcmaaFilled
import Derived.Test.YtpkfbmafbkgcmaaSome
import Derived.Test.YtpkfbmafbkgcmaaSameK
import Derived.Test.YtpkfbmafbkgcmaaFrm
import Derived.Test.YtpkfbmafbkgcmaaTail
import Derived.Test.YtpkfbmafbkgcmaaJoin
import Derived.Deep.RegionWith
set_option linter.unusedVariables false
set_option linter.unusedSimpArgs false
namespace Go.Proofs.Ytpkfbmafbkgcmaa
open Go.RowKit Go.Con

theorem low127 (l : List UInt8) (h : l.length = 16) : Pol.leN (l.set 15 (l.getD 15 0 &&& 127)) < 170141183460469231731687303715884105728 := by
  have e : (l.getD 15 0 &&& 127).toNat ≤ 127 := by
    rw [UInt8.toNat_and]; exact Nat.and_le_right
  rw [List.set_eq_take_append_cons_drop, if_pos (by omega), List.drop_of_length_le (by omega), Pol.leN_append, Pol.leN, Pol.leN]
  have h1 := Pol.leN_lt (l.take 15)
  have h2 : (l.take 15).length = 15 := by rw [List.length_take, h]; rfl
  rw [h2] at h1 ⊢
  omega
set_option maxRecDepth 100000 in
set_option maxHeartbeats 2000000 in
theorem walk_TagTwo (va : Value) (a : List UInt8) (vd : Value) (d : List UInt8) (vf : Value) (f : List UInt8) (w : World) (ha : Rd w va a) (hd : Rd w vd d) (hf : Rd w vf f) :
    Calls Try.prog 12 #[va, vd, vf] w fun e w' => e = .returned (.bool true) ∧ Below w.heap.size w w' := by
  obtain ⟨aa, ca, rfl, hlca, hcma⟩ := ha.slice
  have R_a := Lib.hid ha
  clear ha
  obtain ⟨ad, cd, rfl, hlcd, hcmd⟩ := hd.slice
  have R_d := Lib.hid hd
  clear hd
  obtain ⟨af, cf, rfl, hlcf, hcmf⟩ := hf.slice
  have R_f := Lib.hid hf
  clear hf
  have HB0 := Lib.hid (Below.refl w.heap.size w)
  have s0 : w.heap.size ≤ w.heap.size := Nat.le_refl _
  obtain ⟨K, hKe⟩ : ∃ K, K = fill a 32 := ⟨_, rfl⟩
  have hKl : K.length = 32 := by rw [hKe]; exact fill_length _ _
  have hfK := fun v w (h : Rd w v a) => filled_any v a 32 w h (by decide)
  rw [← hKe] at hfK
  have HFK := Lib.hid hfK
  have HLK := Lib.hid hKl
  have HEK := Lib.hid hKe
  clear hKe hKl hfK
  obtain ⟨B, hBe⟩ : ∃ K, K = fill d 16 := ⟨_, rfl⟩
  have hBl : B.length = 16 := by rw [hBe]; exact fill_length _ _
  have hfB := fun v w (h : Rd w v d) => filled_any v d 16 w h (by decide)
  rw [← hBe] at hfB
  have HFB := Lib.hid hfB
  have HLB := Lib.hid hBl
  have HEB := Lib.hid hBe
  clear hBe hBl hfB
  obtain ⟨D, hDe⟩ : ∃ K, K = fill f 16 := ⟨_, rfl⟩
  have hDl : D.length = 16 := by rw [hDe]; exact fill_length _ _
  have hfD := fun v w (h : Rd w v f) => filled_any v f 16 w h (by decide)
  rw [← hDe] at hfD
  have HFD := Lib.hid hfD
  have HLD := Lib.hid hDl
  have HED := Lib.hid hDe
  clear hDe hDl hfD
  obtain ⟨S, hS⟩ : ∃ S, S = K.drop 16 := ⟨_, rfl⟩
  have hSl : S.length = 16 := by rw [hS, List.length_drop, HLK.out]
  obtain ⟨C, hC⟩ : ∃ C, C = D.set 15 (D.getD 15 0 &&& 127) := ⟨_, rfl⟩
  have hCl : C.length = 16 := by rw [hC, List.length_set]; exact HLD.out
  have hClow : Pol.leN C < 170141183460469231731687303715884105728 := by rw [hC]; exact low127 D HLD.out
  obtain ⟨Y, hY⟩ : ∃ Y, Y = Pol.tag ((1 :: List.replicate 15 0) ++ S) (B ++ C) := ⟨_, rfl⟩
  have hYl : Y.length = 16 := by rw [hY]; exact Pol.tag_length _ _
  obtain ⟨g, hg⟩ : ∃ g : Nat → Nat, g = fun i => (B.getD i 0).toNat + (C.getD i 0).toNat + (S.getD i 0).toNat := ⟨_, rfl⟩
  have hg7 : ∀ i, g i ≤ 765 := fun i => by
    rw [hg]
    have h0 := (B.getD i 0).toNat_lt
    have h1 := (C.getD i 0).toNat_lt
    have h2 := (S.getD i 0).toNat_lt
    show (B.getD i 0).toNat + (C.getD i 0).toNat + (S.getD i 0).toNat ≤ 765
    omega
  have hby : ∀ i, i < 16 → (Y.getD i 0).toNat = (Pol.pre g i / 256 ^ i + g i) % 256 := fun i hi => by
    rw [hY, hg]
    exact Pol.tag_two B C S HLB.out hCl hSl hClow i hi
  have HS_ := Lib.hid hS
  have HSL_ := Lib.hid hSl
  have HC_ := Lib.hid hC
  have HCL_ := Lib.hid hCl
  have HY_ := Lib.hid hY
  have HYL_ := Lib.hid hYl
  have HG_ := Lib.hid hg
  have HG7_ := Lib.hid hg7
  have HBY_ := Lib.hid hby
  clear hS hSl hC hCl hClow hY hYl hg hg7 hby
  go_enter Try.func12, Try.ntmps12
  go_wp2_with fail
  refine (HFK.out _ _ R_a.out).mono ?_
  rintro e w1 ⟨vk, rfl, hok, hb1⟩
  have T1 := Lib.hid hb1
  replace R_a := Lib.hid (R_a.out.stay T1.out)
  replace R_d := Lib.hid (R_d.out.stay T1.out)
  replace R_f := Lib.hid (R_f.out.stay T1.out)
  have HB1 := Lib.hid (HB0.out.trans (T1.out.mono s0))
  have s1 := HB1.out.size
  have R_k := Lib.hid hok.rd
  clear hb1 hok
  obtain ⟨bk, ok, ck, hvk, hck, hcmk⟩ := R_k.out.shapeN 32 HLK.out (by decide)
  subst hvk
  have hck1 : (16 : Int) ≤ (ck : Int) := by omega
  have hrs := R_k.out.tail 16 16 (by decide) rfl
  rw [← HS_.out] at hrs
  have R_s := Lib.hid hrs
  clear hrs
  have HKW := Lib.hid R_s.out
  have hck3 : ¬ (ck = 16) := by omega
  go_wp2_with fail
  go_region_law (first
    | (refine step_apZ rfl (.tmp 17) (.const (.int .i64 15)) rfl w1.heap.size _ [1] rfl (Own.drewN (ownNew1 w1 _ _ 1 rfl (Nat.le_refl _)) 1) 15 _ rfl rfl (by decide) (by simp) ?_; intro v2 wm ho2 hg2; have O2 := Lib.hid ho2; have G2 := Lib.hid hg2; clear ho2 hg2)
    | (refine step_apB rfl (.tmp 18) (.tmp 20) rfl w1.heap.size _ _ _ S rfl O2.out rfl (R_s.out.stay (((below_drewN ((Below.refl _ _).alloc (Nat.le_refl _) _) 1).grown G2.out (by simp) (fun k hk => by injection hk with hk; subst hk; exact Nat.le_refl _)))) (by simp [HSL_.out]) (Nat.le_trans (by simp) G2.out.size) ?_; intro v3 w2 ho3 hg3; have O3 := Lib.hid ho3; have G3 := Lib.hid hg3; clear ho3 hg3))
  have T2 := Lib.hid ((((below_drewN ((Below.refl w1.heap.size w1).alloc (Nat.le_refl _) _) 1).grown G2.out (by simp) (fun k hk => by injection hk with hk; subst hk; exact Nat.le_refl _))).grown G3.out (Nat.le_trans (by simp) G2.out.size) (fun k hk => (O2.out.lt k hk).1))
  replace R_a := Lib.hid (R_a.out.stay T2.out)
  replace R_d := Lib.hid (R_d.out.stay T2.out)
  replace R_f := Lib.hid (R_f.out.stay T2.out)
  replace R_k := Lib.hid (R_k.out.stay T2.out)
  replace R_s := Lib.hid (R_s.out.stay T2.out)
  have HB2 := Lib.hid (HB1.out.trans (T2.out.mono s1))
  have s2 := HB2.out.size
  have R_y := Lib.hid (show Rd w2 v3 ((1 :: List.replicate 15 0) ++ S) from O3.out.rd)
  clear O2 G2 O3 G3 HKW
  go_wp2_with fail
  refine (HFB.out _ _ R_d.out).mono ?_
  rintro e w3 ⟨vt, rfl, hot, hb3⟩
  have T3 := Lib.hid hb3
  replace R_a := Lib.hid (R_a.out.stay T3.out)
  replace R_d := Lib.hid (R_d.out.stay T3.out)
  replace R_f := Lib.hid (R_f.out.stay T3.out)
  replace R_k := Lib.hid (R_k.out.stay T3.out)
  replace R_s := Lib.hid (R_s.out.stay T3.out)
  replace R_y := Lib.hid (R_y.out.stay T3.out)
  have HB3 := Lib.hid (HB2.out.trans (T3.out.mono s2))
  have s3 := HB3.out.size
  have R_t := Lib.hid hot.rd
  clear hb3 hot
  obtain ⟨bt, ot, ct, hvt, hct, hcmt⟩ := R_t.out.shapeN 16 HLB.out (by decide)
  subst hvt
  go_wp2_with fail
  refine (HFD.out _ _ R_f.out).mono ?_
  rintro e wc ⟨vc, rfl, hoc, hbc⟩
  obtain ⟨gc, cc, hvc, hgc, hgcl, hcc, hccm⟩ := hoc.shape (by intro h; have := HLD.out; rw [h] at this; cases this)
  rw [HLD.out] at hvc hcc
  subst hvc
  obtain ⟨z, hz⟩ : ∃ z, z = D.getD 15 0 := ⟨_, rfl⟩
  have c15 := hoc.cellB 15 (by rw [HLD.out]; decide)
  have f15 := hoc.freeB 15
  rw [← hz] at c15
  have OC := Lib.hid hoc
  have HZ := Lib.hid hz
  have BC := Lib.hid hbc
  clear hoc hbc hz
  go_wp2_with fail
  have e127 := u8_andF z 127
  rw [show (((127 : UInt8).toNat : Nat) : Int) = 127 from rfl] at e127
  have hos := OC.out.setB 15 (z &&& 127)
  rw [HZ.out, ← HC_.out, ← HZ.out] at hos
  have hbs : Below w3.heap.size w3 (wc.setCell ⟨gc, 15, none⟩ (.int .u8 (z &&& 127).toNat)) := BC.out.setCell hgc _
  have hsz : (wc.setCell ⟨gc, 15, none⟩ (.int .u8 (z &&& 127).toNat)).heap.size = wc.heap.size := by simp
  simp only [e127]
  rw [← hsz]
  generalize hW : wc.setCell ⟨gc, 15, none⟩ (.int .u8 (z &&& 127).toNat) = w4 at hos hbs ⊢
  clear c15 f15 e127 hW hsz
  have T4 := Lib.hid hbs
  replace R_a := Lib.hid (R_a.out.stay T4.out)
  replace R_d := Lib.hid (R_d.out.stay T4.out)
  replace R_f := Lib.hid (R_f.out.stay T4.out)
  replace R_k := Lib.hid (R_k.out.stay T4.out)
  replace R_s := Lib.hid (R_s.out.stay T4.out)
  replace R_y := Lib.hid (R_y.out.stay T4.out)
  replace R_t := Lib.hid (R_t.out.stay T4.out)
  have HB4 := Lib.hid (HB3.out.trans (T4.out.mono s3))
  have s4 := HB4.out.size
  have R_c := Lib.hid hos.rd
  clear hos hbs
  go_wp2_with fail
  refine (joined2 _ _ _ B C R_t.out R_c.out (by rw [HLB.out]; decide) (by rw [HCL_.out]; decide)).mono ?_
  rintro e w5 ⟨vj, rfl, hoj, hb5⟩
  have T5 := Lib.hid (((Below.refl w4.heap.size w4).alloc (Nat.le_refl _) _).trans (hb5.mono (by simp)))
  replace R_a := Lib.hid (R_a.out.stay T5.out)
  replace R_d := Lib.hid (R_d.out.stay T5.out)
  replace R_f := Lib.hid (R_f.out.stay T5.out)
  replace R_k := Lib.hid (R_k.out.stay T5.out)
  replace R_s := Lib.hid (R_s.out.stay T5.out)
  replace R_y := Lib.hid (R_y.out.stay T5.out)
  replace R_t := Lib.hid (R_t.out.stay T5.out)
  replace R_c := Lib.hid (R_c.out.stay T5.out)
  have HB5 := Lib.hid (HB4.out.trans (T5.out.mono s4))
  have s5 := HB5.out.size
  have R_j := Lib.hid hoj.rd
  clear hb5 hoj
  go_wp2_with fail
  refine (Tag_ok _ _ _ _ _ R_y.out R_j.out (by simp [HSL_.out]) (by simp [HLB.out, HCL_.out])).mono ?_
  rintro e w6 ⟨vu, rfl, hou, hb6⟩
  have T6 := Lib.hid hb6
  replace R_a := Lib.hid (R_a.out.stay T6.out)
  replace R_d := Lib.hid (R_d.out.stay T6.out)
  replace R_f := Lib.hid (R_f.out.stay T6.out)
  replace R_k := Lib.hid (R_k.out.stay T6.out)
  replace R_s := Lib.hid (R_s.out.stay T6.out)
  replace R_y := Lib.hid (R_y.out.stay T6.out)
  replace R_t := Lib.hid (R_t.out.stay T6.out)
  replace R_c := Lib.hid (R_c.out.stay T6.out)
  replace R_j := Lib.hid (R_j.out.stay T6.out)
  have HB6 := Lib.hid (HB5.out.trans (T6.out.mono s5))
  have s6 := HB6.out.size
  have R_u := Lib.hid hou.rd
  clear hb6 hou
  rw [← HY_.out] at R_u
  obtain ⟨bu, ou, cu, hvu, hcu, hcmu⟩ := R_u.out.shapeN 16 HYL_.out (by decide)
  subst hvu
  go_wp2_with fail
  go_loopw [13, 14] (fun c i wr => ∃ k : Nat, k ≤ 16 ∧ i = .int .i64 k ∧ c = .int .i64 ((Pol.pre g k / 256 ^ k : Nat) : Int) ∧ Below w6.heap.size w6 wr)
    (fun _ i _ => 16 - (intOf i).toNat)
  case atStart => exact ⟨0, by omega, rfl, by simp [Pol.pre], Below.refl _ _⟩
  case round =>
    obtain ⟨k, hk, rfl, rfl, hb⟩ := hrel
    have HBr := Lib.hid hb
    have hcb := Pol.pre_lt g HG7_.out k
    obtain ⟨c, hc⟩ : ∃ c, c = Pol.pre g k / 256 ^ k := ⟨_, rfl⟩
    rw [← hc] at hcb ⊢
    by_cases hlt : k < 16
    · have hd16 : decide ((k : Int) < 16) = true := by rw [decide_eq_true_eq]; omega
      obtain ⟨x0, hx0⟩ : ∃ x, x = B.getD k 0 := ⟨_, rfl⟩
      have hxb0 := x0.toNat_lt
      have cell0 := cellOf (R_t.out.stay hb) k (by rw [HLB.out]; exact hlt)
      rw [← hx0] at cell0
      obtain ⟨x1, hx1⟩ : ∃ x, x = C.getD k 0 := ⟨_, rfl⟩
      have hxb1 := x1.toNat_lt
      have cell1 := cellOf (R_c.out.stay hb) k (by rw [HCL_.out]; exact hlt)
      rw [← hx1] at cell1
      rw [Nat.zero_add] at cell1
      obtain ⟨x2, hx2⟩ : ∃ x, x = S.getD k 0 := ⟨_, rfl⟩
      have hxb2 := x2.toNat_lt
      have cell2 := cellOf (R_k.out.stay hb) (16 + k) (by rw [HLK.out]; omega)
      rw [show K.getD (16 + k) 0 = x2 by rw [hx2, HS_.out]; simp [List.getElem?_drop]] at cell2
      obtain ⟨x3, hx3⟩ : ∃ x, x = Y.getD k 0 := ⟨_, rfl⟩
      have hxb3 := x3.toNat_lt
      have cell3 := cellOf (R_u.out.stay hb) k (by rw [HYL_.out]; exact hlt)
      rw [← hx3] at cell3
      have hgk : g k = x0.toNat + x1.toNat + x2.toNat := by rw [HG_.out, hx0, hx1, hx2]
      have hby : x3.toNat = (c + (x0.toNat + x1.toNat + x2.toNat)) % 256 := by rw [hx3, HBY_.out k hlt, hgk, hc]
      have hnx : Pol.pre g (k + 1) / 256 ^ (k + 1) = (c + (x0.toNat + x1.toNat + x2.toNat)) / 256 := by rw [Pol.pre_next, hgk, hc]
      have HNX := Lib.hid hnx
      have HBY := Lib.hid hby
      have HBS := Lib.hid hby
      obtain ⟨t, ht⟩ : ∃ t, t = c + (x0.toNat + x1.toNat + x2.toNat) := ⟨_, rfl⟩
      rw [← ht] at hby
      have htb : t ≤ 1000 := by omega
      have ht0 : ((c : Int) + ((x0.toNat : Int) + (x1.toNat : Int) + (x2.toNat : Int))) = (t : Int) := by rw [ht]; push_cast; rfl
      have hw1 : IntKind.i64.wrap ((c : Int) + ((x0.toNat : Int) + (x1.toNat : Int) + (x2.toNat : Int))) = (t : Int) := by rw [ht0]; exact IntWalk.i64_in _ (by omega)
      have hw0 : IntKind.i64.wrap ((x0.toNat : Int) + (x1.toNat : Int)) = (x0.toNat : Int) + (x1.toNat : Int) := IntWalk.i64_in _ (by omega)
      have hw2 : IntKind.i64.wrap ((x0.toNat : Int) + (x1.toNat : Int) + (x2.toNat : Int)) = (x0.toNat : Int) + (x1.toNat : Int) + (x2.toNat : Int) := IntWalk.i64_in _ (by omega)
      have hwk : IntKind.i64.wrap (16 + (k : Int)) = 16 + (k : Int) := IntWalk.i64_in _ (by omega)
      have hwn : (0 : Int) ≤ 16 + (k : Int) := by omega
      have hwl : (16 : Int) + (k : Int) < 32 := by omega
      have hwt : ((16 : Int) + (k : Int)).toNat = 16 + k := by omega
      have hne : ((t : Int) % 256 != (x3.toNat : Int)) = false := by rw [bne_eq_false_iff_eq]; omega
      have HTT := Lib.hid ht
      clear hx0
      clear hx1
      clear hx2
      clear hx3
      clear hb hc hgk hnx ht HBS ht0 hby
      go_wp2_with fail
      go_quiet (fail)
      clear hw0 hw1 hwk hwn hwl hwt hw2 cell0 cell1 cell2
      go_wp2_with fail
      go_roundw
      case rel =>
        refine ⟨k + 1, by omega, by go_num, ?_, below_drewN HBr.out nq⟩
        rw [HNX.out, ← HTT.out]
        rfl
      case measure => simp [intOf]; omega
    · have hd16 : decide ((k : Int) < 16) = false := by rw [decide_eq_false_iff_not]; omega
      clear hb
      go_wp2
      go_ret
      exact ⟨rfl, HB6.out.trans (HBr.out.mono s6)⟩

end Go.Proofs.Ytpkfbmafbkgcmaa
