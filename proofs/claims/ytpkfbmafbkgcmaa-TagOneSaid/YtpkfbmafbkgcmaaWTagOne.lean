/-
  The walk of conclavekeep.TagOne: under a first half that is one, a block is added.
-/
import Derived.Test.YtpkfbmafbkgcmaaTag
import Derived.Test.YtpkfbmafbkgcmaaTagP
import Derived.Test.YtpkfbmafbkgcmaaStp
import Derived.Test.YtpkfbmafbkgcmaaFilled
import Derived.Test.YtpkfbmafbkgcmaaSome
import Derived.Test.YtpkfbmafbkgcmaaSameK
import Derived.Test.YtpkfbmafbkgcmaaFrm
import Derived.Test.YtpkfbmafbkgcmaaTail
import Derived.Deep.RegionWith
set_option linter.unusedVariables false
set_option linter.unusedSimpArgs false
namespace Go.Proofs.Ytpkfbmafbkgcmaa
open Go.RowKit Go.Con

set_option maxRecDepth 100000 in
set_option maxHeartbeats 2000000 in
theorem walk_TagOne (va : Value) (a : List UInt8) (vd : Value) (d : List UInt8) (w : World) (ha : Rd w va a) (hd : Rd w vd d) :
    Calls Try.prog 10 #[va, vd] w fun e w' => e = .returned (.bool true) ∧ Below w.heap.size w w' := by
  obtain ⟨aa, ca, rfl, hlca, hcma⟩ := ha.slice
  have R_a := Lib.hid ha
  clear ha
  obtain ⟨ad, cd, rfl, hlcd, hcmd⟩ := hd.slice
  have R_d := Lib.hid hd
  clear hd
  have HB0 := Lib.hid (Below.refl w.heap.size w)
  have s0 : w.heap.size ≤ w.heap.size := Nat.le_refl _
  obtain ⟨K, hKe⟩ : ∃ K, K = fill a 32 := ⟨_, rfl⟩
  have hKl : K.length = 32 := by rw [hKe]; exact fill_length _ _
  have hfK := fun v w (h : Rd w v a) => filled_any v a 32 w h (by decide)
  rw [← hKe] at hfK
  have HFK := Lib.hid hfK
  have HLK := Lib.hid hKl
  have HEK := Lib.hid hKe
  clear hKe hKl hfK
  obtain ⟨B, hBe⟩ : ∃ K, K = fill d 16 := ⟨_, rfl⟩
  have hBl : B.length = 16 := by rw [hBe]; exact fill_length _ _
  have hfB := fun v w (h : Rd w v d) => filled_any v d 16 w h (by decide)
  rw [← hBe] at hfB
  have HFB := Lib.hid hfB
  have HLB := Lib.hid hBl
  have HEB := Lib.hid hBe
  clear hBe hBl hfB
  obtain ⟨S, hS⟩ : ∃ S, S = K.drop 16 := ⟨_, rfl⟩
  have hSl : S.length = 16 := by rw [hS, List.length_drop, HLK.out]
  obtain ⟨Y, hY⟩ : ∃ Y, Y = Pol.tag ((1 :: List.replicate 15 0) ++ S) B := ⟨_, rfl⟩
  have hYl : Y.length = 16 := by rw [hY]; exact Pol.tag_length _ _
  obtain ⟨g, hg⟩ : ∃ g : Nat → Nat, g = fun i => (B.getD i 0).toNat + (S.getD i 0).toNat := ⟨_, rfl⟩
  have hg7 : ∀ i, g i ≤ 765 := fun i => by
    rw [hg]
    have h0 := (B.getD i 0).toNat_lt
    have h1 := (S.getD i 0).toNat_lt
    show (B.getD i 0).toNat + (S.getD i 0).toNat ≤ 765
    omega
  have hby : ∀ i, i < 16 → (Y.getD i 0).toNat = (Pol.pre g i / 256 ^ i + g i) % 256 := fun i hi => by
    rw [hY, hg]
    exact Pol.tag_one B S HLB.out hSl i hi
  have HS_ := Lib.hid hS
  have HSL_ := Lib.hid hSl
  have HY_ := Lib.hid hY
  have HYL_ := Lib.hid hYl
  have HG_ := Lib.hid hg
  have HG7_ := Lib.hid hg7
  have HBY_ := Lib.hid hby
  clear hS hSl hY hYl hg hg7 hby
  go_enter Try.func10, Try.ntmps10
  go_wp2_with fail
  refine (HFK.out _ _ R_a.out).mono ?_
  rintro e w1 ⟨vk, rfl, hok, hb1⟩
  have T1 := Lib.hid hb1
  replace R_a := Lib.hid (R_a.out.stay T1.out)
  replace R_d := Lib.hid (R_d.out.stay T1.out)
  have HB1 := Lib.hid (HB0.out.trans (T1.out.mono s0))
  have s1 := HB1.out.size
  have R_k := Lib.hid hok.rd
  clear hb1 hok
  obtain ⟨bk, ok, ck, hvk, hck, hcmk⟩ := R_k.out.shapeN 32 HLK.out (by decide)
  subst hvk
  have hck1 : (16 : Int) ≤ (ck : Int) := by omega
  have hrs := R_k.out.tail 16 16 (by decide) rfl
  rw [← HS_.out] at hrs
  have R_s := Lib.hid hrs
  clear hrs
  have HKW := Lib.hid R_s.out
  have hck3 : ¬ (ck = 16) := by omega
  go_wp2_with fail
  go_region_law (first
    | (refine step_apZ rfl (.tmp 14) (.const (.int .i64 15)) rfl w1.heap.size _ [1] rfl (Own.drewN (ownNew1 w1 _ _ 1 rfl (Nat.le_refl _)) 1) 15 _ rfl rfl (by decide) (by simp) ?_; intro v2 wm ho2 hg2; have O2 := Lib.hid ho2; have G2 := Lib.hid hg2; clear ho2 hg2)
    | (refine step_apB rfl (.tmp 15) (.tmp 17) rfl w1.heap.size _ _ _ S rfl O2.out rfl (R_s.out.stay (((below_drewN ((Below.refl _ _).alloc (Nat.le_refl _) _) 1).grown G2.out (by simp) (fun k hk => by injection hk with hk; subst hk; exact Nat.le_refl _)))) (by simp [HSL_.out]) (Nat.le_trans (by simp) G2.out.size) ?_; intro v3 w2 ho3 hg3; have O3 := Lib.hid ho3; have G3 := Lib.hid hg3; clear ho3 hg3))
  have T2 := Lib.hid ((((below_drewN ((Below.refl w1.heap.size w1).alloc (Nat.le_refl _) _) 1).grown G2.out (by simp) (fun k hk => by injection hk with hk; subst hk; exact Nat.le_refl _))).grown G3.out (Nat.le_trans (by simp) G2.out.size) (fun k hk => (O2.out.lt k hk).1))
  replace R_a := Lib.hid (R_a.out.stay T2.out)
  replace R_d := Lib.hid (R_d.out.stay T2.out)
  replace R_k := Lib.hid (R_k.out.stay T2.out)
  replace R_s := Lib.hid (R_s.out.stay T2.out)
  have HB2 := Lib.hid (HB1.out.trans (T2.out.mono s1))
  have s2 := HB2.out.size
  have R_y := Lib.hid (show Rd w2 v3 ((1 :: List.replicate 15 0) ++ S) from O3.out.rd)
  clear O2 G2 O3 G3 HKW
  go_wp2_with fail
  refine (HFB.out _ _ R_d.out).mono ?_
  rintro e w3 ⟨vt, rfl, hot, hb3⟩
  have T3 := Lib.hid hb3
  replace R_a := Lib.hid (R_a.out.stay T3.out)
  replace R_d := Lib.hid (R_d.out.stay T3.out)
  replace R_k := Lib.hid (R_k.out.stay T3.out)
  replace R_s := Lib.hid (R_s.out.stay T3.out)
  replace R_y := Lib.hid (R_y.out.stay T3.out)
  have HB3 := Lib.hid (HB2.out.trans (T3.out.mono s2))
  have s3 := HB3.out.size
  have R_t := Lib.hid hot.rd
  clear hb3 hot
  obtain ⟨bt, ot, ct, hvt, hct, hcmt⟩ := R_t.out.shapeN 16 HLB.out (by decide)
  subst hvt
  go_wp2_with fail
  refine (Tag_ok _ _ _ _ _ R_y.out R_t.out (by simp [HSL_.out]) (by rw [HLB.out]; decide)).mono ?_
  rintro e w4 ⟨vu, rfl, hou, hb4⟩
  have T4 := Lib.hid hb4
  replace R_a := Lib.hid (R_a.out.stay T4.out)
  replace R_d := Lib.hid (R_d.out.stay T4.out)
  replace R_k := Lib.hid (R_k.out.stay T4.out)
  replace R_s := Lib.hid (R_s.out.stay T4.out)
  replace R_y := Lib.hid (R_y.out.stay T4.out)
  replace R_t := Lib.hid (R_t.out.stay T4.out)
  have HB4 := Lib.hid (HB3.out.trans (T4.out.mono s3))
  have s4 := HB4.out.size
  have R_u := Lib.hid hou.rd
  clear hb4 hou
  rw [← HY_.out] at R_u
  obtain ⟨bu, ou, cu, hvu, hcu, hcmu⟩ := R_u.out.shapeN 16 HYL_.out (by decide)
  subst hvu
  go_wp2_with fail
  go_loopw [10, 11] (fun c i wr => ∃ k : Nat, k ≤ 16 ∧ i = .int .i64 k ∧ c = .int .i64 ((Pol.pre g k / 256 ^ k : Nat) : Int) ∧ Below w4.heap.size w4 wr)
    (fun _ i _ => 16 - (intOf i).toNat)
  case atStart => exact ⟨0, by omega, rfl, by simp [Pol.pre], Below.refl _ _⟩
  case round =>
    obtain ⟨k, hk, rfl, rfl, hb⟩ := hrel
    have HBr := Lib.hid hb
    have hcb := Pol.pre_lt g HG7_.out k
    obtain ⟨c, hc⟩ : ∃ c, c = Pol.pre g k / 256 ^ k := ⟨_, rfl⟩
    rw [← hc] at hcb ⊢
    by_cases hlt : k < 16
    · have hd16 : decide ((k : Int) < 16) = true := by rw [decide_eq_true_eq]; omega
      obtain ⟨x0, hx0⟩ : ∃ x, x = B.getD k 0 := ⟨_, rfl⟩
      have hxb0 := x0.toNat_lt
      have cell0 := cellOf (R_t.out.stay hb) k (by rw [HLB.out]; exact hlt)
      rw [← hx0] at cell0
      obtain ⟨x1, hx1⟩ : ∃ x, x = S.getD k 0 := ⟨_, rfl⟩
      have hxb1 := x1.toNat_lt
      have cell1 := cellOf (R_k.out.stay hb) (16 + k) (by rw [HLK.out]; omega)
      rw [show K.getD (16 + k) 0 = x1 by rw [hx1, HS_.out]; simp [List.getElem?_drop]] at cell1
      obtain ⟨x2, hx2⟩ : ∃ x, x = Y.getD k 0 := ⟨_, rfl⟩
      have hxb2 := x2.toNat_lt
      have cell2 := cellOf (R_u.out.stay hb) k (by rw [HYL_.out]; exact hlt)
      rw [← hx2] at cell2
      have hgk : g k = x0.toNat + x1.toNat := by rw [HG_.out, hx0, hx1]
      have hby : x2.toNat = (c + (x0.toNat + x1.toNat)) % 256 := by rw [hx2, HBY_.out k hlt, hgk, hc]
      have hnx : Pol.pre g (k + 1) / 256 ^ (k + 1) = (c + (x0.toNat + x1.toNat)) / 256 := by rw [Pol.pre_next, hgk, hc]
      have HNX := Lib.hid hnx
      have HBY := Lib.hid hby
      have HBS := Lib.hid hby
      obtain ⟨t, ht⟩ : ∃ t, t = c + (x0.toNat + x1.toNat) := ⟨_, rfl⟩
      rw [← ht] at hby
      have htb : t ≤ 1000 := by omega
      have ht0 : ((c : Int) + ((x0.toNat : Int) + (x1.toNat : Int))) = (t : Int) := by rw [ht]; push_cast; rfl
      have hw1 : IntKind.i64.wrap ((c : Int) + ((x0.toNat : Int) + (x1.toNat : Int))) = (t : Int) := by rw [ht0]; exact IntWalk.i64_in _ (by omega)
      have hw0 : IntKind.i64.wrap ((x0.toNat : Int) + (x1.toNat : Int)) = (x0.toNat : Int) + (x1.toNat : Int) := IntWalk.i64_in _ (by omega)
      have hwk : IntKind.i64.wrap (16 + (k : Int)) = 16 + (k : Int) := IntWalk.i64_in _ (by omega)
      have hwn : (0 : Int) ≤ 16 + (k : Int) := by omega
      have hwl : (16 : Int) + (k : Int) < 32 := by omega
      have hwt : ((16 : Int) + (k : Int)).toNat = 16 + k := by omega
      have hne : ((t : Int) % 256 != (x2.toNat : Int)) = false := by rw [bne_eq_false_iff_eq]; omega
      have HTT := Lib.hid ht
      clear hx0
      clear hx1
      clear hx2
      clear hb hc hgk hnx ht HBS ht0 hby
      go_wp2_with fail
      go_quiet (fail)
      clear hw0 hw1 hwk hwn hwl hwt  cell0 cell1
      go_wp2_with fail
      go_roundw
      case rel =>
        refine ⟨k + 1, by omega, by go_num, ?_, below_drewN HBr.out nq⟩
        rw [HNX.out, ← HTT.out]
        rfl
      case measure => simp [intOf]; omega
    · have hd16 : decide ((k : Int) < 16) = false := by rw [decide_eq_false_iff_not]; omega
      clear hb
      go_wp2
      go_ret
      exact ⟨rfl, HB4.out.trans (HBr.out.mono s4)⟩

end Go.Proofs.Ytpkfbmafbkgcmaa
