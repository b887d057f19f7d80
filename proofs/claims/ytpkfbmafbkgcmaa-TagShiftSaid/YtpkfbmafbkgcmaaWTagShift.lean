/-
  The walk of conclavekeep.TagShift: the second half of a key is added.
-/
import Derived.Test.YtpkfbmafbkgcmaaTag
import Derived.Test.YtpkfbmafbkgcmaaTagP
import Derived.Test.YtpkfbmafbkgcmaaStp
import Derived.Test.YtpkfbmafbkgcmaaFilled
import Derived.Test.YtpkfbmafbkgcmaaSome
import Derived.Test.YtpkfbmafbkgcmaaSameK
import Derived.Test.YtpkfbmafbkgcmaaFrm
import Derived.Test.YtpkfbmafbkgcmaaTail
set_option linter.unusedVariables false
set_option linter.unusedSimpArgs false
namespace Go.Proofs.Ytpkfbmafbkgcmaa
open Go.RowKit Go.Con

set_option maxRecDepth 100000 in
set_option maxHeartbeats 2000000 in
theorem walk_TagShift (va : Value) (a : List UInt8) (vd : Value) (d : List UInt8) (w : World) (ha : Rd w va a) (hd : Rd w vd d) :
    Calls Try.prog 8 #[va, vd] w fun e w' => e = .returned (.bool true) ∧ Below w.heap.size w w' := by
  obtain ⟨aa, ca, rfl, hlca, hcma⟩ := ha.slice
  have R_a := Lib.hid ha
  clear ha
  obtain ⟨ad, cd, rfl, hlcd, hcmd⟩ := hd.slice
  have R_d := Lib.hid hd
  clear hd
  have HB0 := Lib.hid (Below.refl w.heap.size w)
  have s0 : w.heap.size ≤ w.heap.size := Nat.le_refl _
  obtain ⟨Dd, hDd⟩ : ∃ D, D = d.take 200 := ⟨_, rfl⟩
  have hDld : Dd.length ≤ 200 := by rw [hDd]; simp; omega
  have hsd := fun v w (h : Rd w v d) => some_any v d 200 w h (by decide)
  rw [← hDd] at hsd
  have HSd := Lib.hid hsd
  have DLd := Lib.hid hDld
  have HDd := Lib.hid hDd
  clear hDd hDld hsd
  obtain ⟨K, hKe⟩ : ∃ K, K = fill a 32 := ⟨_, rfl⟩
  have hKl : K.length = 32 := by rw [hKe]; exact fill_length _ _
  have hfK := fun v w (h : Rd w v a) => filled_any v a 32 w h (by decide)
  rw [← hKe] at hfK
  have HFK := Lib.hid hfK
  have HLK := Lib.hid hKl
  have HEK := Lib.hid hKe
  clear hKe hKl hfK
  obtain ⟨S, hS⟩ : ∃ S, S = K.drop 16 := ⟨_, rfl⟩
  obtain ⟨A, hA⟩ : ∃ A, A = K.take 16 := ⟨_, rfl⟩
  have hSl : S.length = 16 := by rw [hS, List.length_drop, HLK.out]
  have hAl : A.length = 16 := by rw [hA, List.length_take, HLK.out]; rfl
  have hKe : K = A ++ S := by rw [hA, hS, List.take_append_drop]
  obtain ⟨X, hX⟩ : ∃ X, X = Pol.tag (A ++ List.replicate 16 0) Dd := ⟨_, rfl⟩
  obtain ⟨Y, hY⟩ : ∃ Y, Y = Pol.tag K Dd := ⟨_, rfl⟩
  have hXl : X.length = 16 := by rw [hX]; exact Pol.tag_length _ _
  have hYl : Y.length = 16 := by rw [hY]; exact Pol.tag_length _ _
  obtain ⟨g, hg⟩ : ∃ g : Nat → Nat, g = fun i => (X.getD i 0).toNat + (S.getD i 0).toNat := ⟨_, rfl⟩
  have hg7 : ∀ i, g i ≤ 765 := fun i => by
    rw [hg]
    have h1 := (X.getD i 0).toNat_lt
    have h2 := (S.getD i 0).toNat_lt
    show (X.getD i 0).toNat + (S.getD i 0).toNat ≤ 765
    omega
  have hby : ∀ i, i < 16 → (Y.getD i 0).toNat = (Pol.pre g i / 256 ^ i + g i) % 256 := fun i hi => by
    rw [hY, hg, hX]
    exact Pol.tag_shift A K S Dd hAl hSl hKe i hi
  have HS_ := Lib.hid hS
  have HA_ := Lib.hid hA
  have HSL_ := Lib.hid hSl
  have HAL_ := Lib.hid hAl
  have HX_ := Lib.hid hX
  have HY_ := Lib.hid hY
  have HXL_ := Lib.hid hXl
  have HYL_ := Lib.hid hYl
  have HG_ := Lib.hid hg
  have HG7_ := Lib.hid hg7
  have HBY_ := Lib.hid hby
  clear hS hA hSl hAl hKe hX hY hXl hYl hg hg7 hby
  go_enter Try.func8, Try.ntmps8
  go_wp2_with fail
  refine (HFK.out _ _ R_a.out).mono ?_
  rintro e w1 ⟨vk, rfl, hok, hb1⟩
  have T1 := Lib.hid hb1
  replace R_a := Lib.hid (R_a.out.stay T1.out)
  replace R_d := Lib.hid (R_d.out.stay T1.out)
  have HB1 := Lib.hid (HB0.out.trans (T1.out.mono s0))
  have s1 := HB1.out.size
  have R_k := Lib.hid hok.rd
  clear hb1 hok
  obtain ⟨bk, ok, ck, hvk, hck, hcmk⟩ := R_k.out.shapeN 32 HLK.out (by decide)
  subst hvk
  have hck1 : (16 : Int) ≤ (ck : Int) := by omega
  have hra := R_k.out.pre 16 (by rw [HLK.out]; decide)
  rw [← HA_.out] at hra
  have R_s := Lib.hid hra
  clear hra
  go_wp2_with (first
    | (at_builtin; refine apB rfl (.const (.slice none 0 0)) (.tmp 16) rfl w1.heap.size _ _ [] A rfl (Own.nil _ _) rfl R_s.out (by rw [HAL_.out]; decide) (Nat.le_refl _) ?_; intro v2 wm ho2 hg2; have O2 := Lib.hid ho2; have G2 := Lib.hid hg2; clear ho2 hg2)
    | (at_builtin; refine apZ rfl (.tmp 17) (.const (.int .i64 16)) rfl w1.heap.size _ _ rfl O2.out 16 _ rfl rfl (by simp [HAL_.out]) G2.out.size ?_; intro v3 w2 ho3 hg3; have O3 := Lib.hid ho3; have G3 := Lib.hid hg3; clear ho3 hg3))
  have T2 := Lib.hid (((Below.refl w1.heap.size w1).grown G2.out (Nat.le_refl _) (fun k hk => by cases hk)).grown G3.out G2.out.size (fun k hk => (O2.out.lt k hk).1))
  replace R_a := Lib.hid (R_a.out.stay T2.out)
  replace R_d := Lib.hid (R_d.out.stay T2.out)
  replace R_k := Lib.hid (R_k.out.stay T2.out)
  replace R_s := Lib.hid (R_s.out.stay T2.out)
  have HB2 := Lib.hid (HB1.out.trans (T2.out.mono s1))
  have s2 := HB2.out.size
  have R_y := Lib.hid O3.out.rd
  clear O2 G2 O3 G3
  refine (HSd.out _ _ R_d.out).mono ?_
  rintro e w3 ⟨vp, rfl, hop, hb3⟩
  have T3 := Lib.hid hb3
  replace R_a := Lib.hid (R_a.out.stay T3.out)
  replace R_d := Lib.hid (R_d.out.stay T3.out)
  replace R_k := Lib.hid (R_k.out.stay T3.out)
  replace R_s := Lib.hid (R_s.out.stay T3.out)
  replace R_y := Lib.hid (R_y.out.stay T3.out)
  have HB3 := Lib.hid (HB2.out.trans (T3.out.mono s2))
  have s3 := HB3.out.size
  have R_p := Lib.hid hop.rd
  clear hb3 hop
  go_wp2_with fail
  refine (Tag_ok _ _ _ _ _ R_y.out R_p.out (by simp [HAL_.out]) (by have := DLd.out; omega)).mono ?_
  rintro e w4 ⟨vt, rfl, hot, hb4⟩
  have T4 := Lib.hid hb4
  replace R_a := Lib.hid (R_a.out.stay T4.out)
  replace R_d := Lib.hid (R_d.out.stay T4.out)
  replace R_k := Lib.hid (R_k.out.stay T4.out)
  replace R_s := Lib.hid (R_s.out.stay T4.out)
  replace R_y := Lib.hid (R_y.out.stay T4.out)
  replace R_p := Lib.hid (R_p.out.stay T4.out)
  have HB4 := Lib.hid (HB3.out.trans (T4.out.mono s3))
  have s4 := HB4.out.size
  have R_t := Lib.hid hot.rd
  clear hb4 hot
  rw [List.nil_append, ← HX_.out] at R_t
  obtain ⟨bt, ot, ct, hvt, hct, hcmt⟩ := R_t.out.shapeN 16 HXL_.out (by decide)
  subst hvt
  clear R_y
  clear R_p
  clear R_s
  go_wp2_with fail
  refine (HSd.out _ _ R_d.out).mono ?_
  rintro e w5 ⟨vq, rfl, hoq, hb5⟩
  have T5 := Lib.hid hb5
  replace R_a := Lib.hid (R_a.out.stay T5.out)
  replace R_d := Lib.hid (R_d.out.stay T5.out)
  replace R_k := Lib.hid (R_k.out.stay T5.out)
  replace R_t := Lib.hid (R_t.out.stay T5.out)
  have HB5 := Lib.hid (HB4.out.trans (T5.out.mono s4))
  have s5 := HB5.out.size
  have R_q := Lib.hid hoq.rd
  clear hb5 hoq
  go_wp2_with fail
  refine (Tag_ok _ _ K _ _ R_k.out R_q.out HLK.out (by have := DLd.out; omega)).mono ?_
  rintro e w6 ⟨vu, rfl, hou, hb6⟩
  have T6 := Lib.hid hb6
  replace R_a := Lib.hid (R_a.out.stay T6.out)
  replace R_d := Lib.hid (R_d.out.stay T6.out)
  replace R_k := Lib.hid (R_k.out.stay T6.out)
  replace R_t := Lib.hid (R_t.out.stay T6.out)
  replace R_q := Lib.hid (R_q.out.stay T6.out)
  have HB6 := Lib.hid (HB5.out.trans (T6.out.mono s5))
  have s6 := HB6.out.size
  have R_u := Lib.hid hou.rd
  clear hb6 hou
  rw [← HY_.out] at R_u
  obtain ⟨bu, ou, cu, hvu, hcu, hcmu⟩ := R_u.out.shapeN 16 HYL_.out (by decide)
  subst hvu
  clear R_q
  clear R_a
  clear R_d
  go_wp2_with fail
  go_loopw [11, 12] (fun c i wr => ∃ k : Nat, k ≤ 16 ∧ i = .int .i64 k ∧ c = .int .i64 ((Pol.pre g k / 256 ^ k : Nat) : Int) ∧ Below w6.heap.size w6 wr)
    (fun _ i _ => 16 - (intOf i).toNat)
  case atStart => exact ⟨0, by omega, rfl, by simp [Pol.pre], Below.refl _ _⟩
  case round =>
    obtain ⟨k, hk, rfl, rfl, hb⟩ := hrel
    have HBr := Lib.hid hb
    have hcb := Pol.pre_lt g HG7_.out k
    obtain ⟨c, hc⟩ : ∃ c, c = Pol.pre g k / 256 ^ k := ⟨_, rfl⟩
    rw [← hc] at hcb ⊢
    by_cases hlt : k < 16
    · have hd16 : decide ((k : Int) < 16) = true := by rw [decide_eq_true_eq]; omega
      obtain ⟨x0, hx0⟩ : ∃ x, x = X.getD k 0 := ⟨_, rfl⟩
      have hxb0 := x0.toNat_lt
      have cell0 := cellOf (R_t.out.stay hb) k (by rw [HXL_.out]; exact hlt)
      rw [← hx0] at cell0
      obtain ⟨x1, hx1⟩ : ∃ x, x = S.getD k 0 := ⟨_, rfl⟩
      have hxb1 := x1.toNat_lt
      have cell1 := cellOf (R_k.out.stay hb) (16 + k) (by rw [HLK.out]; omega)
      rw [show K.getD (16 + k) 0 = x1 by rw [hx1, HS_.out]; simp [List.getElem?_drop]] at cell1
      obtain ⟨x2, hx2⟩ : ∃ x, x = Y.getD k 0 := ⟨_, rfl⟩
      have hxb2 := x2.toNat_lt
      have cell2 := cellOf (R_u.out.stay hb) k (by rw [HYL_.out]; exact hlt)
      rw [← hx2] at cell2
      have hgk : g k = x0.toNat + x1.toNat := by rw [HG_.out, hx0, hx1]
      have hby : x2.toNat = (c + (x0.toNat + x1.toNat)) % 256 := by rw [hx2, HBY_.out k hlt, hgk, hc]
      have hnx : Pol.pre g (k + 1) / 256 ^ (k + 1) = (c + (x0.toNat + x1.toNat)) / 256 := by rw [Pol.pre_next, hgk, hc]
      have HNX := Lib.hid hnx
      have HBY := Lib.hid hby
      have HBS := Lib.hid hby
      obtain ⟨t, ht⟩ : ∃ t, t = c + (x0.toNat + x1.toNat) := ⟨_, rfl⟩
      rw [← ht] at hby
      have htb : t ≤ 1000 := by omega
      have ht0 : ((c : Int) + ((x0.toNat : Int) + (x1.toNat : Int))) = (t : Int) := by rw [ht]; push_cast; rfl
      have hw1 : IntKind.i64.wrap ((c : Int) + ((x0.toNat : Int) + (x1.toNat : Int))) = (t : Int) := by rw [ht0]; exact IntWalk.i64_in _ (by omega)
      have hw0 : IntKind.i64.wrap ((x0.toNat : Int) + (x1.toNat : Int)) = (x0.toNat : Int) + (x1.toNat : Int) := IntWalk.i64_in _ (by omega)
      have hwk : IntKind.i64.wrap (16 + (k : Int)) = 16 + (k : Int) := IntWalk.i64_in _ (by omega)
      have hwn : (0 : Int) ≤ 16 + (k : Int) := by omega
      have hwl : (16 : Int) + (k : Int) < 32 := by omega
      have hwt : ((16 : Int) + (k : Int)).toNat = 16 + k := by omega
      have hne : ((t : Int) % 256 != (x2.toNat : Int)) = false := by rw [bne_eq_false_iff_eq]; omega
      have HTT := Lib.hid ht
      clear hx0
      clear hx1
      clear hx2
      clear hb hc hgk hnx ht HBS ht0 hby
      go_wp2_with fail
      go_quiet (fail)
      clear hw0 hw1 hwk hwn hwl hwt  cell0 cell1
      go_wp2_with fail
      go_roundw
      case rel =>
        refine ⟨k + 1, by omega, by go_num, ?_, below_drewN HBr.out nq⟩
        rw [HNX.out, ← HTT.out]
        rfl
      case measure => simp [intOf]; omega
    · have hd16 : decide ((k : Int) < 16) = false := by rw [decide_eq_false_iff_not]; omega
      clear hb
      go_wp2
      go_ret
      exact ⟨rfl, HB6.out.trans (HBr.out.mono s6)⟩

end Go.Proofs.Ytpkfbmafbkgcmaa
