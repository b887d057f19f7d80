/-
  The walk of conclavekeep.TagBits: bits of the first half that do not count change nothing.
-/
import Derived.Test.YtpkfbmafbkgcmaaTag
import Derived.Test.YtpkfbmafbkgcmaaTagP
import Derived.Test.YtpkfbmafbkgcmaaFilled
import Derived.Test.YtpkfbmafbkgcmaaSome
import Derived.Test.YtpkfbmafbkgcmaaSameK
import Derived.Test.YtpkfbmafbkgcmaaFrm
import Derived.Test.YtpkfbmafbkgcmaaTail
import Derived.Test.YtpkfbmafbkgcmaaPick
set_option linter.unusedVariables false
set_option linter.unusedSimpArgs false
namespace Go.Proofs.Ytpkfbmafbkgcmaa
open Go.RowKit Go.Con

theorem quiet_sameT {f : FuncId} {args : Array Value} {w W : World} {v : Value} (h : Calls Try.prog f args W fun e w' => e = .returned v ∧ w' = W) (hW : ∃ n, W = w.drewN n) :
    Calls Try.prog f args W fun e w'' => e = .returned v ∧ ∃ n, w'' = w.drewN n :=
  h.mono fun _ _ ⟨he, hm⟩ => ⟨he, by rw [hm]; exact hW⟩
theorem picked_toT (n m q : Int) (w : World) (h1 : -9223372036854775808 ≤ n) (h2 : n ≤ 9223372036854775807) (h3 : 0 < m) (hq : Hid (pick n m = q)) :
    Calls Try.prog 30 #[.int .i64 n, .int .i64 m] w fun e w' => e = .returned (.int .i64 q) ∧ w' = w :=
  (picked_any n m w h1 h2 h3).mono fun e w' ⟨he, hw⟩ => ⟨by rw [he, hq.out], hw.symm⟩
def xorA (z : UInt8) (s : List UInt8) : Nat → List UInt8
  | 0 => s
  | k + 1 => (xorA z s k).set (4 * k + 3) ((xorA z s k).getD (4 * k + 3) 0 ^^^ z)
def xorB (z : UInt8) (s : List UInt8) : Nat → List UInt8
  | 0 => s
  | k + 1 => (xorB z s k).set (4 * k + 4) ((xorB z s k).getD (4 * k + 4) 0 ^^^ z)
theorem xorA_length (z : UInt8) (s : List UInt8) (k : Nat) : (xorA z s k).length = s.length := by
  induction k with
  | zero => rfl
  | succ k ih => rw [xorA, List.length_set, ih]
theorem xorB_length (z : UInt8) (s : List UInt8) (k : Nat) : (xorB z s k).length = s.length := by
  induction k with
  | zero => rfl
  | succ k ih => rw [xorB, List.length_set, ih]
theorem and_xor (x z m : UInt8) (h : z &&& m = 0) : (x ^^^ z) &&& m = x &&& m := by
  apply UInt8.toNat_inj.1
  have h' : z.toNat &&& m.toNat = 0 := by rw [← UInt8.toNat_and, h]; rfl
  rw [UInt8.toNat_and, UInt8.toNat_and, UInt8.toNat_xor, Nat.and_xor_distrib_right, h', Nat.xor_zero]
theorem bits15 (p : Nat) (h : p < 16) : UInt8.ofNat (p * 16) &&& 15 = 0 := by
  have : ∀ p : Fin 16, UInt8.ofNat (p.val * 16) &&& 15 = 0 := by decide
  exact this ⟨p, h⟩
theorem bits252 (p : Nat) (h : p < 4) : UInt8.ofNat p &&& 252 = 0 := by
  have : ∀ p : Fin 4, UInt8.ofNat p.val &&& 252 = 0 := by decide
  exact this ⟨p, h⟩
theorem bits_tag (k data : List UInt8) (z1 z2 : UInt8) (hk : k.length = 32) (h1 : z1 &&& 15 = 0) (h2 : z2 &&& 252 = 0) : Pol.tag (xorB z2 (xorA z1 k 4) 3) data = Pol.tag k data := by
  have e1 := fun x => and_xor x z1 15 h1
  have e2 := fun x => and_xor x z2 252 h2
  match k, hk with
  | [a0, a1, a2, a3, a4, a5, a6, a7, a8, a9, a10, a11, a12, a13, a14, a15, a16, a17, a18, a19, a20, a21, a22, a23, a24, a25, a26, a27, a28, a29, a30, a31], _ =>
    simp [xorA, xorB, Pol.tag, Pol.clamp, e1, e2]
set_option maxRecDepth 100000 in
set_option maxHeartbeats 2000000 in
theorem walk_TagBits (va : Value) (a : List UInt8) (vd : Value) (d : List UInt8) (vm : Value) (m : Int) (w : World) (ha : Rd w va a) (hd : Rd w vd d) (hm : IsInt vm m) :
    Calls Try.prog 9 #[va, vd, vm] w fun e w' => e = .returned (.bool true) ∧ Below w.heap.size w w' := by
  obtain ⟨aa, ca, rfl, hlca, hcma⟩ := ha.slice
  have R_a := Lib.hid ha
  clear ha
  obtain ⟨ad, cd, rfl, hlcd, hcmd⟩ := hd.slice
  have R_d := Lib.hid hd
  clear hd
  obtain ⟨rfl, hm1, hm2⟩ := hm
  have HB0 := Lib.hid (Below.refl w.heap.size w)
  have s0 : w.heap.size ≤ w.heap.size := Nat.le_refl _
  obtain ⟨Dd, hDd⟩ : ∃ D, D = d.take 200 := ⟨_, rfl⟩
  have hDld : Dd.length ≤ 200 := by rw [hDd]; simp; omega
  have hsd := fun v w (h : Rd w v d) => some_any v d 200 w h (by decide)
  rw [← hDd] at hsd
  have HSd := Lib.hid hsd
  have DLd := Lib.hid hDld
  have HDd := Lib.hid hDd
  clear hDd hDld hsd
  obtain ⟨K, hKe⟩ : ∃ K, K = fill a 32 := ⟨_, rfl⟩
  have hKl : K.length = 32 := by rw [hKe]; exact fill_length _ _
  have hfK := fun v w (h : Rd w v a) => filled_any v a 32 w h (by decide)
  rw [← hKe] at hfK
  have HFK := Lib.hid hfK
  have HLK := Lib.hid hKl
  have HEK := Lib.hid hKe
  clear hKe hKl hfK
  have p0 := pick_nonneg m 16 (by decide)
  have p1 := pick_lt m 16 (by decide)
  obtain ⟨p1n, hp1⟩ : ∃ c : Nat, pick m 16 = (c : Int) := ⟨(pick m 16).toNat, by omega⟩
  have hpb1 : p1n < 16 := by omega
  have HP1 := Lib.hid hp1
  clear hp1 p0 p1
  have p0 := pick_nonneg m 4 (by decide)
  have p1 := pick_lt m 4 (by decide)
  obtain ⟨p2n, hp2⟩ : ∃ c : Nat, pick m 4 = (c : Int) := ⟨(pick m 4).toNat, by omega⟩
  have hpb2 : p2n < 4 := by omega
  have HP2 := Lib.hid hp2
  clear hp2 p0 p1
  obtain ⟨z1, hz1⟩ : ∃ z, z = UInt8.ofNat (p1n * 16) := ⟨_, rfl⟩
  obtain ⟨z2, hz2⟩ : ∃ z, z = UInt8.ofNat p2n := ⟨_, rfl⟩
  have hz1n : (p1n : Int) * 16 = (z1.toNat : Int) := by rw [hz1, UInt8.toNat_ofNat']; omega
  have hz2n : (p2n : Int) = (z2.toNat : Int) := by rw [hz2, UInt8.toNat_ofNat']; omega
  obtain ⟨Y, hY⟩ : ∃ Y, Y = Pol.tag K Dd := ⟨_, rfl⟩
  have hYl : Y.length = 16 := by rw [hY]; exact Pol.tag_length _ _
  obtain ⟨C, hC⟩ : ∃ C, C = xorB z2 (xorA z1 K 4) 3 := ⟨_, rfl⟩
  have hCl : C.length = 32 := by rw [hC, xorB_length, xorA_length]; exact HLK.out
  have hCY : Pol.tag C Dd = Y := by rw [hC, hY]; exact bits_tag K Dd z1 z2 HLK.out (by rw [hz1]; exact bits15 _ hpb1) (by rw [hz2]; exact bits252 _ hpb2)
  obtain ⟨S, hS⟩ : ∃ S, S = K.drop 16 := ⟨_, rfl⟩
  have htk : Pol.tag K [] = S := by rw [hS]; exact Pol.tag_nil K HLK.out
  have HY_ := Lib.hid hY
  have HYL_ := Lib.hid hYl
  have HC_ := Lib.hid hC
  have HCL_ := Lib.hid hCl
  have HCY_ := Lib.hid hCY
  have HS_ := Lib.hid hS
  have HTK_ := Lib.hid htk
  have HZ1 := Lib.hid hz1n
  have HZ2 := Lib.hid hz2n
  clear hY hYl hC hCl hCY hS htk hz1 hz2 hz1n hz2n
  go_enter Try.func9, Try.ntmps9
  go_wp2_with fail
  refine (HFK.out _ _ R_a.out).mono ?_
  rintro e w1 ⟨vk, rfl, hok, hb1⟩
  have T1 := Lib.hid hb1
  replace R_a := Lib.hid (R_a.out.stay T1.out)
  replace R_d := Lib.hid (R_d.out.stay T1.out)
  have HB1 := Lib.hid (HB0.out.trans (T1.out.mono s0))
  have s1 := HB1.out.size
  have R_k := Lib.hid hok.rd
  clear hb1 hok
  obtain ⟨bk, ok, ck, hvk, hck, hcmk⟩ := R_k.out.shapeN 32 HLK.out (by decide)
  subst hvk
  have R0_k := R_k
  have R0_d := R_d
  go_wp2_with (at_builtin; refine apB rfl (.const (.slice none 0 0)) (.tmp 19) rfl w1.heap.size _ _ [] K rfl (Own.nil _ _) rfl R_k.out (by rw [HLK.out]; decide) (Nat.le_refl _) ?_; intro v2 w2 ho2 hg2; have O2 := Lib.hid ho2; have G2 := Lib.hid hg2; clear ho2 hg2)
  have T2 := Lib.hid ((Below.refl w1.heap.size w1).grown G2.out (Nat.le_refl _) (fun k hk => by cases hk))
  replace R_a := Lib.hid (R_a.out.stay T2.out)
  replace R_d := Lib.hid (R_d.out.stay T2.out)
  replace R_k := Lib.hid (R_k.out.stay T2.out)
  have HB2 := Lib.hid (HB1.out.trans (T2.out.mono s1))
  have s2 := HB2.out.size
  obtain ⟨gc, cc, hvc, hgc, hgcl, hcc, hccm⟩ := O2.out.shape (by intro h; have := HLK.out; rw [List.nil_append] at h; rw [h] at this; cases this)
  rw [List.nil_append, HLK.out] at hvc hcc
  subst hvc
  have oc : Own w2 w1.heap.size (.slice (some ⟨gc, 0, none⟩) 32 cc) K := O2.out
  have OC := Lib.hid oc
  clear oc O2 G2
  go_wp2_with fail
  go_loopw [9] (fun i wr => ∃ k j : Nat, k ≤ 4 ∧ Hid (j = 4 * k + 3) ∧ j ≤ 19 ∧ i = .int .i64 j ∧ Own wr w1.heap.size (.slice (some ⟨gc, 0, none⟩) 32 cc) (xorA z1 K k) ∧ Below w1.heap.size w1 wr) (fun i _ => 20 - (intOf i).toNat)
  case atStart => exact ⟨0, 3, by omega, Lib.hid rfl, by omega, rfl, OC.out, T2.out⟩
  case round =>
    obtain ⟨k, j, hk, HJ, hj, rfl, ho, hb⟩ := hrel
    have HO := Lib.hid ho
    have HB := Lib.hid hb
    have hl : (xorA z1 K k).length = 32 := by rw [xorA_length]; exact HLK.out
    by_cases hlt : j < 16
    · have hd16 : decide ((j : Int) < 16) = true := by rw [decide_eq_true_eq]; omega
      have hk4 : k < 4 := by have := HJ.out; omega
      have hjb : j ≤ 15 := by have := HJ.out; omega
      obtain ⟨x, hx⟩ : ∃ x, x = (xorA z1 K k).getD j 0 := ⟨_, rfl⟩
      have c1 := ho.cellB j (by omega)
      have f1 := ho.freeB j
      rw [← hx] at c1
      have hcs : xorA z1 K (k + 1) = (xorA z1 K k).set j (x ^^^ z1) := by rw [hx, HJ.out]; rfl
      have HCS := Lib.hid hcs
      clear ho hb hl hx hcs
      go_wp2_with fail
      refine region_quiet_tail 10 (by kernel_rfl) (by kernel_rfl) ?_
      simp only [List.take_succ_cons, List.take_zero, List.drop_succ_cons, List.drop_zero]
      repeat (go_big_quiet_step ((go_at_call 30; refine quiet_sameT (picked_toT _ _ _ _ (by assumption) (by assumption) (by omega) HP1) ⟨_, rfl⟩)))
      refine wpQuiet_nil ?_
      intro w9 hw9
      obtain ⟨nq, rfl⟩ := hw9
      go_wp2_with fail
      go_roundw
      case rel =>
        refine ⟨k + 1, j + 4, by omega, Lib.hid (by rw [HJ.out]; omega), by omega, by go_num, ?_, (below_drewN HB.out nq).setCell hgc _⟩
        rw [HCS.out]
        have e := u8_xorF x z1
        rw [← HZ1.out] at e
        rw [e]
        exact (HO.out.drewN nq).setB j _
      case measure => simp [intOf]; omega
    · have hd16 : decide ((j : Int) < 16) = false := by rw [decide_eq_false_iff_not]; omega
      have hkl : k = 4 := by have := HJ.out; omega
      rw [hkl] at ho
      have O1 := Lib.hid ho
      have B1 := Lib.hid hb
      clear ho hb hl hkl HO HB
      go_wp2_with fail
      go_loopw [10] (fun i wr => ∃ k j : Nat, k ≤ 3 ∧ Hid (j = 4 * k + 4) ∧ j ≤ 16 ∧ i = .int .i64 j ∧ Own wr w1.heap.size (.slice (some ⟨gc, 0, none⟩) 32 cc) (xorB z2 (xorA z1 K 4) k) ∧ Below w1.heap.size w1 wr) (fun i _ => 20 - (intOf i).toNat)
      case atStart => exact ⟨0, 4, by omega, Lib.hid rfl, by omega, rfl, O1.out, B1.out⟩
      case round =>
        obtain ⟨k, j, hk, HJ, hj, rfl, ho, hb⟩ := hrel
        have HO := Lib.hid ho
        have HB := Lib.hid hb
        have hl : (xorB z2 (xorA z1 K 4) k).length = 32 := by rw [xorB_length, xorA_length]; exact HLK.out
        by_cases hlt : j < 16
        · have hd16 : decide ((j : Int) < 16) = true := by rw [decide_eq_true_eq]; omega
          have hk4 : k < 3 := by have := HJ.out; omega
          have hjb : j ≤ 12 := by have := HJ.out; omega
          obtain ⟨x, hx⟩ : ∃ x, x = (xorB z2 (xorA z1 K 4) k).getD j 0 := ⟨_, rfl⟩
          have c1 := ho.cellB j (by omega)
          have f1 := ho.freeB j
          rw [← hx] at c1
          have hcs : xorB z2 (xorA z1 K 4) (k + 1) = (xorB z2 (xorA z1 K 4) k).set j (x ^^^ z2) := by rw [hx, HJ.out]; rfl
          have HCS := Lib.hid hcs
          clear ho hb hl hx hcs
          go_wp2_with fail
          refine region_quiet_tail 9 (by kernel_rfl) (by kernel_rfl) ?_
          simp only [List.take_succ_cons, List.take_zero, List.drop_succ_cons, List.drop_zero]
          repeat (go_big_quiet_step ((go_at_call 30; refine quiet_sameT (picked_toT _ _ _ _ (by assumption) (by assumption) (by omega) HP2) ⟨_, rfl⟩)))
          refine wpQuiet_nil ?_
          intro w9 hw9
          obtain ⟨nq, rfl⟩ := hw9
          go_wp2_with fail
          go_roundw
          case rel =>
            refine ⟨k + 1, j + 4, by omega, Lib.hid (by rw [HJ.out]; omega), by omega, by go_num, ?_, (below_drewN HB.out nq).setCell hgc _⟩
            rw [HCS.out]
            have e := u8_xorF x z2
            rw [← HZ2.out] at e
            rw [e]
            exact (HO.out.drewN nq).setB j _
          case measure => simp [intOf]; omega
        · have hd16 : decide ((j : Int) < 16) = false := by rw [decide_eq_false_iff_not]; omega
          have hkl : k = 3 := by have := HJ.out; omega
          rw [hkl, ← HC_.out] at ho
          have RC := Lib.hid ho.rd
          have BC := Lib.hid hb
          clear ho hb hl hkl
          have R_k3 := Lib.hid (R0_k.out.stay BC.out)
          have R_d3 := Lib.hid (R0_d.out.stay BC.out)
          have HB3 := Lib.hid (HB1.out.trans (BC.out.mono s1))
          have s3 := HB3.out.size
          have sc := BC.out.size
          go_wp2_with fail
          refine (HSd.out _ _ R_d3.out).mono ?_
          rintro e w4 ⟨vp, rfl, hop, hb4⟩
          have T4 := Lib.hid hb4
          have RP := Lib.hid hop.rd
          clear hb4 hop
          go_wp2_with fail
          refine (Tag_ok _ _ K _ _ (R_k3.out.stay T4.out) RP.out HLK.out (by have := DLd.out; omega)).mono ?_
          rintro e w5 ⟨vt, rfl, hot, hb5⟩
          have T5 := Lib.hid (T4.out.trans (hb5.mono T4.out.size))
          have RT := Lib.hid hot.rd
          clear hb5 hot
          rw [← HY_.out] at RT
          obtain ⟨at_, ct, hvt, hct, _⟩ := RT.out.sliceN 16 HYL_.out
          subst hvt
          go_wp2_with fail
          refine (HSd.out _ _ (R_d3.out.stay T5.out)).mono ?_
          rintro e w6 ⟨vq, rfl, hoq, hb6⟩
          have T6 := Lib.hid (T5.out.trans (hb6.mono T5.out.size))
          have RQ := Lib.hid hoq.rd
          have RT6 := Lib.hid (RT.out.stay hb6)
          clear hb6 hoq
          go_wp2_with fail
          refine (Tag_ok _ _ C _ _ (RC.out.stay T6.out) RQ.out HCL_.out (by have := DLd.out; omega)).mono ?_
          rintro e w7 ⟨vu, rfl, hou, hb7⟩
          have T7 := Lib.hid (T6.out.trans (hb7.mono T6.out.size))
          have RU := Lib.hid hou.rd
          have RT7 := Lib.hid (RT6.out.stay hb7)
          clear hb7 hou
          rw [HCY_.out] at RU
          go_wp2_with fail
          refine (Tag_ok _ _ K [] _ (R_k3.out.stay T7.out) (Rd.nil _) HLK.out (by decide)).mono ?_
          rintro e w8 ⟨vx, rfl, hox, hb8⟩
          have T8 := Lib.hid (T7.out.trans (hb8.mono T7.out.size))
          have RX := Lib.hid hox.rd
          have RT8 := Lib.hid (RT7.out.stay hb8)
          have RU8 := Lib.hid (RU.out.stay hb8)
          clear hb8 hox
          rw [HTK_.out] at RX
          have hrs := (R_k3.out.stay T8.out).tail 16 16 (by decide) rfl
          rw [← HS_.out] at hrs
          have RS := Lib.hid hrs
          clear hrs
          have hck1 : (16 : Int) ≤ (ck : Int) := by omega
          have hck3 : ¬ (ck = 16) := by omega
          go_wp2_with fail
          refine (same_true _ _ _ _ _ RT8.out RU8.out rfl).mono ?_
          rintro e _ ⟨rfl, rfl⟩
          go_wp2_with fail
          refine (same_true _ _ _ _ _ RX.out RS.out rfl).mono ?_
          rintro e _ ⟨rfl, rfl⟩
          go_wp2
          go_ret
          exact ⟨rfl, HB3.out.trans (T8.out.mono s3)⟩

end Go.Proofs.Ytpkfbmafbkgcmaa
