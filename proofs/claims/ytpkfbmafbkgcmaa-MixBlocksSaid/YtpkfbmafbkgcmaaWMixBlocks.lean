/-
  The walk of conclavekeep.MixBlocks: the stream is the blocks.
-/
import Derived.Test.YtpkfbmafbkgcmaaChaP
set_option linter.unusedVariables false
set_option linter.unusedSimpArgs false
namespace Go.Proofs.Ytpkfbmafbkgcmaa
open Go.RowKit Go.Con

/-- so many blocks, one behind the other -/
def blocksTo (key : List UInt8) (c : Nat) (nonce : List UInt8) : Nat → List UInt8
  | 0 => []
  | q + 1 => blocksTo key c nonce q ++ Cha.block key (UInt32.ofNat (c + q)) nonce
theorem blocksTo_length (key : List UInt8) (c : Nat) (nonce : List UInt8) (q : Nat) : (blocksTo key c nonce q).length = 64 * q := by
  induction q with
  | zero => rfl
  | succ q ih => rw [blocksTo, List.length_append, ih, Cha.block_length]; omega
theorem blocksTo_at (key : List UInt8) (c : Nat) (nonce : List UInt8) (q i : Nat) (hi : i < 64 * q) : (blocksTo key c nonce q).getD i 0 = (Cha.block key (UInt32.ofNat (c + i / 64)) nonce).getD (i % 64) 0 := by
  induction q with
  | zero => omega
  | succ q ih =>
    have hl := blocksTo_length key c nonce q
    simp only [blocksTo, List.getD_eq_getElem?_getD]
    by_cases h : i < 64 * q
    · rw [List.getElem?_append_left (by omega)]
      have := ih h
      simpa only [List.getD_eq_getElem?_getD] using this
    · rw [List.getElem?_append_right (by omega), hl, show i / 64 = q by omega, show i % 64 = i - 64 * q by omega]
theorem blocks_stream (key : List UInt8) (c : Nat) (nonce : List UInt8) (q L : Nat) (h : L ≤ 64 * q) : Cha.mix key c nonce (List.replicate L 0) = (blocksTo key c nonce q).take L := by
  apply List.ext_getElem (by rw [Cha.mix_length, List.length_take, blocksTo_length, List.length_replicate]; omega)
  intro i h1 h2
  have hi : i < L := by simpa [Cha.mix_length] using h1
  have e1 := Cha.mix_at key c nonce (List.replicate L 0) i (by simpa using hi)
  have e2 := blocksTo_at key c nonce q i (by omega)
  have l2 : i < (blocksTo key c nonce q).length := by rw [blocksTo_length]; omega
  simp only [List.getD_eq_getElem?_getD, List.getElem?_eq_getElem h1, List.getElem?_eq_getElem l2, Option.getD_some] at e1 e2
  rw [e1, List.getElem_take, e2, Cha.mixAt]
  simp [hi]
theorem mix_part (key : List UInt8) (c : Nat) (nonce data : List UInt8) (q m : Nat) (hq : 64 * q < data.length) (hm : m ≤ 64) (hl : 64 * q + m = data.length ∨ m = 64) (hle : 64 * q + m ≤ data.length) :
    (Cha.mix key c nonce data).take (64 * q) ++ Cha.mix key (c + q) nonce ((data.drop (64 * q)).take m) = (Cha.mix key c nonce data).take (64 * (q + 1)) := by
  have e : (Cha.mix key c nonce data).take (64 * (q + 1)) = (Cha.mix key c nonce data).take (64 * q + m) := by
    rcases hl with h | h
    · rw [h, List.take_of_length_le (by rw [Cha.mix_length]; omega), List.take_of_length_le (by rw [Cha.mix_length]; omega)]
    · rw [h]; congr 1
  rw [e, List.take_add]
  congr 1
  apply List.ext_getElem
  · rw [Cha.mix_length]; simp [Cha.mix_length]
  intro i h1 h2
  have hi : i < m := by rw [Cha.mix_length] at h1; simp at h1; omega
  have e1 := Cha.mix_at key (c + q) nonce ((data.drop (64 * q)).take m) i (by simp; omega)
  have e2 := Cha.mix_at key c nonce data (64 * q + i) (by omega)
  have l2 : 64 * q + i < (Cha.mix key c nonce data).length := by rw [Cha.mix_length]; omega
  simp only [List.getD_eq_getElem?_getD, List.getElem?_eq_getElem h1, List.getElem?_eq_getElem l2, Option.getD_some] at e1 e2
  rw [e1, List.getElem_take, List.getElem_drop, e2, Cha.mixAt, Cha.mixAt, show c + (64 * q + i) / 64 = c + q + i / 64 by omega, show (64 * q + i) % 64 = i % 64 by omega]
  simp [List.getElem?_take, hi, List.getElem?_drop]
set_option maxRecDepth 100000 in
set_option maxHeartbeats 2000000 in
theorem walk_MixBlocks (va : Value) (a : List UInt8) (vm : Value) (m : Int) (vb : Value) (b : List UInt8) (vd : Value) (d : List UInt8) (w : World) (ha : Rd w va a) (hm : IsInt vm m) (hb : Rd w vb b) (hd : Rd w vd d) :
    Calls Try.prog 6 #[va, vm, vb, vd] w fun e w' => e = .returned (.bool true) ∧ Below w.heap.size w w' := by
  obtain ⟨aa, ca, rfl, hlca, hcma⟩ := ha.slice
  have R_a := Lib.hid ha
  clear ha
  obtain ⟨rfl, hm1, hm2⟩ := hm
  obtain ⟨ab, cb, rfl, hlcb, hcmb⟩ := hb.slice
  have R_b := Lib.hid hb
  clear hb
  obtain ⟨ad, cd, rfl, hlcd, hcmd⟩ := hd.slice
  have R_d := Lib.hid hd
  clear hd
  have HB0 := Lib.hid (Below.refl w.heap.size w)
  have s0 : w.heap.size ≤ w.heap.size := Nat.le_refl _
  have p0 := pick_nonneg m 1073741814 (by decide)
  have p1 := pick_lt m 1073741814 (by decide)
  obtain ⟨c, hc⟩ : ∃ c : Nat, pick m 1073741814 = (c : Int) := ⟨(pick m 1073741814).toNat, by omega⟩
  have hpm := fun w => picked_any m 1073741814 w hm1 hm2 (by decide)
  rw [hc] at hpm
  have HPM := Lib.hid hpm
  have hcl : c < 1073741814 := by omega
  clear hpm hc p0 p1
  obtain ⟨Dd, hDd⟩ : ∃ D, D = d.take 300 := ⟨_, rfl⟩
  have hDld : Dd.length ≤ 300 := by rw [hDd]; simp; omega
  have hsd := fun v w (h : Rd w v d) => some_any v d 300 w h (by decide)
  rw [← hDd] at hsd
  have HSd := Lib.hid hsd
  have DLd := Lib.hid hDld
  have HDd := Lib.hid hDd
  clear hDd hDld hsd
  obtain ⟨L, hL⟩ : ∃ L, Dd.length = L := ⟨_, rfl⟩
  have hL3 : L ≤ 300 := by rw [← hL]; exact DLd.out
  obtain ⟨K, hKe⟩ : ∃ K, K = fill a 32 := ⟨_, rfl⟩
  obtain ⟨N, hNe⟩ : ∃ N, N = fill b 12 := ⟨_, rfl⟩
  have hKl : K.length = 32 := by rw [hKe]; exact fill_length _ _
  have hNl : N.length = 12 := by rw [hNe]; exact fill_length _ _
  have hfk := fun v w (h : Rd w v a) => filled_any v a 32 w h (by decide)
  have hfn := fun v w (h : Rd w v b) => filled_any v b 12 w h (by decide)
  rw [← hKe] at hfk
  rw [← hNe] at hfn
  obtain ⟨X, hX⟩ : ∃ X, X = Cha.mix K c N Dd := ⟨_, rfl⟩
  have hXl : X.length = L := by rw [hX, Cha.mix_length]; exact hL
  have HLh := Lib.hid hL
  have HKEh := Lib.hid hKe
  have HNEh := Lib.hid hNe
  have HKLh := Lib.hid hKl
  have HNLh := Lib.hid hNl
  have HFKh := Lib.hid hfk
  have HFNh := Lib.hid hfn
  have HXh := Lib.hid hX
  have HXLh := Lib.hid hXl
  clear hL hKe hNe hKl hNl hfk hfn hX hXl
  go_enter Try.func6, Try.ntmps6
  go_wp2_with fail
  refine (HFKh.out _ _ R_a.out).mono ?_
  rintro e w1 ⟨vk, rfl, hok, hb1⟩
  have T1 := Lib.hid hb1
  replace R_a := Lib.hid (R_a.out.stay T1.out)
  replace R_b := Lib.hid (R_b.out.stay T1.out)
  replace R_d := Lib.hid (R_d.out.stay T1.out)
  have HB1 := Lib.hid (HB0.out.trans (T1.out.mono s0))
  have s1 := HB1.out.size
  have R_k := Lib.hid hok.rd
  clear hb1 hok
  go_wp2_with fail
  refine (HFNh.out _ _ R_b.out).mono ?_
  rintro e w2 ⟨vn, rfl, hon, hb2⟩
  have T2 := Lib.hid hb2
  replace R_a := Lib.hid (R_a.out.stay T2.out)
  replace R_b := Lib.hid (R_b.out.stay T2.out)
  replace R_d := Lib.hid (R_d.out.stay T2.out)
  replace R_k := Lib.hid (R_k.out.stay T2.out)
  have HB2 := Lib.hid (HB1.out.trans (T2.out.mono s1))
  have s2 := HB2.out.size
  have R_n := Lib.hid hon.rd
  clear hb2 hon
  go_wp2_with fail
  refine (HPM.out _).mono ?_
  rintro e _ ⟨rfl, rfl⟩
  go_wp2_with fail
  refine (HSd.out _ _ R_d.out).mono ?_
  rintro e w3 ⟨vp, rfl, hop, hb3⟩
  have T3 := Lib.hid hb3
  replace R_a := Lib.hid (R_a.out.stay T3.out)
  replace R_b := Lib.hid (R_b.out.stay T3.out)
  replace R_d := Lib.hid (R_d.out.stay T3.out)
  replace R_k := Lib.hid (R_k.out.stay T3.out)
  replace R_n := Lib.hid (R_n.out.stay T3.out)
  have HB3 := Lib.hid (HB2.out.trans (T3.out.mono s2))
  have s3 := HB3.out.size
  have R_p := Lib.hid hop.rd
  clear hb3 hop
  obtain ⟨ap, cp, hvp, hcp, hcpm⟩ := R_p.out.sliceN L HLh.out
  subst hvp
  go_wp2_with fail
  refine (Mix_nat _ _ _ K N Dd _ c _ R_k.out R_n.out R_p.out HKLh.out HNLh.out (by omega) (by rw [HLh.out]; omega) rfl).mono ?_
  rintro e w4 ⟨vx, rfl, hox, hb4⟩
  have T4 := Lib.hid hb4
  replace R_a := Lib.hid (R_a.out.stay T4.out)
  replace R_b := Lib.hid (R_b.out.stay T4.out)
  replace R_d := Lib.hid (R_d.out.stay T4.out)
  replace R_k := Lib.hid (R_k.out.stay T4.out)
  replace R_n := Lib.hid (R_n.out.stay T4.out)
  replace R_p := Lib.hid (R_p.out.stay T4.out)
  have HB4 := Lib.hid (HB3.out.trans (T4.out.mono s3))
  have s4 := HB4.out.size
  have R_x := Lib.hid hox.rd
  clear hb4 hox
  rw [← HXh.out] at R_x
  go_wp2_with fail
  have hn0 : Rd w4 (.slice none 0 0) [] := Rd.nil _
  go_loopw [15, 16, 17] (fun va vp i wr => ∃ q : Nat, 64 * q < L + 64 ∧ i = .int .i64 q ∧ Own wr w4.heap.size va (blocksTo K c N q) ∧ Own wr w4.heap.size vp (X.take (64 * q)) ∧ (∀ j, va.ownBlock = some j → vp.ownBlock ≠ some j) ∧ Below w4.heap.size w4 wr)
    (fun _ _ i _ => L + 64 - 64 * (intOf i).toNat)
  case atStart => exact ⟨0, by omega, rfl, Own.nil _ _, Own.nil _ _, (fun j h => by cases h), Below.refl _ _⟩
  case round =>
    obtain ⟨q, hq, rfl, ha, hp, hne, hb⟩ := hrel
    have HA := Lib.hid ha
    have HP := Lib.hid hp
    have HNE := Lib.hid hne
    have HBr := Lib.hid hb
    have Q_k := Lib.hid (R_k.out.stay hb)
    have Q_n := Lib.hid (R_n.out.stay hb)
    have Q_p := Lib.hid (R_p.out.stay hb)
    clear ha hp hne hb
    by_cases hlt : 64 * q < L
    · obtain ⟨bp, op, rfl⟩ : ∃ bp op, ap = some ⟨bp, op, none⟩ := by
        obtain ⟨b, off, c, e, _⟩ := R_p.out.shapeN L HLh.out (by omega)
        injection e with e1 _ _
        exact ⟨b, off, e1⟩
      have s0r := HBr.out.size
      go_wp2_with fail
      refine (Block_nat _ _ K N _ (c + q) _ Q_k.out Q_n.out HKLh.out HNLh.out (by omega) (by omega)).mono ?_
      rintro e u1 ⟨v1, rfl, ho1, hb1⟩
      obtain ⟨g1, c1, hv1, hg1, hg1b, hc1, hm1⟩ := ho1.shape (by intro h; have := congrArg List.length h; rw [Cha.block_length] at this; cases this)
      rw [Cha.block_length] at hv1 hc1
      subst hv1
      have O1 := Lib.hid ho1
      have B1 := Lib.hid hb1
      have s1r := hb1.size
      clear ho1 hb1
      by_cases hmin : (L : Int) < 64 * (q : Int) + 64
      · have hmx := mix_part K c N Dd q (L - 64 * q) (by rw [HLh.out]; exact hlt) (by omega) (by rw [HLh.out]; omega) (by rw [HLh.out]; omega)
        rw [← HXh.out] at hmx
        have HMX := Lib.hid hmx
        clear hmx
        have hmd := (Q_p.out.stay B1.out).mid (64 * q) (L - 64 * q) (by omega) (by omega)
        have HMD := Lib.hid hmd
        clear hmd
        go_wp2_with fail
        refine (Mix_nat _ _ _ K N _ _ (c + q) _ (Q_k.out.stay B1.out) (Q_n.out.stay B1.out) HMD.out HKLh.out HNLh.out (by omega) (by simp; omega) (by omega)).mono ?_
        rintro e u2 ⟨v2, rfl, ho2, hb2⟩
        have O2 := Lib.hid ho2
        have B2 := Lib.hid hb2
        have s2r := hb2.size
        clear ho2 hb2
        have A2 := Lib.hid ((HA.out.below (B1.out.trans (B2.out.mono B1.out.size)) (fun j hj => (HA.out.lt j hj).2)))
        have P2 := Lib.hid ((HP.out.below (B1.out.trans (B2.out.mono B1.out.size)) (fun j hj => (HP.out.lt j hj).2)))
        have R12 := Lib.hid (O1.out.rd.stay B2.out)
        have hal : (blocksTo K c N q).length = 64 * q := blocksTo_length _ _ _ _
        have HAL := Lib.hid hal
        clear hal
        have TB := Lib.hid (HBr.out.trans ((B1.out.trans (B2.out.mono B1.out.size)).mono HBr.out.size))
        go_wp2_with (first
          | (at_builtin; refine apBw rfl (.tmp 88) (.tmp 89) rfl w4.heap.size _ _ (blocksTo K c N q) _ rfl A2.out rfl R12.out (by rw [HAL.out, Cha.block_length]; omega) TB.out.size ?_; intro v3 u3 ho3 hg3 hw3; have O3 := Lib.hid ho3; have G3 := Lib.hid hg3; have W3 := Lib.hid hw3; have P3 := Lib.hid (P2.out.kept hg3 (fun j hj hj2 => HNE.out j hj hj2)); have V3 := Lib.hid (O2.out.rd.kept hg3 (fun j hj hj2 => by have := (HA.out.lt j hj).2; have := (O2.out.lt j hj2).1; omega)); clear ho3 hg3 hw3)
          | (at_builtin; refine apBw rfl (.tmp 91) (.tmp 92) rfl w4.heap.size _ _ (X.take (64 * q)) _ rfl P3.out rfl V3.out (by rw [List.length_take, Cha.mix_length]; simp; omega) (Nat.le_trans TB.out.size G3.out.size) ?_; intro v4 u4 ho4 hg4 hw4; have O4 := Lib.hid ho4; have G4 := Lib.hid hg4; have W4 := Lib.hid hw4; clear ho4 hg4 hw4))
        go_roundw
        case rel =>
          have hva : ∀ j, v3.ownBlock = some j → j < u3.heap.size := fun j h => (O3.out.lt j h).2
          refine ⟨q + 1, by omega, by go_num, ?_, ?_, ?_, ?_⟩
          · exact O3.out.kept G4.out (fun j hj hj3 => by
              rcases W3.out with h | h
              · rw [h] at hj3; exact HNE.out j hj3 hj
              · rw [h] at hj3; injection hj3 with hj3; have := (HP.out.lt j hj).2; omega)
          · have h := O4.out; rw [HMX.out] at h; exact h
          · intro j h3 h4
            have h3l := hva j h3
            rcases W4.out with h | h
            · rw [h] at h4
              rcases W3.out with k | k
              · rw [k] at h3; exact HNE.out j h3 h4
              · rw [k] at h3; injection h3 with h3; have := (HP.out.lt j h4).2; omega
            · rw [h] at h4; injection h4 with h4; omega
          · exact (TB.out.grown G3.out TB.out.size (fun j hj => (HA.out.lt j hj).1)).grown G4.out (Nat.le_trans TB.out.size G3.out.size) (fun j hj => (HP.out.lt j hj).1)
        case measure => simp [intOf]; omega
      · have hmx := mix_part K c N Dd q (64) (by rw [HLh.out]; exact hlt) (by omega) (by rw [HLh.out]; omega) (by rw [HLh.out]; omega)
        rw [← HXh.out] at hmx
        have HMX := Lib.hid hmx
        clear hmx
        have hmd := (Q_p.out.stay B1.out).mid (64 * q) (64) (by omega) (by omega)
        have HMD := Lib.hid hmd
        clear hmd
        go_wp2_with fail
        refine (Mix_nat _ _ _ K N _ _ (c + q) _ (Q_k.out.stay B1.out) (Q_n.out.stay B1.out) HMD.out HKLh.out HNLh.out (by omega) (by simp; omega) (by omega)).mono ?_
        rintro e u2 ⟨v2, rfl, ho2, hb2⟩
        have O2 := Lib.hid ho2
        have B2 := Lib.hid hb2
        have s2r := hb2.size
        clear ho2 hb2
        have A2 := Lib.hid ((HA.out.below (B1.out.trans (B2.out.mono B1.out.size)) (fun j hj => (HA.out.lt j hj).2)))
        have P2 := Lib.hid ((HP.out.below (B1.out.trans (B2.out.mono B1.out.size)) (fun j hj => (HP.out.lt j hj).2)))
        have R12 := Lib.hid (O1.out.rd.stay B2.out)
        have hal : (blocksTo K c N q).length = 64 * q := blocksTo_length _ _ _ _
        have HAL := Lib.hid hal
        clear hal
        have TB := Lib.hid (HBr.out.trans ((B1.out.trans (B2.out.mono B1.out.size)).mono HBr.out.size))
        go_wp2_with (first
          | (at_builtin; refine apBw rfl (.tmp 88) (.tmp 89) rfl w4.heap.size _ _ (blocksTo K c N q) _ rfl A2.out rfl R12.out (by rw [HAL.out, Cha.block_length]; omega) TB.out.size ?_; intro v3 u3 ho3 hg3 hw3; have O3 := Lib.hid ho3; have G3 := Lib.hid hg3; have W3 := Lib.hid hw3; have P3 := Lib.hid (P2.out.kept hg3 (fun j hj hj2 => HNE.out j hj hj2)); have V3 := Lib.hid (O2.out.rd.kept hg3 (fun j hj hj2 => by have := (HA.out.lt j hj).2; have := (O2.out.lt j hj2).1; omega)); clear ho3 hg3 hw3)
          | (at_builtin; refine apBw rfl (.tmp 91) (.tmp 92) rfl w4.heap.size _ _ (X.take (64 * q)) _ rfl P3.out rfl V3.out (by rw [List.length_take, Cha.mix_length]; simp; omega) (Nat.le_trans TB.out.size G3.out.size) ?_; intro v4 u4 ho4 hg4 hw4; have O4 := Lib.hid ho4; have G4 := Lib.hid hg4; have W4 := Lib.hid hw4; clear ho4 hg4 hw4))
        go_roundw
        case rel =>
          have hva : ∀ j, v3.ownBlock = some j → j < u3.heap.size := fun j h => (O3.out.lt j h).2
          refine ⟨q + 1, by omega, by go_num, ?_, ?_, ?_, ?_⟩
          · exact O3.out.kept G4.out (fun j hj hj3 => by
              rcases W3.out with h | h
              · rw [h] at hj3; exact HNE.out j hj3 hj
              · rw [h] at hj3; injection hj3 with hj3; have := (HP.out.lt j hj).2; omega)
          · have h := O4.out; rw [HMX.out] at h; exact h
          · intro j h3 h4
            have h3l := hva j h3
            rcases W4.out with h | h
            · rw [h] at h4
              rcases W3.out with k | k
              · rw [k] at h3; exact HNE.out j h3 h4
              · rw [k] at h3; injection h3 with h3; have := (HP.out.lt j h4).2; omega
            · rw [h] at h4; injection h4 with h4; omega
          · exact (TB.out.grown G3.out TB.out.size (fun j hj => (HA.out.lt j hj).1)).grown G4.out (Nat.le_trans TB.out.size G3.out.size) (fun j hj => (HP.out.lt j hj).1)
        case measure => simp [intOf]; omega
    · have hx2 := R_x.out.stay HBr.out
      have hpx : X = X.take (64 * q) := (List.take_of_length_le (by rw [HXLh.out]; omega)).symm
      have hst := blocks_stream K c N q L (by omega)
      obtain ⟨aa, ca, rfl, hca, hcam⟩ := HA.out.rd.sliceN (64 * q) (blocksTo_length _ _ _ _)
      have RX := Lib.hid hx2
      have PX := Lib.hid hpx
      have ST := Lib.hid hst
      have RA := Lib.hid HA.out.rd
      have RP := Lib.hid HP.out.rd
      clear hx2 hpx hst
      go_wp2_with (refine makeB _ rfl _ _ rfl L _ _ rfl rfl rfl rfl (by omega) ?_; intro u1 hom hb1; have OM := Lib.hid hom; have B1 := Lib.hid hb1; clear hom hb1)
      refine (Mix_nat _ _ _ K N _ _ c _ (Q_k.out.stay B1.out) (Q_n.out.stay B1.out) OM.out.rd HKLh.out HNLh.out (by omega) (by simp; omega) rfl).mono ?_
      rintro e u2 ⟨v2, rfl, ho2, hb2⟩
      have B2 := Lib.hid (B1.out.trans (hb2.mono B1.out.size))
      have O2 := Lib.hid ho2.rd
      clear ho2 hb2
      go_wp2_with fail
      refine (Block_nat _ _ K N _ c _ (Q_k.out.stay B2.out) (Q_n.out.stay B2.out) HKLh.out HNLh.out (by omega) rfl).mono ?_
      rintro e u3 ⟨v3, rfl, ho3, hb3⟩
      obtain ⟨a3, c3, hv3, _, _⟩ := ho3.rd.sliceN 64 (Cha.block_length _ _ _)
      subst hv3
      have B3 := Lib.hid (B2.out.trans (hb3.mono B2.out.size))
      have O23 := Lib.hid (O2.out.stay hb3)
      clear ho3 hb3
      have BB := Lib.hid (HB4.out.trans (HBr.out.trans (B3.out.mono HBr.out.size) |>.mono s4))
      go_wp2_with fail
      refine (same_true _ _ _ _ _ (RX.out.stay B3.out) (RP.out.stay B3.out) PX.out).mono ?_
      rintro e _ ⟨rfl, rfl⟩
      go_wp2_with fail
      refine (same_true _ _ _ _ _ O23.out ((RA.out.stay B3.out).pre L (by rw [blocksTo_length]; omega)) ST.out).mono ?_
      rintro e _ ⟨rfl, rfl⟩
      go_wp2
      go_ret
      exact ⟨rfl, BB.out⟩

end Go.Proofs.Ytpkfbmafbkgcmaa
