/-
  The walk of conclavekeep.CurveBits: bits that do not count change nothing.
-/
import Derived.Test.YthoganfinpfibaaCvG
import Derived.Test.YthoganfinpfibaaFilled
import Derived.Test.YthoganfinpfibaaSameK
import Derived.Test.YthoganfinpfibaaFrm
import Derived.Test.YthoganfinpfibaaPick
import Derived.Test.YthoganfinpfibaaQt
import Derived.Test.YthoganfinpfibaaBit
set_option linter.unusedVariables false
set_option linter.unusedSimpArgs false
namespace Go.Proofs.Ythoganfinpfibaa
open Go.RowKit Go.Con

theorem low_x : ∀ (k : Fin 8) (x : Fin 256), ((UInt8.ofNat x.val ^^^ UInt8.ofNat k.val) &&& 248) = (UInt8.ofNat x.val &&& 248) := by decide +kernel
theorem top_x : ∀ (k : Fin 4) (x : Fin 256), ((UInt8.ofNat x.val ^^^ UInt8.ofNat (64 * k.val)) &&& 127 ||| 64) = (UInt8.ofNat x.val &&& 127 ||| 64) := by decide +kernel
theorem last_x : ∀ (x : Fin 256), ((UInt8.ofNat x.val ^^^ 128).toNat % 128) = (UInt8.ofNat x.val).toNat % 128 := by decide +kernel
theorem low_x' (k : Nat) (hk : k < 8) (x : UInt8) : ((x ^^^ UInt8.ofNat k) &&& 248) = x &&& 248 := by
  have := low_x ⟨k, hk⟩ ⟨x.toNat, x.toNat_lt⟩
  simpa using this
theorem top_x' (k : Nat) (hk : k < 4) (x : UInt8) : ((x ^^^ UInt8.ofNat (64 * k)) &&& 127 ||| 64) = (x &&& 127 ||| 64) := by
  have := top_x ⟨k, hk⟩ ⟨x.toNat, x.toNat_lt⟩
  simpa using this
theorem last_x' (x : UInt8) : (x ^^^ 128).toNat % 128 = x.toNat % 128 := by
  have := last_x ⟨x.toNat, x.toNat_lt⟩
  simpa using this
/-- the secret with other bits that do not count -/
def bitsY (X : List UInt8) (k m : Nat) : List UInt8 := (X.set 0 (X.getD 0 0 ^^^ UInt8.ofNat k)).set 31 (X.getD 31 0 ^^^ UInt8.ofNat (64 * m))
def bitsQ (X : List UInt8) : List UInt8 := X.set 31 (X.getD 31 0 ^^^ 128)
theorem bits_clamp (X : List UInt8) (h : X.length = 32) (k m : Nat) (hk : k < 8) (hm : m < 4) : Cv.clamp (bitsY X k m) = Cv.clamp X := by
  have h0 : (bitsY X k m).getD 0 0 = X.getD 0 0 ^^^ UInt8.ofNat k := by simp [bitsY, h]
  have h1 : (bitsY X k m).getD 31 0 = X.getD 31 0 ^^^ UInt8.ofNat (64 * m) := by simp [bitsY, h]
  rw [Cv.clamp, Cv.clamp, h0, h1, low_x' k hk, top_x' m hm]
  refine List.ext_getElem (by simp [bitsY]) (fun j a1 a2 => ?_)
  by_cases j0 : j = 0
  · subst j0; simp
  · by_cases j1 : j = 31
    · subst j1; simp
    · simp [bitsY, List.getElem_set, Ne.symm j0, Ne.symm j1]
theorem bits_num (X : List UInt8) (h : X.length = 32) : Cv.num (bitsQ X) = Cv.num X := by
  have e : Cv.rd (bitsQ X) = Cv.rd X := by
    refine lim_ext (by simp [Cv.rd]) (fun j a1 => ?_)
    have hj : j < 16 := by simpa [Cv.rd] using a1
    have hg : ∀ i, i ≠ 31 → (bitsQ X).getD i 0 = X.getD i 0 := fun i hi => by simp [bitsQ, List.getElem?_set, Ne.symm hi]
    have h31 : (bitsQ X).getD 31 0 = X.getD 31 0 ^^^ 128 := by simp [bitsQ, h]
    rw [Cv.at_rd _ _ hj, Cv.at_rd _ _ hj]
    split
    · unfold Cv.limb
      rw [hg (2 * 15) (by decide), show 2 * 15 + 1 = 31 from rfl, h31]
      have := last_x' (X.getD 31 0)
      omega
    · unfold Cv.limb
      rw [hg (2 * j) (by omega), hg (2 * j + 1) (by omega)]
  rw [Cv.num, e, Cv.num]
theorem bits_share (X Q : List UInt8) (hX : X.length = 32) (hQ : Q.length = 32) (k m : Nat) (hk : k < 8) (hm : m < 4) : Cv.share (bitsY X k m) (bitsQ Q) = Cv.share X Q :=
  Cv.share_same _ _ _ _ (bits_clamp X hX k m hk hm) (bits_num Q hQ)
theorem picked_b (n m q : Int) (w : World) (h1 : -9223372036854775808 ≤ n) (h2 : n ≤ 9223372036854775807) (h3 : 0 < m) (hq : Hid (pick n m = q)) :
    Calls Try.prog 11 #[.int .i64 n, .int .i64 m] w fun e w' => e = .returned (.int .i64 q) ∧ w' = w :=
  (picked_any n m w h1 h2 h3).mono fun e w' ⟨he, hw⟩ => ⟨by rw [he, hq.out], hw.symm⟩
theorem quiet_b {f : FuncId} {args : Array Value} {w W : World} {v : Value} (h : Calls Try.prog f args W fun e w' => e = .returned v ∧ w' = W) (hW : ∃ n, W = w.drewN n) :
    Calls Try.prog f args W fun e w'' => e = .returned v ∧ ∃ n, w'' = w.drewN n :=
  h.mono fun _ _ ⟨he, hm⟩ => ⟨he, by rw [hm]; exact hW⟩
theorem Own.otherC {w : World} {base g n c : Nat} {l : List UInt8} (h : Own w base (.slice (some ⟨g, 0, none⟩) n c) l) {b : Nat} (hne : g ≠ b) (o : Nat) (v : Value) : Own (w.setCell ⟨b, o, none⟩ v) base (.slice (some ⟨g, 0, none⟩) n c) l := by
  obtain ⟨hl, h2⟩ := h
  refine ⟨hl, ?_⟩
  rcases h2 with ⟨h3, hn⟩ | ⟨g', cap, cur, h3, hb, hg, r⟩
  · cases h3
  · refine .inr ⟨g', cap, cur, h3, hb, ?_, r⟩
    injection h3 with e1 e2 e3
    injection e1 with e1
    injection e1 with e4
    subst e4
    rw [heapSet_ne o v hne]; exact hg
set_option maxRecDepth 100000 in
set_option maxHeartbeats 4000000 in
theorem walk_CurveBits (va : Value) (a : List UInt8) (vb : Value) (b : List UInt8) (vi : Value) (i : Int) (w : World) (ha : Rd w va a) (hb : Rd w vb b) (hi : IsInt vi i) :
    Calls Try.prog 3 #[va, vb, vi] w fun e w' => e = .returned (.bool true) ∧ Below w.heap.size w w' := by
  obtain ⟨aa, ca, rfl, hlca, hcma⟩ := ha.slice
  have R_a := Lib.hid ha
  clear ha
  obtain ⟨ab, cb, rfl, hlcb, hcmb⟩ := hb.slice
  have R_b := Lib.hid hb
  clear hb
  obtain ⟨rfl, hi1, hi2⟩ := hi
  have HB0 := Lib.hid (Below.refl w.heap.size w)
  have s0 : w.heap.size ≤ w.heap.size := Nat.le_refl _
  obtain ⟨X, hXe⟩ : ∃ K, K = fill a 32 := ⟨_, rfl⟩
  have hXl : X.length = 32 := by rw [hXe]; exact fill_length _ _
  have hfX := fun v w (h : Rd w v a) => filled_any v a 32 w h (by decide)
  rw [← hXe] at hfX
  have HFX := Lib.hid hfX
  have HLX := Lib.hid hXl
  have HEX := Lib.hid hXe
  clear hXe hXl hfX
  obtain ⟨Q, hQe⟩ : ∃ K, K = fill b 32 := ⟨_, rfl⟩
  have hQl : Q.length = 32 := by rw [hQe]; exact fill_length _ _
  have hfQ := fun v w (h : Rd w v b) => filled_any v b 32 w h (by decide)
  rw [← hQe] at hfQ
  have HFQ := Lib.hid hfQ
  have HLQ := Lib.hid hQl
  have HEQ := Lib.hid hQe
  clear hQe hQl hfQ
  have q0 := pick_nonneg i 8 (by omega)
  have q1 := pick_lt i 8 (by omega)
  obtain ⟨k, hk⟩ : ∃ k : Nat, pick i 8 = (k : Int) := ⟨(pick i 8).toNat, by omega⟩
  have hk8 : k < 8 := by omega
  have HPk := Lib.hid hk
  clear q0 q1 hk
  have q0 := pick_nonneg i 4 (by omega)
  have q1 := pick_lt i 4 (by omega)
  obtain ⟨m, hm⟩ : ∃ k : Nat, pick i 4 = (k : Int) := ⟨(pick i 4).toNat, by omega⟩
  have hm4 : m < 4 := by omega
  have HPm := Lib.hid hm
  clear q0 q1 hm
  have HSH := Lib.hid (bits_share X Q HLX.out HLQ.out k m hk8 hm4)
  go_enter Try.func3, Try.ntmps3
  go_wp2_with fail
  refine (HFX.out _ _ R_a.out).mono ?_
  rintro e w1 ⟨vx, rfl, hox, hb1⟩
  have T1 := Lib.hid hb1
  replace R_a := Lib.hid (R_a.out.stay T1.out)
  replace R_b := Lib.hid (R_b.out.stay T1.out)
  have HB1 := Lib.hid (HB0.out.trans (T1.out.mono s0))
  have s1 := HB1.out.size
  have R_x := Lib.hid hox.rd
  clear hb1 hox
  go_wp2_with fail
  refine (HFQ.out _ _ R_b.out).mono ?_
  rintro e w2 ⟨vp, rfl, hop, hb2⟩
  have T2 := Lib.hid hb2
  replace R_a := Lib.hid (R_a.out.stay T2.out)
  replace R_b := Lib.hid (R_b.out.stay T2.out)
  replace R_x := Lib.hid (R_x.out.stay T2.out)
  have HB2 := Lib.hid (HB1.out.trans (T2.out.mono s1))
  have s2 := HB2.out.size
  have R_p := Lib.hid hop.rd
  clear hb2 hop
  go_upto_region 4 with (at_builtin; refine apB rfl (.const (.slice none 0 0)) (.tmp 21) rfl w2.heap.size (.slice none 0 0) _ [] X rfl (Own.nil _ _) rfl R_x.out (by rw [HLX.out]; decide) (Nat.le_refl _) ?_; intro vy wA hoA hgA; rw [List.nil_append] at hoA; have OY := Lib.hid hoA; have GA := Lib.hid hgA; clear hoA hgA)
  have BA := Lib.hid ((Below.refl w2.heap.size w2).grown GA.out (Nat.le_refl _) (fun k hk => by cases hk))
  obtain ⟨gy, cy, hvy, hgy, hgy2, hcy, hcym⟩ := OY.out.shape (by intro h; have := HLX.out; rw [h] at this; cases this)
  rw [HLX.out] at hvy hcy
  subst hvy
  clear GA
  go_upto_region 5 with (at_builtin; refine apB rfl (.const (.slice none 0 0)) (.tmp 23) rfl wA.heap.size (.slice none 0 0) _ [] Q rfl (Own.nil _ _) rfl (R_p.out.stay BA.out) (by rw [HLQ.out]; decide) (Nat.le_refl _) ?_; intro vq wB hoB hgB; rw [List.nil_append] at hoB; have OQ := Lib.hid hoB; have GB := Lib.hid hgB; clear hoB hgB)
  have BB := Lib.hid (BA.out.grown GB.out BA.out.size (fun k hk => by cases hk))
  replace OY := Lib.hid (OY.out.kept GB.out (fun k hk => by cases hk))
  obtain ⟨gq, cq, hvq, hgq, hgq2, hcq, hcqm⟩ := OQ.out.shape (by intro h; have := HLQ.out; rw [h] at this; cases this)
  rw [HLQ.out] at hvq hcq
  subst hvq
  have hne : gq ≠ gy := by omega
  have hne2 : gy ≠ gq := by omega
  have hgqb : w2.heap.size ≤ gq := by have := BA.out.size; omega
  clear GB
  have HNE := Lib.hid (And.intro hne hne2)
  clear hne hne2
  obtain ⟨x0, hx0⟩ : ∃ x, x = X.getD 0 0 := ⟨_, rfl⟩
  have c0 := OY.out.cellC 0 (by rw [HLX.out]; decide)
  have f0 := OY.out.freeC 0
  rw [← hx0] at c0
  have HX0 := Lib.hid hx0
  clear hx0
  refine region_quiet_tail 8 (by kernel_rfl) (by kernel_rfl) ?_
  simp only [List.take_succ_cons, List.take_zero, List.drop_succ_cons, List.drop_zero]
  repeat (go_big_quiet_step ((go_at_call 11; refine quiet_b (picked_b _ _ k _ (by assumption) (by assumption) (by omega) HPk) ⟨_, rfl⟩)))
  refine wpQuiet_nil ?_
  intro w9 hw9
  obtain ⟨nq, rfl⟩ := hw9
  go_upto_region 6 with fail
  have e8 := u8_xorF x0 (UInt8.ofNat k)
  rw [show (((UInt8.ofNat k).toNat : Nat) : Int) = (k : Int) by rw [UInt8.toNat_ofNat']; omega] at e8
  simp only [e8]
  have hy := (OY.out.drewN nq).setC 0 (x0 ^^^ UInt8.ofNat k)
  rw [HX0.out] at hy
  have hq := (OQ.out.drewN nq).otherC HNE.out.1 0 (.int .u8 ((x0 ^^^ UInt8.ofNat k).toNat))
  have hb := (below_drewN BB.out nq).setCell (p := ⟨gy, 0, none⟩) hgy (.int .u8 ((x0 ^^^ UInt8.ofNat k).toNat))
  rw [← HX0.out] at hy
  generalize hW : World.setCell _ _ _ = wC at hy hq hb ⊢
  have OY2 := Lib.hid hy
  have OQ2 := Lib.hid hq
  have BC := Lib.hid hb
  clear hW hy hq hb c0 f0 e8 OY OQ BB
  obtain ⟨x1, hx1⟩ : ∃ x, x = X.getD 31 0 := ⟨_, rfl⟩
  have c0 := OY2.out.cellC 31 (by rw [List.length_set, HLX.out]; decide)
  have f0 := OY2.out.freeC 31
  rw [show (X.set 0 (x0 ^^^ UInt8.ofNat k)).getD 31 0 = X.getD 31 0 by simp, ← hx1] at c0
  have HX1 := Lib.hid hx1
  clear hx1
  refine region_quiet_tail 9 (by kernel_rfl) (by kernel_rfl) ?_
  simp only [List.take_succ_cons, List.take_zero, List.drop_succ_cons, List.drop_zero]
  repeat (go_big_quiet_step ((go_at_call 11; refine quiet_b (picked_b _ _ m _ (by assumption) (by assumption) (by omega) HPm) ⟨_, rfl⟩)))
  refine wpQuiet_nil ?_
  intro w9 hw9
  obtain ⟨nr, rfl⟩ := hw9
  go_upto_region 7 with fail
  have e8 := u8_xorF x1 (UInt8.ofNat (64 * m))
  rw [show (((UInt8.ofNat (64 * m)).toNat : Nat) : Int) = (m : Int) * 64 by rw [UInt8.toNat_ofNat']; omega] at e8
  simp only [e8]
  have hy := (OY2.out.drewN nr).setC 31 (x1 ^^^ UInt8.ofNat (64 * m))
  have hyy : (X.set 0 (x0 ^^^ UInt8.ofNat k)).set 31 (x1 ^^^ UInt8.ofNat (64 * m)) = bitsY X k m := by rw [bitsY, HX0.out, HX1.out]
  rw [hyy] at hy
  have hq := (OQ2.out.drewN nr).otherC HNE.out.1 31 (.int .u8 ((x1 ^^^ UInt8.ofNat (64 * m)).toNat))
  have hb := (below_drewN BC.out nr).setCell (p := ⟨gy, 31, none⟩) hgy (.int .u8 ((x1 ^^^ UInt8.ofNat (64 * m)).toNat))
  generalize hW : World.setCell _ _ _ = wD at hy hq hb ⊢
  have OY3 := Lib.hid hy
  have OQ3 := Lib.hid hq
  have BD := Lib.hid hb
  clear hW hy hq hb c0 f0 e8 OY2 OQ2 BC hyy
  obtain ⟨x2, hx2⟩ : ∃ x, x = Q.getD 31 0 := ⟨_, rfl⟩
  have c0 := OQ3.out.cellC 31 (by rw [HLQ.out]; decide)
  have f0 := OQ3.out.freeC 31
  rw [← hx2] at c0
  have HX2 := Lib.hid hx2
  clear hx2
  go_upto_region 8 with fail
  have e8 := u8_xorF x2 128
  rw [show (((128 : UInt8).toNat : Nat) : Int) = 128 from rfl] at e8
  simp only [e8]
  have hq := OQ3.out.setC 31 (x2 ^^^ 128)
  have hqq : Q.set 31 (x2 ^^^ 128) = bitsQ Q := by rw [bitsQ, HX2.out]
  rw [hqq] at hq
  have hy := OY3.out.otherC HNE.out.2 31 (.int .u8 ((x2 ^^^ 128).toNat))
  have hb := BD.out.setCell (p := ⟨gq, 31, none⟩) hgqb (.int .u8 ((x2 ^^^ 128).toNat))
  generalize hW : World.setCell _ _ _ = w3 at hy hq hb ⊢
  clear hW c0 f0 e8 OY3 OQ3 BD hqq
  have T3 := Lib.hid hb
  replace R_a := Lib.hid (R_a.out.stay T3.out)
  replace R_b := Lib.hid (R_b.out.stay T3.out)
  replace R_x := Lib.hid (R_x.out.stay T3.out)
  replace R_p := Lib.hid (R_p.out.stay T3.out)
  have HB3 := Lib.hid (HB2.out.trans (T3.out.mono s2))
  have s3 := HB3.out.size
  have R_y := Lib.hid hy.rd
  have R_q := Lib.hid hq.rd
  clear hy hq hb
  have hYl : (bitsY X k m).length = 32 := by simp [bitsY, HLX.out]
  have hQl : (bitsQ Q).length = 32 := by simp [bitsQ, HLQ.out]
  have HYL := Lib.hid hYl
  have HQL := Lib.hid hQl
  clear hYl hQl
  by_cases hs0 : Cv.share X Q = 0
  · have HS0 := Lib.hid hs0
    clear hs0
    go_wp2_with fail
    refine (Shared_zero _ _ X Q _ HLX.out HLQ.out R_x.out R_p.out HS0.out).mono ?_
    rintro e w4 ⟨vsv, rfl, hosv, hb4⟩
    have T4 := Lib.hid hb4
    replace R_a := Lib.hid (R_a.out.stay T4.out)
    replace R_b := Lib.hid (R_b.out.stay T4.out)
    replace R_x := Lib.hid (R_x.out.stay T4.out)
    replace R_p := Lib.hid (R_p.out.stay T4.out)
    replace R_y := Lib.hid (R_y.out.stay T4.out)
    replace R_q := Lib.hid (R_q.out.stay T4.out)
    have HB4 := Lib.hid (HB3.out.trans (T4.out.mono s3))
    have s4 := HB4.out.size
    have R_sv := Lib.hid hosv.rd
    clear hb4 hosv
    go_wp2_with fail
    refine (Shared_zero _ _ (bitsY X k m) (bitsQ Q) _ HYL.out HQL.out R_y.out R_q.out (by rw [HSH.out]; exact HS0.out)).mono ?_
    rintro e w5 ⟨vt, rfl, hot, hb5⟩
    have T5 := Lib.hid hb5
    replace R_a := Lib.hid (R_a.out.stay T5.out)
    replace R_b := Lib.hid (R_b.out.stay T5.out)
    replace R_x := Lib.hid (R_x.out.stay T5.out)
    replace R_p := Lib.hid (R_p.out.stay T5.out)
    replace R_y := Lib.hid (R_y.out.stay T5.out)
    replace R_q := Lib.hid (R_q.out.stay T5.out)
    replace R_sv := Lib.hid (R_sv.out.stay T5.out)
    have HB5 := Lib.hid (HB4.out.trans (T5.out.mono s4))
    have s5 := HB5.out.size
    have R_t := Lib.hid hot.rd
    clear hb5 hot
    obtain ⟨ax, cx, rfl, hlcx, hcmx⟩ := R_x.out.sliceN 32 (HLX.out)
    have hcx31 : (31 : Int) ≤ (cx : Int) := by omega
    obtain ⟨ap, cp, rfl, hlcp, hcmp⟩ := R_p.out.sliceN 32 HLQ.out
    go_wp2_with fail
    refine (Shared_badF _ _ _ _ _ _ _ (by decide)).mono ?_
    rintro e w6 ⟨vg, rfl, hog, hb6⟩
    have T6 := Lib.hid hb6
    replace R_a := Lib.hid (R_a.out.stay T6.out)
    replace R_b := Lib.hid (R_b.out.stay T6.out)
    replace R_x := Lib.hid (R_x.out.stay T6.out)
    replace R_p := Lib.hid (R_p.out.stay T6.out)
    replace R_y := Lib.hid (R_y.out.stay T6.out)
    replace R_q := Lib.hid (R_q.out.stay T6.out)
    replace R_sv := Lib.hid (R_sv.out.stay T6.out)
    replace R_t := Lib.hid (R_t.out.stay T6.out)
    have HB6 := Lib.hid (HB5.out.trans (T6.out.mono s5))
    have s6 := HB6.out.size
    have R_g := Lib.hid hog.rd
    clear hb6 hog
    obtain ⟨a_s, c_s, rfl, _, _⟩ := R_sv.out.sliceN 0 rfl
    go_wp2_with fail
    refine (same_true _ _ _ _ _ R_sv.out R_t.out (rfl)).mono ?_
    rintro e _ ⟨rfl, rfl⟩
    go_wp2
    go_ret
    exact ⟨rfl, HB6.out⟩
  · have HS0 := Lib.hid hs0
    clear hs0
    go_wp2_with fail
    refine (Shared_ok _ _ X Q _ HLX.out HLQ.out R_x.out R_p.out HS0.out).mono ?_
    rintro e w4 ⟨vsv, rfl, hosv, hb4⟩
    have T4 := Lib.hid hb4
    replace R_a := Lib.hid (R_a.out.stay T4.out)
    replace R_b := Lib.hid (R_b.out.stay T4.out)
    replace R_x := Lib.hid (R_x.out.stay T4.out)
    replace R_p := Lib.hid (R_p.out.stay T4.out)
    replace R_y := Lib.hid (R_y.out.stay T4.out)
    replace R_q := Lib.hid (R_q.out.stay T4.out)
    have HB4 := Lib.hid (HB3.out.trans (T4.out.mono s3))
    have s4 := HB4.out.size
    have R_sv := Lib.hid hosv.rd
    clear hb4 hosv
    go_wp2_with fail
    refine (Shared_ok _ _ (bitsY X k m) (bitsQ Q) _ HYL.out HQL.out R_y.out R_q.out (by rw [HSH.out]; exact HS0.out)).mono ?_
    rintro e w5 ⟨vt, rfl, hot, hb5⟩
    have T5 := Lib.hid hb5
    replace R_a := Lib.hid (R_a.out.stay T5.out)
    replace R_b := Lib.hid (R_b.out.stay T5.out)
    replace R_x := Lib.hid (R_x.out.stay T5.out)
    replace R_p := Lib.hid (R_p.out.stay T5.out)
    replace R_y := Lib.hid (R_y.out.stay T5.out)
    replace R_q := Lib.hid (R_q.out.stay T5.out)
    replace R_sv := Lib.hid (R_sv.out.stay T5.out)
    have HB5 := Lib.hid (HB4.out.trans (T5.out.mono s4))
    have s5 := HB5.out.size
    have R_t := Lib.hid hot.rd
    clear hb5 hot
    obtain ⟨ax, cx, rfl, hlcx, hcmx⟩ := R_x.out.sliceN 32 (HLX.out)
    have hcx31 : (31 : Int) ≤ (cx : Int) := by omega
    obtain ⟨ap, cp, rfl, hlcp, hcmp⟩ := R_p.out.sliceN 32 HLQ.out
    go_wp2_with fail
    refine (Shared_badF _ _ _ _ _ _ _ (by decide)).mono ?_
    rintro e w6 ⟨vg, rfl, hog, hb6⟩
    have T6 := Lib.hid hb6
    replace R_a := Lib.hid (R_a.out.stay T6.out)
    replace R_b := Lib.hid (R_b.out.stay T6.out)
    replace R_x := Lib.hid (R_x.out.stay T6.out)
    replace R_p := Lib.hid (R_p.out.stay T6.out)
    replace R_y := Lib.hid (R_y.out.stay T6.out)
    replace R_q := Lib.hid (R_q.out.stay T6.out)
    replace R_sv := Lib.hid (R_sv.out.stay T6.out)
    replace R_t := Lib.hid (R_t.out.stay T6.out)
    have HB6 := Lib.hid (HB5.out.trans (T6.out.mono s5))
    have s6 := HB6.out.size
    have R_g := Lib.hid hog.rd
    clear hb6 hog
    obtain ⟨a_s, c_s, rfl, _, _⟩ := R_sv.out.sliceN 32 (Cv.out32_length _)
    go_wp2_with fail
    refine (same_true _ _ _ _ _ R_sv.out R_t.out (by rw [HSH.out])).mono ?_
    rintro e _ ⟨rfl, rfl⟩
    go_wp2
    go_ret
    exact ⟨rfl, HB6.out⟩

end Go.Proofs.Ythoganfinpfibaa
