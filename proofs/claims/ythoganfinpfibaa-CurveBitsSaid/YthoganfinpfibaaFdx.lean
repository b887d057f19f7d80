/-
  The walk of curve's ladder.
-/
import Derived.Test.YthoganfinpfibaaFds
set_option linter.unusedVariables false
set_option linter.unusedSimpArgs false
namespace Go.Con.Cv
theorem clamp_eq (l : List UInt8) (h : l.length = 32) (x z : UInt8) (hx : x = l.getD 0 0) (hz : z = (l.set 0 (x &&& 248)).getD 31 0) : (l.set 0 (x &&& 248)).set 31 (z &&& 127 ||| 64) = clamp l := by
  have e : (l.set 0 (x &&& 248)).getD 31 0 = l.getD 31 0 := by simp
  rw [clamp, hz, e, hx]
theorem clamp_length (l : List UInt8) : (clamp l).length = l.length := by simp [clamp]
theorem sw_x2 (s : L4) (b : Int) : (s.sw b).x2 = if b = 1 then s.x3 else s.x2 := by unfold L4.sw; split <;> rfl
theorem sw_z2 (s : L4) (b : Int) : (s.sw b).z2 = if b = 1 then s.z3 else s.z2 := by unfold L4.sw; split <;> rfl
theorem sw_x3 (s : L4) (b : Int) : (s.sw b).x3 = if b = 1 then s.x2 else s.x3 := by unfold L4.sw; split <;> rfl
theorem sw_z3 (s : L4) (b : Int) : (s.sw b).z3 = if b = 1 then s.z2 else s.z3 := by unfold L4.sw; split <;> rfl
theorem kbit_01 (k : List UInt8) (i : Nat) : kbit k i = 0 ∨ kbit k i = 1 := by unfold kbit; omega
end Go.Con.Cv
namespace Go.Proofs.Ythoganfinpfibaa
open Go.RowKit Go.Con
theorem bit8 (x : UInt8) (r : Nat) : wrap64 (bits .and .u8 ((x.toNat : Int) / 2 ^ r) 1) = ((x.toNat / 2 ^ r % 2 : Nat) : Int) := by
  have hx := x.toNat_lt
  have hle : x.toNat / 2 ^ r ≤ x.toNat := Nat.div_le_self _ _
  have e1 : (x.toNat : Int) / 2 ^ r = ((UInt8.ofNat (x.toNat / 2 ^ r)).toNat : Int) := by
    rw [UInt8.toNat_ofNat', Nat.mod_eq_of_lt (by omega)]; simp
  have e2 := u8_andF (UInt8.ofNat (x.toNat / 2 ^ r)) 1
  rw [show (((1 : UInt8).toNat : Nat) : Int) = 1 from rfl] at e2
  rw [e1, e2, UInt8.toNat_and, show (1 : UInt8).toNat = 1 from rfl, Nat.and_one_is_mod, UInt8.toNat_ofNat', Nat.mod_eq_of_lt (a := x.toNat / 2 ^ r) (by omega)]
  exact IntWalk.wrap64_in _ (by omega)
set_option maxRecDepth 100000 in
set_option maxHeartbeats 8000000 in
theorem ctimes_any (off c : Nat) (b : Nat) (vs : Value) (l lp : List UInt8) (w : World) (hl : l.length = 32) (hlp : lp.length = 32) (hR : Rd w vs l) (hP : Rd w (.slice (some ⟨b, off, none⟩) 32 c) lp) :
    Calls Try.prog 17 #[vs, .slice (some ⟨b, off, none⟩) 32 c] w (FreshB w (Cv.out32 (Cv.share l lp))) := by
  have HR := Lib.hid hR
  have HP := Lib.hid hP
  have HL := Lib.hid hl
  have HLP := Lib.hid hlp
  clear hR hP hl hlp
  go_enter Try.func17, Try.ntmps17
  go_upto_region 2 with (at_builtin; refine apB rfl (.const (.slice none 0 0)) (.tmp 24) rfl w.heap.size (.slice none 0 0) _ [] l rfl (Own.nil _ _) rfl HR.out (by rw [HL.out]; decide) (Nat.le_refl _) ?_; intro v1 w1 hown1 hg1; rw [List.nil_append] at hown1; have HO1 := Lib.hid hown1; have HG1 := Lib.hid hg1; clear hown1 hg1)
  obtain ⟨g, cap, hv1, hgb, hgl, hgc, hgm⟩ := HO1.out.shape (by intro h; have := HL.out; rw [h] at this; cases this)
  rw [HL.out] at hv1 hgc
  subst hv1
  have B1 := Lib.hid ((Below.refl w.heap.size w).grown HG1.out (Nat.le_refl _) (fun k hk => by cases hk))
  obtain ⟨x0, hx0⟩ : ∃ x, x = l.getD 0 0 := ⟨_, rfl⟩
  have c0 := HO1.out.cellC 0 (by rw [HL.out]; decide)
  have f0 := HO1.out.freeC 0
  rw [← hx0] at c0
  have HX0 := Lib.hid hx0
  clear hx0 HG1
  go_upto_region 3 with fail
  have e248 := u8_andF x0 248
  rw [show (((248 : UInt8).toNat : Nat) : Int) = 248 from rfl] at e248
  simp only [e248]
  have ho2 := HO1.out.setC 0 (x0 &&& 248)
  have B2 := Lib.hid (B1.out.setCell (p := ⟨g, 0, none⟩) hgb (.int .u8 (x0 &&& 248).toNat))
  generalize hW : w1.setCell ⟨g, 0, none⟩ (.int .u8 (x0 &&& 248).toNat) = w2 at ho2 B2 ⊢
  obtain ⟨x1, hx1⟩ : ∃ x, x = (l.set 0 (x0 &&& 248)).getD 31 0 := ⟨_, rfl⟩
  have c1 := ho2.cellC 31 (by rw [List.length_set, HL.out]; decide)
  have f1 := ho2.freeC 31
  rw [← hx1] at c1
  have HX1 := Lib.hid hx1
  have HO2 := Lib.hid ho2
  clear hx1 hW e248 c0 f0 B1 HO1 ho2
  go_upto_region 4 with fail
  have e127 := u8_andF x1 127
  rw [show (((127 : UInt8).toNat : Nat) : Int) = 127 from rfl] at e127
  have e64 := u8_orF (x1 &&& 127) 64
  rw [show (((64 : UInt8).toNat : Nat) : Int) = 64 from rfl] at e64
  simp only [e127, e64]
  have ho3 := HO2.out.setC 31 (x1 &&& 127 ||| 64)
  rw [Cv.clamp_eq l HL.out x0 x1 HX0.out HX1.out] at ho3
  have B3 := Lib.hid (B2.out.setCell (p := ⟨g, 31, none⟩) hgb (.int .u8 (x1 &&& 127 ||| 64).toNat))
  generalize hW : w2.setCell ⟨g, 31, none⟩ (.int .u8 (x1 &&& 127 ||| 64).toNat) = w3 at ho3 B3 ⊢
  have HKL := Lib.hid (show (Cv.clamp l).length = 32 by rw [Cv.clamp_length]; exact HL.out)
  generalize hK : Cv.clamp l = K at ho3 HKL
  have HK := Lib.hid hK
  have HO3 := Lib.hid ho3
  have hgw3 : g < w3.heap.size := (HO3.out.lt g rfl).2
  clear hW e127 e64 c1 f1 B2 HO2 ho3 hK HX0 HX1
  have HP3 := Lib.hid (HP.out.below B3.out (fun k hk hne => HP.out.lt k hk hne))
  go_upto_region 5 with (first
    | (go_at_call 18; refine (read_any b off c lp w3 HLP.out HP3.out).mono ?_; rintro e w4 ⟨rfl, hb4⟩; have B4 := Lib.hid hb4; clear hb4)
    | (refine wpList_store_mid rfl 39 (.tmp 6) (.tmp 39) rfl w4.heap.size 0 ((Cv.rd lp).map i64v).toArray rfl rfl (thOf (Cv.rd_norm lp).1 ⟨_, heapNew _ _, rfl⟩) (szOf2 (Cv.rd_norm lp).1) (limOne _) ?_; generalize hW : World.setCells _ _ _ _ = w5; have HW5 := Lib.hid hW; clear hW))

  have S5 : St w g cap K [(true, w4.heap.size, Cv.num lp)] w5 := by
    rw [← HW5.out]
    have hs3 := B3.out.size
    have hs4 := B4.out.size
    have h0 : St w g cap K [] w3 := ⟨fun i hi => HO3.out.cellC i (by rw [HKL.out]; exact hi), hgw3, (fun e he => by cases he), by simp, B3.out, (fun e he => by cases he)⟩
    exact h0.new1 (B4.out.alloc hs4 _) ⟨_, heapNew _ _, rfl⟩ hs4 (Cv.Nm.of_red (Cv.rd_norm lp).red (Cv.Cg.refl _))
  generalize hb6 : w4.heap.size = b6 at S5 ⊢
  generalize hu : Cv.num lp = u at S5
  have SS := Lib.hid S5
  have HU := Lib.hid hu
  clear S5 hb6 hu HW5 HO3 HP3 HP B3 B4 HLP
  refine region_begin (by kernel_rfl) fun w0s hb0s => ?_
  have S0 := Lib.hid (SS.out.stay hb0s)
  have hS : ∀ b, (∃ s, s < 12 ∧ 8 ≤ s ∧ (fun s => [Tgt.new 4, Tgt.new 5, Tgt.new 6, Tgt.new 7].getD (s - 8) (Tgt.new 0)) s = Tgt.old b) → False := by
    rintro b ⟨s, h1, h2, h3⟩
    have hc : s = 8 ∨ s = 9 ∨ s = 10 ∨ s = 11 := by omega
    rcases hc with rfl | rfl | rfl | rfl
    · cases h3
    · cases h3
    · cases h3
    · cases h3
  have HS := Lib.hid hS
  clear hS
  refine region_mem (T := 39) 4 4 (fun k => [40, 41, 42, 43, 7, 8, 9, 10].getD k 0) (fun k zs => Cv.Nm ([true, true, true, true].getD k false) zs ([1, 0, u, 1].getD k 0)) (fun s => [0, 1, 2, 3].getD (s - 8) 0) (fun s => [Tgt.new 4, Tgt.new 5, Tgt.new 6, Tgt.new 7].getD (s - 8) (Tgt.new 0)) (by kernel_rfl) (by decide) ?_ (by decide) Try.underlying39 rfl fldSz (fun k zs hk h => Cv.Nm.len h) ?_ ?_ ?_ ?_ ?_
  · intro i hi
    have hc : i = 0 ∨ i = 1 ∨ i = 2 ∨ i = 3 ∨ i = 4 ∨ i = 5 ∨ i = 6 ∨ i = 7 := by omega
    rcases hc with rfl | rfl | rfl | rfl | rfl | rfl | rfl | rfl <;> exact ⟨rfl, show _ < 122 by decide⟩
  · intro i hi a w9 hk9 hoth hdep
    have hc : i = 0 ∨ i = 1 ∨ i = 2 ∨ i = 3 := by omega
    rcases hc with rfl | rfl | rfl | rfl
    · exact op_build (zs := [1, 0, 0, 0, 0, 0, 0, 0, 0, 0, 0, 0, 0, 0, 0, 0]) rfl rfl rfl (by kernel_rfl) Cv.nm_one
    · exact op_build (zs := [0, 0, 0, 0, 0, 0, 0, 0, 0, 0, 0, 0, 0, 0, 0, 0]) rfl rfl rfl (by kernel_rfl) Cv.nm_none
    · exact op_load (b := b6) rfl rfl rfl rfl ((hoth 6 (by decide)).trans rfl) ((S0.out.live (true, b6, u) (by simp)).kept hk9 (fun hh => (by have h5 := HS.out _ hh; exact h5)))
    · exact op_build (zs := [1, 0, 0, 0, 0, 0, 0, 0, 0, 0, 0, 0, 0, 0, 0, 0]) rfl rfl rfl (by kernel_rfl) Cv.nm_one
  · intro i hi1 hi2
    have hc : i = 4 ∨ i = 5 ∨ i = 6 ∨ i = 7 := by omega
    rcases hc with rfl | rfl | rfl | rfl <;> exact ⟨_, rfl, rfl, rfl, fun ρ W => ⟨#[.int .i64 0, .int .i64 0, .int .i64 0, .int .i64 0, .int .i64 0, .int .i64 0, .int .i64 0, .int .i64 0, .int .i64 0, .int .i64 0, .int .i64 0, .int .i64 0, .int .i64 0, .int .i64 0, .int .i64 0, .int .i64 0], rfl, rfl⟩⟩
  · intro s hs1 hs2
    have hs3 : s < 12 := hs2
    have hc : s = 8 ∨ s = 9 ∨ s = 10 ∨ s = 11 := by omega
    rcases hc with rfl | rfl | rfl | rfl
    · exact ⟨by decide, by kernel_rfl, ⟨by decide, by decide, by kernel_rfl, _, rfl, rfl, rfl, rfl⟩⟩
    · exact ⟨by decide, by kernel_rfl, ⟨by decide, by decide, by kernel_rfl, _, rfl, rfl, rfl, rfl⟩⟩
    · exact ⟨by decide, by kernel_rfl, ⟨by decide, by decide, by kernel_rfl, _, rfl, rfl, rfl, rfl⟩⟩
    · exact ⟨by decide, by kernel_rfl, ⟨by decide, by decide, by kernel_rfl, _, rfl, rfl, rfl, rfl⟩⟩
  · intro s r hs1 hs2 hr1 hr2 he
    have hs3 : s < 12 := hs2
    have hr3 : r < 12 := hr2
    have hc : s = 8 ∨ s = 9 ∨ s = 10 ∨ s = 11 := by omega
    have hd : r = 8 ∨ r = 9 ∨ r = 10 ∨ r = 11 := by omega
    rcases hc with rfl | rfl | rfl | rfl <;> rcases hd with rfl | rfl | rfl | rfl <;> first | rfl | (exfalso; injection he with he; first | exact hne he | exact hne he.symm | omega)
  · intro w9 zs bs I
    rw [show List.range 8 = [0, 1, 2, 3, 4, 5, 6, 7] from rfl]
    simp only [puts, List.foldl_cons, List.foldl_nil]
    have hb := kept_none I.kept HS.out
    have n7 := I.new 4 (by decide) (by decide) rfl
    have n8 := I.new 5 (by decide) (by decide) rfl
    have n9 := I.new 6 (by decide) (by decide) rfl
    have n10 := I.new 7 (by decide) (by decide) rfl
    have e12 := I.ne 4 5 (by decide) (by decide) (by decide) (by decide) rfl rfl (by decide)
    have e13 := I.ne 4 6 (by decide) (by decide) (by decide) (by decide) rfl rfl (by decide)
    have e14 := I.ne 4 7 (by decide) (by decide) (by decide) (by decide) rfl rfl (by decide)
    have e23 := I.ne 5 6 (by decide) (by decide) (by decide) (by decide) rfl rfl (by decide)
    have e24 := I.ne 5 7 (by decide) (by decide) (by decide) (by decide) rfl rfl (by decide)
    have e34 := I.ne 6 7 (by decide) (by decide) (by decide) (by decide) rfl rfl (by decide)
    have m7 : Num w9 true (bs 4) 1 := ⟨zs 0, (I.put 8 (by decide) (by decide) rfl).1, I.val 0 (by decide) rfl⟩
    have m8 : Num w9 true (bs 5) 0 := ⟨zs 1, (I.put 9 (by decide) (by decide) rfl).1, I.val 1 (by decide) rfl⟩
    have m9 : Num w9 true (bs 6) u := ⟨zs 2, (I.put 10 (by decide) (by decide) rfl).1, I.val 2 (by decide) rfl⟩
    have m10 : Num w9 true (bs 7) 1 := ⟨zs 3, (I.put 11 (by decide) (by decide) rfl).1, I.val 3 (by decide) rfl⟩
    have S1 := S0.out.more4 hb m7 m8 m9 m10 n7.1 n8.1 n9.1 n10.1 e12 e13 e14 e23 e24 e34
    simp only [vsOf]
    generalize bs 4 = b7 at S1 ⊢
    generalize bs 5 = b8 at S1 ⊢
    generalize bs 6 = b9 at S1 ⊢
    generalize bs 7 = b10 at S1 ⊢
    have S2 := Lib.hid (St.perm (L' := [(true, b7, (Cv.ladder K u 0).x2), (true, b8, (Cv.ladder K u 0).z2), (true, b9, (Cv.ladder K u 0).x3), (true, b10, (Cv.ladder K u 0).z3), (true, b6, u)]) S1 (by simp [Cv.ladder]) (by simp; omega))
    clear I hb n7 n8 n9 n10 e12 e13 e14 e23 e24 e34 m7 m8 m9 m10 S1 S0 HS SS hb0s
    go_wp2_with fail
    go_loopw [11] (fun i wr => ∃ n : Nat, n ≤ 255 ∧ i = .int .i64 (254 - (n : Int)) ∧ Hid (St w g cap K [(true, b7, (Cv.ladder K u n).x2), (true, b8, (Cv.ladder K u n).z2), (true, b9, (Cv.ladder K u n).x3), (true, b10, (Cv.ladder K u n).z3), (true, b6, u)] wr)) (fun i _ => (intOf i + 1).toNat)
    case atStart => exact ⟨0, by omega, rfl, S2⟩
    case round =>
      clear S2
      obtain ⟨n, hn, rfl, HS⟩ := hrel
      by_cases hlt : n < 255
      · obtain ⟨c', hc'⟩ : ∃ c : Nat, (254 : Int) - n = c := ⟨254 - n, by omega⟩
        have hcn : 254 - n = c' := by omega
        have hc254 : c' ≤ 254 := by omega
        rw [hc']
        obtain ⟨q, hq⟩ : ∃ q : Nat, (c' : Int) / 8 = q := ⟨c' / 8, by omega⟩
        obtain ⟨r, hr⟩ : ∃ r : Nat, (c' : Int) % 8 = r := ⟨c' % 8, by omega⟩
        have hq32 : q < 32 := by omega
        have hr8 : r < 8 := by omega
        obtain ⟨kb, hkb⟩ : ∃ x, x = K.getD q 0 := ⟨_, rfl⟩
        have ck := HS.out.own q hq32
        rw [← hkb] at ck
        have hbit : Cv.kbit K c' = ((kb.toNat / 2 ^ r % 2 : Nat) : Int) := by unfold Cv.kbit; rw [show c' / 8 = q by omega, show c' % 8 = r by omega, hkb]
        have HBIT := Lib.hid hbit
        have HCC := Lib.hid hc'
        have HCN := Lib.hid hcn
        clear hkb hbit hcn hc'
        go_upto_region 10 with fail
        obtain ⟨bv, hbv⟩ : ∃ bv, bv = wrap64 (bits .and .u8 ((kb.toNat : Int) / 2 ^ r) 1) := ⟨_, rfl⟩
        rw [← hbv]
        rw [bit8, ← HBIT.out] at hbv
        have h01 : bv = 0 ∨ bv = 1 := by rw [hbv]; exact Cv.kbit_01 _ _
        obtain ⟨s, hs⟩ : ∃ s, s = Cv.ladder K u n := ⟨_, rfl⟩
        rw [← hs] at HS
        have hst : Cv.ladder K u (n + 1) = s.step u bv := by rw [Cv.ladder, HCN.out, ← hs, ← hbv]
        have HST := Lib.hid hst
        have H01 := Lib.hid h01
        have P1 := Lib.hid (HS.out.perm (L' := [(true, b7, s.x2), (true, b9, s.x3), (true, b8, s.z2), (true, b10, s.z3), (true, b6, u)]) (by simp) (by simp; omega))
        clear ck hbv h01 hs hst HS HBIT HCN
        go_wp2_with fail
        refine (swap_st H01.out P1.out).mono ?_
        rintro e w2 ⟨rfl, h2⟩
        rw [← Cv.sw_x2, ← Cv.sw_x3] at h2
        have P2 := Lib.hid (h2.perm (L' := [(true, b8, s.z2), (true, b10, s.z3), (true, b7, (s.sw bv).x2), (true, b9, (s.sw bv).x3), (true, b6, u)]) (by simp) (by simp; omega))
        clear h2 P1
        go_wp2_with fail
        refine (swap_st H01.out P2.out).mono ?_
        rintro e w3 ⟨rfl, h3⟩
        rw [← Cv.sw_z2, ← Cv.sw_z3] at h3
        obtain ⟨t, ht⟩ : ∃ t, t = s.sw bv := ⟨_, rfl⟩
        rw [← ht] at h3
        have hst2 : Cv.ladder K u (n + 1) = (t.mid u).sw bv := by rw [HST.out, Cv.L4.step, ht]
        have HST2 := Lib.hid hst2
        have P3 := Lib.hid h3
        clear h3 P2 ht hst2 HST
        go_upto_region 12 with fail

        refine region_begin (by kernel_rfl) fun w0s hb0s => ?_
        have S0 := Lib.hid (P3.out.stay hb0s)
        have hS : ∀ b, (∃ s, s < 10 ∧ 8 ≤ s ∧ (fun s => [Tgt.new 6, Tgt.new 7].getD (s - 8) (Tgt.new 0)) s = Tgt.old b) → False := by
          rintro b ⟨s, h1, h2, h3⟩
          have hc : s = 8 ∨ s = 9 := by omega
          rcases hc with rfl | rfl
          · cases h3
          · cases h3
        have HS := Lib.hid hS
        clear hS
        refine region_mem (T := 39) 6 2 (fun k => [62, 63, 64, 65, 66, 67, 13, 14].getD k 0) (fun k zs => Cv.Nm ([true, true, false, true, true, false].getD k false) zs ([t.x2, t.z2, t.x2 + t.z2, t.x2, t.z2, t.x2 - t.z2].getD k 0)) (fun s => [2, 5].getD (s - 8) 0) (fun s => [Tgt.new 6, Tgt.new 7].getD (s - 8) (Tgt.new 0)) (by kernel_rfl) (by decide) ?_ (by decide) Try.underlying39 rfl fldSz (fun k zs hk h => Cv.Nm.len h) ?_ ?_ ?_ ?_ ?_
        · intro i hi
          have hc : i = 0 ∨ i = 1 ∨ i = 2 ∨ i = 3 ∨ i = 4 ∨ i = 5 ∨ i = 6 ∨ i = 7 := by omega
          rcases hc with rfl | rfl | rfl | rfl | rfl | rfl | rfl | rfl <;> exact ⟨rfl, show _ < 122 by decide⟩
        · intro i hi a w9 hk9 hoth hdep
          have hc : i = 0 ∨ i = 1 ∨ i = 2 ∨ i = 3 ∨ i = 4 ∨ i = 5 := by omega
          rcases hc with rfl | rfl | rfl | rfl | rfl | rfl
          · exact op_load (b := b7) rfl rfl rfl rfl ((hoth 7 (by decide)).trans rfl) ((S0.out.live (true, b7, t.x2) (by simp)).kept hk9 (fun hh => (by have h5 := HS.out _ hh; exact h5)))
          · exact op_load (b := b8) rfl rfl rfl rfl ((hoth 8 (by decide)).trans rfl) ((S0.out.live (true, b8, t.z2) (by simp)).kept hk9 (fun hh => (by have h5 := HS.out _ hh; exact h5)))
          · obtain ⟨x1, e1, g1⟩ := hdep 0 (by decide) (by kernel_rfl)
            obtain ⟨x2, e2, g2⟩ := hdep 1 (by decide) (by kernel_rfl)
            exact op_call2 rfl rfl rfl rfl e1 e2 (plus_lim x1 x2 _ _ w9 g1 g2)
          · exact op_load (b := b7) rfl rfl rfl rfl ((hoth 7 (by decide)).trans rfl) ((S0.out.live (true, b7, t.x2) (by simp)).kept hk9 (fun hh => (by have h5 := HS.out _ hh; exact h5)))
          · exact op_load (b := b8) rfl rfl rfl rfl ((hoth 8 (by decide)).trans rfl) ((S0.out.live (true, b8, t.z2) (by simp)).kept hk9 (fun hh => (by have h5 := HS.out _ hh; exact h5)))
          · obtain ⟨x1, e1, g1⟩ := hdep 3 (by decide) (by kernel_rfl)
            obtain ⟨x2, e2, g2⟩ := hdep 4 (by decide) (by kernel_rfl)
            exact op_call2 rfl rfl rfl rfl e1 e2 (minus_lim x1 x2 _ _ w9 g1 g2)
        · intro i hi1 hi2
          have hc : i = 6 ∨ i = 7 := by omega
          rcases hc with rfl | rfl <;> exact ⟨_, rfl, rfl, rfl, fun ρ W => ⟨#[.int .i64 0, .int .i64 0, .int .i64 0, .int .i64 0, .int .i64 0, .int .i64 0, .int .i64 0, .int .i64 0, .int .i64 0, .int .i64 0, .int .i64 0, .int .i64 0, .int .i64 0, .int .i64 0, .int .i64 0, .int .i64 0], rfl, rfl⟩⟩
        · intro s hs1 hs2
          have hs3 : s < 10 := hs2
          have hc : s = 8 ∨ s = 9 := by omega
          rcases hc with rfl | rfl
          · exact ⟨by decide, by kernel_rfl, ⟨by decide, by decide, by kernel_rfl, _, rfl, rfl, rfl, rfl⟩⟩
          · exact ⟨by decide, by kernel_rfl, ⟨by decide, by decide, by kernel_rfl, _, rfl, rfl, rfl, rfl⟩⟩
        · intro s r hs1 hs2 hr1 hr2 he
          have hs3 : s < 10 := hs2
          have hr3 : r < 10 := hr2
          have hc : s = 8 ∨ s = 9 := by omega
          have hd : r = 8 ∨ r = 9 := by omega
          rcases hc with rfl | rfl <;> rcases hd with rfl | rfl <;> first | rfl | (exfalso; injection he with he; first | exact hne he | exact hne he.symm | omega)
        · intro w9 zs bs I
          rw [show List.range 8 = [0, 1, 2, 3, 4, 5, 6, 7] from rfl]
          simp only [puts, List.foldl_cons, List.foldl_nil]
          have hb := kept_none I.kept HS.out
          have n0 := I.new 6 (by decide) (by decide) rfl
          have m0 : Num w9 false (bs 6) (t.x2 + t.z2) := ⟨zs 2, (I.put 8 (by decide) (by decide) rfl).1, I.val 2 (by decide) rfl⟩
          have n1 := I.new 7 (by decide) (by decide) rfl
          have m1 : Num w9 false (bs 7) (t.x2 - t.z2) := ⟨zs 5, (I.put 9 (by decide) (by decide) rfl).1, I.val 5 (by decide) rfl⟩
          have e01 := I.ne 6 7 (by decide) (by decide) (by decide) (by decide) rfl rfl (by decide)
          have S1 := S0.out.more2 hb m0 m1 n0.1 n1.1 e01
          simp only [vsOf]
          generalize bs 6 = b13 at S1 ⊢
          generalize bs 7 = b14 at S1 ⊢
          generalize hv13 : t.x2 + t.z2 = v13 at S1
          have HV13 := Lib.hid hv13
          clear hv13
          generalize hv14 : t.x2 - t.z2 = v14 at S1
          have HV14 := Lib.hid hv14
          clear hv14
          have P4 := Lib.hid S1
          clear I hb S1 S0 HS P3 hb0s n0 m0 n1 m1 e01
          go_upto_region 13 with fail
          go_simp
          refine region_begin (by kernel_rfl) fun w0s hb0s => ?_
          have S0 := Lib.hid (P4.out.stay hb0s)
          have hS : ∀ b, (∃ s, s < 10 ∧ 8 ≤ s ∧ (fun s => [Tgt.new 6, Tgt.new 7].getD (s - 8) (Tgt.new 0)) s = Tgt.old b) → False := by
            rintro b ⟨s, h1, h2, h3⟩
            have hc : s = 8 ∨ s = 9 := by omega
            rcases hc with rfl | rfl
            · cases h3
            · cases h3
          have HS := Lib.hid hS
          clear hS
          refine region_mem (T := 39) 6 2 (fun k => [68, 69, 70, 71, 72, 73, 15, 16].getD k 0) (fun k zs => Cv.Nm ([true, true, false, true, true, false].getD k false) zs ([t.x3, t.z3, t.x3 + t.z3, t.x3, t.z3, t.x3 - t.z3].getD k 0)) (fun s => [2, 5].getD (s - 8) 0) (fun s => [Tgt.new 6, Tgt.new 7].getD (s - 8) (Tgt.new 0)) (by kernel_rfl) (by decide) ?_ (by decide) Try.underlying39 rfl fldSz (fun k zs hk h => Cv.Nm.len h) ?_ ?_ ?_ ?_ ?_
          · intro i hi
            have hc : i = 0 ∨ i = 1 ∨ i = 2 ∨ i = 3 ∨ i = 4 ∨ i = 5 ∨ i = 6 ∨ i = 7 := by omega
            rcases hc with rfl | rfl | rfl | rfl | rfl | rfl | rfl | rfl <;> exact ⟨rfl, show _ < 122 by decide⟩
          · intro i hi a w9 hk9 hoth hdep
            have hc : i = 0 ∨ i = 1 ∨ i = 2 ∨ i = 3 ∨ i = 4 ∨ i = 5 := by omega
            rcases hc with rfl | rfl | rfl | rfl | rfl | rfl
            · exact op_load (b := b9) rfl rfl rfl rfl ((hoth 9 (by decide)).trans rfl) ((S0.out.live (true, b9, t.x3) (by simp)).kept hk9 (fun hh => (by have h5 := HS.out _ hh; exact h5)))
            · exact op_load (b := b10) rfl rfl rfl rfl ((hoth 10 (by decide)).trans rfl) ((S0.out.live (true, b10, t.z3) (by simp)).kept hk9 (fun hh => (by have h5 := HS.out _ hh; exact h5)))
            · obtain ⟨x1, e1, g1⟩ := hdep 0 (by decide) (by kernel_rfl)
              obtain ⟨x2, e2, g2⟩ := hdep 1 (by decide) (by kernel_rfl)
              exact op_call2 rfl rfl rfl rfl e1 e2 (plus_lim x1 x2 _ _ w9 g1 g2)
            · exact op_load (b := b9) rfl rfl rfl rfl ((hoth 9 (by decide)).trans rfl) ((S0.out.live (true, b9, t.x3) (by simp)).kept hk9 (fun hh => (by have h5 := HS.out _ hh; exact h5)))
            · exact op_load (b := b10) rfl rfl rfl rfl ((hoth 10 (by decide)).trans rfl) ((S0.out.live (true, b10, t.z3) (by simp)).kept hk9 (fun hh => (by have h5 := HS.out _ hh; exact h5)))
            · obtain ⟨x1, e1, g1⟩ := hdep 3 (by decide) (by kernel_rfl)
              obtain ⟨x2, e2, g2⟩ := hdep 4 (by decide) (by kernel_rfl)
              exact op_call2 rfl rfl rfl rfl e1 e2 (minus_lim x1 x2 _ _ w9 g1 g2)
          · intro i hi1 hi2
            have hc : i = 6 ∨ i = 7 := by omega
            rcases hc with rfl | rfl <;> exact ⟨_, rfl, rfl, rfl, fun ρ W => ⟨#[.int .i64 0, .int .i64 0, .int .i64 0, .int .i64 0, .int .i64 0, .int .i64 0, .int .i64 0, .int .i64 0, .int .i64 0, .int .i64 0, .int .i64 0, .int .i64 0, .int .i64 0, .int .i64 0, .int .i64 0, .int .i64 0], rfl, rfl⟩⟩
          · intro s hs1 hs2
            have hs3 : s < 10 := hs2
            have hc : s = 8 ∨ s = 9 := by omega
            rcases hc with rfl | rfl
            · exact ⟨by decide, by kernel_rfl, ⟨by decide, by decide, by kernel_rfl, _, rfl, rfl, rfl, rfl⟩⟩
            · exact ⟨by decide, by kernel_rfl, ⟨by decide, by decide, by kernel_rfl, _, rfl, rfl, rfl, rfl⟩⟩
          · intro s r hs1 hs2 hr1 hr2 he
            have hs3 : s < 10 := hs2
            have hr3 : r < 10 := hr2
            have hc : s = 8 ∨ s = 9 := by omega
            have hd : r = 8 ∨ r = 9 := by omega
            rcases hc with rfl | rfl <;> rcases hd with rfl | rfl <;> first | rfl | (exfalso; injection he with he; first | exact hne he | exact hne he.symm | omega)
          · intro w9 zs bs I
            rw [show List.range 8 = [0, 1, 2, 3, 4, 5, 6, 7] from rfl]
            simp only [puts, List.foldl_cons, List.foldl_nil]
            have hb := kept_none I.kept HS.out
            have n0 := I.new 6 (by decide) (by decide) rfl
            have m0 : Num w9 false (bs 6) (t.x3 + t.z3) := ⟨zs 2, (I.put 8 (by decide) (by decide) rfl).1, I.val 2 (by decide) rfl⟩
            have n1 := I.new 7 (by decide) (by decide) rfl
            have m1 : Num w9 false (bs 7) (t.x3 - t.z3) := ⟨zs 5, (I.put 9 (by decide) (by decide) rfl).1, I.val 5 (by decide) rfl⟩
            have e01 := I.ne 6 7 (by decide) (by decide) (by decide) (by decide) rfl rfl (by decide)
            have S1 := S0.out.more2 hb m0 m1 n0.1 n1.1 e01
            simp only [vsOf]
            generalize bs 6 = b15 at S1 ⊢
            generalize bs 7 = b16 at S1 ⊢
            generalize hv15 : t.x3 + t.z3 = v15 at S1
            have HV15 := Lib.hid hv15
            clear hv15
            generalize hv16 : t.x3 - t.z3 = v16 at S1
            have HV16 := Lib.hid hv16
            clear hv16
            have P5 := Lib.hid S1
            clear I hb S1 S0 HS P4 hb0s n0 m0 n1 m1 e01
            go_upto_region 14 with fail
            go_simp
            refine region_begin (by kernel_rfl) fun w0s hb0s => ?_
            have S0 := Lib.hid (P5.out.stay hb0s)
            have hS : ∀ b, (∃ s, s < 10 ∧ 8 ≤ s ∧ (fun s => [Tgt.new 6, Tgt.new 7].getD (s - 8) (Tgt.new 0)) s = Tgt.old b) → False := by
              rintro b ⟨s, h1, h2, h3⟩
              have hc : s = 8 ∨ s = 9 := by omega
              rcases hc with rfl | rfl
              · cases h3
              · cases h3
            have HS := Lib.hid hS
            clear hS
            refine region_mem (T := 39) 6 2 (fun k => [74, 75, 76, 77, 78, 79, 17, 18].getD k 0) (fun k zs => Cv.Nm ([false, false, true, false, false, true].getD k false) zs ([v13, v13, v13 * v13 % Cv.P, v14, v14, v14 * v14 % Cv.P].getD k 0)) (fun s => [2, 5].getD (s - 8) 0) (fun s => [Tgt.new 6, Tgt.new 7].getD (s - 8) (Tgt.new 0)) (by kernel_rfl) (by decide) ?_ (by decide) Try.underlying39 rfl fldSz (fun k zs hk h => Cv.Nm.len h) ?_ ?_ ?_ ?_ ?_
            · intro i hi
              have hc : i = 0 ∨ i = 1 ∨ i = 2 ∨ i = 3 ∨ i = 4 ∨ i = 5 ∨ i = 6 ∨ i = 7 := by omega
              rcases hc with rfl | rfl | rfl | rfl | rfl | rfl | rfl | rfl <;> exact ⟨rfl, show _ < 122 by decide⟩
            · intro i hi a w9 hk9 hoth hdep
              have hc : i = 0 ∨ i = 1 ∨ i = 2 ∨ i = 3 ∨ i = 4 ∨ i = 5 := by omega
              rcases hc with rfl | rfl | rfl | rfl | rfl | rfl
              · exact op_load (b := b13) rfl rfl rfl rfl ((hoth 13 (by decide)).trans rfl) ((S0.out.live (false, b13, v13) (by simp)).kept hk9 (fun hh => (by have h5 := HS.out _ hh; exact h5)))
              · exact op_load (b := b13) rfl rfl rfl rfl ((hoth 13 (by decide)).trans rfl) ((S0.out.live (false, b13, v13) (by simp)).kept hk9 (fun hh => (by have h5 := HS.out _ hh; exact h5)))
              · obtain ⟨x1, e1, g1⟩ := hdep 0 (by decide) (by kernel_rfl)
                obtain ⟨x2, e2, g2⟩ := hdep 1 (by decide) (by kernel_rfl)
                exact op_call2 rfl rfl rfl rfl e1 e2 (times_nm x1 x2 _ _ w9 g1 g2)
              · exact op_load (b := b14) rfl rfl rfl rfl ((hoth 14 (by decide)).trans rfl) ((S0.out.live (false, b14, v14) (by simp)).kept hk9 (fun hh => (by have h5 := HS.out _ hh; exact h5)))
              · exact op_load (b := b14) rfl rfl rfl rfl ((hoth 14 (by decide)).trans rfl) ((S0.out.live (false, b14, v14) (by simp)).kept hk9 (fun hh => (by have h5 := HS.out _ hh; exact h5)))
              · obtain ⟨x1, e1, g1⟩ := hdep 3 (by decide) (by kernel_rfl)
                obtain ⟨x2, e2, g2⟩ := hdep 4 (by decide) (by kernel_rfl)
                exact op_call2 rfl rfl rfl rfl e1 e2 (times_nm x1 x2 _ _ w9 g1 g2)
            · intro i hi1 hi2
              have hc : i = 6 ∨ i = 7 := by omega
              rcases hc with rfl | rfl <;> exact ⟨_, rfl, rfl, rfl, fun ρ W => ⟨#[.int .i64 0, .int .i64 0, .int .i64 0, .int .i64 0, .int .i64 0, .int .i64 0, .int .i64 0, .int .i64 0, .int .i64 0, .int .i64 0, .int .i64 0, .int .i64 0, .int .i64 0, .int .i64 0, .int .i64 0, .int .i64 0], rfl, rfl⟩⟩
            · intro s hs1 hs2
              have hs3 : s < 10 := hs2
              have hc : s = 8 ∨ s = 9 := by omega
              rcases hc with rfl | rfl
              · exact ⟨by decide, by kernel_rfl, ⟨by decide, by decide, by kernel_rfl, _, rfl, rfl, rfl, rfl⟩⟩
              · exact ⟨by decide, by kernel_rfl, ⟨by decide, by decide, by kernel_rfl, _, rfl, rfl, rfl, rfl⟩⟩
            · intro s r hs1 hs2 hr1 hr2 he
              have hs3 : s < 10 := hs2
              have hr3 : r < 10 := hr2
              have hc : s = 8 ∨ s = 9 := by omega
              have hd : r = 8 ∨ r = 9 := by omega
              rcases hc with rfl | rfl <;> rcases hd with rfl | rfl <;> first | rfl | (exfalso; injection he with he; first | exact hne he | exact hne he.symm | omega)
            · intro w9 zs bs I
              rw [show List.range 8 = [0, 1, 2, 3, 4, 5, 6, 7] from rfl]
              simp only [puts, List.foldl_cons, List.foldl_nil]
              have hb := kept_none I.kept HS.out
              have n0 := I.new 6 (by decide) (by decide) rfl
              have m0 : Num w9 true (bs 6) (v13 * v13 % Cv.P) := ⟨zs 2, (I.put 8 (by decide) (by decide) rfl).1, I.val 2 (by decide) rfl⟩
              have n1 := I.new 7 (by decide) (by decide) rfl
              have m1 : Num w9 true (bs 7) (v14 * v14 % Cv.P) := ⟨zs 5, (I.put 9 (by decide) (by decide) rfl).1, I.val 5 (by decide) rfl⟩
              have e01 := I.ne 6 7 (by decide) (by decide) (by decide) (by decide) rfl rfl (by decide)
              have S1 := S0.out.more2 hb m0 m1 n0.1 n1.1 e01
              simp only [vsOf]
              generalize bs 6 = b17 at S1 ⊢
              generalize bs 7 = b18 at S1 ⊢
              generalize hv17 : v13 * v13 % Cv.P = v17 at S1
              have HV17 := Lib.hid hv17
              clear hv17
              generalize hv18 : v14 * v14 % Cv.P = v18 at S1
              have HV18 := Lib.hid hv18
              clear hv18
              have P6 := Lib.hid S1
              clear I hb S1 S0 HS P5 hb0s n0 m0 n1 m1 e01
              go_upto_region 15 with fail
              go_simp
              refine region_begin (by kernel_rfl) fun w0s hb0s => ?_
              have S0 := Lib.hid (P6.out.stay hb0s)
              have hS : ∀ b, (∃ s, s < 10 ∧ 8 ≤ s ∧ (fun s => [Tgt.new 6, Tgt.new 7].getD (s - 8) (Tgt.new 0)) s = Tgt.old b) → False := by
                rintro b ⟨s, h1, h2, h3⟩
                have hc : s = 8 ∨ s = 9 := by omega
                rcases hc with rfl | rfl
                · cases h3
                · cases h3
              have HS := Lib.hid hS
              clear hS
              refine region_mem (T := 39) 6 2 (fun k => [80, 81, 82, 83, 84, 85, 19, 20].getD k 0) (fun k zs => Cv.Nm ([false, false, true, false, false, true].getD k false) zs ([v16, v13, v16 * v13 % Cv.P, v15, v14, v15 * v14 % Cv.P].getD k 0)) (fun s => [2, 5].getD (s - 8) 0) (fun s => [Tgt.new 6, Tgt.new 7].getD (s - 8) (Tgt.new 0)) (by kernel_rfl) (by decide) ?_ (by decide) Try.underlying39 rfl fldSz (fun k zs hk h => Cv.Nm.len h) ?_ ?_ ?_ ?_ ?_
              · intro i hi
                have hc : i = 0 ∨ i = 1 ∨ i = 2 ∨ i = 3 ∨ i = 4 ∨ i = 5 ∨ i = 6 ∨ i = 7 := by omega
                rcases hc with rfl | rfl | rfl | rfl | rfl | rfl | rfl | rfl <;> exact ⟨rfl, show _ < 122 by decide⟩
              · intro i hi a w9 hk9 hoth hdep
                have hc : i = 0 ∨ i = 1 ∨ i = 2 ∨ i = 3 ∨ i = 4 ∨ i = 5 := by omega
                rcases hc with rfl | rfl | rfl | rfl | rfl | rfl
                · exact op_load (b := b16) rfl rfl rfl rfl ((hoth 16 (by decide)).trans rfl) ((S0.out.live (false, b16, v16) (by simp)).kept hk9 (fun hh => (by have h5 := HS.out _ hh; exact h5)))
                · exact op_load (b := b13) rfl rfl rfl rfl ((hoth 13 (by decide)).trans rfl) ((S0.out.live (false, b13, v13) (by simp)).kept hk9 (fun hh => (by have h5 := HS.out _ hh; exact h5)))
                · obtain ⟨x1, e1, g1⟩ := hdep 0 (by decide) (by kernel_rfl)
                  obtain ⟨x2, e2, g2⟩ := hdep 1 (by decide) (by kernel_rfl)
                  exact op_call2 rfl rfl rfl rfl e1 e2 (times_nm x1 x2 _ _ w9 g1 g2)
                · exact op_load (b := b15) rfl rfl rfl rfl ((hoth 15 (by decide)).trans rfl) ((S0.out.live (false, b15, v15) (by simp)).kept hk9 (fun hh => (by have h5 := HS.out _ hh; exact h5)))
                · exact op_load (b := b14) rfl rfl rfl rfl ((hoth 14 (by decide)).trans rfl) ((S0.out.live (false, b14, v14) (by simp)).kept hk9 (fun hh => (by have h5 := HS.out _ hh; exact h5)))
                · obtain ⟨x1, e1, g1⟩ := hdep 3 (by decide) (by kernel_rfl)
                  obtain ⟨x2, e2, g2⟩ := hdep 4 (by decide) (by kernel_rfl)
                  exact op_call2 rfl rfl rfl rfl e1 e2 (times_nm x1 x2 _ _ w9 g1 g2)
              · intro i hi1 hi2
                have hc : i = 6 ∨ i = 7 := by omega
                rcases hc with rfl | rfl <;> exact ⟨_, rfl, rfl, rfl, fun ρ W => ⟨#[.int .i64 0, .int .i64 0, .int .i64 0, .int .i64 0, .int .i64 0, .int .i64 0, .int .i64 0, .int .i64 0, .int .i64 0, .int .i64 0, .int .i64 0, .int .i64 0, .int .i64 0, .int .i64 0, .int .i64 0, .int .i64 0], rfl, rfl⟩⟩
              · intro s hs1 hs2
                have hs3 : s < 10 := hs2
                have hc : s = 8 ∨ s = 9 := by omega
                rcases hc with rfl | rfl
                · exact ⟨by decide, by kernel_rfl, ⟨by decide, by decide, by kernel_rfl, _, rfl, rfl, rfl, rfl⟩⟩
                · exact ⟨by decide, by kernel_rfl, ⟨by decide, by decide, by kernel_rfl, _, rfl, rfl, rfl, rfl⟩⟩
              · intro s r hs1 hs2 hr1 hr2 he
                have hs3 : s < 10 := hs2
                have hr3 : r < 10 := hr2
                have hc : s = 8 ∨ s = 9 := by omega
                have hd : r = 8 ∨ r = 9 := by omega
                rcases hc with rfl | rfl <;> rcases hd with rfl | rfl <;> first | rfl | (exfalso; injection he with he; first | exact hne he | exact hne he.symm | omega)
              · intro w9 zs bs I
                rw [show List.range 8 = [0, 1, 2, 3, 4, 5, 6, 7] from rfl]
                simp only [puts, List.foldl_cons, List.foldl_nil]
                have hb := kept_none I.kept HS.out
                have n0 := I.new 6 (by decide) (by decide) rfl
                have m0 : Num w9 true (bs 6) (v16 * v13 % Cv.P) := ⟨zs 2, (I.put 8 (by decide) (by decide) rfl).1, I.val 2 (by decide) rfl⟩
                have n1 := I.new 7 (by decide) (by decide) rfl
                have m1 : Num w9 true (bs 7) (v15 * v14 % Cv.P) := ⟨zs 5, (I.put 9 (by decide) (by decide) rfl).1, I.val 5 (by decide) rfl⟩
                have e01 := I.ne 6 7 (by decide) (by decide) (by decide) (by decide) rfl rfl (by decide)
                have S1 := S0.out.more2 hb m0 m1 n0.1 n1.1 e01
                simp only [vsOf]
                generalize bs 6 = b19 at S1 ⊢
                generalize bs 7 = b20 at S1 ⊢
                generalize hv19 : v16 * v13 % Cv.P = v19 at S1
                have HV19 := Lib.hid hv19
                clear hv19
                generalize hv20 : v15 * v14 % Cv.P = v20 at S1
                have HV20 := Lib.hid hv20
                clear hv20
                have P7 := Lib.hid S1
                clear I hb S1 S0 HS P6 hb0s n0 m0 n1 m1 e01
                go_upto_region 16 with fail
                go_simp
                refine region_begin (by kernel_rfl) fun w0s hb0s => ?_
                have S0 := Lib.hid (P7.out.stay hb0s)
                have hS : ∀ b, (∃ s, s < 10 ∧ 8 ≤ s ∧ (fun s => [Tgt.new 6, Tgt.new 7].getD (s - 8) (Tgt.new 0)) s = Tgt.old b) → False := by
                  rintro b ⟨s, h1, h2, h3⟩
                  have hc : s = 8 ∨ s = 9 := by omega
                  rcases hc with rfl | rfl
                  · cases h3
                  · cases h3
                have HS := Lib.hid hS
                clear hS
                refine region_mem (T := 39) 6 2 (fun k => [86, 87, 88, 89, 90, 91, 21, 22].getD k 0) (fun k zs => Cv.Nm ([true, true, false, true, true, false].getD k false) zs ([v19, v20, v19 + v20, v19, v20, v19 - v20].getD k 0)) (fun s => [2, 5].getD (s - 8) 0) (fun s => [Tgt.new 6, Tgt.new 7].getD (s - 8) (Tgt.new 0)) (by kernel_rfl) (by decide) ?_ (by decide) Try.underlying39 rfl fldSz (fun k zs hk h => Cv.Nm.len h) ?_ ?_ ?_ ?_ ?_
                · intro i hi
                  have hc : i = 0 ∨ i = 1 ∨ i = 2 ∨ i = 3 ∨ i = 4 ∨ i = 5 ∨ i = 6 ∨ i = 7 := by omega
                  rcases hc with rfl | rfl | rfl | rfl | rfl | rfl | rfl | rfl <;> exact ⟨rfl, show _ < 122 by decide⟩
                · intro i hi a w9 hk9 hoth hdep
                  have hc : i = 0 ∨ i = 1 ∨ i = 2 ∨ i = 3 ∨ i = 4 ∨ i = 5 := by omega
                  rcases hc with rfl | rfl | rfl | rfl | rfl | rfl
                  · exact op_load (b := b19) rfl rfl rfl rfl ((hoth 19 (by decide)).trans rfl) ((S0.out.live (true, b19, v19) (by simp)).kept hk9 (fun hh => (by have h5 := HS.out _ hh; exact h5)))
                  · exact op_load (b := b20) rfl rfl rfl rfl ((hoth 20 (by decide)).trans rfl) ((S0.out.live (true, b20, v20) (by simp)).kept hk9 (fun hh => (by have h5 := HS.out _ hh; exact h5)))
                  · obtain ⟨x1, e1, g1⟩ := hdep 0 (by decide) (by kernel_rfl)
                    obtain ⟨x2, e2, g2⟩ := hdep 1 (by decide) (by kernel_rfl)
                    exact op_call2 rfl rfl rfl rfl e1 e2 (plus_lim x1 x2 _ _ w9 g1 g2)
                  · exact op_load (b := b19) rfl rfl rfl rfl ((hoth 19 (by decide)).trans rfl) ((S0.out.live (true, b19, v19) (by simp)).kept hk9 (fun hh => (by have h5 := HS.out _ hh; exact h5)))
                  · exact op_load (b := b20) rfl rfl rfl rfl ((hoth 20 (by decide)).trans rfl) ((S0.out.live (true, b20, v20) (by simp)).kept hk9 (fun hh => (by have h5 := HS.out _ hh; exact h5)))
                  · obtain ⟨x1, e1, g1⟩ := hdep 3 (by decide) (by kernel_rfl)
                    obtain ⟨x2, e2, g2⟩ := hdep 4 (by decide) (by kernel_rfl)
                    exact op_call2 rfl rfl rfl rfl e1 e2 (minus_lim x1 x2 _ _ w9 g1 g2)
                · intro i hi1 hi2
                  have hc : i = 6 ∨ i = 7 := by omega
                  rcases hc with rfl | rfl <;> exact ⟨_, rfl, rfl, rfl, fun ρ W => ⟨#[.int .i64 0, .int .i64 0, .int .i64 0, .int .i64 0, .int .i64 0, .int .i64 0, .int .i64 0, .int .i64 0, .int .i64 0, .int .i64 0, .int .i64 0, .int .i64 0, .int .i64 0, .int .i64 0, .int .i64 0, .int .i64 0], rfl, rfl⟩⟩
                · intro s hs1 hs2
                  have hs3 : s < 10 := hs2
                  have hc : s = 8 ∨ s = 9 := by omega
                  rcases hc with rfl | rfl
                  · exact ⟨by decide, by kernel_rfl, ⟨by decide, by decide, by kernel_rfl, _, rfl, rfl, rfl, rfl⟩⟩
                  · exact ⟨by decide, by kernel_rfl, ⟨by decide, by decide, by kernel_rfl, _, rfl, rfl, rfl, rfl⟩⟩
                · intro s r hs1 hs2 hr1 hr2 he
                  have hs3 : s < 10 := hs2
                  have hr3 : r < 10 := hr2
                  have hc : s = 8 ∨ s = 9 := by omega
                  have hd : r = 8 ∨ r = 9 := by omega
                  rcases hc with rfl | rfl <;> rcases hd with rfl | rfl <;> first | rfl | (exfalso; injection he with he; first | exact hne he | exact hne he.symm | omega)
                · intro w9 zs bs I
                  rw [show List.range 8 = [0, 1, 2, 3, 4, 5, 6, 7] from rfl]
                  simp only [puts, List.foldl_cons, List.foldl_nil]
                  have hb := kept_none I.kept HS.out
                  have n0 := I.new 6 (by decide) (by decide) rfl
                  have m0 : Num w9 false (bs 6) (v19 + v20) := ⟨zs 2, (I.put 8 (by decide) (by decide) rfl).1, I.val 2 (by decide) rfl⟩
                  have n1 := I.new 7 (by decide) (by decide) rfl
                  have m1 : Num w9 false (bs 7) (v19 - v20) := ⟨zs 5, (I.put 9 (by decide) (by decide) rfl).1, I.val 5 (by decide) rfl⟩
                  have e01 := I.ne 6 7 (by decide) (by decide) (by decide) (by decide) rfl rfl (by decide)
                  have S1 := S0.out.more2 hb m0 m1 n0.1 n1.1 e01
                  simp only [vsOf]
                  generalize bs 6 = b21 at S1 ⊢
                  generalize bs 7 = b22 at S1 ⊢
                  generalize hv21 : v19 + v20 = v21 at S1
                  have HV21 := Lib.hid hv21
                  clear hv21
                  generalize hv22 : v19 - v20 = v22 at S1
                  have HV22 := Lib.hid hv22
                  clear hv22
                  have P8 := Lib.hid S1
                  clear I hb S1 S0 HS P7 hb0s n0 m0 n1 m1 e01
                  go_upto_region 17 with fail
                  go_simp
                  have hb17 := P8.out.base (true, b17, v17) (by simp)
                  obtain ⟨xs17, l17, n17⟩ := P8.out.live (true, b17, v17) (by simp)
                  obtain ⟨xs18, l18, n18⟩ := P8.out.live (true, b18, v18) (by simp)
                  have g17 := range_of l17
                  have g18 := range_of l18
                  have N17 := Lib.hid n17
                  have N18 := Lib.hid n18
                  clear n17 n18 l17 l18 hb17
                  go_upto_region 18 with (first
                    | (refine wpList_load_mid rfl 39 (.tmp 17) rfl b17 0 rfl (xs17.map i64v) _ g17 Try.underlying39 rfl (szOf N17.out.len) ?_)
                    | (refine wpList_load_mid rfl 39 (.tmp 18) rfl b18 0 rfl (xs18.map i64v) _ g18 Try.underlying39 rfl (szOf N18.out.len) ?_)
                    | (go_at_call 21; refine (minus_lim xs17 xs18 _ _ _ N17.out N18.out).mono ?_; rintro e w10 ⟨⟨z23, rfl, hz23⟩, hb10⟩; have Z23 := Lib.hid hz23; have B10 := Lib.hid hb10; clear hz23 hb10)
                    | (refine wpList_store_mid rfl 39 (.tmp 23) (.tmp 94) rfl w10.heap.size 0 (z23.map i64v).toArray rfl rfl (thOf Z23.out.len ⟨_, heapNew _ _, rfl⟩) (szOf2 Z23.out.len) (limOne _) ?_; generalize hW : World.setCells _ _ _ _ = w11; have HW := Lib.hid hW; clear hW))
                  have S1 := P8.out.new1 (B10.out.alloc B10.out.size (.cells #[.int .i64 0, .int .i64 0, .int .i64 0, .int .i64 0, .int .i64 0, .int .i64 0, .int .i64 0, .int .i64 0, .int .i64 0, .int .i64 0, .int .i64 0, .int .i64 0, .int .i64 0, .int .i64 0, .int .i64 0, .int .i64 0] 39)) ⟨_, heapNew w10 _, rfl⟩ B10.out.size Z23.out
                  rw [HW.out] at S1
                  generalize hb23 : w10.heap.size = b23 at S1 ⊢
                  generalize hv23 : v17 - v18 = v23 at S1
                  have HV23 := Lib.hid hv23
                  clear hv23
                  have P9 := Lib.hid S1
                  clear hb23 S1 HW Z23 B10 P8 N17 N18 g17 g18
                  replace P9 := Lib.hid (show St w g cap K [(false, b23, v23), (false, b22, v22), (false, b21, v21), (true, b20, v20), (true, b19, v19), (true, b18, v18), (true, b17, v17), (false, b16, v16), (false, b15, v15), (false, b14, v14), (false, b13, v13), (true, b8, t.z2), (true, b10, t.z3), (true, b7, t.x2), (true, b9, t.x3), (true, b6, u)] _ from P9.out.front 0)
                  replace P9 := Lib.hid (show St w g cap K [(false, b22, v22), (false, b23, v23), (false, b21, v21), (true, b20, v20), (true, b19, v19), (true, b18, v18), (true, b17, v17), (false, b16, v16), (false, b15, v15), (false, b14, v14), (false, b13, v13), (true, b8, t.z2), (true, b10, t.z3), (true, b7, t.x2), (true, b9, t.x3), (true, b6, u)] _ from P9.out.front 1)
                  replace P9 := Lib.hid (show St w g cap K [(false, b21, v21), (false, b22, v22), (false, b23, v23), (true, b20, v20), (true, b19, v19), (true, b18, v18), (true, b17, v17), (false, b16, v16), (false, b15, v15), (false, b14, v14), (false, b13, v13), (true, b8, t.z2), (true, b10, t.z3), (true, b7, t.x2), (true, b9, t.x3), (true, b6, u)] _ from P9.out.front 2)
                  replace P9 := Lib.hid (show St w g cap K [(true, b18, v18), (false, b21, v21), (false, b22, v22), (false, b23, v23), (true, b20, v20), (true, b19, v19), (true, b17, v17), (false, b16, v16), (false, b15, v15), (false, b14, v14), (false, b13, v13), (true, b8, t.z2), (true, b10, t.z3), (true, b7, t.x2), (true, b9, t.x3), (true, b6, u)] _ from P9.out.front 5)
                  replace P9 := Lib.hid (show St w g cap K [(true, b17, v17), (true, b18, v18), (false, b21, v21), (false, b22, v22), (false, b23, v23), (true, b20, v20), (true, b19, v19), (false, b16, v16), (false, b15, v15), (false, b14, v14), (false, b13, v13), (true, b8, t.z2), (true, b10, t.z3), (true, b7, t.x2), (true, b9, t.x3), (true, b6, u)] _ from P9.out.front 6)
                  replace P9 := Lib.hid (show St w g cap K [(true, b6, u), (true, b17, v17), (true, b18, v18), (false, b21, v21), (false, b22, v22), (false, b23, v23), (true, b20, v20), (true, b19, v19), (false, b16, v16), (false, b15, v15), (false, b14, v14), (false, b13, v13), (true, b8, t.z2), (true, b10, t.z3), (true, b7, t.x2), (true, b9, t.x3)] _ from P9.out.front 15)
                  replace P9 := Lib.hid (show St w g cap K [(true, b8, t.z2), (true, b6, u), (true, b17, v17), (true, b18, v18), (false, b21, v21), (false, b22, v22), (false, b23, v23), (true, b20, v20), (true, b19, v19), (false, b16, v16), (false, b15, v15), (false, b14, v14), (false, b13, v13), (true, b10, t.z3), (true, b7, t.x2), (true, b9, t.x3)] _ from P9.out.front 12)
                  replace P9 := Lib.hid (show St w g cap K [(true, b7, t.x2), (true, b8, t.z2), (true, b6, u), (true, b17, v17), (true, b18, v18), (false, b21, v21), (false, b22, v22), (false, b23, v23), (true, b20, v20), (true, b19, v19), (false, b16, v16), (false, b15, v15), (false, b14, v14), (false, b13, v13), (true, b10, t.z3), (true, b9, t.x3)] _ from P9.out.front 14)
                  replace P9 := Lib.hid (show St w g cap K [(true, b10, t.z3), (true, b7, t.x2), (true, b8, t.z2), (true, b6, u), (true, b17, v17), (true, b18, v18), (false, b21, v21), (false, b22, v22), (false, b23, v23), (true, b20, v20), (true, b19, v19), (false, b16, v16), (false, b15, v15), (false, b14, v14), (false, b13, v13), (true, b9, t.x3)] _ from P9.out.front 14)
                  replace P9 := Lib.hid (show St w g cap K [(true, b9, t.x3), (true, b10, t.z3), (true, b7, t.x2), (true, b8, t.z2), (true, b6, u), (true, b17, v17), (true, b18, v18), (false, b21, v21), (false, b22, v22), (false, b23, v23), (true, b20, v20), (true, b19, v19), (false, b16, v16), (false, b15, v15), (false, b14, v14), (false, b13, v13)] _ from P9.out.front 15)
                  have PP := P9
                  have hne : b9 ≠ b10 := PP.out.neq2
                  have hne7 : b7 ≠ b9 ∧ b7 ≠ b10 := PP.out.neq (r := true) (v := t.x2) (by simp)
                  have hne8 : b8 ≠ b9 ∧ b8 ≠ b10 := PP.out.neq (r := true) (v := t.z2) (by simp)
                  have hne6 : b6 ≠ b9 ∧ b6 ≠ b10 := PP.out.neq (r := true) (v := u) (by simp)
                  have hne17 : b17 ≠ b9 ∧ b17 ≠ b10 := PP.out.neq (r := true) (v := v17) (by simp)
                  have hne18 : b18 ≠ b9 ∧ b18 ≠ b10 := PP.out.neq (r := true) (v := v18) (by simp)
                  have hne21 : b21 ≠ b9 ∧ b21 ≠ b10 := PP.out.neq (r := false) (v := v21) (by simp)
                  have hne22 : b22 ≠ b9 ∧ b22 ≠ b10 := PP.out.neq (r := false) (v := v22) (by simp)
                  have hne23 : b23 ≠ b9 ∧ b23 ≠ b10 := PP.out.neq (r := false) (v := v23) (by simp)
                  clear P9
                  refine region_begin (by kernel_rfl) fun w0s hb0s => ?_
                  have S0 := Lib.hid (PP.out.stay hb0s)
                  have hS : ∀ b, (∃ s, s < 10 ∧ 8 ≤ s ∧ (fun s => [Tgt.old b9, Tgt.old b10].getD (s - 8) (Tgt.new 0)) s = Tgt.old b) → b = b9 ∨ b = b10 := by
                    rintro b ⟨s, h1, h2, h3⟩
                    have hc : s = 8 ∨ s = 9 := by omega
                    rcases hc with rfl | rfl
                    · injection h3 with h3; exact .inl h3.symm
                    · injection h3 with h3; exact .inr h3.symm
                  have HS := Lib.hid hS
                  clear hS
                  refine region_mem (T := 39) 8 0 (fun k => [95, 96, 97, 98, 99, 100, 101, 102].getD k 0) (fun k zs => Cv.Nm ([false, false, true, false, false, true, true, true].getD k false) zs ([v21, v21, v21 * v21 % Cv.P, v22, v22, v22 * v22 % Cv.P, u, (v22 * v22 % Cv.P) * u % Cv.P].getD k 0)) (fun s => [2, 7].getD (s - 8) 0) (fun s => [Tgt.old b9, Tgt.old b10].getD (s - 8) (Tgt.new 0)) (by kernel_rfl) (by decide) ?_ (by decide) Try.underlying39 rfl fldSz (fun k zs hk h => Cv.Nm.len h) ?_ ?_ ?_ ?_ ?_
                  · intro i hi
                    have hc : i = 0 ∨ i = 1 ∨ i = 2 ∨ i = 3 ∨ i = 4 ∨ i = 5 ∨ i = 6 ∨ i = 7 := by omega
                    rcases hc with rfl | rfl | rfl | rfl | rfl | rfl | rfl | rfl <;> exact ⟨rfl, show _ < 122 by decide⟩
                  · intro i hi a w9 hk9 hoth hdep
                    have hc : i = 0 ∨ i = 1 ∨ i = 2 ∨ i = 3 ∨ i = 4 ∨ i = 5 ∨ i = 6 ∨ i = 7 := by omega
                    rcases hc with rfl | rfl | rfl | rfl | rfl | rfl | rfl | rfl
                    · exact op_load (b := b21) rfl rfl rfl rfl ((hoth 21 (by decide)).trans rfl) ((S0.out.live (false, b21, v21) (by simp)).kept hk9 (fun hh => (by have h5 := HS.out _ hh; rcases h5 with h5 | h5; exact hne21.1 h5; exact hne21.2 h5)))
                    · exact op_load (b := b21) rfl rfl rfl rfl ((hoth 21 (by decide)).trans rfl) ((S0.out.live (false, b21, v21) (by simp)).kept hk9 (fun hh => (by have h5 := HS.out _ hh; rcases h5 with h5 | h5; exact hne21.1 h5; exact hne21.2 h5)))
                    · obtain ⟨x1, e1, g1⟩ := hdep 0 (by decide) (by kernel_rfl)
                      obtain ⟨x2, e2, g2⟩ := hdep 1 (by decide) (by kernel_rfl)
                      exact op_call2 rfl rfl rfl rfl e1 e2 (times_nm x1 x2 _ _ w9 g1 g2)
                    · exact op_load (b := b22) rfl rfl rfl rfl ((hoth 22 (by decide)).trans rfl) ((S0.out.live (false, b22, v22) (by simp)).kept hk9 (fun hh => (by have h5 := HS.out _ hh; rcases h5 with h5 | h5; exact hne22.1 h5; exact hne22.2 h5)))
                    · exact op_load (b := b22) rfl rfl rfl rfl ((hoth 22 (by decide)).trans rfl) ((S0.out.live (false, b22, v22) (by simp)).kept hk9 (fun hh => (by have h5 := HS.out _ hh; rcases h5 with h5 | h5; exact hne22.1 h5; exact hne22.2 h5)))
                    · obtain ⟨x1, e1, g1⟩ := hdep 3 (by decide) (by kernel_rfl)
                      obtain ⟨x2, e2, g2⟩ := hdep 4 (by decide) (by kernel_rfl)
                      exact op_call2 rfl rfl rfl rfl e1 e2 (times_nm x1 x2 _ _ w9 g1 g2)
                    · exact op_load (b := b6) rfl rfl rfl rfl ((hoth 6 (by decide)).trans rfl) ((S0.out.live (true, b6, u) (by simp)).kept hk9 (fun hh => (by have h5 := HS.out _ hh; rcases h5 with h5 | h5; exact hne6.1 h5; exact hne6.2 h5)))
                    · obtain ⟨x1, e1, g1⟩ := hdep 5 (by decide) (by kernel_rfl)
                      obtain ⟨x2, e2, g2⟩ := hdep 6 (by decide) (by kernel_rfl)
                      exact op_call2 rfl rfl rfl rfl e1 e2 (times_nm x1 x2 _ _ w9 g1 g2)
                  · intro i hi1 hi2; omega
                  · intro s hs1 hs2
                    have hs3 : s < 10 := hs2
                    have hc : s = 8 ∨ s = 9 := by omega
                    rcases hc with rfl | rfl
                    · exact ⟨by decide, by kernel_rfl, ⟨(S0.out.live (true, b9, t.x3) (by simp)).lt, (S0.out.live (true, b9, t.x3) (by simp)).rom, 9, rfl, by decide, _, rfl, rfl, rfl, rfl⟩⟩
                    · exact ⟨by decide, by kernel_rfl, ⟨(S0.out.live (true, b10, t.z3) (by simp)).lt, (S0.out.live (true, b10, t.z3) (by simp)).rom, 10, rfl, by decide, _, rfl, rfl, rfl, rfl⟩⟩
                  · intro s r hs1 hs2 hr1 hr2 he
                    have hs3 : s < 10 := hs2
                    have hr3 : r < 10 := hr2
                    have hc : s = 8 ∨ s = 9 := by omega
                    have hd : r = 8 ∨ r = 9 := by omega
                    rcases hc with rfl | rfl <;> rcases hd with rfl | rfl <;> first | rfl | (exfalso; injection he with he; first | exact hne he | exact hne he.symm | omega)
                  · intro w9 zs bs I
                    rw [show List.range 8 = [0, 1, 2, 3, 4, 5, 6, 7] from rfl]
                    simp only [puts, List.foldl_cons, List.foldl_nil]
                    have m0 : Num w9 true b9 (v21 * v21 % Cv.P) := ⟨zs 2, (I.put 8 (by decide) (by decide) rfl).1, I.val 2 (by decide) rfl⟩
                    have m1 : Num w9 true b10 ((v22 * v22 % Cv.P) * u % Cv.P) := ⟨zs 7, (I.put 9 (by decide) (by decide) rfl).1, I.val 7 (by decide) rfl⟩
                    have S1 := S0.out.turn2 I.kept HS.out m0 m1
                    generalize hy9 : v21 * v21 % Cv.P = y9 at S1
                    have HY9 := Lib.hid hy9
                    clear hy9
                    generalize hy10 : (v22 * v22 % Cv.P) * u % Cv.P = y10 at S1
                    have HY10 := Lib.hid hy10
                    clear hy10
                    have P10 := Lib.hid S1
                    simp only [vsOf]
                    clear I S0 S1 HS PP hb0s m0 m1 hne hne7 hne8 hne6 hne17 hne18 hne21 hne22 hne23
                    go_upto_region 19 with fail
                    go_simp
                    replace P10 := Lib.hid (show St w g cap K [(false, b23, v23), (true, b9, y9), (true, b10, y10), (true, b7, t.x2), (true, b8, t.z2), (true, b6, u), (true, b17, v17), (true, b18, v18), (false, b21, v21), (false, b22, v22), (true, b20, v20), (true, b19, v19), (false, b16, v16), (false, b15, v15), (false, b14, v14), (false, b13, v13)] _ from P10.out.front 9)
                    replace P10 := Lib.hid (show St w g cap K [(true, b18, v18), (false, b23, v23), (true, b9, y9), (true, b10, y10), (true, b7, t.x2), (true, b8, t.z2), (true, b6, u), (true, b17, v17), (false, b21, v21), (false, b22, v22), (true, b20, v20), (true, b19, v19), (false, b16, v16), (false, b15, v15), (false, b14, v14), (false, b13, v13)] _ from P10.out.front 7)
                    replace P10 := Lib.hid (show St w g cap K [(true, b17, v17), (true, b18, v18), (false, b23, v23), (true, b9, y9), (true, b10, y10), (true, b7, t.x2), (true, b8, t.z2), (true, b6, u), (false, b21, v21), (false, b22, v22), (true, b20, v20), (true, b19, v19), (false, b16, v16), (false, b15, v15), (false, b14, v14), (false, b13, v13)] _ from P10.out.front 7)
                    replace P10 := Lib.hid (show St w g cap K [(true, b6, u), (true, b17, v17), (true, b18, v18), (false, b23, v23), (true, b9, y9), (true, b10, y10), (true, b7, t.x2), (true, b8, t.z2), (false, b21, v21), (false, b22, v22), (true, b20, v20), (true, b19, v19), (false, b16, v16), (false, b15, v15), (false, b14, v14), (false, b13, v13)] _ from P10.out.front 7)
                    replace P10 := Lib.hid (show St w g cap K [(true, b10, y10), (true, b6, u), (true, b17, v17), (true, b18, v18), (false, b23, v23), (true, b9, y9), (true, b7, t.x2), (true, b8, t.z2), (false, b21, v21), (false, b22, v22), (true, b20, v20), (true, b19, v19), (false, b16, v16), (false, b15, v15), (false, b14, v14), (false, b13, v13)] _ from P10.out.front 5)
                    replace P10 := Lib.hid (show St w g cap K [(true, b9, y9), (true, b10, y10), (true, b6, u), (true, b17, v17), (true, b18, v18), (false, b23, v23), (true, b7, t.x2), (true, b8, t.z2), (false, b21, v21), (false, b22, v22), (true, b20, v20), (true, b19, v19), (false, b16, v16), (false, b15, v15), (false, b14, v14), (false, b13, v13)] _ from P10.out.front 5)
                    replace P10 := Lib.hid (show St w g cap K [(true, b8, t.z2), (true, b9, y9), (true, b10, y10), (true, b6, u), (true, b17, v17), (true, b18, v18), (false, b23, v23), (true, b7, t.x2), (false, b21, v21), (false, b22, v22), (true, b20, v20), (true, b19, v19), (false, b16, v16), (false, b15, v15), (false, b14, v14), (false, b13, v13)] _ from P10.out.front 7)
                    replace P10 := Lib.hid (show St w g cap K [(true, b7, t.x2), (true, b8, t.z2), (true, b9, y9), (true, b10, y10), (true, b6, u), (true, b17, v17), (true, b18, v18), (false, b23, v23), (false, b21, v21), (false, b22, v22), (true, b20, v20), (true, b19, v19), (false, b16, v16), (false, b15, v15), (false, b14, v14), (false, b13, v13)] _ from P10.out.front 7)
                    have PP := P10
                    have hne : b7 ≠ b8 := PP.out.neq2
                    have hne9 : b9 ≠ b7 ∧ b9 ≠ b8 := PP.out.neq (r := true) (v := y9) (by simp)
                    have hne10 : b10 ≠ b7 ∧ b10 ≠ b8 := PP.out.neq (r := true) (v := y10) (by simp)
                    have hne6 : b6 ≠ b7 ∧ b6 ≠ b8 := PP.out.neq (r := true) (v := u) (by simp)
                    have hne17 : b17 ≠ b7 ∧ b17 ≠ b8 := PP.out.neq (r := true) (v := v17) (by simp)
                    have hne18 : b18 ≠ b7 ∧ b18 ≠ b8 := PP.out.neq (r := true) (v := v18) (by simp)
                    have hne23 : b23 ≠ b7 ∧ b23 ≠ b8 := PP.out.neq (r := false) (v := v23) (by simp)
                    clear P10
                    refine region_begin (by kernel_rfl) fun w0s hb0s => ?_
                    have S0 := Lib.hid (PP.out.stay hb0s)
                    have hS : ∀ b, (∃ s, s < 12 ∧ 10 ≤ s ∧ (fun s => [Tgt.old b7, Tgt.old b8].getD (s - 10) (Tgt.new 0)) s = Tgt.old b) → b = b7 ∨ b = b8 := by
                      rintro b ⟨s, h1, h2, h3⟩
                      have hc : s = 10 ∨ s = 11 := by omega
                      rcases hc with rfl | rfl
                      · injection h3 with h3; exact .inl h3.symm
                      · injection h3 with h3; exact .inr h3.symm
                    have HS := Lib.hid hS
                    clear hS
                    refine region_mem (T := 39) 10 0 (fun k => [103, 104, 105, 106, 107, 108, 109, 110, 111, 112].getD k 0) (fun k zs => Cv.Nm ([true, true, true, false, true, false, true, true, false, true].getD k false) zs ([v17, v18, v17 * v18 % Cv.P, v23, v17, v23, 121665, v23 * 121665 % Cv.P, v17 + (v23 * 121665 % Cv.P), v23 * (v17 + (v23 * 121665 % Cv.P)) % Cv.P].getD k 0)) (fun s => [2, 9].getD (s - 10) 0) (fun s => [Tgt.old b7, Tgt.old b8].getD (s - 10) (Tgt.new 0)) (by kernel_rfl) (by decide) ?_ (by decide) Try.underlying39 rfl fldSz (fun k zs hk h => Cv.Nm.len h) ?_ ?_ ?_ ?_ ?_
                    · intro i hi
                      have hc : i = 0 ∨ i = 1 ∨ i = 2 ∨ i = 3 ∨ i = 4 ∨ i = 5 ∨ i = 6 ∨ i = 7 ∨ i = 8 ∨ i = 9 := by omega
                      rcases hc with rfl | rfl | rfl | rfl | rfl | rfl | rfl | rfl | rfl | rfl <;> exact ⟨rfl, show _ < 122 by decide⟩
                    · intro i hi a w9 hk9 hoth hdep
                      have hc : i = 0 ∨ i = 1 ∨ i = 2 ∨ i = 3 ∨ i = 4 ∨ i = 5 ∨ i = 6 ∨ i = 7 ∨ i = 8 ∨ i = 9 := by omega
                      rcases hc with rfl | rfl | rfl | rfl | rfl | rfl | rfl | rfl | rfl | rfl
                      · exact op_load (b := b17) rfl rfl rfl rfl ((hoth 17 (by decide)).trans rfl) ((S0.out.live (true, b17, v17) (by simp)).kept hk9 (fun hh => (by have h5 := HS.out _ hh; rcases h5 with h5 | h5; exact hne17.1 h5; exact hne17.2 h5)))
                      · exact op_load (b := b18) rfl rfl rfl rfl ((hoth 18 (by decide)).trans rfl) ((S0.out.live (true, b18, v18) (by simp)).kept hk9 (fun hh => (by have h5 := HS.out _ hh; rcases h5 with h5 | h5; exact hne18.1 h5; exact hne18.2 h5)))
                      · obtain ⟨x1, e1, g1⟩ := hdep 0 (by decide) (by kernel_rfl)
                        obtain ⟨x2, e2, g2⟩ := hdep 1 (by decide) (by kernel_rfl)
                        exact op_call2 rfl rfl rfl rfl e1 e2 (times_nm x1 x2 _ _ w9 g1 g2)
                      · exact op_load (b := b23) rfl rfl rfl rfl ((hoth 23 (by decide)).trans rfl) ((S0.out.live (false, b23, v23) (by simp)).kept hk9 (fun hh => (by have h5 := HS.out _ hh; rcases h5 with h5 | h5; exact hne23.1 h5; exact hne23.2 h5)))
                      · exact op_load (b := b17) rfl rfl rfl rfl ((hoth 17 (by decide)).trans rfl) ((S0.out.live (true, b17, v17) (by simp)).kept hk9 (fun hh => (by have h5 := HS.out _ hh; rcases h5 with h5 | h5; exact hne17.1 h5; exact hne17.2 h5)))
                      · exact op_load (b := b23) rfl rfl rfl rfl ((hoth 23 (by decide)).trans rfl) ((S0.out.live (false, b23, v23) (by simp)).kept hk9 (fun hh => (by have h5 := HS.out _ hh; rcases h5 with h5 | h5; exact hne23.1 h5; exact hne23.2 h5)))
                      · exact op_build (zs := [56129, 1, 0, 0, 0, 0, 0, 0, 0, 0, 0, 0, 0, 0, 0, 0]) rfl rfl rfl (by kernel_rfl) Cv.nm_a24
                      · obtain ⟨x1, e1, g1⟩ := hdep 5 (by decide) (by kernel_rfl)
                        obtain ⟨x2, e2, g2⟩ := hdep 6 (by decide) (by kernel_rfl)
                        exact op_call2 rfl rfl rfl rfl e1 e2 (times_nm x1 x2 _ _ w9 g1 g2)
                      · obtain ⟨x1, e1, g1⟩ := hdep 4 (by decide) (by kernel_rfl)
                        obtain ⟨x2, e2, g2⟩ := hdep 7 (by decide) (by kernel_rfl)
                        exact op_call2 rfl rfl rfl rfl e1 e2 (plus_lim x1 x2 _ _ w9 g1 g2)
                      · obtain ⟨x1, e1, g1⟩ := hdep 3 (by decide) (by kernel_rfl)
                        obtain ⟨x2, e2, g2⟩ := hdep 8 (by decide) (by kernel_rfl)
                        exact op_call2 rfl rfl rfl rfl e1 e2 (times_nm x1 x2 _ _ w9 g1 g2)
                    · intro i hi1 hi2; omega
                    · intro s hs1 hs2
                      have hs3 : s < 12 := hs2
                      have hc : s = 10 ∨ s = 11 := by omega
                      rcases hc with rfl | rfl
                      · exact ⟨by decide, by kernel_rfl, ⟨(S0.out.live (true, b7, t.x2) (by simp)).lt, (S0.out.live (true, b7, t.x2) (by simp)).rom, 7, rfl, by decide, _, rfl, rfl, rfl, rfl⟩⟩
                      · exact ⟨by decide, by kernel_rfl, ⟨(S0.out.live (true, b8, t.z2) (by simp)).lt, (S0.out.live (true, b8, t.z2) (by simp)).rom, 8, rfl, by decide, _, rfl, rfl, rfl, rfl⟩⟩
                    · intro s r hs1 hs2 hr1 hr2 he
                      have hs3 : s < 12 := hs2
                      have hr3 : r < 12 := hr2
                      have hc : s = 10 ∨ s = 11 := by omega
                      have hd : r = 10 ∨ r = 11 := by omega
                      rcases hc with rfl | rfl <;> rcases hd with rfl | rfl <;> first | rfl | (exfalso; injection he with he; first | exact hne he | exact hne he.symm | omega)
                    · intro w9 zs bs I
                      rw [show List.range 10 = [0, 1, 2, 3, 4, 5, 6, 7, 8, 9] from rfl]
                      simp only [puts, List.foldl_cons, List.foldl_nil]
                      have m0 : Num w9 true b7 (v17 * v18 % Cv.P) := ⟨zs 2, (I.put 10 (by decide) (by decide) rfl).1, I.val 2 (by decide) rfl⟩
                      have m1 : Num w9 true b8 (v23 * (v17 + (v23 * 121665 % Cv.P)) % Cv.P) := ⟨zs 9, (I.put 11 (by decide) (by decide) rfl).1, I.val 9 (by decide) rfl⟩
                      have S1 := S0.out.turn2 I.kept HS.out m0 m1
                      generalize hy7 : v17 * v18 % Cv.P = y7 at S1
                      have HY7 := Lib.hid hy7
                      clear hy7
                      generalize hy8 : v23 * (v17 + (v23 * 121665 % Cv.P)) % Cv.P = y8 at S1
                      have HY8 := Lib.hid hy8
                      clear hy8
                      have P11 := Lib.hid S1
                      simp only [vsOf]
                      clear I S0 S1 HS PP hb0s m0 m1 hne hne9 hne10 hne6 hne17 hne18 hne23
                      go_upto_region 20 with fail
                      go_simp
                      have hmid : t.mid u = ⟨y7, y8, y9, y10⟩ := by
                        rw [← HY7.out, ← HY8.out, ← HY9.out, ← HY10.out, ← HV23.out, ← HV22.out, ← HV21.out, ← HV20.out, ← HV19.out, ← HV18.out, ← HV17.out, ← HV16.out, ← HV15.out, ← HV14.out, ← HV13.out]; rfl
                      replace P11 := Lib.hid (show St w g cap K [(true, b6, u), (true, b7, y7), (true, b8, y8), (true, b9, y9), (true, b10, y10), (true, b17, v17), (true, b18, v18), (false, b23, v23), (false, b21, v21), (false, b22, v22), (true, b20, v20), (true, b19, v19), (false, b16, v16), (false, b15, v15), (false, b14, v14), (false, b13, v13)] _ from P11.out.front 4)
                      replace P11 := Lib.hid (show St w g cap K [(true, b10, y10), (true, b6, u), (true, b7, y7), (true, b8, y8), (true, b9, y9), (true, b17, v17), (true, b18, v18), (false, b23, v23), (false, b21, v21), (false, b22, v22), (true, b20, v20), (true, b19, v19), (false, b16, v16), (false, b15, v15), (false, b14, v14), (false, b13, v13)] _ from P11.out.front 4)
                      replace P11 := Lib.hid (show St w g cap K [(true, b8, y8), (true, b10, y10), (true, b6, u), (true, b7, y7), (true, b9, y9), (true, b17, v17), (true, b18, v18), (false, b23, v23), (false, b21, v21), (false, b22, v22), (true, b20, v20), (true, b19, v19), (false, b16, v16), (false, b15, v15), (false, b14, v14), (false, b13, v13)] _ from P11.out.front 3)
                      replace P11 := Lib.hid (show St w g cap K [(true, b9, y9), (true, b8, y8), (true, b10, y10), (true, b6, u), (true, b7, y7), (true, b17, v17), (true, b18, v18), (false, b23, v23), (false, b21, v21), (false, b22, v22), (true, b20, v20), (true, b19, v19), (false, b16, v16), (false, b15, v15), (false, b14, v14), (false, b13, v13)] _ from P11.out.front 4)
                      replace P11 := Lib.hid (show St w g cap K [(true, b7, y7), (true, b9, y9), (true, b8, y8), (true, b10, y10), (true, b6, u), (true, b17, v17), (true, b18, v18), (false, b23, v23), (false, b21, v21), (false, b22, v22), (true, b20, v20), (true, b19, v19), (false, b16, v16), (false, b15, v15), (false, b14, v14), (false, b13, v13)] _ from P11.out.front 4)
                      have P12 := Lib.hid (show St w g cap K [(true, b7, (t.mid u).x2), (true, b9, (t.mid u).x3), (true, b8, (t.mid u).z2), (true, b10, (t.mid u).z3), (true, b6, u)] _ from by rw [hmid]; exact P11.out.take 5)
                      clear P11 hmid
                      go_wp2_with fail
                      refine (swap_st H01.out P12.out).mono ?_
                      rintro e w2 ⟨rfl, h2⟩
                      rw [← Cv.sw_x2, ← Cv.sw_x3] at h2
                      have P13 := Lib.hid (h2.perm (L' := [(true, b8, (t.mid u).z2), (true, b10, (t.mid u).z3), (true, b7, ((t.mid u).sw bv).x2), (true, b9, ((t.mid u).sw bv).x3), (true, b6, u)]) (by simp) (by simp; omega))
                      clear h2 P12
                      go_wp2_with fail
                      refine (swap_st H01.out P13.out).mono ?_
                      rintro e w3 ⟨rfl, h3⟩
                      rw [← Cv.sw_z2, ← Cv.sw_z3, ← HST2.out] at h3
                      have P14 := Lib.hid (h3.perm (L' := [(true, b7, (Cv.ladder K u (n + 1)).x2), (true, b8, (Cv.ladder K u (n + 1)).z2), (true, b9, (Cv.ladder K u (n + 1)).x3), (true, b10, (Cv.ladder K u (n + 1)).z3), (true, b6, u)]) (by simp) (by simp; omega))
                      clear h3 P13
                      go_wp2_with fail
                      go_roundw
                      case rel => exact ⟨n + 1, by omega, by have h1 := HCC.out; rw [show (254 : Int) - ((n + 1 : Nat) : Int) = (c' : Int) - 1 by omega], P14⟩
                      case measure => simp [intOf] <;> omega
      · have hd0 : decide (0 ≤ (254 : Int) - (n : Int)) = false := by rw [decide_eq_false_iff_not]; omega
        have hd1 : decide ((n : Int) ≤ 254) = false := by rw [decide_eq_false_iff_not]; omega
        have hn255 : n = 255 := by omega
        rw [hn255] at HS
        have hsh : (Cv.ladder K u 255).x2 * Cv.turn (Cv.ladder K u 255).z2 254 % Cv.P = Cv.share l lp := by rw [Cv.share, HK.out, HU.out]
        have HSH := Lib.hid hsh
        clear hn255 hlt hsh
        go_upto_region 22 with fail
        go_simp
        generalize (Cv.ladder K u 255).x2 = x2 at HS HSH
        generalize (Cv.ladder K u 255).z2 = z2 at HS HSH
        generalize (Cv.ladder K u 255).x3 = x3 at HS HSH
        generalize (Cv.ladder K u 255).z3 = z3 at HS HSH
        refine wp_region_any (by kernel_rfl) ?_
        have S0 := Lib.hid (HS.out.stay (below_drewN (Below.refl _ _) 1))
        obtain ⟨w0s, hw0s⟩ : ∃ W, W = World.drewN wr 1 := ⟨_, rfl⟩
        refine wpAny_world hw0s ?_
        rw [← hw0s] at S0
        clear hw0s
        have hbase := S0.out.below.size
        have HBW := Lib.hid S0.out.below
        refine region_vals 6 (fun k => [117, 118, 119, 120, 121, 4].getD k 0) (fun k v W => if k < 4 then ∃ zs, v = limV zs ∧ Cv.Nm true zs ([x2, z2, Cv.turn z2 254, x2 * Cv.turn z2 254 % Cv.P].getD k 0) else Own W w.heap.size v (Cv.out32 (Cv.share l lp))) (by kernel_rfl) rfl ?_ (by decide) ?_ ?_ ?_
        · intro i hi
          have hc : i = 0 ∨ i = 1 ∨ i = 2 ∨ i = 3 ∨ i = 4 ∨ i = 5 := by omega
          rcases hc with rfl | rfl | rfl | rfl | rfl | rfl <;> exact show _ < 122 by decide
        · intro k v W W' hk hb h
          by_cases hk4 : k < 4
          · rw [if_pos hk4] at h ⊢; exact h
          · rw [if_neg hk4] at h ⊢; exact h.below hb (fun j hj => (h.lt j hj).2)
        · intro i hi a w9 hb9 hoth hdep
          have hc : i = 0 ∨ i = 1 ∨ i = 2 ∨ i = 3 ∨ i = 4 ∨ i = 5 := by omega
          rcases hc with rfl | rfl | rfl | rfl | rfl | rfl
          · refine wpOp_mono (fun a' w' h => ?_) (op_load (b := b7) rfl rfl rfl rfl ((hoth 7 (by decide)).trans rfl) ((S0.out.live (true, b7, x2) (by simp)).stay hb9))
            obtain ⟨z, h1, h2, h3⟩ := h
            exact ⟨_, h1, by rw [if_pos (by decide)]; exact ⟨z, rfl, h2⟩, h3⟩
          · refine wpOp_mono (fun a' w' h => ?_) (op_load (b := b8) rfl rfl rfl rfl ((hoth 8 (by decide)).trans rfl) ((S0.out.live (true, b8, z2) (by simp)).stay hb9))
            obtain ⟨z, h1, h2, h3⟩ := h
            exact ⟨_, h1, by rw [if_pos (by decide)]; exact ⟨z, rfl, h2⟩, h3⟩
          · have h0 := hdep 1 (by decide) (by kernel_rfl)
            rw [if_pos (by decide)] at h0
            obtain ⟨x1, e1, g1⟩ := h0
            refine wpOp_mono (fun a' w' h => ?_) (op_call1 rfl rfl rfl rfl e1 (turned_nm x1 z2 w9 g1))
            obtain ⟨z, h1, h2, h3⟩ := h
            exact ⟨_, h1, by rw [if_pos (by decide)]; exact ⟨z, rfl, h2⟩, h3⟩
          · have h0 := hdep 0 (by decide) (by kernel_rfl)
            rw [if_pos (by decide)] at h0
            obtain ⟨x1, e1, g1⟩ := h0
            have h0 := hdep 2 (by decide) (by kernel_rfl)
            rw [if_pos (by decide)] at h0
            obtain ⟨x2', e2, g2⟩ := h0
            refine wpOp_mono (fun a' w' h => ?_) (op_call2 rfl rfl rfl rfl e1 e2 (times_nm x1 x2' _ _ w9 g1 g2))
            obtain ⟨z, h1, h2, h3⟩ := h
            exact ⟨_, h1, by rw [if_pos (by decide)]; exact ⟨z, rfl, h2⟩, h3⟩
          · have h0 := hdep 3 (by decide) (by kernel_rfl)
            rw [if_pos (by decide)] at h0
            obtain ⟨x1, e1, g1⟩ := h0
            refine wpOp_call rfl rfl 24 #[limV x1] (run_callAt rfl rfl rfl (by simp only [List.map_toArray, List.map_cons, List.map_nil]; exact congrArg (fun v => #[v]) e1) rfl) ((write_any x1 _ w9 g1.red g1.cg).mono ?_)
            rintro e w10 ⟨v10, rfl, hown, hbw⟩
            have e10 : x2 * Cv.turn z2 254 % Cv.P % Cv.P = Cv.share l lp := by rw [Int.emod_emod]; exact HSH.out
            rw [show ([x2, z2, Cv.turn z2 254, x2 * Cv.turn z2 254 % Cv.P].getD 3 0) = x2 * Cv.turn z2 254 % Cv.P from rfl, e10] at hown
            exact ⟨v10, rfl, v10, rfl, by rw [if_neg (by decide)]; exact hown.mono (by have := hb9.size; omega), hbw⟩
          · have h0 := hdep 4 (by decide) (by kernel_rfl)
            rw [if_neg (by decide)] at h0
            exact wpOp_run rfl rfl _ rfl ⟨_, rfl, by rw [if_neg (by decide)]; exact h0, Below.refl _ _⟩
        · intro w9 vs hb hK
          have h5 := hK 5 (by decide)
          rw [if_neg (by decide)] at h5
          rw [show List.range 6 = [0, 1, 2, 3, 4, 5] from rfl]
          simp only [puts, List.foldl_cons, List.foldl_nil]
          go_wp2_with fail
          go_ret
          exact ⟨_, rfl, h5, HBW.out.trans (hb.mono hbase)⟩
end Go.Proofs.Ythoganfinpfibaa
