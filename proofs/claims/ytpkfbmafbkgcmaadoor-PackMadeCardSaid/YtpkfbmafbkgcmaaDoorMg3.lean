/-
  Texts put together: ShaMac, ShaDraw, Keys, MootK, Ord.
-/
import Derived.Test.YtpkfbmafbkgcmaaDoorMg2
import Derived.Lib.SlBytesConst
set_option linter.unusedVariables false
set_option linter.unusedSimpArgs false
namespace Go.Proofs.YtpkfbmafbkgcmaaDoor
open Go.RowKit Go.Con

theorem Own.ne {w : World} {base : Nat} {v : Value} {l : List UInt8} (h : Own w base v l) {k : Nat} (hk : k < base) : v.ownBlock ≠ some k := fun e => by have := (h.lt k e).1; omega

set_option maxRecDepth 100000 in
set_option maxHeartbeats 1000000 in
theorem mac_any (kv v : Value) (k l : List UInt8) (w : World) (hkv : Rd w kv k) (hv : Rd w v l) (hkl : k.length ≤ 1099511627776) (hl : l.length ≤ 1099511627000) (hk : Kn w) :
    Calls Tryd.prog 20 #[kv, v] w (FreshB w (Sha.mac k l)) := by
  have HKV := Lib.hid hkv
  have HV := Lib.hid hv
  have HK := Lib.hid hk
  clear hkv hv hk
  have hp : ∀ x, (Sha.padKey k x).length = 64 := Sha.padKey_length k
  have HP := Lib.hid hp
  clear hp
  go_enter Tryd.func20, Tryd.ntmps20
  go_wp2_with fail
  refine (pad_any _ k 92 _ HKV.out hkl HK.out).mono ?_
  rintro e w1 ⟨v1, rfl, ho1, hb1⟩
  have HO1 := Lib.hid ho1
  have HB1 := Lib.hid hb1
  clear ho1 hb1
  go_wp2_with fail
  refine (pad_any _ k 54 _ (HKV.out.stay HB1.out) hkl (HK.out.stay HB1.out)).mono ?_
  rintro e w2 ⟨v2, rfl, ho2, hb2⟩
  have HO2 := Lib.hid ho2
  have HB2 := Lib.hid hb2
  clear ho2 hb2
  have h12 := HB1.out.size
  have h23 := HB2.out.size
  have HB02 := Lib.hid (HB1.out.trans (HB2.out.mono h12))
  have hv2 := Lib.hid (HV.out.stay HB02.out)
  have ho12 := Lib.hid (HO1.out.below HB2.out (fun k hk => (HO1.out.lt k hk).2))
  go_wp2_with (first
    | (go_at_call 34; fail)
    | (at_builtin; refine apB rfl (.tmp 8) (.tmp 9) rfl w1.heap.size v2 _ (Sha.padKey k 54) l rfl HO2.out rfl hv2.out (by rw [HP.out]; omega) h23 ?_; intro v3 w3 ho3 hg3; have HO3 := Lib.hid ho3; have HG3 := Lib.hid hg3; clear ho3 hg3))
  have HB3 := Lib.hid (HB02.out.grown HG3.out (by omega) (fun k hk => by have := (HO2.out.lt k hk).1; omega))
  refine (sum_any _ _ _ HO3.out.rd (by rw [List.length_append, HP.out]; omega) (HK.out.stay HB3.out)).mono ?_
  rintro e w4 ⟨v4, rfl, ho4, hb4⟩
  have HO4 := Lib.hid ho4
  have HB4 := Lib.hid hb4
  clear ho4 hb4
  have h34 := HB4.out.size
  have h23' := HG3.out.size
  have ho13 := Lib.hid (ho12.out.kept HG3.out (fun k hk hk' => by have := (HO2.out.lt k hk).1; have := (HO1.out.lt k hk').2; omega))
  have ho14 := Lib.hid (ho13.out.below HB4.out (fun k hk => by have := (HO1.out.lt k hk).2; omega))
  go_wp2_with (first
    | (go_at_call 34; fail)
    | (at_builtin; refine apB rfl (.tmp 6) (.tmp 11) rfl w.heap.size v1 v4 (Sha.padKey k 92) _ rfl ho14.out rfl HO4.out.rd (by rw [HP.out, Sha.sum_length]; omega) (by omega) ?_; intro v5 w5 ho5 hg5; have HO5 := Lib.hid ho5; have HG5 := Lib.hid hg5; clear ho5 hg5))
  have HB5 := Lib.hid ((HB3.out.trans (HB4.out.mono (by omega))).grown HG5.out (by omega) (fun k hk => (ho14.out.lt k hk).1))
  refine (sum_any _ _ _ HO5.out.rd (by rw [List.length_append, HP.out, Sha.sum_length]; omega) (HK.out.stay HB5.out)).mono ?_
  rintro e w6 ⟨v6, rfl, ho6, hb6⟩
  have HO6 := Lib.hid ho6
  have HB6 := Lib.hid hb6
  clear ho6 hb6
  have h56 := HG5.out.size
  go_wp2
  go_ret
  exact ⟨_, rfl, HO6.out.mono (by omega), HB5.out.trans (HB6.out.mono (by omega))⟩

set_option maxHeartbeats 400000 in
theorem Mac_ok (kv v : Value) (k l : List UInt8) (w : World) (hkv : Rd w kv k) (hv : Rd w v l) (hkl : k.length ≤ 256) (hl : l.length ≤ 2000) (hk : Kn w) :
    Calls Tryd.prog 37 #[kv, v] w (FreshBE w (Sha.mac k l) 0) := by
  obtain ⟨a, c, rfl, hlc, hcm⟩ := hv.slice
  obtain ⟨ka, kc, rfl, hklc, hkcm⟩ := hkv.slice
  have HKV := Lib.hid hkv
  have HV := Lib.hid hv
  have HK := Lib.hid hk
  clear hkv hv hk
  go_enter Tryd.func37, Tryd.ntmps37
  go_wp2_with (go_at_call 20; refine (mac_any _ _ k l _ HKV.out HV.out (by omega) (by omega) HK.out).mono ?_; rintro e w1 ⟨v1, rfl, ho1, hb1⟩; have HO1 := Lib.hid ho1; have HB1 := Lib.hid hb1; clear ho1 hb1)
  go_ret2
  exact ⟨_, rfl, HO1.out, HB1.out⟩

end Go.Proofs.YtpkfbmafbkgcmaaDoor

set_option linter.unusedVariables false
set_option linter.unusedSimpArgs false
namespace Go.Proofs.YtpkfbmafbkgcmaaDoor
open Go.RowKit Go.Con

theorem ownBlock_slice (a : Option Addr) (n c n' c' : Nat) : (Value.slice a n c).ownBlock = (Value.slice a n' c').ownBlock := by cases a <;> rfl
theorem Rd.recap {w : World} {a : Option Addr} {n c : Nat} {l : List UInt8} (h : Rd w (.slice a n c) l) : Rd w (.slice a n n) l := by
  obtain ⟨a', c', he, hlc, hcm, h0, hcell⟩ := h
  injection he with e1 e2 e3
  subst e1 e2 e3
  exact ⟨a, _, rfl, Nat.le_refl _, by omega, fun h => by have := h0 h; omega, hcell⟩
/-- A call that gives fresh bytes to read and a number, and turns nothing that was there. -/
def FreshRE (w : World) (R : List UInt8) (c : Int) (e : Ending) (w' : World) : Prop :=
  ∃ v', e = .returned (.tuple #[v', .int .i64 c]) ∧ Rd w' v' R ∧ (∀ k, v'.ownBlock = some k → w.heap.size ≤ k) ∧ Below w.heap.size w w'

set_option maxHeartbeats 400000 in
theorem Draw_long (sv av iv : Value) (s a i : List UInt8) (n : Int) (w : World) (hs : Rd w sv s) (ha : Rd w av a) (hi : Rd w iv i) (hsl : s.length ≤ 256) (hal : a.length ≤ 256) (hil : i.length ≤ 256) (hn : 512 < n) :
    Calls Tryd.prog 10 #[sv, av, iv, .int .i64 n] w (FreshRE w [] 1) := by
  obtain ⟨p1, c1, rfl, _, _⟩ := hs.slice
  obtain ⟨p2, c2, rfl, _, _⟩ := ha.slice
  obtain ⟨p3, c3, rfl, _, _⟩ := hi.slice
  clear hs ha hi
  have hn0 : ¬ n < 0 := by omega
  go_enter Tryd.func10, Tryd.ntmps10
  go_wp2
  go_ret2
  exact ⟨_, rfl, Rd.nil _, (fun k hk => by simp [Value.ownBlock] at hk), Below.refl _ _⟩

set_option maxRecDepth 100000 in
set_option maxHeartbeats 1000000 in
theorem Draw_ok (sv av iv : Value) (s a i : List UInt8) (n : Nat) (w : World) (hs : Rd w sv s) (ha : Rd w av a) (hi : Rd w iv i) (hsl : s.length ≤ 256) (hal : a.length ≤ 256) (hil : i.length ≤ 256) (hn : n ≤ 512) (hk : Kn w) :
    Calls Tryd.prog 10 #[sv, av, iv, .int .i64 n] w (FreshRE w (Sha.draw s a i n) 0) := by
  obtain ⟨p1, c1, rfl, _, _⟩ := hs.slice
  obtain ⟨p2, c2, rfl, _, _⟩ := ha.slice
  obtain ⟨p3, c3, rfl, _, _⟩ := hi.slice
  have HS := Lib.hid hs
  have HA := Lib.hid ha
  have HI := Lib.hid hi
  have HK := Lib.hid hk
  clear hs ha hi hk
  have hn0 : ¬ (n : Int) < 0 := by omega
  have d1 : decide ((256 : Int) < (s.length : Int)) = false := by simp; omega
  have d2 : decide ((256 : Int) < (a.length : Int)) = false := by simp; omega
  have d3 : decide ((256 : Int) < (i.length : Int)) = false := by simp; omega
  have d4 : decide ((512 : Int) < (n : Int)) = false := by simp; omega
  go_enter Tryd.func10, Tryd.ntmps10
  go_wp2_with (go_at_call 20; refine (mac_any _ _ a s _ HA.out HS.out (by omega) (by omega) HK.out).mono ?_; rintro e w1 ⟨v1, rfl, ho1, hb1⟩; have HO1 := Lib.hid ho1; have HB1 := Lib.hid hb1; clear ho1 hb1)
  obtain ⟨K, hK⟩ : ∃ K, K = Sha.mac a s := ⟨_, rfl⟩
  rw [← hK] at HO1
  have hKl : K.length = 32 := by rw [hK]; rfl
  have HKeq := Lib.hid hK
  have HKl := Lib.hid hKl
  clear hK hKl
  have h01 := HB1.out.size
  go_loopw [11, 12, 13] (fun ov lv iv wr => ∃ j : Nat, ∃ q : Int, ∃ a c m, ov = .slice a m c ∧ Hid (m = 32 * j) ∧ m ≤ 1024 ∧ iv = .int .i64 q ∧ Hid (q = j + 1) ∧ 1 ≤ q ∧ q ≤ 40 ∧ Hid (32 * j < n + 32) ∧
      Own wr w1.heap.size ov (Sha.pieces K i j) ∧ Own wr w1.heap.size lv (Sha.piece K i j) ∧ (∀ k, ov.ownBlock = some k → lv.ownBlock ≠ some k) ∧ Below w1.heap.size w1 wr)
    (fun ov _ _ _ => 1024 - lenV ov)
  case atStart => exact ⟨0, 1, none, 0, 0, rfl, rfl, by omega, rfl, rfl, by omega, by omega, (by show _ < _; omega), Own.nil _ _, Own.nil _ _, (fun k hk => by simp [Value.ownBlock] at hk), Below.refl _ _⟩
  case round =>
    obtain ⟨j, q, ao, co, m, rfl, Hm, hm, rfl, Hq, hq1, hq2, Hj, hoo, hol, hne, hbr⟩ := hrel
    have HOO := Lib.hid hoo
    have HOL := Lib.hid hol
    have HNE := Lib.hid hne
    have HBR := Lib.hid hbr
    clear hoo hol hne hbr
    by_cases hlt : m < n
    · have hx : q = ((UInt8.ofNat (j + 1)).toNat : Int) := by
        rw [UInt8.toNat_ofNat']; have := Hq.out; omega
      have HX := Lib.hid hx
      clear hx
      have h1r := HBR.out.size
      have hpl : (Sha.piece K i j).length ≤ 32 := by cases j with
        | zero => simp [Sha.piece]
        | succ j => rw [Sha.piece_length]; omega
      have HB0r := Lib.hid (HB1.out.trans (HBR.out.mono h01))
      go_wp2_with (first
        | (go_at_call 20; fail)
        | (at_builtin; refine apBw rfl (.tmp 45) (.tmp 46) rfl w1.heap.size _ _ _ i rfl HOL.out rfl (HI.out.stay HB0r.out) (by omega) h1r ?_; intro v2 w2 ho2 hg2 hw2; have HO2 := Lib.hid ho2; have HG2 := Lib.hid hg2; have HW2 := Lib.hid hw2; clear ho2 hg2 hw2)
        | (at_builtin; refine apB rfl (.tmp 47) (.tmp 50) rfl w1.heap.size v2 _ _ [UInt8.ofNat (j + 1)] rfl (HO2.out.alloc _) rfl (newB _ _ _ HX.out) (by simp; omega) (by have := HG2.out.size; simp; omega) ?_; intro v3 w3 ho3 hg3; have HO3 := Lib.hid ho3; have HG3 := Lib.hid hg3; clear ho3 hg3))
      have s12 := HG2.out.size
      have s23 : w2.heap.size + 1 ≤ w3.heap.size := by have := HG3.out.size; simpa using this
      have l2 := fun k hk => (HOL.out.lt k hk)
      have l3 := fun k hk => (HO2.out.lt k hk)
      have hw23 : Below w1.heap.size wr w3 := (((Below.refl _ _).grown HG2.out h1r (fun k hk => (l2 k hk).1)).alloc (by omega) _).grown HG3.out (by simp; omega) (fun k hk => (l3 k hk).1)
      have hB03 := Lib.hid (HB0r.out.trans (hw23.mono h01))
      have hoo3 : Own w3 w1.heap.size (.slice ao m co) (Sha.pieces K i j) := by
        have e1 := HOO.out.kept HG2.out (fun k hk hk' => HNE.out k hk' hk)
        refine (e1.alloc _).kept HG3.out (fun k hk hk' => ?_)
        rcases HW2.out with e | e
        · exact HNE.out k hk' (e ▸ hk)
        · rw [e] at hk
          have := (HOO.out.lt k hk').2
          injection hk with hk
          omega
      have HOO3 := Lib.hid hoo3
      have HK1 := Lib.hid ((HO1.out.below (HBR.out) (fun k hk => (HO1.out.lt k hk).2)).below hw23 (fun k hk => (HO1.out.lt k hk).2))
      have HW23 := Lib.hid hw23
      clear hoo3 hw23 l2 l3
      refine (mac_any _ _ K (Sha.piece K i j ++ i ++ [UInt8.ofNat (j + 1)]) _ HK1.out.rd HO3.out.rd (by rw [HKl.out]; omega) (by simp; omega) (HK.out.stay hB03.out)).mono ?_
      rintro e w4 ⟨v4, rfl, ho4, hb4⟩
      have HO4 := Lib.hid ho4
      have HB4 := Lib.hid hb4
      clear ho4 hb4
      have s34 := HB4.out.size
      have HOO4 := Lib.hid (HOO3.out.below HB4.out (fun k hk => (HOO3.out.lt k hk).2))
      have hlen4 : (Sha.pieces K i j).length + (Sha.mac K (Sha.piece K i j ++ i ++ [UInt8.ofNat (j + 1)])).length ≤ 140737488355328 := by rw [Sha.pieces_length, Sha.mac_length]; have := Hm.out; omega
      go_wp2_with (at_builtin; refine apBw rfl (.tmp 53) (.tmp 54) rfl w1.heap.size _ v4 _ _ rfl HOO4.out rfl HO4.out.rd hlen4 (by omega) ?_; intro v5 w5 ho5 hg5 hw5; have HO5 := Lib.hid ho5; have HG5 := Lib.hid hg5; have HW5 := Lib.hid hw5; clear ho5 hg5 hw5)
      have hp5 : Sha.pieces K i j ++ Sha.mac K (Sha.piece K i j ++ i ++ [UInt8.ofNat (j + 1)]) = Sha.pieces K i (j + 1) := rfl
      obtain ⟨g5, cap5, rfl, hg5, hg5', hc5, hcm5⟩ := HO5.out.shape (by rw [hp5]; intro h; have := congrArg List.length h; rw [Sha.pieces_length] at this; simp at this)
      have hl5 : (Sha.pieces K i j ++ Sha.mac K (Sha.piece K i j ++ i ++ [UInt8.ofNat (j + 1)])).length = 32 * j + 32 := by rw [hp5, Sha.pieces_length]; omega
      rw [hl5] at hc5 ⊢
      have HL5 := Lib.hid hl5
      clear hl5 hp5 hlen4
      go_roundw
      case rel =>
        refine ⟨j + 1, q + 1, _, _, _, rfl, ?_, ?_, rfl, ?_, by omega, ?_, ?_, ?_, ?_, ?_, ?_⟩
        · show _ = _; omega
        · have := Hj.out; omega
        · show _ = _; have := Hq.out; omega
        · have := Hj.out; have := Hq.out; omega
        · show _ < _; have := Hm.out; omega
        · have := HO5.out; rw [HL5.out] at this; exact this
        · refine Own.mono (HO4.out.kept HG5.out (fun k hk hk' => ?_)) (by omega)
          have := (HO4.out.lt k hk').1
          have := (HOO3.out.lt k hk).2
          omega
        · intro k hk hk'
          have a1 := HO4.out.lt k hk'
          have a2 := HW5.out
          rw [HL5.out] at a2
          rcases a2 with e | e
          · have := (HOO3.out.lt k (show _ from e.symm.trans hk)).2
            omega
          · rw [e] at hk
            injection hk with hk
            omega
        · exact (HBR.out.trans (HW23.out.trans (HB4.out.mono (by omega)))).grown HG5.out (by omega) (fun k hk => (HOO4.out.lt k hk).1)
      case measure => simp [lenV]; have := Hm.out; omega
    · have hmn : n ≤ m := by omega
      have hmc : m ≤ co := by obtain ⟨_, _, he, hle, _⟩ := HOO.out.rd; injection he with e1 e2 e3; omega
      have hrd := HOO.out.rd.pre n (by rw [Sha.pieces_length]; have := Hm.out; omega)
      have HRD := Lib.hid hrd
      have hnc : (n : Int) ≤ (co : Int) := by omega
      clear hrd
      go_wp2
      all_goals go_ret2
      all_goals
        refine ⟨_, rfl, ?_, ?_, ?_⟩
        · have hj : j = Sha.need n := by unfold Sha.need; have := Hj.out; have := Hm.out; omega
          have h := HRD.out.recap
          rw [hj, HKeq.out] at h
          exact h
        · intro k hk
          have := (HOO.out.lt k ((ownBlock_slice ao m co n n).trans hk)).1
          omega
        · exact HB1.out.trans (HBR.out.mono h01)
end Go.Proofs.YtpkfbmafbkgcmaaDoor

set_option linter.unusedVariables false
set_option linter.unusedSimpArgs false
namespace Go.Con
/-- the key of a client -/
def keyC (b : UInt8) : List UInt8 := Sha.draw [b] [99, 108, 105, 101, 110, 116] [] 32
/-- the key of the issuer -/
def keyI : List UInt8 := Sha.draw [255] [105, 115, 115, 117, 101, 114] [] 32
theorem keyC_length (b : UInt8) : (keyC b).length = 32 := Sha.draw_length _ _ _ _
theorem keyI_length : keyI.length = 32 := Sha.draw_length _ _ _ _
/-- the first byte of each key -/
def headK (b : UInt8) : Option UInt8 := (keyC b)[0]?
theorem headK_0 : headK 0 = some 164 := by decide +kernel
theorem headK_1 : headK 1 = some 62 := by decide +kernel
theorem headK_2 : headK 2 = some 98 := by decide +kernel
theorem headK_3 : headK 3 = some 60 := by decide +kernel
theorem headK_4 : headK 4 = some 104 := by decide +kernel
theorem headK_5 : headK 5 = some 194 := by decide +kernel
theorem headK_6 : headK 6 = some 6 := by decide +kernel
theorem headK_7 : headK 7 = some 18 := by decide +kernel
theorem headI : keyI[0]? = some 184 := by decide +kernel
theorem small8 (b : UInt8) (hb : b.toNat ≤ 7) : b = 0 ∨ b = 1 ∨ b = 2 ∨ b = 3 ∨ b = 4 ∨ b = 5 ∨ b = 6 ∨ b = 7 := by
  have h : b.toNat = 0 ∨ b.toNat = 1 ∨ b.toNat = 2 ∨ b.toNat = 3 ∨ b.toNat = 4 ∨ b.toNat = 5 ∨ b.toNat = 6 ∨ b.toNat = 7 := by omega
  rcases h with h | h | h | h | h | h | h | h
  · exact .inl (UInt8.toNat_inj.1 h)
  · exact .inr (.inl (UInt8.toNat_inj.1 h))
  · exact .inr (.inr (.inl (UInt8.toNat_inj.1 h)))
  · exact .inr (.inr (.inr (.inl (UInt8.toNat_inj.1 h))))
  · exact .inr (.inr (.inr (.inr (.inl (UInt8.toNat_inj.1 h)))))
  · exact .inr (.inr (.inr (.inr (.inr (.inl (UInt8.toNat_inj.1 h))))))
  · exact .inr (.inr (.inr (.inr (.inr (.inr (.inl (UInt8.toNat_inj.1 h)))))))
  · exact .inr (.inr (.inr (.inr (.inr (.inr (.inr (UInt8.toNat_inj.1 h)))))))
def headT (b : UInt8) : Option UInt8 := some (([164, 62, 98, 60, 104, 194, 6, 18] : List UInt8).getD b.toNat 0)
theorem headK_eq (b : UInt8) (hb : b.toNat ≤ 7) : headK b = headT b := by
  rcases small8 b hb with rfl | rfl | rfl | rfl | rfl | rfl | rfl | rfl
  · rw [headK_0]; rfl
  · rw [headK_1]; rfl
  · rw [headK_2]; rfl
  · rw [headK_3]; rfl
  · rw [headK_4]; rfl
  · rw [headK_5]; rfl
  · rw [headK_6]; rfl
  · rw [headK_7]; rfl
theorem headT_inj : ∀ i, i < 8 → ∀ j, j < 8 → headT (UInt8.ofNat i) = headT (UInt8.ofNat j) → i = j := by decide
theorem headT_ne : ∀ i, i < 8 → headT (UInt8.ofNat i) ≠ some 184 := by decide
theorem keyC_inj (b c : UInt8) (hb : b.toNat ≤ 7) (hc : c.toNat ≤ 7) (h : keyC b = keyC c) : b = c := by
  have h1 : headT b = headT c := by rw [← headK_eq b hb, ← headK_eq c hc, headK, headK, h]
  exact UInt8.toNat_inj.1 (headT_inj b.toNat (by omega) c.toNat (by omega) (by simpa using h1))
theorem keyI_ne (b : UInt8) (hb : b.toNat ≤ 7) : keyC b ≠ keyI := by
  intro h
  have h1 : headT b = some 184 := by rw [← headK_eq b hb, headK, h, headI]
  exact headT_ne b.toNat (by omega) (by simpa using h1)
end Go.Con

set_option linter.unusedVariables false
set_option linter.unusedSimpArgs false
namespace Go.Proofs.YtpkfbmafbkgcmaaDoor
open Go.RowKit Go.Con

theorem kconst1 (w : World) (A : Obj) (C : Array Value) (n c : Nat) :
    (convert 31 31 (.slice (some ⟨w.heap.size + 1, 0, none⟩) n c)).run Tryd.prog ((w.alloc A).alloc (.cells C 5)) = .ok (.slice (some ⟨w.heap.size + 1, 0, none⟩) n c) ((w.alloc A).alloc (.cells C 5 (C.size, C.size + 1))) := by
  have h := Lib.run_convert_bytes_const (P := Tryd.prog) (w.alloc A) 31 5 C n c Tryd.underlying31 Tryd.underlying5
  have e : (w.alloc A).heap.size = w.heap.size + 1 := by simp
  rw [e] at h
  exact h

set_option maxHeartbeats 1000000 in
theorem Key_ok (b : UInt8) (w : World) (hb : b.toNat ≤ 7) (hk : Kn w) :
    Calls Tryd.prog 11 #[.int .i64 b.toNat] w (FreshRE w (keyC b) 0) := by
  have HK := Lib.hid hk
  have hbb := b.toNat_lt
  have kc := fun (w : World) (A : Obj) (C : Array Value) (n c : Nat) => kconst1 w A C n c
  clear hk
  go_enter Tryd.func11, Tryd.ntmps11
  go_wp2_with fail
  have b1 : Below w.heap.size w ((w.alloc (.cells #[.int .u8 b.toNat] 5)).alloc (.cells ([99, 108, 105, 101, 110, 116].map u8v).toArray 5 (6, 7))) := ((Below.refl _ _).alloc (Nat.le_refl _) _).alloc (by simp) _
  have hr1 : Rd ((w.alloc (.cells #[.int .u8 b.toNat] 5)).alloc (.cells ([99, 108, 105, 101, 110, 116].map u8v).toArray 5 (6, 7))) (.slice (some ⟨w.heap.size, 0, none⟩) 1 1) [b] := (newB w _ b rfl).alloc _
  have hr2 : Rd ((w.alloc (.cells #[.int .u8 b.toNat] 5)).alloc (.cells ([99, 108, 105, 101, 110, 116].map u8v).toArray 5 (6, 7))) (.slice (some ⟨w.heap.size + 1, 0, none⟩) 6 6) [99, 108, 105, 101, 110, 116] := by
    have h := Rd.newMark (w.alloc (.cells #[.int .u8 b.toNat] 5)) [99, 108, 105, 101, 110, 116] 6 (6, 7) rfl (by decide)
    have e : (w.alloc (.cells #[.int .u8 b.toNat] 5)).heap.size = w.heap.size + 1 := by simp
    rw [e] at h
    exact h
  refine (Draw_ok _ _ _ [b] [99, 108, 105, 101, 110, 116] [] 32 _ hr1 hr2 (Rd.nil _) (by simp) (by simp) (by simp) (by decide) (HK.out.stay b1)).mono ?_
  rintro e w2 ⟨v2, rfl, hv2, hf2, hb2⟩
  have HV2 := Lib.hid hv2
  have HF2 := Lib.hid hf2
  have HB2 := Lib.hid (b1.trans (hb2.mono (by simp; omega)))
  clear hv2 hf2 hb2 b1 hr1 hr2
  go_wp2
  go_ret2
  exact ⟨_, rfl, HV2.out, fun k hk => Nat.le_trans (by simp; omega) (HF2.out k hk), HB2.out⟩

set_option maxHeartbeats 1000000 in
theorem Key_bad (n : Int) (w : World) (hn : n < 0 ∨ 7 < n) :
    Calls Tryd.prog 11 #[.int .i64 n] w fun e w' => e = .returned (.tuple #[.slice none 0 0, .int .i64 2]) ∧ w = w' := by
  by_cases h0 : n < 0
  · go_enter Tryd.func11, Tryd.ntmps11
    go_wp2
    go_ret2
    exact ⟨rfl, rfl⟩
  · have h1 : 7 < n := by omega
    have h2 : 0 ≤ n := by omega
    go_enter Tryd.func11, Tryd.ntmps11
    go_wp2
    go_ret2
    exact ⟨rfl, rfl⟩

set_option maxHeartbeats 1000000 in
theorem Issuer_any (w : World) (hk : Kn w) :
    Calls Tryd.prog 13 #[] w fun e w' => ∃ v', e = .returned v' ∧ Rd w' v' keyI ∧ (∀ k, v'.ownBlock = some k → w.heap.size ≤ k) ∧ Below w.heap.size w w' := by
  have HK := Lib.hid hk
  have kc := fun (w : World) (A : Obj) (C : Array Value) (n c : Nat) => kconst1 w A C n c
  clear hk
  go_enter Tryd.func13, Tryd.ntmps13
  go_wp2_with fail
  have b1 : Below w.heap.size w ((w.alloc (.cells #[.int .u8 255] 5)).alloc (.cells ([105, 115, 115, 117, 101, 114].map u8v).toArray 5 (6, 7))) := ((Below.refl _ _).alloc (Nat.le_refl _) _).alloc (by simp) _
  have hr1 : Rd ((w.alloc (.cells #[.int .u8 255] 5)).alloc (.cells ([105, 115, 115, 117, 101, 114].map u8v).toArray 5 (6, 7))) (.slice (some ⟨w.heap.size, 0, none⟩) 1 1) [255] := (newB w _ 255 rfl).alloc _
  have hr2 : Rd ((w.alloc (.cells #[.int .u8 255] 5)).alloc (.cells ([105, 115, 115, 117, 101, 114].map u8v).toArray 5 (6, 7))) (.slice (some ⟨w.heap.size + 1, 0, none⟩) 6 6) [105, 115, 115, 117, 101, 114] := by
    have h := Rd.newMark (w.alloc (.cells #[.int .u8 255] 5)) [105, 115, 115, 117, 101, 114] 6 (6, 7) rfl (by decide)
    have e : (w.alloc (.cells #[.int .u8 255] 5)).heap.size = w.heap.size + 1 := by simp
    rw [e] at h
    exact h
  refine (Draw_ok _ _ _ [255] [105, 115, 115, 117, 101, 114] [] 32 _ hr1 hr2 (Rd.nil _) (by simp) (by simp) (by simp) (by decide) (HK.out.stay b1)).mono ?_
  rintro e w2 ⟨v2, rfl, hv2, hf2, hb2⟩
  have HV2 := Lib.hid hv2
  have HF2 := Lib.hid hf2
  have HB2 := Lib.hid (b1.trans (hb2.mono (by simp; omega)))
  clear hv2 hf2 hb2 b1 hr1 hr2
  go_wp2
  go_ret
  exact ⟨_, rfl, HV2.out, fun k hk => Nat.le_trans (by simp; omega) (HF2.out k hk), HB2.out⟩
end Go.Proofs.YtpkfbmafbkgcmaaDoor

set_option linter.unusedVariables false
set_option linter.unusedSimpArgs false
namespace Go.Con
/-- five numbers: a command; and what a wish is made of -/
structure Cmd where
  kind : Int
  client : Int
  seq : Int
  name : Int
  value : Int
  deriving DecidableEq
def Cmd.zero : Cmd := ⟨0, 0, 0, 0, 0⟩
def cmdV (c : Cmd) : Value := .agg #[.int .i64 c.kind, .int .i64 c.client, .int .i64 c.seq, .int .i64 c.name, .int .i64 c.value]
def inRange (c : Cmd) : Bool := decide (0 ≤ c.client ∧ c.client ≤ 7 ∧ 0 ≤ c.seq ∧ c.seq ≤ 1048576 ∧ 0 ≤ c.name ∧ c.name ≤ 7 ∧ 0 ≤ c.value ∧ c.value ≤ 1073741824)
/-- what is wrong with a command; 0: nothing -/
def checkC (c : Cmd) : Int :=
  if c.kind = 0 then (if c = Cmd.zero then 0 else 3)
  else if 1 ≤ c.kind ∧ c.kind ≤ 3 then (if inRange c = false then 2 else if c.kind ≠ 1 ∧ c.value ≠ 0 then 3 else 0)
  else 4
end Go.Con
namespace Go.Proofs.YtpkfbmafbkgcmaaDoor
open Go.RowKit Go.Con

set_option maxHeartbeats 400000 in
theorem within_true (n lo hi : Int) (w : World) (h1 : lo ≤ n) (h2 : n ≤ hi) :
    Calls Tryd.prog 36 #[.int .i64 n, .int .i64 lo, .int .i64 hi] w fun e w' => e = .returned (.bool true) ∧ w = w' := by
  go_enter Tryd.func36, Tryd.ntmps36
  go_wp2
  go_ret
  exact ⟨rfl, rfl⟩
set_option maxHeartbeats 400000 in
theorem within_false (n lo hi : Int) (w : World) (h : n < lo ∨ hi < n) :
    Calls Tryd.prog 36 #[.int .i64 n, .int .i64 lo, .int .i64 hi] w fun e w' => e = .returned (.bool false) ∧ w = w' := by
  by_cases h1 : n < lo
  · go_enter Tryd.func36, Tryd.ntmps36
    go_wp2
    go_ret
    exact ⟨rfl, rfl⟩
  · have h2 : hi < n := by omega
    have h3 : lo ≤ n := by omega
    have hd : decide (n ≤ hi) = false := by simp; omega
    go_enter Tryd.func36, Tryd.ntmps36
    go_wp2
    go_ret
    exact ⟨rfl, rfl⟩
def withinB (n lo hi : Int) : Bool := decide (lo ≤ n ∧ n ≤ hi)
theorem within_any (n lo hi : Int) (w : World) :
    Calls Tryd.prog 36 #[.int .i64 n, .int .i64 lo, .int .i64 hi] w fun e w' => e = .returned (.bool (withinB n lo hi)) ∧ w = w' := by
  by_cases h : lo ≤ n ∧ n ≤ hi
  · exact (within_true n lo hi w h.1 h.2).mono fun e w' ⟨he, hw⟩ => ⟨by rw [he, withinB, decide_eq_true h], hw⟩
  · exact (within_false n lo hi w (by omega)).mono fun e w' ⟨he, hw⟩ => ⟨by rw [he, withinB, decide_eq_false h], hw⟩

set_option maxHeartbeats 400000 in
theorem check_k1a (cl sq nm vl : Int) (w : World) (h : cl < 0 ∨ 7 < cl) :
    Calls Tryd.prog 24 #[.agg #[.int .i64 1, .int .i64 cl, .int .i64 sq, .int .i64 nm, .int .i64 vl]] w fun e w' => e = .returned (.int .i64 2) ∧ Below w.heap.size w w' := by
  go_enter Tryd.func24, Tryd.ntmps24
  go_wp2_with (go_at_call 36; first | (refine (within_true _ _ _ _ (by omega) (by omega)).mono ?_; rintro e w' ⟨rfl, rfl⟩) | (refine (within_false _ _ _ _ (by omega)).mono ?_; rintro e w' ⟨rfl, rfl⟩))
  go_ret
  exact ⟨rfl, (Below.refl _ _).alloc (Nat.le_refl _) _⟩
set_option maxHeartbeats 400000 in
theorem check_k1b (cl sq nm vl : Int) (w : World) (hc1 : 0 ≤ cl) (hc2 : cl ≤ 7) (h : sq < 0 ∨ 1048576 < sq) :
    Calls Tryd.prog 24 #[.agg #[.int .i64 1, .int .i64 cl, .int .i64 sq, .int .i64 nm, .int .i64 vl]] w fun e w' => e = .returned (.int .i64 2) ∧ Below w.heap.size w w' := by
  go_enter Tryd.func24, Tryd.ntmps24
  go_wp2_with (go_at_call 36; first | (refine (within_true _ _ _ _ (by omega) (by omega)).mono ?_; rintro e w' ⟨rfl, rfl⟩) | (refine (within_false _ _ _ _ (by omega)).mono ?_; rintro e w' ⟨rfl, rfl⟩))
  go_ret
  exact ⟨rfl, (Below.refl _ _).alloc (Nat.le_refl _) _⟩
set_option maxHeartbeats 400000 in
theorem check_k1c (cl sq nm vl : Int) (w : World) (hc1 : 0 ≤ cl) (hc2 : cl ≤ 7) (hs1 : 0 ≤ sq) (hs2 : sq ≤ 1048576) (h : nm < 0 ∨ 7 < nm) :
    Calls Tryd.prog 24 #[.agg #[.int .i64 1, .int .i64 cl, .int .i64 sq, .int .i64 nm, .int .i64 vl]] w fun e w' => e = .returned (.int .i64 2) ∧ Below w.heap.size w w' := by
  go_enter Tryd.func24, Tryd.ntmps24
  go_wp2_with (go_at_call 36; first | (refine (within_true _ _ _ _ (by omega) (by omega)).mono ?_; rintro e w' ⟨rfl, rfl⟩) | (refine (within_false _ _ _ _ (by omega)).mono ?_; rintro e w' ⟨rfl, rfl⟩))
  go_ret
  exact ⟨rfl, (Below.refl _ _).alloc (Nat.le_refl _) _⟩
set_option maxHeartbeats 400000 in
theorem check_k1d (cl sq nm vl : Int) (w : World) (hc1 : 0 ≤ cl) (hc2 : cl ≤ 7) (hs1 : 0 ≤ sq) (hs2 : sq ≤ 1048576) (hn1 : 0 ≤ nm) (hn2 : nm ≤ 7) (h : vl < 0 ∨ 1073741824 < vl) :
    Calls Tryd.prog 24 #[.agg #[.int .i64 1, .int .i64 cl, .int .i64 sq, .int .i64 nm, .int .i64 vl]] w fun e w' => e = .returned (.int .i64 2) ∧ Below w.heap.size w w' := by
  go_enter Tryd.func24, Tryd.ntmps24
  go_wp2_with (go_at_call 36; first | (refine (within_true _ _ _ _ (by omega) (by omega)).mono ?_; rintro e w' ⟨rfl, rfl⟩) | (refine (within_false _ _ _ _ (by omega)).mono ?_; rintro e w' ⟨rfl, rfl⟩))
  go_ret
  exact ⟨rfl, (Below.refl _ _).alloc (Nat.le_refl _) _⟩
set_option maxHeartbeats 400000 in
theorem check_k1e (cl sq nm vl : Int) (w : World) (hc1 : 0 ≤ cl) (hc2 : cl ≤ 7) (hs1 : 0 ≤ sq) (hs2 : sq ≤ 1048576) (hn1 : 0 ≤ nm) (hn2 : nm ≤ 7) (hv1 : 0 ≤ vl) (hv2 : vl ≤ 1073741824) :
    Calls Tryd.prog 24 #[.agg #[.int .i64 1, .int .i64 cl, .int .i64 sq, .int .i64 nm, .int .i64 vl]] w fun e w' => e = .returned (.int .i64 0) ∧ Below w.heap.size w w' := by
  go_enter Tryd.func24, Tryd.ntmps24
  go_wp2_with (go_at_call 36; first | (refine (within_true _ _ _ _ (by omega) (by omega)).mono ?_; rintro e w' ⟨rfl, rfl⟩) | (refine (within_false _ _ _ _ (by omega)).mono ?_; rintro e w' ⟨rfl, rfl⟩))
  go_ret
  exact ⟨rfl, (Below.refl _ _).alloc (Nat.le_refl _) _⟩
set_option maxHeartbeats 400000 in
theorem check_k2a (cl sq nm vl : Int) (w : World) (h : cl < 0 ∨ 7 < cl) :
    Calls Tryd.prog 24 #[.agg #[.int .i64 2, .int .i64 cl, .int .i64 sq, .int .i64 nm, .int .i64 vl]] w fun e w' => e = .returned (.int .i64 2) ∧ Below w.heap.size w w' := by
  go_enter Tryd.func24, Tryd.ntmps24
  go_wp2_with (go_at_call 36; first | (refine (within_true _ _ _ _ (by omega) (by omega)).mono ?_; rintro e w' ⟨rfl, rfl⟩) | (refine (within_false _ _ _ _ (by omega)).mono ?_; rintro e w' ⟨rfl, rfl⟩))
  go_ret
  exact ⟨rfl, (Below.refl _ _).alloc (Nat.le_refl _) _⟩
set_option maxHeartbeats 400000 in
theorem check_k2b (cl sq nm vl : Int) (w : World) (hc1 : 0 ≤ cl) (hc2 : cl ≤ 7) (h : sq < 0 ∨ 1048576 < sq) :
    Calls Tryd.prog 24 #[.agg #[.int .i64 2, .int .i64 cl, .int .i64 sq, .int .i64 nm, .int .i64 vl]] w fun e w' => e = .returned (.int .i64 2) ∧ Below w.heap.size w w' := by
  go_enter Tryd.func24, Tryd.ntmps24
  go_wp2_with (go_at_call 36; first | (refine (within_true _ _ _ _ (by omega) (by omega)).mono ?_; rintro e w' ⟨rfl, rfl⟩) | (refine (within_false _ _ _ _ (by omega)).mono ?_; rintro e w' ⟨rfl, rfl⟩))
  go_ret
  exact ⟨rfl, (Below.refl _ _).alloc (Nat.le_refl _) _⟩
set_option maxHeartbeats 400000 in
theorem check_k2c (cl sq nm vl : Int) (w : World) (hc1 : 0 ≤ cl) (hc2 : cl ≤ 7) (hs1 : 0 ≤ sq) (hs2 : sq ≤ 1048576) (h : nm < 0 ∨ 7 < nm) :
    Calls Tryd.prog 24 #[.agg #[.int .i64 2, .int .i64 cl, .int .i64 sq, .int .i64 nm, .int .i64 vl]] w fun e w' => e = .returned (.int .i64 2) ∧ Below w.heap.size w w' := by
  go_enter Tryd.func24, Tryd.ntmps24
  go_wp2_with (go_at_call 36; first | (refine (within_true _ _ _ _ (by omega) (by omega)).mono ?_; rintro e w' ⟨rfl, rfl⟩) | (refine (within_false _ _ _ _ (by omega)).mono ?_; rintro e w' ⟨rfl, rfl⟩))
  go_ret
  exact ⟨rfl, (Below.refl _ _).alloc (Nat.le_refl _) _⟩
set_option maxHeartbeats 400000 in
theorem check_k2d (cl sq nm vl : Int) (w : World) (hc1 : 0 ≤ cl) (hc2 : cl ≤ 7) (hs1 : 0 ≤ sq) (hs2 : sq ≤ 1048576) (hn1 : 0 ≤ nm) (hn2 : nm ≤ 7) (h : vl < 0 ∨ 1073741824 < vl) :
    Calls Tryd.prog 24 #[.agg #[.int .i64 2, .int .i64 cl, .int .i64 sq, .int .i64 nm, .int .i64 vl]] w fun e w' => e = .returned (.int .i64 2) ∧ Below w.heap.size w w' := by
  go_enter Tryd.func24, Tryd.ntmps24
  go_wp2_with (go_at_call 36; first | (refine (within_true _ _ _ _ (by omega) (by omega)).mono ?_; rintro e w' ⟨rfl, rfl⟩) | (refine (within_false _ _ _ _ (by omega)).mono ?_; rintro e w' ⟨rfl, rfl⟩))
  go_ret
  exact ⟨rfl, (Below.refl _ _).alloc (Nat.le_refl _) _⟩
set_option maxHeartbeats 400000 in
theorem check_k2e (cl sq nm vl : Int) (w : World) (hc1 : 0 ≤ cl) (hc2 : cl ≤ 7) (hs1 : 0 ≤ sq) (hs2 : sq ≤ 1048576) (hn1 : 0 ≤ nm) (hn2 : nm ≤ 7) (hv1 : 0 ≤ vl) (hv2 : vl ≤ 1073741824) (hv : vl ≠ 0) :
    Calls Tryd.prog 24 #[.agg #[.int .i64 2, .int .i64 cl, .int .i64 sq, .int .i64 nm, .int .i64 vl]] w fun e w' => e = .returned (.int .i64 3) ∧ Below w.heap.size w w' := by
  have hvb : (vl != 0) = true := by simpa using hv
  clear hv
  go_enter Tryd.func24, Tryd.ntmps24
  go_wp2_with (go_at_call 36; first | (refine (within_true _ _ _ _ (by omega) (by omega)).mono ?_; rintro e w' ⟨rfl, rfl⟩) | (refine (within_false _ _ _ _ (by omega)).mono ?_; rintro e w' ⟨rfl, rfl⟩))
  go_ret
  exact ⟨rfl, (Below.refl _ _).alloc (Nat.le_refl _) _⟩
set_option maxHeartbeats 400000 in
theorem check_k2f (cl sq nm : Int) (w : World) (hc1 : 0 ≤ cl) (hc2 : cl ≤ 7) (hs1 : 0 ≤ sq) (hs2 : sq ≤ 1048576) (hn1 : 0 ≤ nm) (hn2 : nm ≤ 7) :
    Calls Tryd.prog 24 #[.agg #[.int .i64 2, .int .i64 cl, .int .i64 sq, .int .i64 nm, .int .i64 0]] w fun e w' => e = .returned (.int .i64 0) ∧ Below w.heap.size w w' := by
  go_enter Tryd.func24, Tryd.ntmps24
  go_wp2_with (go_at_call 36; first | (refine (within_true _ _ _ _ (by omega) (by omega)).mono ?_; rintro e w' ⟨rfl, rfl⟩) | (refine (within_false _ _ _ _ (by omega)).mono ?_; rintro e w' ⟨rfl, rfl⟩))
  go_ret
  exact ⟨rfl, (Below.refl _ _).alloc (Nat.le_refl _) _⟩
set_option maxHeartbeats 400000 in
theorem check_k3a (cl sq nm vl : Int) (w : World) (h : cl < 0 ∨ 7 < cl) :
    Calls Tryd.prog 24 #[.agg #[.int .i64 3, .int .i64 cl, .int .i64 sq, .int .i64 nm, .int .i64 vl]] w fun e w' => e = .returned (.int .i64 2) ∧ Below w.heap.size w w' := by
  go_enter Tryd.func24, Tryd.ntmps24
  go_wp2_with (go_at_call 36; first | (refine (within_true _ _ _ _ (by omega) (by omega)).mono ?_; rintro e w' ⟨rfl, rfl⟩) | (refine (within_false _ _ _ _ (by omega)).mono ?_; rintro e w' ⟨rfl, rfl⟩))
  go_ret
  exact ⟨rfl, (Below.refl _ _).alloc (Nat.le_refl _) _⟩
set_option maxHeartbeats 400000 in
theorem check_k3b (cl sq nm vl : Int) (w : World) (hc1 : 0 ≤ cl) (hc2 : cl ≤ 7) (h : sq < 0 ∨ 1048576 < sq) :
    Calls Tryd.prog 24 #[.agg #[.int .i64 3, .int .i64 cl, .int .i64 sq, .int .i64 nm, .int .i64 vl]] w fun e w' => e = .returned (.int .i64 2) ∧ Below w.heap.size w w' := by
  go_enter Tryd.func24, Tryd.ntmps24
  go_wp2_with (go_at_call 36; first | (refine (within_true _ _ _ _ (by omega) (by omega)).mono ?_; rintro e w' ⟨rfl, rfl⟩) | (refine (within_false _ _ _ _ (by omega)).mono ?_; rintro e w' ⟨rfl, rfl⟩))
  go_ret
  exact ⟨rfl, (Below.refl _ _).alloc (Nat.le_refl _) _⟩
set_option maxHeartbeats 400000 in
theorem check_k3c (cl sq nm vl : Int) (w : World) (hc1 : 0 ≤ cl) (hc2 : cl ≤ 7) (hs1 : 0 ≤ sq) (hs2 : sq ≤ 1048576) (h : nm < 0 ∨ 7 < nm) :
    Calls Tryd.prog 24 #[.agg #[.int .i64 3, .int .i64 cl, .int .i64 sq, .int .i64 nm, .int .i64 vl]] w fun e w' => e = .returned (.int .i64 2) ∧ Below w.heap.size w w' := by
  go_enter Tryd.func24, Tryd.ntmps24
  go_wp2_with (go_at_call 36; first | (refine (within_true _ _ _ _ (by omega) (by omega)).mono ?_; rintro e w' ⟨rfl, rfl⟩) | (refine (within_false _ _ _ _ (by omega)).mono ?_; rintro e w' ⟨rfl, rfl⟩))
  go_ret
  exact ⟨rfl, (Below.refl _ _).alloc (Nat.le_refl _) _⟩
set_option maxHeartbeats 400000 in
theorem check_k3d (cl sq nm vl : Int) (w : World) (hc1 : 0 ≤ cl) (hc2 : cl ≤ 7) (hs1 : 0 ≤ sq) (hs2 : sq ≤ 1048576) (hn1 : 0 ≤ nm) (hn2 : nm ≤ 7) (h : vl < 0 ∨ 1073741824 < vl) :
    Calls Tryd.prog 24 #[.agg #[.int .i64 3, .int .i64 cl, .int .i64 sq, .int .i64 nm, .int .i64 vl]] w fun e w' => e = .returned (.int .i64 2) ∧ Below w.heap.size w w' := by
  go_enter Tryd.func24, Tryd.ntmps24
  go_wp2_with (go_at_call 36; first | (refine (within_true _ _ _ _ (by omega) (by omega)).mono ?_; rintro e w' ⟨rfl, rfl⟩) | (refine (within_false _ _ _ _ (by omega)).mono ?_; rintro e w' ⟨rfl, rfl⟩))
  go_ret
  exact ⟨rfl, (Below.refl _ _).alloc (Nat.le_refl _) _⟩
set_option maxHeartbeats 400000 in
theorem check_k3e (cl sq nm vl : Int) (w : World) (hc1 : 0 ≤ cl) (hc2 : cl ≤ 7) (hs1 : 0 ≤ sq) (hs2 : sq ≤ 1048576) (hn1 : 0 ≤ nm) (hn2 : nm ≤ 7) (hv1 : 0 ≤ vl) (hv2 : vl ≤ 1073741824) (hv : vl ≠ 0) :
    Calls Tryd.prog 24 #[.agg #[.int .i64 3, .int .i64 cl, .int .i64 sq, .int .i64 nm, .int .i64 vl]] w fun e w' => e = .returned (.int .i64 3) ∧ Below w.heap.size w w' := by
  have hvb : (vl != 0) = true := by simpa using hv
  clear hv
  go_enter Tryd.func24, Tryd.ntmps24
  go_wp2_with (go_at_call 36; first | (refine (within_true _ _ _ _ (by omega) (by omega)).mono ?_; rintro e w' ⟨rfl, rfl⟩) | (refine (within_false _ _ _ _ (by omega)).mono ?_; rintro e w' ⟨rfl, rfl⟩))
  go_ret
  exact ⟨rfl, (Below.refl _ _).alloc (Nat.le_refl _) _⟩
set_option maxHeartbeats 400000 in
theorem check_k3f (cl sq nm : Int) (w : World) (hc1 : 0 ≤ cl) (hc2 : cl ≤ 7) (hs1 : 0 ≤ sq) (hs2 : sq ≤ 1048576) (hn1 : 0 ≤ nm) (hn2 : nm ≤ 7) :
    Calls Tryd.prog 24 #[.agg #[.int .i64 3, .int .i64 cl, .int .i64 sq, .int .i64 nm, .int .i64 0]] w fun e w' => e = .returned (.int .i64 0) ∧ Below w.heap.size w w' := by
  go_enter Tryd.func24, Tryd.ntmps24
  go_wp2_with (go_at_call 36; first | (refine (within_true _ _ _ _ (by omega) (by omega)).mono ?_; rintro e w' ⟨rfl, rfl⟩) | (refine (within_false _ _ _ _ (by omega)).mono ?_; rintro e w' ⟨rfl, rfl⟩))
  go_ret
  exact ⟨rfl, (Below.refl _ _).alloc (Nat.le_refl _) _⟩

set_option maxHeartbeats 1000000 in
theorem Check_any (c : Cmd) (w : World) :
    Calls Tryd.prog 24 #[cmdV c] w fun e w' => e = .returned (.int .i64 (checkC c)) ∧ Below w.heap.size w w' := by
  obtain ⟨k, cl, sq, nm, vl⟩ := c
  show Calls Tryd.prog 24 #[.agg #[.int .i64 k, .int .i64 cl, .int .i64 sq, .int .i64 nm, .int .i64 vl]] w _
  by_cases h0 : k = 0
  · subst h0
    by_cases hz : (⟨0, cl, sq, nm, vl⟩ : Cmd) = Cmd.zero
    · have hc : checkC ⟨0, cl, sq, nm, vl⟩ = 0 := by rw [checkC, if_pos rfl, if_pos hz]
      rw [hc]
      injection hz with a1 a2 a3 a4 a5
      subst a2 a3 a4 a5
      clear hc
      go_enter Tryd.func24, Tryd.ntmps24
      go_wp2
      go_ret
      exact ⟨rfl, (Below.refl _ _).alloc (Nat.le_refl _) _⟩
    · have hc : checkC ⟨0, cl, sq, nm, vl⟩ = 3 := by rw [checkC, if_pos rfl, if_neg hz]
      rw [hc]
      have Hz := Lib.hid hz
      clear hc hz
      go_enter Tryd.func24, Tryd.ntmps24
      go_wp2
      all_goals go_ret
      all_goals first
        | exact ⟨rfl, (Below.refl _ _).alloc (Nat.le_refl _) _⟩
        | (exfalso; apply Hz.out; subst_vars; rfl)
        | (exfalso; apply Hz.out; simp_all [Cmd.zero])
  · by_cases hk : 1 ≤ k ∧ k ≤ 3
    · have hk3 : k = 1 ∨ k = 2 ∨ k = 3 := by omega
      have bad : inRange ⟨k, cl, sq, nm, vl⟩ = false → checkC ⟨k, cl, sq, nm, vl⟩ = 2 := fun h => by rw [checkC, if_neg h0, if_pos hk, if_pos h]
      have good3 : inRange ⟨k, cl, sq, nm, vl⟩ = true → k ≠ 1 → vl ≠ 0 → checkC ⟨k, cl, sq, nm, vl⟩ = 3 := fun h h1 h2 => by rw [checkC, if_neg h0, if_pos hk, if_neg (by rw [h]; decide), if_pos ⟨h1, h2⟩]
      have good0 : inRange ⟨k, cl, sq, nm, vl⟩ = true → (k = 1 ∨ vl = 0) → checkC ⟨k, cl, sq, nm, vl⟩ = 0 := fun h h1 => by rw [checkC, if_neg h0, if_pos hk, if_neg (by rw [h]; decide), if_neg (by simp; omega)]
      by_cases c1 : 0 ≤ cl ∧ cl ≤ 7
      · by_cases c2 : 0 ≤ sq ∧ sq ≤ 1048576
        · by_cases c3 : 0 ≤ nm ∧ nm ≤ 7
          · by_cases c4 : 0 ≤ vl ∧ vl ≤ 1073741824
            · have hin : inRange ⟨k, cl, sq, nm, vl⟩ = true := by simp [inRange]; omega
              by_cases hv : vl = 0
              · rw [good0 hin (.inr hv)]
                subst hv
                rcases hk3 with rfl | rfl | rfl
                · exact check_k1e _ _ _ _ _ c1.1 c1.2 c2.1 c2.2 c3.1 c3.2 c4.1 c4.2
                · exact check_k2f _ _ _ _ c1.1 c1.2 c2.1 c2.2 c3.1 c3.2
                · exact check_k3f _ _ _ _ c1.1 c1.2 c2.1 c2.2 c3.1 c3.2
              · rcases hk3 with rfl | rfl | rfl
                · rw [good0 hin (.inl rfl)]
                  exact check_k1e _ _ _ _ _ c1.1 c1.2 c2.1 c2.2 c3.1 c3.2 c4.1 c4.2
                · rw [good3 hin (by decide) hv]
                  exact check_k2e _ _ _ _ _ c1.1 c1.2 c2.1 c2.2 c3.1 c3.2 c4.1 c4.2 hv
                · rw [good3 hin (by decide) hv]
                  exact check_k3e _ _ _ _ _ c1.1 c1.2 c2.1 c2.2 c3.1 c3.2 c4.1 c4.2 hv
            · rw [bad (by unfold inRange; rw [decide_eq_false_iff_not]; dsimp only; omega)]
              rcases hk3 with rfl | rfl | rfl
              · exact check_k1d _ _ _ _ _ c1.1 c1.2 c2.1 c2.2 c3.1 c3.2 (by omega)
              · exact check_k2d _ _ _ _ _ c1.1 c1.2 c2.1 c2.2 c3.1 c3.2 (by omega)
              · exact check_k3d _ _ _ _ _ c1.1 c1.2 c2.1 c2.2 c3.1 c3.2 (by omega)
          · rw [bad (by unfold inRange; rw [decide_eq_false_iff_not]; dsimp only; omega)]
            rcases hk3 with rfl | rfl | rfl
            · exact check_k1c _ _ _ _ _ c1.1 c1.2 c2.1 c2.2 (by omega)
            · exact check_k2c _ _ _ _ _ c1.1 c1.2 c2.1 c2.2 (by omega)
            · exact check_k3c _ _ _ _ _ c1.1 c1.2 c2.1 c2.2 (by omega)
        · rw [bad (by unfold inRange; rw [decide_eq_false_iff_not]; dsimp only; omega)]
          rcases hk3 with rfl | rfl | rfl
          · exact check_k1b _ _ _ _ _ c1.1 c1.2 (by omega)
          · exact check_k2b _ _ _ _ _ c1.1 c1.2 (by omega)
          · exact check_k3b _ _ _ _ _ c1.1 c1.2 (by omega)
      · rw [bad (by unfold inRange; rw [decide_eq_false_iff_not]; dsimp only; omega)]
        rcases hk3 with rfl | rfl | rfl
        · exact check_k1a _ _ _ _ _ (by omega)
        · exact check_k2a _ _ _ _ _ (by omega)
        · exact check_k3a _ _ _ _ _ (by omega)
    · have hc : checkC ⟨k, cl, sq, nm, vl⟩ = 4 := by rw [checkC, if_neg h0, if_neg hk]
      rw [hc]
      have e0 : (k == 0) = false := by simpa using h0
      have e1 : (k == 1) = false := by rw [beq_eq_false_iff_ne]; omega
      have e2 : (k == 2) = false := by rw [beq_eq_false_iff_ne]; omega
      have e3 : (k == 3) = false := by rw [beq_eq_false_iff_ne]; omega
      clear hc h0 hk
      go_enter Tryd.func24, Tryd.ntmps24
      go_wp2
      go_ret
      exact ⟨rfl, (Below.refl _ _).alloc (Nat.le_refl _) _⟩
end Go.Proofs.YtpkfbmafbkgcmaaDoor
