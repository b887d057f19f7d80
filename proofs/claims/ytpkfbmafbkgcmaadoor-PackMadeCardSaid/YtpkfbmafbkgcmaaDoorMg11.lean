/-
  Texts put together: Sea, SeaO, SeaL, Stp, Chn.
-/
import Derived.Test.YtpkfbmafbkgcmaaDoorMg8
import Derived.Test.YtpkfbmafbkgcmaaDoorMg10
import Derived.Test.YtpkfbmafbkgcmaaDoorMg4
import Derived.Deep.RegionWith
import Derived.Test.YtpkfbmafbkgcmaaDoorMg7
import Derived.Deep.RegionLaw
import Derived.Test.YtpkfbmafbkgcmaaDoorMg5
import Derived.Test.YtpkfbmafbkgcmaaDoorMg6
set_option linter.unusedVariables false
set_option linter.unusedSimpArgs false
namespace Go.Proofs.YtpkfbmafbkgcmaaDoor
open Go.RowKit Go.Con
set_option maxHeartbeats 1000000 in
theorem padded_any (v : Value) (l : List UInt8) (w : World) (hv : Rd w v l) (hl : l.length ≤ 1099511627776) :
    Calls Tryd.prog 50 #[v] w (FreshB w (Sea.pad l)) := by
  obtain ⟨n, hn⟩ : ∃ n, l.length = n := ⟨_, rfl⟩
  obtain ⟨a, c, rfl, _, _⟩ := hv.sliceN n hn
  have hnl : n ≤ 1099511627776 := by omega
  have HV := Lib.hid hv
  have HN := Lib.hid hn
  clear hv hl hn
  go_enter Tryd.func50, Tryd.ntmps50
  go_wp2_with (first
    | (at_builtin; refine apB rfl (.const (.slice none 0 0)) (.tmp 3) rfl w.heap.size _ _ [] l rfl (Own.nil _ _) rfl HV.out (by rw [HN.out]; simp; omega) (Nat.le_refl _) ?_; intro v2 w2 ho2 hg2; have O2 := Lib.hid ho2; have G2 := Lib.hid hg2; clear ho2 hg2)
    | (at_builtin; refine apZ rfl (.tmp 4) (.tmp 9) rfl w.heap.size _ _ rfl O2.out ((16 - n % 16) % 16) _ rfl (by omega) (by rw [List.nil_append, HN.out]; omega) G2.out.size ?_; intro v3 w3 ho3 hg3; have O3 := Lib.hid ho3; have G3 := Lib.hid hg3; clear ho3 hg3))
  go_ret
  refine ⟨_, rfl, ?_, ((Below.refl w.heap.size w).grown G2.out (Nat.le_refl _) (fun k hk => by cases hk)).grown G3.out G2.out.size (fun k hk => (O2.out.lt k hk).1)⟩
  have h := O3.out
  rw [List.nil_append, ← HN.out] at h
  exact h
theorem byteShift (n k j : Nat) (hj : j = 8 * k) : (n : Int) / 2 ^ j % 256 = ((UInt8.ofNat (n / 256 ^ k)).toNat : Int) := by
  subst hj
  rw [UInt8.toNat_ofNat', show (256 : Nat) = 2 ^ 8 from rfl, ← Nat.pow_mul]
  rw [show ((2 : Int) ^ (8 * k)) = ((2 ^ (8 * k) : Nat) : Int) by rw [Int.natCast_pow]; rfl]
  omega
set_option maxHeartbeats 1000000 in
theorem length_any (n : Nat) (w : World) (hn : n ≤ 1099511627776) :
    Calls Tryd.prog 51 #[.int .i64 n] w (FreshB w (Pol.leB 8 n)) := by
  go_enter Tryd.func51, Tryd.ntmps51
  go_wp2
  go_loopw [3, 4] (fun v i wr => ∃ k j : Nat, k ≤ 8 ∧ Hid (j = 8 * k) ∧ j ≤ 64 ∧ i = .int .i64 j ∧ Own wr w.heap.size v (Pol.leB k n) ∧ Below w.heap.size w wr) (fun _ i _ => 72 - (intOf i).toNat)
  case atStart => exact ⟨0, 0, by omega, Lib.hid rfl, by omega, rfl, Own.nil _ _, Below.refl _ _⟩
  case round =>
    obtain ⟨k, j, hk, HJ, hj, rfl, ho, hb⟩ := hrel
    have HO := Lib.hid ho
    have HB := Lib.hid hb
    clear ho hb
    by_cases hlt : j < 64
    · have hd : decide ((j : Int) < 64) = true := by rw [decide_eq_true_eq]; omega
      have hk8 : k < 8 := by have := HJ.out; omega
      go_wp2_with (at_builtin; refine apB rfl (.tmp 9) (.tmp 14) rfl w.heap.size _ _ (Pol.leB k n) [UInt8.ofNat (n / 256 ^ k)] rfl (HO.out.alloc _) rfl (newB _ _ _ (byteShift n k j HJ.out)) (by rw [Pol.leB_length]; simp; omega) (by have := HB.out.size; simp; omega) ?_; intro v3 w3 ho3 hg3; have O3 := Lib.hid ho3; have G3 := Lib.hid hg3; clear ho3 hg3)
      go_roundw
      case rel =>
        refine ⟨k + 1, j + 8, by omega, Lib.hid (by rw [HJ.out]; omega), by have := HJ.out; omega, by go_num, ?_, (HB.out.alloc HB.out.size _).grown G3.out (by have := HB.out.size; simp; omega) (fun i hi => (HO.out.lt i hi).1)⟩
        rw [Pol.leB_more]; exact O3.out
      case measure => simp [intOf]; omega
    · have hd : decide ((j : Int) < 64) = false := by rw [decide_eq_false_iff_not]; omega
      have hk8 : k = 8 := by have := HJ.out; omega
      rw [hk8] at HO
      clear hk8
      go_wp2_with fail
      go_ret
      exact ⟨_, rfl, HO.out, HB.out⟩
set_option maxRecDepth 100000 in
set_option maxHeartbeats 2000000 in
theorem sealTag_any (kv nv av sv : Value) (key nonce known sealed : List UInt8) (w : World) (hk : Rd w kv key) (hn : Rd w nv nonce) (ha : Rd w av known) (hs : Rd w sv sealed) (hkl : key.length = 32) (hnl : nonce.length = 12) (hal : known.length ≤ 256) (hsl : sealed.length ≤ 2000) :
    Calls Tryd.prog 40 #[kv, nv, av, sv] w (FreshB w (Sea.tag key nonce known sealed)) := by
  obtain ⟨B, hB⟩ : ∃ B, B = Cha.block key (UInt32.ofNat 0) nonce := ⟨_, rfl⟩
  have hBl : B.length = 64 := by rw [hB]; exact Cha.block_length _ _ _
  have hblk := fun kv nv w h1 h2 => Block_nat kv nv key nonce 0 0 w h1 h2 hkl hnl (by decide) rfl
  rw [← hB] at hblk
  obtain ⟨p, hp⟩ : ∃ p, p = Sea.pad known := ⟨_, rfl⟩
  obtain ⟨q, hq⟩ : ∃ q, q = Sea.pad sealed := ⟨_, rfl⟩
  have hpl : p.length ≤ 300 := by rw [hp, Sea.pad_length]; omega
  have hql : q.length ≤ 2100 := by rw [hq, Sea.pad_length]; omega
  have hpa := fun v w h => padded_any v known w h (by omega)
  have hpb := fun v w h => padded_any v sealed w h (by omega)
  rw [← hp] at hpa
  rw [← hq] at hpb
  have htag : Sea.tag key nonce known sealed = Pol.tag (B.take 32) (((p ++ q) ++ Pol.leB 8 known.length) ++ Pol.leB 8 sealed.length) := by rw [hB, hp, hq]; rfl
  obtain ⟨n, hn2⟩ : ∃ n, known.length = n := ⟨_, rfl⟩
  obtain ⟨m, hm⟩ : ∃ m, sealed.length = m := ⟨_, rfl⟩
  rw [hn2, hm] at htag
  obtain ⟨aa, ac, rfl, _, _⟩ := ha.sliceN n hn2
  obtain ⟨sa, sc, rfl, _, _⟩ := hs.sliceN m hm
  have hnl2 : n ≤ 256 := by omega
  have hml2 : m ≤ 2000 := by omega
  obtain ⟨ka, kc, rfl, _, _⟩ := hk.sliceN 32 hkl
  obtain ⟨na, nc, rfl, _, _⟩ := hn.sliceN 12 hnl
  have R_k := Lib.hid hk
  have R_n := Lib.hid hn
  have R_a := Lib.hid ha
  have R_s := Lib.hid hs
  have HBL := Lib.hid hBl
  have HBLK := Lib.hid hblk
  have HPL := Lib.hid hpl
  have HQL := Lib.hid hql
  have HPA := Lib.hid hpa
  have HPB := Lib.hid hpb
  have HTAG := Lib.hid htag
  clear hk hn ha hs hkl hnl hal hsl hB hBl hblk hp hq hpl hql hpa hpb htag hn2 hm
  go_enter Tryd.func40, Tryd.ntmps40
  go_wp2_with fail
  refine (HBLK.out _ _ _ R_k.out R_n.out).mono ?_
  rintro e w1 ⟨vb, rfl, hob, hb1⟩
  obtain ⟨bb, bo, bc, hvb, hbc, hbcm⟩ := hob.rd.shapeN 64 HBL.out (by decide)
  subst hvb
  have T1 := Lib.hid hb1
  have R_b := Lib.hid hob.rd
  have hbc32 : (32 : Int) ≤ (bc : Int) := by omega
  clear hob hb1
  go_wp2_with fail
  refine (HPA.out _ _ (R_a.out.stay T1.out)).mono ?_
  rintro e w2 ⟨v2, rfl, ho2, hb2⟩
  have U2 := Lib.hid hb2
  have O2 := Lib.hid ho2
  clear ho2 hb2
  go_wp2_with fail
  refine (HPB.out _ _ (R_s.out.stay (T1.out.trans (U2.out.mono T1.out.size)))).mono ?_
  rintro e w3 ⟨v3, rfl, ho3, hb3⟩
  have U3 := Lib.hid (U2.out.trans (hb3.mono U2.out.size))
  have O2b := Lib.hid (O2.out.below hb3 (fun k hk => (O2.out.lt k hk).2))
  have O3 := Lib.hid ho3
  clear hb3 ho3
  go_wp2_with (at_builtin; refine apB rfl (.tmp 21) (.tmp 23) rfl w1.heap.size _ _ p q rfl O2b.out rfl O3.out.rd (by have := HPL.out; have := HQL.out; omega) U3.out.size ?_; intro v4 w4 ho4 hg4; have O4 := Lib.hid ho4; have G4 := Lib.hid hg4; clear ho4 hg4)
  have U4 := Lib.hid (U3.out.grown G4.out U3.out.size (fun k hk => (O2b.out.lt k hk).1))
  refine (length_any n _ (by omega)).mono ?_
  rintro e w5 ⟨v5, rfl, ho5, hb5⟩
  have U5 := Lib.hid (U4.out.trans (hb5.mono U4.out.size))
  have O4b := Lib.hid (O4.out.below hb5 (fun k hk => (O4.out.lt k hk).2))
  have O5 := Lib.hid ho5
  clear hb5 ho5
  go_wp2_with (at_builtin; refine apB rfl (.tmp 25) (.tmp 28) rfl w1.heap.size _ _ (p ++ q) _ rfl O4b.out rfl O5.out.rd (by have := HPL.out; have := HQL.out; rw [List.length_append, Pol.leB_length]; omega) U5.out.size ?_; intro v6 w6 ho6 hg6; have O6 := Lib.hid ho6; have G6 := Lib.hid hg6; clear ho6 hg6)
  have U6 := Lib.hid (U5.out.grown G6.out U5.out.size (fun k hk => (O4b.out.lt k hk).1))
  refine (length_any m _ (by omega)).mono ?_
  rintro e w7 ⟨v7, rfl, ho7, hb7⟩
  have U7 := Lib.hid (U6.out.trans (hb7.mono U6.out.size))
  have O6b := Lib.hid (O6.out.below hb7 (fun k hk => (O6.out.lt k hk).2))
  have O7 := Lib.hid ho7
  clear hb7 ho7
  go_wp2_with (at_builtin; refine apB rfl (.tmp 29) (.tmp 32) rfl w1.heap.size _ _ ((p ++ q) ++ Pol.leB 8 n) _ rfl O6b.out rfl O7.out.rd (by have := HPL.out; have := HQL.out; rw [List.length_append, List.length_append, Pol.leB_length, Pol.leB_length]; omega) U7.out.size ?_; intro v8 w8 ho8 hg8; have O8 := Lib.hid ho8; have G8 := Lib.hid hg8; clear ho8 hg8)
  have U8 := Lib.hid (U7.out.grown G8.out U7.out.size (fun k hk => (O6b.out.lt k hk).1))
  refine (Tag_ok _ _ (B.take 32) _ _ ((R_b.out.stay U8.out).pre 32 (by rw [HBL.out]; decide)) O8.out.rd (by rw [List.length_take, HBL.out]; rfl) (by have := HPL.out; have := HQL.out; simp only [List.length_append, Pol.leB_length]; omega)).mono ?_
  rintro e w9 ⟨v9, rfl, ho9, hb9⟩
  rw [← HTAG.out] at ho9
  have O9 := Lib.hid ho9
  have U9 := Lib.hid (U8.out.trans (hb9.mono U8.out.size))
  clear hb9 ho9
  go_wp2_with fail
  go_ret
  exact ⟨_, rfl, O9.out.mono (Nat.le_trans T1.out.size U8.out.size), T1.out.trans (U9.out.mono T1.out.size)⟩
/-- Sizes that may be. -/
theorem sealCheck_ok (ka na aa sa : Option Addr) (kc nc ac sc n m most : Nat) (w : World) (hn : n ≤ 256) (hm : m ≤ most) :
    Calls Tryd.prog 38 #[.slice ka 32 kc, .slice na 12 nc, .slice aa n ac, .slice sa m sc, .int .i64 most] w fun e w' => e = .returned (.int .i64 0) ∧ w = w' := by
  have h1 : decide ((256 : Int) < (n : Int)) = false := by rw [decide_eq_false_iff_not]; omega
  have h2 : decide ((most : Int) < (m : Int)) = false := by rw [decide_eq_false_iff_not]; omega
  have h2' : decide (most < m) = false := by rw [decide_eq_false_iff_not]; omega
  go_enter Tryd.func38, Tryd.ntmps38
  go_wp2
  go_ret
  exact ⟨rfl, rfl⟩
/-- Sizes that may not be. -/
theorem sealCheck_bad (ka na aa sa : Option Addr) (kl nl kc nc ac sc n m most : Nat) (w : World) (h : kl ≠ 32 ∨ nl ≠ 12 ∨ 256 < n ∨ most < m) :
    Calls Tryd.prog 38 #[.slice ka kl kc, .slice na nl nc, .slice aa n ac, .slice sa m sc, .int .i64 most] w fun e w' => e = .returned (.int .i64 1) ∧ w = w' := by
  by_cases h1 : kl = 32
  · by_cases h2 : nl = 12
    · by_cases h3 : 256 < n
      · have h3' : decide ((256 : Int) < (n : Int)) = true := by rw [decide_eq_true_eq]; omega
        subst h1 h2
        go_enter Tryd.func38, Tryd.ntmps38
        go_wp2
        go_ret
        exact ⟨rfl, rfl⟩
      · have h4 : most < m := by omega
        have h3' : decide ((256 : Int) < (n : Int)) = false := by rw [decide_eq_false_iff_not]; omega
        have h4' : decide (most < m) = true := by rw [decide_eq_true_eq]; exact h4
        subst h1 h2
        clear h
        go_enter Tryd.func38, Tryd.ntmps38
        go_wp2
        go_ret
        exact ⟨rfl, rfl⟩
    · have h2' : ((nl : Int) != 12) = true := by rw [bne_iff_ne]; omega
      have h2'' : ((nl : Int) == 12) = false := by rw [beq_eq_false_iff_ne]; omega
      subst h1
      clear h
      go_enter Tryd.func38, Tryd.ntmps38
      go_wp2
      go_ret
      exact ⟨rfl, rfl⟩
  · have h1' : ((kl : Int) != 32) = true := by rw [bne_iff_ne]; omega
    have h1'' : ((kl : Int) == 32) = false := by rw [beq_eq_false_iff_ne]; omega
    clear h
    go_enter Tryd.func38, Tryd.ntmps38
    go_wp2
    go_ret
    exact ⟨rfl, rfl⟩
set_option maxRecDepth 100000 in
set_option maxHeartbeats 2000000 in
theorem Seal_ok (kv nv av pv : Value) (key nonce known plain : List UInt8) (w : World) (hk : Rd w kv key) (hn : Rd w nv nonce) (ha : Rd w av known) (hp : Rd w pv plain) (hkl : key.length = 32) (hnl : nonce.length = 12) (hal : known.length ≤ 256) (hpl : plain.length ≤ 2000) :
    Calls Tryd.prog 28 #[kv, nv, av, pv] w (FreshBE w (Sea.boxed key nonce known plain) 0) := by
  obtain ⟨X, hX⟩ : ∃ X, X = Cha.mix key 1 nonce plain := ⟨_, rfl⟩
  have hXl : X.length = plain.length := by rw [hX]; exact Cha.mix_length _ _ _ _
  have hbox : Sea.boxed key nonce known plain = X ++ Sea.tag key nonce known X := by rw [hX]; rfl
  have hmix := fun kv nv pv w h1 h2 h3 => Mix_nat kv nv pv key nonce plain 1 1 w h1 h2 h3 hkl hnl (by decide) hpl rfl
  rw [← hX] at hmix
  have htag := fun kv nv av sv w h1 h2 h3 h4 => sealTag_any kv nv av sv key nonce known X w h1 h2 h3 h4 hkl hnl hal (by omega)
  obtain ⟨n, hn2⟩ : ∃ n, known.length = n := ⟨_, rfl⟩
  obtain ⟨m, hm⟩ : ∃ m, plain.length = m := ⟨_, rfl⟩
  obtain ⟨aa, ac, rfl, _, _⟩ := ha.sliceN n hn2
  obtain ⟨pa, pc, rfl, _, _⟩ := hp.sliceN m hm
  have hnl2 : n ≤ 256 := by omega
  have hml2 : m ≤ 2000 := by omega
  obtain ⟨ka, kc, rfl, _, _⟩ := hk.sliceN 32 hkl
  obtain ⟨na, nc, rfl, _, _⟩ := hn.sliceN 12 hnl
  have R_k := Lib.hid hk
  have R_n := Lib.hid hn
  have R_a := Lib.hid ha
  have R_p := Lib.hid hp
  have HXL := Lib.hid (show X.length ≤ 2000 by omega)
  have HBOX := Lib.hid hbox
  have HMIX := Lib.hid hmix
  have HTAG := Lib.hid htag
  clear hk hn ha hp hkl hnl hal hpl hX hXl hbox hmix htag hn2 hm
  go_enter Tryd.func28, Tryd.ntmps28
  go_wp2_with fail
  refine (sealCheck_ok _ _ _ _ _ _ _ _ n m 2000 _ (by omega) (by omega)).mono ?_
  rintro e _ ⟨rfl, rfl⟩
  go_wp2_with fail
  refine (HMIX.out _ _ _ _ R_k.out R_n.out R_p.out).mono ?_
  rintro e w1 ⟨v1, rfl, ho1, hb1⟩
  have T1 := Lib.hid hb1
  have O1 := Lib.hid ho1
  clear hb1 ho1
  go_wp2_with fail
  refine (HTAG.out _ _ _ _ _ (R_k.out.stay T1.out) (R_n.out.stay T1.out) (R_a.out.stay T1.out) O1.out.rd).mono ?_
  rintro e w2 ⟨v2, rfl, ho2, hb2⟩
  have T2 := Lib.hid (T1.out.trans (hb2.mono T1.out.size))
  have O1b := Lib.hid (O1.out.below hb2 (fun k hk => (O1.out.lt k hk).2))
  have O2 := Lib.hid ho2
  clear hb2 ho2
  go_wp2_with (at_builtin; refine apB rfl (.tmp 28) (.tmp 33) rfl w.heap.size _ _ X _ rfl O1b.out rfl O2.out.rd (by have := HXL.out; rw [Sea.tag_length]; omega) T2.out.size ?_; intro v3 w3 ho3 hg3; have O3 := Lib.hid ho3; have G3 := Lib.hid hg3; clear ho3 hg3)
  have h3 := O3.out
  rw [← HBOX.out] at h3
  go_ret2
  exact ⟨_, rfl, h3, T2.out.grown G3.out T2.out.size (fun k hk => (O1b.out.lt k hk).1)⟩
set_option maxHeartbeats 1000000 in
theorem Seal_bad (ka na aa sa : Option Addr) (kl nl kc nc ac sc n m : Nat) (w : World) (h : kl ≠ 32 ∨ nl ≠ 12 ∨ 256 < n ∨ 2000 < m) :
    Calls Tryd.prog 28 #[.slice ka kl kc, .slice na nl nc, .slice aa n ac, .slice sa m sc] w fun e w' => e = .returned (.tuple #[.slice none 0 0, .int .i64 1]) ∧ w = w' := by
  have hc := fun w => sealCheck_bad ka na aa sa kl nl kc nc ac sc n m 2000 w h
  have HC := Lib.hid hc
  clear hc h
  go_enter Tryd.func28, Tryd.ntmps28
  go_wp2_with fail
  refine (HC.out _).mono ?_
  rintro e _ ⟨rfl, rfl⟩
  go_wp2
  go_ret2
  exact ⟨rfl, rfl⟩
end Go.Proofs.YtpkfbmafbkgcmaaDoor

set_option linter.unusedVariables false
set_option linter.unusedSimpArgs false
namespace Go.Proofs.YtpkfbmafbkgcmaaDoor
open Go.RowKit Go.Con
set_option maxHeartbeats 1000000 in
theorem Open_short (ka na aa sa : Option Addr) (kc nc ac sc n m : Nat) (w : World) (hn : n ≤ 256) (hm : m < 16) :
    Calls Tryd.prog 43 #[.slice ka 32 kc, .slice na 12 nc, .slice aa n ac, .slice sa m sc] w fun e w' => e = .returned (.tuple #[.slice none 0 0, .int .i64 13]) ∧ w = w' := by
  have hc := fun w => sealCheck_ok ka na aa sa kc nc ac sc n m 2016 w hn (by omega)
  have HC := Lib.hid hc
  have h1 : decide ((m : Int) < 16) = true := by rw [decide_eq_true_eq]; omega
  have h2 : decide ((m : Int) - 16 < 0) = true := by rw [decide_eq_true_eq]; omega
  clear hc
  go_enter Tryd.func43, Tryd.ntmps43
  go_wp2_with fail
  refine (HC.out _).mono ?_
  rintro e _ ⟨rfl, rfl⟩
  go_wp2
  go_ret2
  exact ⟨rfl, rfl⟩
/-- what opening leaves -/
def OpenPost (w : World) (key nonce known sealed tg : List UInt8) (e : Ending) (w' : World) : Prop :=
  (Sea.tag key nonce known sealed = tg ∧ FreshBE w (Cha.mix key 1 nonce sealed) 0 e w') ∨ (Sea.tag key nonce known sealed ≠ tg ∧ e = .returned (.tuple #[.slice none 0 0, .int .i64 6]) ∧ Below w.heap.size w w')
set_option maxRecDepth 100000 in
set_option maxHeartbeats 2000000 in
theorem Open_any (kv nv av dv : Value) (key nonce known d : List UInt8) (n : Nat) (w : World) (hk : Rd w kv key) (hn : Rd w nv nonce) (ha : Rd w av known) (hd : Rd w dv d) (hkl : key.length = 32) (hnl : nonce.length = 12) (hal : known.length ≤ 256) (hdl : d.length = n + 16) (hn2 : n ≤ 2000) :
    Calls Tryd.prog 43 #[kv, nv, av, dv] w (OpenPost w key nonce known (d.take n) (d.drop n)) := by
  obtain ⟨s, hs⟩ : ∃ s, s = d.take n := ⟨_, rfl⟩
  obtain ⟨g, hg⟩ : ∃ g, g = d.drop n := ⟨_, rfl⟩
  have hsl : s.length = n := by rw [hs, List.length_take]; omega
  have hgl : g.length = 16 := by rw [hg, List.length_drop]; omega
  rw [← hs, ← hg]
  have hmix := fun kv nv pv w h1 h2 h3 => Mix_nat kv nv pv key nonce s 1 1 w h1 h2 h3 hkl hnl (by decide) (by omega) rfl
  have htag := fun kv nv av sv w h1 h2 h3 h4 => sealTag_any kv nv av sv key nonce known s w h1 h2 h3 h4 hkl hnl hal (by omega)
  obtain ⟨t, ht⟩ : ∃ t, t = (Sea.tag key nonce known s == g) := ⟨_, rfl⟩
  have hsm := fun a b w h1 h2 => shaSame_any a b (Sea.tag key nonce known s) g w h1 h2
  rw [← ht] at hsm
  obtain ⟨q, hq⟩ : ∃ q, known.length = q := ⟨_, rfl⟩
  obtain ⟨aa, ac, rfl, _, _⟩ := ha.sliceN q hq
  have hql : q ≤ 256 := by omega
  obtain ⟨db, do_, dc, rfl, hdc, hdcm⟩ := hd.shapeN (n + 16) hdl (by omega)
  obtain ⟨ka, kc, rfl, _, _⟩ := hk.sliceN 32 hkl
  obtain ⟨na, nc, rfl, _, _⟩ := hn.sliceN 12 hnl
  have hps := hd.pre n (by omega)
  have hpg := hd.tail n 16 (by omega) (by omega)
  rw [← hs] at hps
  rw [← hg] at hpg
  have hc := fun w => sealCheck_ok ka na aa (some ⟨db, do_, none⟩) kc nc ac dc q (n + 16) 2016 w hql (by omega)
  have R_k := Lib.hid hk
  have R_n := Lib.hid hn
  have R_a := Lib.hid ha
  have R_s := Lib.hid hps
  have R_g := Lib.hid hpg
  have HMIX := Lib.hid hmix
  have HTAG := Lib.hid htag
  have HSM := Lib.hid hsm
  have HT := Lib.hid ht
  have HC := Lib.hid hc
  obtain ⟨m, hm⟩ : ∃ m, n + 16 = m := ⟨_, rfl⟩
  rw [hm] at hdc HC ⊢
  have hmi : (m : Int) - 16 = (n : Int) := by omega
  have hmw : IntKind.i64.wrap ((m : Int) - 16) = (n : Int) := by rw [hmi]; exact IntWalk.i64_in _ (by omega)
  have hn0 : decide ((n : Int) < 0) = false := by rw [decide_eq_false_iff_not]; omega
  have hnm : (n : Int) ≤ (m : Int) := by omega
  have hndc : (n : Int) ≤ (dc : Int) := by omega
  have hmdc : (m : Int) ≤ (dc : Int) := by omega
  have hdcn : ¬ (dc = n) := by omega
  have hmn : m - n = 16 := by omega
  clear hk hn ha hd hkl hnl hal hdl hs hg hsl hgl hmix htag ht hsm hq hps hpg hc
  go_enter Tryd.func43, Tryd.ntmps43
  go_wp2_with fail
  refine (HC.out _).mono ?_
  rintro e _ ⟨rfl, rfl⟩
  go_wp2_with fail
  go_region_with (first
    | (go_at_call 40; refine (HTAG.out _ _ _ _ _ (R_k.out.drewN 1) (R_n.out.drewN 1) (R_a.out.drewN 1) (R_s.out.drewN 1)).mono ?_; rintro e w1 ⟨v1, rfl, ho1, hb1⟩; have O1 := Lib.hid ho1; have B1 := Lib.hid hb1; clear ho1 hb1)
    | (go_at_call 45; refine (HSM.out _ _ _ O1.out.rd ((R_g.out.drewN 1).stay B1.out)).mono ?_; rintro e w2 ⟨rfl, hd2⟩))
  all_goals
    have hb2 : Below w.heap.size w w2 := by obtain ⟨r, rfl⟩ := hd2; exact below_drewN (((below_drewN (Below.refl w.heap.size w) 1).trans B1.out)) r
    have B2 := Lib.hid hb2
    clear hd2 hb2 B1 O1
    by_cases htt : t = true
    · have heq : Sea.tag key nonce known s = g := by have h := HT.out; rw [htt] at h; simpa using h.symm
      have HEQ := Lib.hid heq
      subst htt
      clear heq
      go_wp2_with fail
      refine (HMIX.out _ _ _ _ (R_k.out.stay B2.out) (R_n.out.stay B2.out) (R_s.out.stay B2.out)).mono ?_
      rintro e w3 ⟨v3, rfl, ho3, hb3⟩
      have O3 := Lib.hid ho3
      have B3 := Lib.hid (B2.out.trans (hb3.mono B2.out.size))
      have s2 := B2.out.size
      clear ho3 hb3
      go_wp2_with fail
      go_ret2
      exact .inl ⟨HEQ.out, _, rfl, O3.out.mono s2, B3.out⟩
    · have htf : t = false := by simpa using htt
      have hne : Sea.tag key nonce known s ≠ g := by have h := HT.out; rw [htf] at h; intro e; rw [e] at h; simp at h
      have HNE := Lib.hid hne
      subst htf
      clear htt hne
      go_wp2
      go_ret2
      exact .inr ⟨HNE.out, rfl, B2.out⟩
end Go.Proofs.YtpkfbmafbkgcmaaDoor

set_option linter.unusedVariables false
set_option linter.unusedSimpArgs false
namespace Go.Con.Sea
theorem boxed_again (key nonce known d : List UInt8) (n : Nat) (h : tag key nonce known (d.take n) = d.drop n) : boxed key nonce known (Cha.mix key 1 nonce (d.take n)) = d := by
  rw [boxed, Cha.mix_twice, h, List.take_append_drop]
theorem fill_pad (l : List UInt8) (n : Nat) (h : n = (l.length + 15) / 16 * 16) : Con.fill l n = pad l := by
  rw [Con.fill, pad, List.take_of_length_le (by omega)]
  congr 2
  omega
theorem lengths (n m : Nat) (hn : n ≤ 60) (hm : m ≤ 300) : Pol.leB 8 n ++ Pol.leB 8 m = [UInt8.ofNat n, 0, 0, 0, 0, 0, 0, 0, UInt8.ofNat m, UInt8.ofNat (m / 256), 0, 0, 0, 0, 0, 0] := by
  simp only [Pol.leB, List.cons_append, List.nil_append]
  rw [show n / 256 = 0 by omega, show m / 256 / 256 = 0 by omega]
  rfl
end Go.Con.Sea
namespace Go.Proofs.YtpkfbmafbkgcmaaDoor
open Go.RowKit Go.Con
theorem Open_sealed (kv nv av xv : Value) (key nonce known plain x : List UInt8) (w : World) (hk : Rd w kv key) (hn : Rd w nv nonce) (ha : Rd w av known) (hx : Rd w xv x) (hkl : key.length = 32) (hnl : nonce.length = 12) (hal : known.length ≤ 256) (hpl : plain.length ≤ 2000) (hb : x = Sea.boxed key nonce known plain) :
    Calls Tryd.prog 43 #[kv, nv, av, xv] w (FreshBE w plain 0) := by
  subst hb
  refine (Open_any kv nv av xv key nonce known _ plain.length w hk hn ha hx hkl hnl hal (Sea.boxed_length _ _ _ _) hpl).mono ?_
  intro e w' h
  rw [Sea.boxed_take, Sea.boxed_drop] at h
  rcases h with ⟨_, h⟩ | ⟨h, _⟩
  · rw [Cha.mix_twice] at h; exact h
  · exact absurd rfl h
theorem append_old (w : World) (base : Nat) (ty : TypeId) (i : TypeInfo) (hi : Tryd.prog.info? 5 = some i) (hz : i.zero = some (.int .u8 0)) (hsize : i.size = 1) (hby : i.bytes = 1)
    (v : Value) (l : List UInt8) (hown : Own w base v l) (ad : Addr) (m c : Nat) (news : List Value) (hl : news.length = m * 1) (hnews : ∀ j u, news[j]? = some u → w.cell? (ad.add j) = some u) (h1 : ∀ u ∈ news, u.oneCell' = true)
    (hbytes : l.length + m ≤ 140737488355328) :
    ∃ v' w', (Builtin.append_ #[31, 31] ty #[v, .slice (some ad) m c]).run Tryd.prog w = .ok v' w' ∧ Rd w' v l := by
  have ht : Tryd.prog.underlying 31 = some (.slice 5) := Tryd.underlying31
  have hrd := hown.rd
  obtain ⟨hxl, h2⟩ := hown
  rcases h2 with ⟨rfl, hn⟩ | ⟨g, cap, cur, rfl, hbg, hg, hnc, hcm, hcs, htake⟩
  · have hl0 : l = [] := List.eq_nil_of_length_eq_zero hn
    subst hl0
    by_cases hm : m = 0
    · subst hm
      refine ⟨.slice none 0 0, w, ?_, Rd.nil _⟩
      simp [Builtin.append_, run_underlying ht, sizeOf, typeInfo, hi, Builtin.lenOf, Builtin.firstCells, loadCells, loadCellsFrom]
    · have hr := run_append_nil (P := Tryd.prog) w 31 ty 5 i (.int .u8 0) ht hi hz ad m c news (by rw [hsize]; exact hl) hnews (by omega) (by omega) (by rw [hby]; omega)
      exact ⟨_, _, hr, Rd.nil _⟩
  · by_cases hroom : l.length + m ≤ cap
    · have hr := run_append_room (P := Tryd.prog) w 31 ty 5 i ht hi g l.length cap cur hg ad m c news (by rw [hsize]; exact hl) hnews h1 hroom (by rw [hsize, hl, hcs]; omega)
      refine ⟨_, _, hr, ?_⟩
      refine ⟨_, _, rfl, hnc, hcm, (fun h => by cases h), fun _ => ⟨g, 0, rfl, fun i hi => ?_⟩⟩
      rw [Nat.zero_add]
      refine cellAt (setRow_heap w g cur _ _ _ hg) i ?_
      have : (cur.toList.take (l.length * 1))[i]? = some (u8v (l.getD i 0)) := by rw [htake]; simp [hi]
      rw [Nat.mul_one] at this
      simp only [List.getElem?_toArray, hsize, Nat.mul_one, List.append_assoc]
      have hcl : cur.toList.length = cur.size := by simp
      rw [List.getElem?_append_left (by rw [List.length_take, hcl]; omega)]
      exact this
    · have holds : ∀ j u, (l.map u8v)[j]? = some u → w.cell? ((⟨g, 0, none⟩ : Addr).add j) = some u := World.ownsRow.cells (base := base) (e := 5) (size := 1) (n := l.length) ⟨hxl, .inr ⟨g, cap, cur, rfl, hbg, hg, hnc, hcm, hcs, htake⟩⟩ (g := g) rfl
      have hr := run_append_grow (P := Tryd.prog) w 31 ty 5 i (.int .u8 0) ht hi hz ⟨g, 0, none⟩ l.length cap (l.map u8v) (by rw [hsize]; exact hxl) holds ad m c news (by rw [hsize]; exact hl) hnews (by omega) (by omega) (growslice_fits (by omega) (by rw [hby]; omega))
      exact ⟨_, _, hr, Rd.stay (w := w) hrd ((below_drewN (Below.refl _ _) 1).alloc (Nat.le_refl _) _)⟩
section
variable {ops : Array Oper} {rest : List Oper} {o : Oper} {a : Act} {Q : Exit → Act → World → Prop} {w : World}
/-- append(own, shown...), and what was shown stays. -/
theorem apBo (hgd : o.guard = none) (s x : Operand) (ho : o.op = .call { callee := .builtin .append, args := #[s, x], argTypes := #[31, 31] })
    (base : Nat) (v : Value) (ad : Addr) (c n : Nat) (l m : List UInt8) (hs : a.eval s = v) (hown : Own w base v l) (hx : a.eval x = .slice (some ad) n c) (hn : m.length = n) (hsrc : Rd w (.slice (some ad) n c) m) (hlen : l.length + m.length ≤ 140737488355328) (hbase : base ≤ w.heap.size)
    (h : ∀ v' w', Own w' base v' (l ++ m) → w.grownBy w' v.ownBlock → Rd w' v l → wpList Tryd.prog ops Q rest (a.put o.dst v') w') : wpList Tryd.prog ops Q (o :: rest) a w := by
  subst hn
  obtain ⟨i0, hi, hz0, hz1, hz2⟩ := info_parts Tryd.info8
  refine wpList_plain hgd fun K hK => ?_
  obtain ⟨v', w', hr, h2, h3, h4⟩ := run_append_own (P := Tryd.prog) w base 31 o.type 5 i0 (.int .u8 0) 1 1 Tryd.underlying31 hi hz0 hz1 hz2 rfl (by decide) v l.length _ hown ad m.length c (m.map u8v) (by simp) (hsrc.cells ad rfl) (one8 m) (by unfold maxLen; omega) (by omega) hbase
  obtain ⟨v2, w2, hr2, hw⟩ := append_old w base o.type i0 hi hz0 hz1 hz2 v l hown ad m.length c (m.map u8v) (by simp) (hsrc.cells ad rfl) (one8 m) (by omega)
  have e := hr.symm.trans hr2
  injection e with e1 e2
  subst e1 e2
  unfold Oper.wp execOp
  simp only [ho, resolve, invoke, builtin, Sem.run_bind, Sem.run_pure, Result.andThen_ok, List.map_toArray, List.map_cons, List.map_nil, hs, hx, hr]
  refine hK _ _ (h v' w' ?_ h3 hw)
  unfold Own
  rw [List.length_append, List.map_append]
  exact h2
end
end Go.Proofs.YtpkfbmafbkgcmaaDoor

set_option linter.unusedVariables false
set_option linter.unusedSimpArgs false
namespace Go.Proofs.YtpkfbmafbkgcmaaDoor
open Go.RowKit Go.Con
/-- A new row, written out, is the call's own. -/
theorem ownNew (w : World) (base : Nat) (l : List UInt8) (n : Nat) (hn : l.length = n) (hb : base ≤ w.heap.size) (hm : n ≤ maxLen) : Own (w.alloc (.cells (l.map u8v).toArray 5)) base (.slice (some ⟨w.heap.size, 0, none⟩) n n) l := by
  subst hn
  refine ⟨by simp, .inr ⟨w.heap.size, l.length, (l.map u8v).toArray, rfl, hb, heapNew w _, Nat.le_refl _, hm, by simp, ?_⟩⟩
  rw [List.take_of_length_le (by simp)]
theorem ownNew1 (W : World) (base : Nat) (x0 : Int) (b0 : UInt8) (h0 : x0 = b0.toNat) (hb : base ≤ W.heap.size) :
    Own (W.alloc (.cells #[.int .u8 x0] 5)) base (.slice (some ⟨W.heap.size, 0, none⟩) 1 1) [b0] := by
  subst h0; exact ownNew W base [b0] 1 rfl hb (by decide)
section
variable {ops : Array Oper} {o : Oper} {a : Act} {w : World} {K : Act → World → Prop} {Q : Exit → Act → World → Prop} {E : Prop}
theorem step_apZ (hg : o.guard = none) (s x : Operand) (ho : o.op = .call { callee := .builtin .append, args := #[s, x], argTypes := #[31, 3] })
    (base : Nat) (v : Value) (l : List UInt8) (hs : a.eval s = v) (hown : Own w base v l) (m : Nat) (M : Int) (hx : a.eval x = .int .i64 M) (hM : M = (m : Int)) (hlen : l.length + m ≤ 140737488355328) (hbase : base ≤ w.heap.size)
    (h : ∀ v' w', Own w' base v' (l ++ List.replicate m 0) → w.grownBy w' v.ownBlock → K (a.put o.dst v') w') : if Region.wanted o (yielded ops a.tmps) = true then Oper.wp Tryd.prog o a w K Q else E := by
  have hw : Region.wanted o (yielded ops a.tmps) = true := by simp [Region.wanted, hg]
  rw [if_pos hw]
  subst hM
  obtain ⟨v', w', hr, h1, h2⟩ := run_apz w base o.type v l hown m hlen hbase
  exact Lib.wp_append_run w s x _ _ ho _ _ hs hx v' w' hr (h v' w' h1 h2)
theorem step_apB (hg : o.guard = none) (s x : Operand) (ho : o.op = .call { callee := .builtin .append, args := #[s, x], argTypes := #[31, 31] })
    (base : Nat) (v src : Value) (l m : List UInt8) (hs : a.eval s = v) (hown : Own w base v l) (hx : a.eval x = src) (hsrc : Rd w src m) (hlen : l.length + m.length ≤ 140737488355328) (hbase : base ≤ w.heap.size)
    (h : ∀ v' w', Own w' base v' (l ++ m) → w.grownBy w' v.ownBlock → K (a.put o.dst v') w') : if Region.wanted o (yielded ops a.tmps) = true then Oper.wp Tryd.prog o a w K Q else E := by
  have hw : Region.wanted o (yielded ops a.tmps) = true := by simp [Region.wanted, hg]
  rw [if_pos hw]
  obtain ⟨i0, hi, hz0, hz1, hz2⟩ := info_parts Tryd.info8
  obtain ⟨ao, c, hv, _⟩ := hsrc.slice
  subst hv
  cases ao with
  | none =>
    obtain ⟨hm, hm0, hc0⟩ := hsrc.none_nil
    subst hm
    rw [hc0] at hx
    have hr := run_append_owned_none (P := Tryd.prog) (w := w) base 31 o.type 5 i0 1 Tryd.underlying31 hi v l.length (l.map u8v) hown
    exact Lib.wp_append_run w s x _ _ ho _ _ hs hx v w hr (h v w (by simpa using hown) ⟨rfl, rfl, rfl, Nat.le_refl _, fun _ _ _ => rfl⟩)
  | some ad =>
    obtain ⟨v', w', hr, h2, h3, h4⟩ := run_append_own (P := Tryd.prog) w base 31 o.type 5 i0 (.int .u8 0) 1 1 Tryd.underlying31 hi hz0 hz1 hz2 rfl (by decide) v l.length _ hown ad m.length c (m.map u8v) (by simp) (hsrc.cells ad rfl) (one8 m) (by unfold maxLen; omega) (by omega) hbase
    refine Lib.wp_append_run w s x _ _ ho _ _ hs hx v' w' hr (h v' w' ?_ h3)
    unfold Own
    rw [List.length_append, List.map_append]
    exact h2
end
end Go.Proofs.YtpkfbmafbkgcmaaDoor

set_option linter.unusedVariables false
set_option linter.unusedSimpArgs false
namespace Go.Proofs.YtpkfbmafbkgcmaaDoor
open Go.RowKit Go.Con
/-- slices.Clone of bytes that lie somewhere -/
theorem clone_any (a : Addr) (n c : Nat) (l : List UInt8) (w : World) (hv : Rd w (.slice (some a) n c) l) (hn : l.length = n) (hl : n ≤ 1099511627776) :
    Calls Tryd.prog 41 #[.slice (some a) n c] w (FreshB w l) := by
  have hnl := fun (w : World) => Lib.run_eql_slice_nil (P := Tryd.prog) w 31 5 (some a) n c 0 0 Tryd.underlying31
  have HV := Lib.hid hv
  have HN := Lib.hid hn
  clear hv hn
  go_enter Tryd.func41, Tryd.ntmps41
  go_wp2_with (at_builtin; refine apB rfl (.tmp 5) (.tmp 6) rfl w.heap.size (.slice (some ⟨w.heap.size, 0, none⟩) 0 0) _ [] l rfl (ownNew w _ [] 0 rfl (Nat.le_refl _) (by decide)) rfl (HV.out.alloc _) (by rw [HN.out]; simp; omega) (by simp) ?_; intro v2 w2 ho2 hg2; have O2 := Lib.hid ho2; have G2 := Lib.hid hg2; clear ho2 hg2)
  go_ret
  exact ⟨_, rfl, O2.out, ((Below.refl _ _).alloc (Nat.le_refl _) _).grown G2.out (by simp) (fun k hk => by injection hk with hk; subst hk; exact Nat.le_refl _)⟩
/-- a channel's eleven cells -/
def chanC (kv : Value) (s t : Int) (f : Nat → Bool) : List Value := [kv, .int .i64 s, .int .i64 t, .bool (f 0), .bool (f 1), .bool (f 2), .bool (f 3), .bool (f 4), .bool (f 5), .bool (f 6), .bool (f 7)]
theorem chanSz : (Tryd.prog.info? 42).map (fun x => x.size) = some 11 := by kernel_rfl
theorem chanOne (kv : Value) (s t : Int) (f : Nat → Bool) (hk : kv.oneCell' = true) : (chanC kv s t f).toArray.all (·.oneCell') = true := by
  simp [chanC, hk]
  exact ⟨rfl, rfl, rfl, rfl, rfl, rfl, rfl, rfl, rfl, rfl⟩
theorem chanOne' (kv : Value) (s t : Int) (b0 b1 b2 b3 b4 b5 b6 b7 : Bool) (hk : kv.oneCell' = true) : (#[kv, .int .i64 s, .int .i64 t, .bool b0, .bool b1, .bool b2, .bool b3, .bool b4, .bool b5, .bool b6, .bool b7] : Array Value).all (·.oneCell') = true := by
  simp [hk]
  exact ⟨rfl, rfl, rfl, rfl, rfl, rfl, rfl, rfl, rfl, rfl⟩
theorem Own.ofHeap {w w' : World} {base : Nat} {v : Value} {l : List UInt8} (h : Own w base v l) (hh : ∀ k, v.ownBlock = some k → w'.heap[k]? = w.heap[k]?) : Own w' base v l := by
  obtain ⟨h1, h2⟩ := h
  refine ⟨h1, ?_⟩
  rcases h2 with h2 | ⟨g, cap, cur, rfl, hg, hh2, r⟩
  · exact .inl h2
  · exact .inr ⟨g, cap, cur, rfl, hg, by rw [hh g rfl]; exact hh2, r⟩
theorem Own.one {w : World} {base : Nat} {v : Value} {l : List UInt8} (h : Own w base v l) : v.oneCell' = true := by
  rcases h.2 with ⟨rfl, _⟩ | ⟨g, cap, cur, rfl, _⟩ <;> rfl
set_option maxRecDepth 100000 in
set_option maxHeartbeats 2000000 in
theorem own_any (a : Addr) (c : Nat) (key : List UInt8) (s t : Int) (b0 b1 b2 b3 b4 b5 b6 b7 : Bool) (w : World) (hv : Rd w (.slice (some a) 32 c) key) (hn : key.length = 32) :
    Calls Tryd.prog 30 #[.agg #[.slice (some a) 32 c, .int .i64 s, .int .i64 t, .bool b0, .bool b1, .bool b2, .bool b3, .bool b4, .bool b5, .bool b6, .bool b7]] w
      fun e w' => ∃ kv, e = .returned (.agg #[kv, .int .i64 s, .int .i64 t, .bool b0, .bool b1, .bool b2, .bool b3, .bool b4, .bool b5, .bool b6, .bool b7]) ∧ Own w' w.heap.size kv key ∧ Below w.heap.size w w' := by
  have HV := Lib.hid hv
  have HN := Lib.hid hn
  clear hv hn
  go_enter Tryd.func30, Tryd.ntmps30
  go_wp2_with fail
  refine (clone_any _ 32 c key _ ((HV.out.alloc _).alloc _) HN.out (by decide)).mono ?_
  rintro e w1 ⟨kv, rfl, hok, hb1⟩
  obtain ⟨kg, kcap, hkv, _, _, _, _⟩ := hok.shape (by intro h; have := HN.out; rw [h] at this; cases this)
  rw [HN.out] at hkv
  subst hkv
  have x1 := (hb1.block w.heap.size (by simp; omega)).trans (heapNew0 w (.cells #[.slice (some a) 32 c, .int .i64 s, .int .i64 t, .bool b0, .bool b1, .bool b2, .bool b3, .bool b4, .bool b5, .bool b6, .bool b7] 42) _)
  have y1 := (hb1.block (w.heap.size + 1) (by simp)).trans (heapNew1 w _ (.cells #[.slice none 0 0, .int .i64 0, .int .i64 0, .bool false, .bool false, .bool false, .bool false, .bool false, .bool false, .bool false, .bool false] 42))
  have B1 := Lib.hid ((((Below.refl w.heap.size w).alloc (Nat.le_refl _) _).alloc (by simp) _).trans (hb1.mono (by simp; omega)))
  have O1 := Lib.hid hok
  have z1 := lt_of_heap y1
  have Z1 := Lib.hid hb1.size
  have c0 := cellAt x1 0 rfl
  have f0 := freeAt x1 0
  have x2 := heapSet (o := 0) x1 (.slice (some ⟨kg, 0, none⟩) 32 kcap)
  have hrg := range_of (cs := [.slice (some ⟨kg, 0, none⟩) 32 kcap, .int .i64 s, .int .i64 t, .bool b0, .bool b1, .bool b2, .bool b3, .bool b4, .bool b5, .bool b6, .bool b7]) x2
  have y2 := (heapSet_ne 0 (.slice (some ⟨kg, 0, none⟩) 32 kcap) (w := w1) (b := w.heap.size) (k := w.heap.size + 1) (by omega)).trans y1
  have hth : (w1.setCell ⟨w.heap.size, 0, none⟩ (.slice (some ⟨kg, 0, none⟩) 32 kcap)).there (w.heap.size + 1) 0 11 := there_of y2 rfl
  have HTH := Lib.hid hth
  have Y2 := Lib.hid y2
  clear hok hb1 x1 y1 x2 y2 hth
  go_wp2_with (first
    | (refine wpList_load_mid rfl 42 (.tmp 1) rfl w.heap.size 0 rfl [.slice (some ⟨kg, 0, none⟩) 32 kcap, .int .i64 s, .int .i64 t, .bool b0, .bool b1, .bool b2, .bool b3, .bool b4, .bool b5, .bool b6, .bool b7] _ hrg Tryd.underlying42 rfl chanSz ?_)
    | (refine wpList_store_mid rfl 42 (.tmp 2) (.tmp 7) rfl (w.heap.size + 1) 0 #[.slice (some ⟨kg, 0, none⟩) 32 kcap, .int .i64 s, .int .i64 t, .bool b0, .bool b1, .bool b2, .bool b3, .bool b4, .bool b5, .bool b6, .bool b7] rfl rfl HTH.out chanSz (chanOne' _ _ _ _ _ _ _ _ _ _ _ O1.out.one) ?_))
  have hst := storedRow (vs := [.slice (some ⟨kg, 0, none⟩) 32 kcap, .int .i64 s, .int .i64 t, .bool b0, .bool b1, .bool b2, .bool b3, .bool b4, .bool b5, .bool b6, .bool b7]) Y2.out rfl
  have hl := run_loadVar_mid (P := Tryd.prog) _ (w.heap.size + 1) 0 42 _ _ (range_of hst) Tryd.underlying42 rfl chanSz
  refine bodyPost_ret (v := .agg #[.slice (some ⟨kg, 0, none⟩) 32 kcap, .int .i64 s, .int .i64 t, .bool b0, .bool b1, .bool b2, .bool b3, .bool b4, .bool b5, .bool b6, .bool b7]) (results_c Tryd.results30 rfl hl) rfl ⟨_, rfl, ?_, ?_⟩
  · refine (O1.out.ofHeap (fun k hk => ?_)).mono (by simp; omega)
    have hk2 := (O1.out.lt k hk).1
    simp at hk2
    rw [heap_setCells_ne (by omega), heapSet_ne _ _ (by omega)]
  · exact below_setCells (by omega) _ _ _ (B1.out.setCell (Nat.le_refl _) _)
theorem four4 (n : Nat) (hn : n ≤ 1073741824) (W : World) (x0 x1 x2 x3 : Int) (h0 : x0 = (n : Int) / 16777216) (h1 : x1 = (n : Int) / 65536 % 256) (h2 : x2 = (n : Int) / 256 % 256) (h3 : x3 = (n : Int) % 256) :
    Own (W.alloc (.cells #[.int .u8 x0, .int .u8 x1, .int .u8 x2, .int .u8 x3] 5)) W.heap.size (.slice (some ⟨W.heap.size, 0, none⟩) 4 4) [UInt8.ofNat (n / 16777216), UInt8.ofNat (n / 65536), UInt8.ofNat (n / 256), UInt8.ofNat n] := by
  have h := ownNew W W.heap.size [UInt8.ofNat (n / 16777216), UInt8.ofNat (n / 65536), UInt8.ofNat (n / 256), UInt8.ofNat n] 4 rfl (Nat.le_refl _) (by decide)
  have e0 : x0 = ((UInt8.ofNat (n / 16777216)).toNat : Int) := by rw [h0, UInt8.toNat_ofNat']; omega
  have e1 : x1 = ((UInt8.ofNat (n / 65536)).toNat : Int) := by rw [h1, UInt8.toNat_ofNat']; omega
  have e2 : x2 = ((UInt8.ofNat (n / 256)).toNat : Int) := by rw [h2, UInt8.toNat_ofNat']; omega
  have e3 : x3 = ((UInt8.ofNat n).toNat : Int) := by rw [h3, UInt8.toNat_ofNat']; omega
  rw [e0, e1, e2, e3]
  exact h
/-- four bytes of a number -/
def fourN (n : Nat) : List UInt8 := [UInt8.ofNat (n / 16777216), UInt8.ofNat (n / 65536), UInt8.ofNat (n / 256), UInt8.ofNat n]
set_option maxHeartbeats 1000000 in
theorem lineFour_any (n : Nat) (w : World) (hn : n ≤ 1073741824) :
    Calls Tryd.prog 27 #[.int .i64 n] w fun e w' => ∃ g, e = .returned (.slice (some ⟨g, 0, none⟩) 4 4) ∧ w.heap.size ≤ g ∧ Own w' w.heap.size (.slice (some ⟨g, 0, none⟩) 4 4) (fourN n) ∧ Below w.heap.size w w' := by
  go_enter Tryd.func27, Tryd.ntmps27
  go_wp2
  go_ret
  exact ⟨_, rfl, Nat.le_refl _, four4 n hn w _ _ _ _ (by first | rfl | omega) (by first | rfl | omega) (by first | rfl | omega) (by first | rfl | omega), (Below.refl _ _).alloc (Nat.le_refl _) _⟩
/-- a nonce: eight noughts and a head -/
def nonceN (h : List UInt8) : List UInt8 := List.replicate 8 0 ++ h
set_option maxHeartbeats 1000000 in
theorem lineNonce_any (v : Value) (l : List UInt8) (w : World) (hv : Rd w v l) (hl : l.length = 4) :
    Calls Tryd.prog 29 #[v] w (FreshB w (nonceN l)) := by
  obtain ⟨a, c, rfl, _, _⟩ := hv.sliceN 4 hl
  have HV := Lib.hid hv
  have HL := Lib.hid hl
  have hmk : ∀ W : World, (Instr.makeSlice 31 (.int .i64 8) (.int .i64 12)).run Tryd.prog W = .ok (.slice (some ⟨W.heap.size, 0, none⟩) 8 12) (W.alloc (.cells (Array.replicate 12 (.int .u8 0)) 5)) := fun _ => by kernel_rfl
  have ho : Own (w.alloc (.cells (Array.replicate 12 (.int .u8 0)) 5)) w.heap.size (.slice (some ⟨w.heap.size, 0, none⟩) 8 12) (List.replicate 8 0) :=
    ⟨by simp, .inr ⟨w.heap.size, 12, _, by simp, Nat.le_refl _, heapNew w _, by simp, by decide, by simp, rfl⟩⟩
  have HO := Lib.hid ho
  clear hv hl ho
  go_enter Tryd.func29, Tryd.ntmps29
  go_wp2_with (at_builtin; refine apB rfl (.tmp 3) (.tmp 4) rfl w.heap.size (.slice (some ⟨w.heap.size, 0, none⟩) 8 12) _ (List.replicate 8 0) l rfl HO.out rfl (HV.out.alloc _) (by rw [HL.out]; decide) (by simp) ?_; intro v2 w2 ho2 hg2; have O2 := Lib.hid ho2; have G2 := Lib.hid hg2; clear ho2 hg2)
  go_ret
  exact ⟨_, rfl, O2.out, ((Below.refl _ _).alloc (Nat.le_refl _) _).grown G2.out (by simp) (fun k hk => by injection hk with hk; subst hk; exact Nat.le_refl _)⟩
end Go.Proofs.YtpkfbmafbkgcmaaDoor
