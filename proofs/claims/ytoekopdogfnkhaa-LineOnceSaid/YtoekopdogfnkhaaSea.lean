/-
  The walks of seal: padded, length, tag, check, Seal.
-/
import Derived.Test.YtoekopdogfnkhaaSeaP
import Derived.Test.YtoekopdogfnkhaaTag
import Derived.Test.YtoekopdogfnkhaaApZ
import Derived.Test.YtoekopdogfnkhaaShaSame
set_option linter.unusedVariables false
set_option linter.unusedSimpArgs false
namespace Go.Proofs.Ytoekopdogfnkhaa
open Go.RowKit Go.Con
set_option maxHeartbeats 1000000 in
theorem padded_any (v : Value) (l : List UInt8) (w : World) (hv : Rd w v l) (hl : l.length ≤ 1099511627776) :
    Calls Try.prog 29 #[v] w (FreshB w (Sea.pad l)) := by
  obtain ⟨n, hn⟩ : ∃ n, l.length = n := ⟨_, rfl⟩
  obtain ⟨a, c, rfl, _, _⟩ := hv.sliceN n hn
  have hnl : n ≤ 1099511627776 := by omega
  have HV := Lib.hid hv
  have HN := Lib.hid hn
  clear hv hl hn
  go_enter Try.func29, Try.ntmps29
  go_wp2_with (first
    | (at_builtin; refine apB rfl (.const (.slice none 0 0)) (.tmp 3) rfl w.heap.size _ _ [] l rfl (Own.nil _ _) rfl HV.out (by rw [HN.out]; simp; omega) (Nat.le_refl _) ?_; intro v2 w2 ho2 hg2; have O2 := Lib.hid ho2; have G2 := Lib.hid hg2; clear ho2 hg2)
    | (at_builtin; refine apZ rfl (.tmp 4) (.tmp 9) rfl w.heap.size _ _ rfl O2.out ((16 - n % 16) % 16) _ rfl (by omega) (by rw [List.nil_append, HN.out]; omega) G2.out.size ?_; intro v3 w3 ho3 hg3; have O3 := Lib.hid ho3; have G3 := Lib.hid hg3; clear ho3 hg3))
  go_ret
  refine ⟨_, rfl, ?_, ((Below.refl w.heap.size w).grown G2.out (Nat.le_refl _) (fun k hk => by cases hk)).grown G3.out G2.out.size (fun k hk => (O2.out.lt k hk).1)⟩
  have h := O3.out
  rw [List.nil_append, ← HN.out] at h
  exact h
theorem byteShift (n k j : Nat) (hj : j = 8 * k) : (n : Int) / 2 ^ j % 256 = ((UInt8.ofNat (n / 256 ^ k)).toNat : Int) := by
  subst hj
  rw [UInt8.toNat_ofNat', show (256 : Nat) = 2 ^ 8 from rfl, ← Nat.pow_mul]
  rw [show ((2 : Int) ^ (8 * k)) = ((2 ^ (8 * k) : Nat) : Int) by rw [Int.natCast_pow]; rfl]
  omega
set_option maxHeartbeats 1000000 in
theorem length_any (n : Nat) (w : World) (hn : n ≤ 1099511627776) :
    Calls Try.prog 30 #[.int .i64 n] w (FreshB w (Pol.leB 8 n)) := by
  go_enter Try.func30, Try.ntmps30
  go_wp2
  go_loopw [3, 4] (fun v i wr => ∃ k j : Nat, k ≤ 8 ∧ Hid (j = 8 * k) ∧ j ≤ 64 ∧ i = .int .i64 j ∧ Own wr w.heap.size v (Pol.leB k n) ∧ Below w.heap.size w wr) (fun _ i _ => 72 - (intOf i).toNat)
  case atStart => exact ⟨0, 0, by omega, Lib.hid rfl, by omega, rfl, Own.nil _ _, Below.refl _ _⟩
  case round =>
    obtain ⟨k, j, hk, HJ, hj, rfl, ho, hb⟩ := hrel
    have HO := Lib.hid ho
    have HB := Lib.hid hb
    clear ho hb
    by_cases hlt : j < 64
    · have hd : decide ((j : Int) < 64) = true := by rw [decide_eq_true_eq]; omega
      have hk8 : k < 8 := by have := HJ.out; omega
      go_wp2_with (at_builtin; refine apB rfl (.tmp 9) (.tmp 14) rfl w.heap.size _ _ (Pol.leB k n) [UInt8.ofNat (n / 256 ^ k)] rfl (HO.out.alloc _) rfl (newB _ _ _ (byteShift n k j HJ.out)) (by rw [Pol.leB_length]; simp; omega) (by have := HB.out.size; simp; omega) ?_; intro v3 w3 ho3 hg3; have O3 := Lib.hid ho3; have G3 := Lib.hid hg3; clear ho3 hg3)
      go_roundw
      case rel =>
        refine ⟨k + 1, j + 8, by omega, Lib.hid (by rw [HJ.out]; omega), by have := HJ.out; omega, by go_num, ?_, (HB.out.alloc HB.out.size _).grown G3.out (by have := HB.out.size; simp; omega) (fun i hi => (HO.out.lt i hi).1)⟩
        rw [Pol.leB_more]; exact O3.out
      case measure => simp [intOf]; omega
    · have hd : decide ((j : Int) < 64) = false := by rw [decide_eq_false_iff_not]; omega
      have hk8 : k = 8 := by have := HJ.out; omega
      rw [hk8] at HO
      clear hk8
      go_wp2_with fail
      go_ret
      exact ⟨_, rfl, HO.out, HB.out⟩
set_option maxRecDepth 100000 in
set_option maxHeartbeats 2000000 in
theorem sealTag_any (kv nv av sv : Value) (key nonce known sealed : List UInt8) (w : World) (hk : Rd w kv key) (hn : Rd w nv nonce) (ha : Rd w av known) (hs : Rd w sv sealed) (hkl : key.length = 32) (hnl : nonce.length = 12) (hal : known.length ≤ 256) (hsl : sealed.length ≤ 2000) :
    Calls Try.prog 26 #[kv, nv, av, sv] w (FreshB w (Sea.tag key nonce known sealed)) := by
  obtain ⟨B, hB⟩ : ∃ B, B = Cha.block key (UInt32.ofNat 0) nonce := ⟨_, rfl⟩
  have hBl : B.length = 64 := by rw [hB]; exact Cha.block_length _ _ _
  have hblk := fun kv nv w h1 h2 => Block_nat kv nv key nonce 0 0 w h1 h2 hkl hnl (by decide) rfl
  rw [← hB] at hblk
  obtain ⟨p, hp⟩ : ∃ p, p = Sea.pad known := ⟨_, rfl⟩
  obtain ⟨q, hq⟩ : ∃ q, q = Sea.pad sealed := ⟨_, rfl⟩
  have hpl : p.length ≤ 300 := by rw [hp, Sea.pad_length]; omega
  have hql : q.length ≤ 2100 := by rw [hq, Sea.pad_length]; omega
  have hpa := fun v w h => padded_any v known w h (by omega)
  have hpb := fun v w h => padded_any v sealed w h (by omega)
  rw [← hp] at hpa
  rw [← hq] at hpb
  have htag : Sea.tag key nonce known sealed = Pol.tag (B.take 32) (((p ++ q) ++ Pol.leB 8 known.length) ++ Pol.leB 8 sealed.length) := by rw [hB, hp, hq]; rfl
  obtain ⟨n, hn2⟩ : ∃ n, known.length = n := ⟨_, rfl⟩
  obtain ⟨m, hm⟩ : ∃ m, sealed.length = m := ⟨_, rfl⟩
  rw [hn2, hm] at htag
  obtain ⟨aa, ac, rfl, _, _⟩ := ha.sliceN n hn2
  obtain ⟨sa, sc, rfl, _, _⟩ := hs.sliceN m hm
  have hnl2 : n ≤ 256 := by omega
  have hml2 : m ≤ 2000 := by omega
  obtain ⟨ka, kc, rfl, _, _⟩ := hk.sliceN 32 hkl
  obtain ⟨na, nc, rfl, _, _⟩ := hn.sliceN 12 hnl
  have R_k := Lib.hid hk
  have R_n := Lib.hid hn
  have R_a := Lib.hid ha
  have R_s := Lib.hid hs
  have HBL := Lib.hid hBl
  have HBLK := Lib.hid hblk
  have HPL := Lib.hid hpl
  have HQL := Lib.hid hql
  have HPA := Lib.hid hpa
  have HPB := Lib.hid hpb
  have HTAG := Lib.hid htag
  clear hk hn ha hs hkl hnl hal hsl hB hBl hblk hp hq hpl hql hpa hpb htag hn2 hm
  go_enter Try.func26, Try.ntmps26
  go_wp2_with fail
  refine (HBLK.out _ _ _ R_k.out R_n.out).mono ?_
  rintro e w1 ⟨vb, rfl, hob, hb1⟩
  obtain ⟨bb, bo, bc, hvb, hbc, hbcm⟩ := hob.rd.shapeN 64 HBL.out (by decide)
  subst hvb
  have T1 := Lib.hid hb1
  have R_b := Lib.hid hob.rd
  have hbc32 : (32 : Int) ≤ (bc : Int) := by omega
  clear hob hb1
  go_wp2_with fail
  refine (HPA.out _ _ (R_a.out.stay T1.out)).mono ?_
  rintro e w2 ⟨v2, rfl, ho2, hb2⟩
  have U2 := Lib.hid hb2
  have O2 := Lib.hid ho2
  clear ho2 hb2
  go_wp2_with fail
  refine (HPB.out _ _ (R_s.out.stay (T1.out.trans (U2.out.mono T1.out.size)))).mono ?_
  rintro e w3 ⟨v3, rfl, ho3, hb3⟩
  have U3 := Lib.hid (U2.out.trans (hb3.mono U2.out.size))
  have O2b := Lib.hid (O2.out.below hb3 (fun k hk => (O2.out.lt k hk).2))
  have O3 := Lib.hid ho3
  clear hb3 ho3
  go_wp2_with (at_builtin; refine apB rfl (.tmp 21) (.tmp 23) rfl w1.heap.size _ _ p q rfl O2b.out rfl O3.out.rd (by have := HPL.out; have := HQL.out; omega) U3.out.size ?_; intro v4 w4 ho4 hg4; have O4 := Lib.hid ho4; have G4 := Lib.hid hg4; clear ho4 hg4)
  have U4 := Lib.hid (U3.out.grown G4.out U3.out.size (fun k hk => (O2b.out.lt k hk).1))
  refine (length_any n _ (by omega)).mono ?_
  rintro e w5 ⟨v5, rfl, ho5, hb5⟩
  have U5 := Lib.hid (U4.out.trans (hb5.mono U4.out.size))
  have O4b := Lib.hid (O4.out.below hb5 (fun k hk => (O4.out.lt k hk).2))
  have O5 := Lib.hid ho5
  clear hb5 ho5
  go_wp2_with (at_builtin; refine apB rfl (.tmp 25) (.tmp 28) rfl w1.heap.size _ _ (p ++ q) _ rfl O4b.out rfl O5.out.rd (by have := HPL.out; have := HQL.out; rw [List.length_append, Pol.leB_length]; omega) U5.out.size ?_; intro v6 w6 ho6 hg6; have O6 := Lib.hid ho6; have G6 := Lib.hid hg6; clear ho6 hg6)
  have U6 := Lib.hid (U5.out.grown G6.out U5.out.size (fun k hk => (O4b.out.lt k hk).1))
  refine (length_any m _ (by omega)).mono ?_
  rintro e w7 ⟨v7, rfl, ho7, hb7⟩
  have U7 := Lib.hid (U6.out.trans (hb7.mono U6.out.size))
  have O6b := Lib.hid (O6.out.below hb7 (fun k hk => (O6.out.lt k hk).2))
  have O7 := Lib.hid ho7
  clear hb7 ho7
  go_wp2_with (at_builtin; refine apB rfl (.tmp 29) (.tmp 32) rfl w1.heap.size _ _ ((p ++ q) ++ Pol.leB 8 n) _ rfl O6b.out rfl O7.out.rd (by have := HPL.out; have := HQL.out; rw [List.length_append, List.length_append, Pol.leB_length, Pol.leB_length]; omega) U7.out.size ?_; intro v8 w8 ho8 hg8; have O8 := Lib.hid ho8; have G8 := Lib.hid hg8; clear ho8 hg8)
  have U8 := Lib.hid (U7.out.grown G8.out U7.out.size (fun k hk => (O6b.out.lt k hk).1))
  refine (Tag_ok _ _ (B.take 32) _ _ ((R_b.out.stay U8.out).pre 32 (by rw [HBL.out]; decide)) O8.out.rd (by rw [List.length_take, HBL.out]; rfl) (by have := HPL.out; have := HQL.out; simp only [List.length_append, Pol.leB_length]; omega)).mono ?_
  rintro e w9 ⟨v9, rfl, ho9, hb9⟩
  rw [← HTAG.out] at ho9
  have O9 := Lib.hid ho9
  have U9 := Lib.hid (U8.out.trans (hb9.mono U8.out.size))
  clear hb9 ho9
  go_wp2_with fail
  go_ret
  exact ⟨_, rfl, O9.out.mono (Nat.le_trans T1.out.size U8.out.size), T1.out.trans (U9.out.mono T1.out.size)⟩
/-- Sizes that may be. -/
theorem sealCheck_ok (ka na aa sa : Option Addr) (kc nc ac sc n m most : Nat) (w : World) (hn : n ≤ 256) (hm : m ≤ most) :
    Calls Try.prog 24 #[.slice ka 32 kc, .slice na 12 nc, .slice aa n ac, .slice sa m sc, .int .i64 most] w fun e w' => e = .returned (.int .i64 0) ∧ w = w' := by
  have h1 : decide ((256 : Int) < (n : Int)) = false := by rw [decide_eq_false_iff_not]; omega
  have h2 : decide ((most : Int) < (m : Int)) = false := by rw [decide_eq_false_iff_not]; omega
  have h2' : decide (most < m) = false := by rw [decide_eq_false_iff_not]; omega
  go_enter Try.func24, Try.ntmps24
  go_wp2
  go_ret
  exact ⟨rfl, rfl⟩
/-- Sizes that may not be. -/
theorem sealCheck_bad (ka na aa sa : Option Addr) (kl nl kc nc ac sc n m most : Nat) (w : World) (h : kl ≠ 32 ∨ nl ≠ 12 ∨ 256 < n ∨ most < m) :
    Calls Try.prog 24 #[.slice ka kl kc, .slice na nl nc, .slice aa n ac, .slice sa m sc, .int .i64 most] w fun e w' => e = .returned (.int .i64 1) ∧ w = w' := by
  by_cases h1 : kl = 32
  · by_cases h2 : nl = 12
    · by_cases h3 : 256 < n
      · have h3' : decide ((256 : Int) < (n : Int)) = true := by rw [decide_eq_true_eq]; omega
        subst h1 h2
        go_enter Try.func24, Try.ntmps24
        go_wp2
        go_ret
        exact ⟨rfl, rfl⟩
      · have h4 : most < m := by omega
        have h3' : decide ((256 : Int) < (n : Int)) = false := by rw [decide_eq_false_iff_not]; omega
        have h4' : decide (most < m) = true := by rw [decide_eq_true_eq]; exact h4
        subst h1 h2
        clear h
        go_enter Try.func24, Try.ntmps24
        go_wp2
        go_ret
        exact ⟨rfl, rfl⟩
    · have h2' : ((nl : Int) != 12) = true := by rw [bne_iff_ne]; omega
      have h2'' : ((nl : Int) == 12) = false := by rw [beq_eq_false_iff_ne]; omega
      subst h1
      clear h
      go_enter Try.func24, Try.ntmps24
      go_wp2
      go_ret
      exact ⟨rfl, rfl⟩
  · have h1' : ((kl : Int) != 32) = true := by rw [bne_iff_ne]; omega
    have h1'' : ((kl : Int) == 32) = false := by rw [beq_eq_false_iff_ne]; omega
    clear h
    go_enter Try.func24, Try.ntmps24
    go_wp2
    go_ret
    exact ⟨rfl, rfl⟩
set_option maxRecDepth 100000 in
set_option maxHeartbeats 2000000 in
theorem Seal_ok (kv nv av pv : Value) (key nonce known plain : List UInt8) (w : World) (hk : Rd w kv key) (hn : Rd w nv nonce) (ha : Rd w av known) (hp : Rd w pv plain) (hkl : key.length = 32) (hnl : nonce.length = 12) (hal : known.length ≤ 256) (hpl : plain.length ≤ 2000) :
    Calls Try.prog 22 #[kv, nv, av, pv] w (FreshBE w (Sea.boxed key nonce known plain) 0) := by
  obtain ⟨X, hX⟩ : ∃ X, X = Cha.mix key 1 nonce plain := ⟨_, rfl⟩
  have hXl : X.length = plain.length := by rw [hX]; exact Cha.mix_length _ _ _ _
  have hbox : Sea.boxed key nonce known plain = X ++ Sea.tag key nonce known X := by rw [hX]; rfl
  have hmix := fun kv nv pv w h1 h2 h3 => Mix_nat kv nv pv key nonce plain 1 1 w h1 h2 h3 hkl hnl (by decide) hpl rfl
  rw [← hX] at hmix
  have htag := fun kv nv av sv w h1 h2 h3 h4 => sealTag_any kv nv av sv key nonce known X w h1 h2 h3 h4 hkl hnl hal (by omega)
  obtain ⟨n, hn2⟩ : ∃ n, known.length = n := ⟨_, rfl⟩
  obtain ⟨m, hm⟩ : ∃ m, plain.length = m := ⟨_, rfl⟩
  obtain ⟨aa, ac, rfl, _, _⟩ := ha.sliceN n hn2
  obtain ⟨pa, pc, rfl, _, _⟩ := hp.sliceN m hm
  have hnl2 : n ≤ 256 := by omega
  have hml2 : m ≤ 2000 := by omega
  obtain ⟨ka, kc, rfl, _, _⟩ := hk.sliceN 32 hkl
  obtain ⟨na, nc, rfl, _, _⟩ := hn.sliceN 12 hnl
  have R_k := Lib.hid hk
  have R_n := Lib.hid hn
  have R_a := Lib.hid ha
  have R_p := Lib.hid hp
  have HXL := Lib.hid (show X.length ≤ 2000 by omega)
  have HBOX := Lib.hid hbox
  have HMIX := Lib.hid hmix
  have HTAG := Lib.hid htag
  clear hk hn ha hp hkl hnl hal hpl hX hXl hbox hmix htag hn2 hm
  go_enter Try.func22, Try.ntmps22
  go_wp2_with fail
  refine (sealCheck_ok _ _ _ _ _ _ _ _ n m 2000 _ (by omega) (by omega)).mono ?_
  rintro e _ ⟨rfl, rfl⟩
  go_wp2_with fail
  refine (HMIX.out _ _ _ _ R_k.out R_n.out R_p.out).mono ?_
  rintro e w1 ⟨v1, rfl, ho1, hb1⟩
  have T1 := Lib.hid hb1
  have O1 := Lib.hid ho1
  clear hb1 ho1
  go_wp2_with fail
  refine (HTAG.out _ _ _ _ _ (R_k.out.stay T1.out) (R_n.out.stay T1.out) (R_a.out.stay T1.out) O1.out.rd).mono ?_
  rintro e w2 ⟨v2, rfl, ho2, hb2⟩
  have T2 := Lib.hid (T1.out.trans (hb2.mono T1.out.size))
  have O1b := Lib.hid (O1.out.below hb2 (fun k hk => (O1.out.lt k hk).2))
  have O2 := Lib.hid ho2
  clear hb2 ho2
  go_wp2_with (at_builtin; refine apB rfl (.tmp 28) (.tmp 33) rfl w.heap.size _ _ X _ rfl O1b.out rfl O2.out.rd (by have := HXL.out; rw [Sea.tag_length]; omega) T2.out.size ?_; intro v3 w3 ho3 hg3; have O3 := Lib.hid ho3; have G3 := Lib.hid hg3; clear ho3 hg3)
  have h3 := O3.out
  rw [← HBOX.out] at h3
  go_ret2
  exact ⟨_, rfl, h3, T2.out.grown G3.out T2.out.size (fun k hk => (O1b.out.lt k hk).1)⟩
set_option maxHeartbeats 1000000 in
theorem Seal_bad (ka na aa sa : Option Addr) (kl nl kc nc ac sc n m : Nat) (w : World) (h : kl ≠ 32 ∨ nl ≠ 12 ∨ 256 < n ∨ 2000 < m) :
    Calls Try.prog 22 #[.slice ka kl kc, .slice na nl nc, .slice aa n ac, .slice sa m sc] w fun e w' => e = .returned (.tuple #[.slice none 0 0, .int .i64 1]) ∧ w = w' := by
  have hc := fun w => sealCheck_bad ka na aa sa kl nl kc nc ac sc n m 2000 w h
  have HC := Lib.hid hc
  clear hc h
  go_enter Try.func22, Try.ntmps22
  go_wp2_with fail
  refine (HC.out _).mono ?_
  rintro e _ ⟨rfl, rfl⟩
  go_wp2
  go_ret2
  exact ⟨rfl, rfl⟩
end Go.Proofs.Ytoekopdogfnkhaa
