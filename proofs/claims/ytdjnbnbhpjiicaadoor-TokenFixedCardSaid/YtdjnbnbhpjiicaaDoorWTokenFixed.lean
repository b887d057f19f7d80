/-
  The walk of conclavekeep.TokenFixed: what is proved is what granting makes: nothing else is.
-/
import Derived.Test.YtdjnbnbhpjiicaaDoorPrv
import Derived.Test.YtdjnbnbhpjiicaaDoorFilled
import Derived.Test.YtdjnbnbhpjiicaaDoorKnF
import Derived.Test.YtdjnbnbhpjiicaaDoorTokL
import Derived.Test.YtdjnbnbhpjiicaaDoorFrm
set_option linter.unusedVariables false
set_option linter.unusedSimpArgs false
namespace Go.Con
theorem body_raw (D : List UInt8) (h : D.length = 22) (hk : tokB (rawTok D) = true) : bodyB (rawTok D) = D.take 6 := by
  match D, h with
  | d0 :: d1 :: d2 :: d3 :: d4 :: d5 :: r, _ =>
    have h0 := d0.toNat_lt
    have h1 := d1.toNat_lt
    have h2 := d2.toNat_lt
    have h3 := d3.toNat_lt
    have h4 := d4.toNat_lt
    have h5 := d5.toNat_lt
    have e : rawTok (d0 :: d1 :: d2 :: d3 :: d4 :: d5 :: r) = ⟨d0.toNat, d1.toNat, ((d2.toNat * 16777216 + d3.toNat * 65536 + d4.toNat * 256 + d5.toNat : Nat) : Int)⟩ := rfl
    rw [e]
    have key : ∀ (x : UInt8) (n : Nat), n % 256 = x.toNat → UInt8.ofNat n = x := fun x n hn => by
      apply UInt8.toNat_inj.1; rw [UInt8.toNat_ofNat']; exact hn
    show [UInt8.ofNat (d0.toNat : Int).toNat, UInt8.ofNat (d1.toNat : Int).toNat] ++ fourB ((d2.toNat * 16777216 + d3.toNat * 65536 + d4.toNat * 256 + d5.toNat : Nat) : Int).toNat = [d0, d1, d2, d3, d4, d5]
    rw [Int.toNat_natCast, Int.toNat_natCast, Int.toNat_natCast]
    unfold fourB
    rw [key d0 _ (by omega), key d1 _ (by omega), key d2 _ (by omega), key d3 _ (by omega), key d4 _ (by omega), key d5 _ (by omega)]
    rfl
theorem grant_prove (K D : List UInt8) (h : D.length = 22) (h1 : proofB K (D.take 6) = D.drop 6) (h2 : tokB (rawTok D) = true) : tokenB K (rawTok D) = D := by
  unfold tokenB
  rw [body_raw D h h2, h1, List.take_append_drop]
end Go.Con
namespace Go.Proofs.YtdjnbnbhpjiicaaDoor
open Go.RowKit Go.Con
set_option maxRecDepth 100000 in
set_option maxHeartbeats 1000000 in
theorem tf_A (va : Value) (a : List UInt8) (vl : Value) (l : List UInt8) (w : World) (ha : Rd w va a) (hl : Rd w vl l) (hk : Kn w) (hc : (l.take 30).length ≠ 22) :
    Calls Tryd.prog 14 #[va, vl] w fun e w' => e = .returned (.bool true) ∧ Below w.heap.size w w' := by
  obtain ⟨aa, ca, rfl, hlca, hcma⟩ := ha.slice
  have R_a := Lib.hid ha
  clear ha
  obtain ⟨al, cl, rfl, hlcl, hcml⟩ := hl.slice
  have R_l := Lib.hid hl
  clear hl
  have HK := Lib.hid hk
  clear hk
  have HB0 := Lib.hid (Below.refl w.heap.size w)
  have s0 : w.heap.size ≤ w.heap.size := Nat.le_refl _
  obtain ⟨D, hD⟩ : ∃ D, D = l.take 30 := ⟨_, rfl⟩
  have hs := fun v w (h : Rd w v l) => some_any v l 30 w h (by decide)
  rw [← hD] at hs hc
  obtain ⟨K, hKe⟩ : ∃ K, K = fill a 32 := ⟨_, rfl⟩
  have hKl : K.length = 32 := by rw [hKe]; exact fill_length _ _
  have hfk := fun v w (h : Rd w v a) => filled_any v a 32 w h (by decide)
  rw [← hKe] at hfk
  have hpr := fun v1 v2 w h1 h2 h3 => Prove_any v1 v2 K D w h1 h2 hKl h3
  rw [show proveC K D = (Con.Tok.zero, 1) by unfold proveC; rw [if_pos hc]] at hpr
  obtain ⟨n, hn⟩ : ∃ n, D.length = n := ⟨_, rfl⟩
  have hnb : ((n : Int) == 22) = false := by rw [← hn]; simpa using (by omega : ((D.length : Nat) : Int) ≠ 22)
  unfold tokV Con.Tok.zero at hpr
  dsimp only at hpr
  have HS := Lib.hid hs
  have HKL := Lib.hid hKl
  have HFK := Lib.hid hfk
  have HPR := Lib.hid hpr
  have HN := Lib.hid hn
  clear hs hKl hfk hpr hn hc hD hKe
  go_enter Tryd.func14, Tryd.ntmps14
  go_wp2_with fail
  refine (HFK.out _ _ R_a.out).mono ?_
  rintro e w1 ⟨vk, rfl, hok, hb1⟩
  have T1 := Lib.hid hb1
  replace R_a := Lib.hid (R_a.out.stay T1.out)
  replace R_l := Lib.hid (R_l.out.stay T1.out)
  have HB1 := Lib.hid (HB0.out.trans (T1.out.mono s0))
  have s1 := HB1.out.size
  have R_k := Lib.hid hok.rd
  clear hb1 hok
  obtain ⟨kb, ko, kc, hvk, hkc, _⟩ := R_k.out.shapeN 32 HKL.out (by decide)
  subst hvk
  go_wp2_with fail
  refine (HS.out _ _ R_l.out).mono ?_
  rintro e w2 ⟨vd, rfl, hod, hb2⟩
  have T2 := Lib.hid hb2
  replace R_a := Lib.hid (R_a.out.stay T2.out)
  replace R_l := Lib.hid (R_l.out.stay T2.out)
  replace R_k := Lib.hid (R_k.out.stay T2.out)
  have HB2 := Lib.hid (HB1.out.trans (T2.out.mono s1))
  have s2 := HB2.out.size
  have R_d := Lib.hid hod.rd
  clear hb2 hod
  obtain ⟨da, dc, hvd, _, _⟩ := R_d.out.sliceN n HN.out
  subst hvd
  go_wp2_with fail
  refine (HPR.out _ _ _ R_k.out R_d.out (HK.out.stay HB2.out)).mono ?_
  rintro e w3 ⟨rfl, hb3⟩
  have T3 := Lib.hid hb3
  replace R_a := Lib.hid (R_a.out.stay T3.out)
  replace R_l := Lib.hid (R_l.out.stay T3.out)
  replace R_k := Lib.hid (R_k.out.stay T3.out)
  replace R_d := Lib.hid (R_d.out.stay T3.out)
  have HB3 := Lib.hid (HB2.out.trans (T3.out.mono s2))
  have s3 := HB3.out.size
  clear hb3
  go_wp2_with fail
  have hb4 : Below w3.heap.size w3 (w3.alloc (.cells #[.int .i64 0, .int .i64 0, .int .i64 0] 28)) := (Below.refl _ _).alloc (Nat.le_refl _) _
  have hx4 : (w3.alloc (.cells #[.int .i64 0, .int .i64 0, .int .i64 0] 28)).heap[w3.heap.size]? = some (.cells #[.int .i64 0, .int .i64 0, .int .i64 0] 28 (0, 0)) := heapNew w3 _
  generalize hW4 : w3.alloc (.cells #[.int .i64 0, .int .i64 0, .int .i64 0] 28) = w4 at hb4 hx4 ⊢
  clear hW4
  have T4 := Lib.hid hb4
  replace R_a := Lib.hid (R_a.out.stay T4.out)
  replace R_l := Lib.hid (R_l.out.stay T4.out)
  replace R_k := Lib.hid (R_k.out.stay T4.out)
  replace R_d := Lib.hid (R_d.out.stay T4.out)
  have HB4 := Lib.hid (HB3.out.trans (T4.out.mono s3))
  have s4 := HB4.out.size
  have X_t := Lib.hid hx4
  clear hb4 hx4
  refine (HS.out _ _ R_l.out).mono ?_
  rintro e w5 ⟨ve, rfl, hoe, hb5⟩
  have T5 := Lib.hid hb5
  replace R_a := Lib.hid (R_a.out.stay T5.out)
  replace R_l := Lib.hid (R_l.out.stay T5.out)
  replace R_k := Lib.hid (R_k.out.stay T5.out)
  replace R_d := Lib.hid (R_d.out.stay T5.out)
  replace X_t := Lib.hid ((T5.out.block _ (lt_of_heap X_t.out)).trans X_t.out)
  have HB5 := Lib.hid (HB4.out.trans (T5.out.mono s4))
  have s5 := HB5.out.size
  have R_e := Lib.hid hoe.rd
  clear hb5 hoe
  obtain ⟨ea, ec, hve, _, _⟩ := R_e.out.sliceN n HN.out
  subst hve
  go_wp2
  go_ret
  exact ⟨rfl, HB5.out⟩

set_option maxRecDepth 100000 in
set_option maxHeartbeats 1000000 in
theorem tf_B (va : Value) (a : List UInt8) (vl : Value) (l : List UInt8) (w : World) (ha : Rd w va a) (hl : Rd w vl l) (hk : Kn w) (hc : (l.take 30).length = 22) (hb : (proveC (fill a 32) (l.take 30)).2 ≠ 0) :
    Calls Tryd.prog 14 #[va, vl] w fun e w' => e = .returned (.bool true) ∧ Below w.heap.size w w' := by
  obtain ⟨aa, ca, rfl, hlca, hcma⟩ := ha.slice
  have R_a := Lib.hid ha
  clear ha
  obtain ⟨al, cl, rfl, hlcl, hcml⟩ := hl.slice
  have R_l := Lib.hid hl
  clear hl
  have HK := Lib.hid hk
  clear hk
  have HB0 := Lib.hid (Below.refl w.heap.size w)
  have s0 : w.heap.size ≤ w.heap.size := Nat.le_refl _
  obtain ⟨D, hD⟩ : ∃ D, D = l.take 30 := ⟨_, rfl⟩
  have hs := fun v w (h : Rd w v l) => some_any v l 30 w h (by decide)
  rw [← hD] at hs hc hb
  obtain ⟨K, hKe⟩ : ∃ K, K = fill a 32 := ⟨_, rfl⟩
  have hKl : K.length = 32 := by rw [hKe]; exact fill_length _ _
  have hfk := fun v w (h : Rd w v a) => filled_any v a 32 w h (by decide)
  rw [← hKe] at hfk hb
  have hpr := fun v1 v2 w h1 h2 h3 => Prove_any v1 v2 K D w h1 h2 hKl h3
  have hn := hc
  have hz : (proveC K D).1 = Con.Tok.zero := by
    unfold proveC at hb ⊢
    rw [if_neg (by rw [hc]; simp)] at hb ⊢
    split at hb <;> rename_i h1
    · rw [if_pos h1]
    · rw [if_neg h1]; split at hb <;> rename_i h2
      · exact absurd rfl hb
      · rw [if_neg h2]
  obtain ⟨q, hq⟩ : ∃ q, q = (proveC K D).2 := ⟨_, rfl⟩
  rw [hz, ← hq] at hpr
  rw [← hq] at hb
  have hqb : (q != 0) = true := by simpa using hb
  clear hz hq hb
  unfold tokV Con.Tok.zero at hpr
  dsimp only at hpr
  have HS := Lib.hid hs
  have HKL := Lib.hid hKl
  have HFK := Lib.hid hfk
  have HPR := Lib.hid hpr
  have HN := Lib.hid hn
  clear hs hKl hfk hpr hn hc hD hKe
  go_enter Tryd.func14, Tryd.ntmps14
  go_wp2_with fail
  refine (HFK.out _ _ R_a.out).mono ?_
  rintro e w1 ⟨vk, rfl, hok, hb1⟩
  have T1 := Lib.hid hb1
  replace R_a := Lib.hid (R_a.out.stay T1.out)
  replace R_l := Lib.hid (R_l.out.stay T1.out)
  have HB1 := Lib.hid (HB0.out.trans (T1.out.mono s0))
  have s1 := HB1.out.size
  have R_k := Lib.hid hok.rd
  clear hb1 hok
  obtain ⟨kb, ko, kc, hvk, hkc, _⟩ := R_k.out.shapeN 32 HKL.out (by decide)
  subst hvk
  go_wp2_with fail
  refine (HS.out _ _ R_l.out).mono ?_
  rintro e w2 ⟨vd, rfl, hod, hb2⟩
  have T2 := Lib.hid hb2
  replace R_a := Lib.hid (R_a.out.stay T2.out)
  replace R_l := Lib.hid (R_l.out.stay T2.out)
  replace R_k := Lib.hid (R_k.out.stay T2.out)
  have HB2 := Lib.hid (HB1.out.trans (T2.out.mono s1))
  have s2 := HB2.out.size
  have R_d := Lib.hid hod.rd
  clear hb2 hod
  obtain ⟨da, dc, hvd, _, _⟩ := R_d.out.sliceN 22 HN.out
  subst hvd
  go_wp2_with fail
  refine (HPR.out _ _ _ R_k.out R_d.out (HK.out.stay HB2.out)).mono ?_
  rintro e w3 ⟨rfl, hb3⟩
  have T3 := Lib.hid hb3
  replace R_a := Lib.hid (R_a.out.stay T3.out)
  replace R_l := Lib.hid (R_l.out.stay T3.out)
  replace R_k := Lib.hid (R_k.out.stay T3.out)
  replace R_d := Lib.hid (R_d.out.stay T3.out)
  have HB3 := Lib.hid (HB2.out.trans (T3.out.mono s2))
  have s3 := HB3.out.size
  clear hb3
  go_wp2_with fail
  have hb4 : Below w3.heap.size w3 (w3.alloc (.cells #[.int .i64 0, .int .i64 0, .int .i64 0] 28)) := (Below.refl _ _).alloc (Nat.le_refl _) _
  have hx4 : (w3.alloc (.cells #[.int .i64 0, .int .i64 0, .int .i64 0] 28)).heap[w3.heap.size]? = some (.cells #[.int .i64 0, .int .i64 0, .int .i64 0] 28 (0, 0)) := heapNew w3 _
  generalize hW4 : w3.alloc (.cells #[.int .i64 0, .int .i64 0, .int .i64 0] 28) = w4 at hb4 hx4 ⊢
  clear hW4
  have T4 := Lib.hid hb4
  replace R_a := Lib.hid (R_a.out.stay T4.out)
  replace R_l := Lib.hid (R_l.out.stay T4.out)
  replace R_k := Lib.hid (R_k.out.stay T4.out)
  replace R_d := Lib.hid (R_d.out.stay T4.out)
  have HB4 := Lib.hid (HB3.out.trans (T4.out.mono s3))
  have s4 := HB4.out.size
  have X_t := Lib.hid hx4
  clear hb4 hx4
  refine (HS.out _ _ R_l.out).mono ?_
  rintro e w5 ⟨ve, rfl, hoe, hb5⟩
  have T5 := Lib.hid hb5
  replace R_a := Lib.hid (R_a.out.stay T5.out)
  replace R_l := Lib.hid (R_l.out.stay T5.out)
  replace R_k := Lib.hid (R_k.out.stay T5.out)
  replace R_d := Lib.hid (R_d.out.stay T5.out)
  replace X_t := Lib.hid ((T5.out.block _ (lt_of_heap X_t.out)).trans X_t.out)
  have HB5 := Lib.hid (HB4.out.trans (T5.out.mono s4))
  have s5 := HB5.out.size
  have R_e := Lib.hid hoe.rd
  clear hb5 hoe
  obtain ⟨ea, ec, hve, _, _⟩ := R_e.out.sliceN 22 HN.out
  subst hve
  go_wp2
  go_ret
  exact ⟨rfl, HB5.out⟩

set_option maxRecDepth 100000 in
set_option maxHeartbeats 1000000 in
theorem tf_C (va : Value) (a : List UInt8) (vl : Value) (l : List UInt8) (w : World) (ha : Rd w va a) (hl : Rd w vl l) (hk : Kn w) (hc : (l.take 30).length = 22) (hb : (proveC (fill a 32) (l.take 30)).2 = 0) :
    Calls Tryd.prog 14 #[va, vl] w fun e w' => e = .returned (.bool true) ∧ Below w.heap.size w w' := by
  obtain ⟨aa, ca, rfl, hlca, hcma⟩ := ha.slice
  have R_a := Lib.hid ha
  clear ha
  obtain ⟨al, cl, rfl, hlcl, hcml⟩ := hl.slice
  have R_l := Lib.hid hl
  clear hl
  have HK := Lib.hid hk
  clear hk
  have HB0 := Lib.hid (Below.refl w.heap.size w)
  have s0 : w.heap.size ≤ w.heap.size := Nat.le_refl _
  obtain ⟨D, hD⟩ : ∃ D, D = l.take 30 := ⟨_, rfl⟩
  have hs := fun v w (h : Rd w v l) => some_any v l 30 w h (by decide)
  rw [← hD] at hs hc hb
  obtain ⟨K, hKe⟩ : ∃ K, K = fill a 32 := ⟨_, rfl⟩
  have hKl : K.length = 32 := by rw [hKe]; exact fill_length _ _
  have hfk := fun v w (h : Rd w v a) => filled_any v a 32 w h (by decide)
  rw [← hKe] at hfk hb
  have hpr := fun v1 v2 w h1 h2 h3 => Prove_any v1 v2 K D w h1 h2 hKl h3
  have hn := hc
  have h1 : proofB K (D.take 6) = D.drop 6 ∧ tokB (rawTok D) = true := by
    unfold proveC at hb
    rw [if_neg (by rw [hc]; simp)] at hb
    split at hb <;> rename_i h1
    · exact absurd hb (by decide)
    · split at hb <;> rename_i h2
      · exact ⟨Classical.not_not.1 h1, h2⟩
      · exact absurd hb (by decide)
  have hlD : l = D := by
    rw [hD, List.length_take] at hc
    rw [hD, List.take_of_length_le (by omega)]
  have hgp := grant_prove K D hc h1.1 h1.2
  have htk := tokB_ok h1.2
  rw [show proveC K D = (rawTok D, 0) by unfold proveC; rw [if_neg (by rw [hc]; simp), if_neg (fun h => h h1.1), if_pos h1.2]] at hpr
  obtain ⟨⟨tc, tr, tu⟩, ht⟩ : ∃ t, rawTok D = t := ⟨_, rfl⟩
  rw [ht] at hgp htk hpr
  have hgr := fun v w h1 h2 => Grant_ok v K ⟨tc, tr, tu⟩ w h1 hKl htk h2
  rw [hgp] at hgr
  unfold tokV at hgr
  dsimp only at hgr
  have HGR := Lib.hid hgr
  have HLD := Lib.hid hlD
  clear h1 hlD hgp htk ht hgr hb
  unfold tokV at hpr
  dsimp only at hpr
  have HS := Lib.hid hs
  have HKL := Lib.hid hKl
  have HFK := Lib.hid hfk
  have HPR := Lib.hid hpr
  have HN := Lib.hid hn
  clear hs hKl hfk hpr hn hc hD hKe
  go_enter Tryd.func14, Tryd.ntmps14
  go_wp2_with fail
  refine (HFK.out _ _ R_a.out).mono ?_
  rintro e w1 ⟨vk, rfl, hok, hb1⟩
  have T1 := Lib.hid hb1
  replace R_a := Lib.hid (R_a.out.stay T1.out)
  replace R_l := Lib.hid (R_l.out.stay T1.out)
  have HB1 := Lib.hid (HB0.out.trans (T1.out.mono s0))
  have s1 := HB1.out.size
  have R_k := Lib.hid hok.rd
  clear hb1 hok
  obtain ⟨kb, ko, kc, hvk, hkc, _⟩ := R_k.out.shapeN 32 HKL.out (by decide)
  subst hvk
  go_wp2_with fail
  refine (HS.out _ _ R_l.out).mono ?_
  rintro e w2 ⟨vd, rfl, hod, hb2⟩
  have T2 := Lib.hid hb2
  replace R_a := Lib.hid (R_a.out.stay T2.out)
  replace R_l := Lib.hid (R_l.out.stay T2.out)
  replace R_k := Lib.hid (R_k.out.stay T2.out)
  have HB2 := Lib.hid (HB1.out.trans (T2.out.mono s1))
  have s2 := HB2.out.size
  have R_d := Lib.hid hod.rd
  clear hb2 hod
  obtain ⟨da, dc, hvd, _, _⟩ := R_d.out.sliceN 22 HN.out
  subst hvd
  go_wp2_with fail
  refine (HPR.out _ _ _ R_k.out R_d.out (HK.out.stay HB2.out)).mono ?_
  rintro e w3 ⟨rfl, hb3⟩
  have T3 := Lib.hid hb3
  replace R_a := Lib.hid (R_a.out.stay T3.out)
  replace R_l := Lib.hid (R_l.out.stay T3.out)
  replace R_k := Lib.hid (R_k.out.stay T3.out)
  replace R_d := Lib.hid (R_d.out.stay T3.out)
  have HB3 := Lib.hid (HB2.out.trans (T3.out.mono s2))
  have s3 := HB3.out.size
  clear hb3
  go_wp2_with fail
  have hb4 : Below w3.heap.size w3 (w3.alloc (.cells #[.int .i64 tc, .int .i64 tr, .int .i64 tu] 28)) := (Below.refl _ _).alloc (Nat.le_refl _) _
  have hx4 : (w3.alloc (.cells #[.int .i64 tc, .int .i64 tr, .int .i64 tu] 28)).heap[w3.heap.size]? = some (.cells #[.int .i64 tc, .int .i64 tr, .int .i64 tu] 28 (0, 0)) := heapNew w3 _
  generalize hW4 : w3.alloc (.cells #[.int .i64 tc, .int .i64 tr, .int .i64 tu] 28) = w4 at hb4 hx4 ⊢
  clear hW4
  have T4 := Lib.hid hb4
  replace R_a := Lib.hid (R_a.out.stay T4.out)
  replace R_l := Lib.hid (R_l.out.stay T4.out)
  replace R_k := Lib.hid (R_k.out.stay T4.out)
  replace R_d := Lib.hid (R_d.out.stay T4.out)
  have HB4 := Lib.hid (HB3.out.trans (T4.out.mono s3))
  have s4 := HB4.out.size
  have X_t := Lib.hid hx4
  clear hb4 hx4
  refine (HGR.out _ _ R_k.out (HK.out.stay HB4.out)).mono ?_
  rintro e w5 ⟨vb, rfl, hob, hb5⟩
  have T5 := Lib.hid hb5
  replace R_a := Lib.hid (R_a.out.stay T5.out)
  replace R_l := Lib.hid (R_l.out.stay T5.out)
  replace R_k := Lib.hid (R_k.out.stay T5.out)
  replace R_d := Lib.hid (R_d.out.stay T5.out)
  replace X_t := Lib.hid ((T5.out.block _ (lt_of_heap X_t.out)).trans X_t.out)
  have HB5 := Lib.hid (HB4.out.trans (T5.out.mono s4))
  have s5 := HB5.out.size
  have R_b := Lib.hid hob.rd
  clear hb5 hob
  go_wp2_with fail
  refine (same_true _ _ D l _ R_b.out R_l.out HLD.out.symm).mono ?_
  rintro e _ ⟨rfl, rfl⟩
  go_wp2
  go_ret
  exact ⟨rfl, HB5.out⟩

theorem walk_TokenFixed (va : Value) (a : List UInt8) (vl : Value) (l : List UInt8) (w : World) (ha : Rd w va a) (hl : Rd w vl l) (hk : Kn w) :
    Calls Tryd.prog 14 #[va, vl] w fun e w' => e = .returned (.bool true) ∧ Below w.heap.size w w' := by
  by_cases hc : (l.take 30).length = 22
  · by_cases hb : (proveC (fill a 32) (l.take 30)).2 = 0
    · exact tf_C va a vl l w ha hl hk hc hb
    · exact tf_B va a vl l w ha hl hk hc hb
  · exact tf_A va a vl l w ha hl hk hc
end Go.Proofs.YtdjnbnbhpjiicaaDoor
