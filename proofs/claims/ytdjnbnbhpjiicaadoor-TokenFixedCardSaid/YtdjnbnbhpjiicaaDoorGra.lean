/-
  The walks of order.proof, Grant and Prove: a token's bytes.
-/
import Derived.Test.YtdjnbnbhpjiicaaDoorAlw
import Derived.Test.YtdjnbnbhpjiicaaDoorOrdE
import Derived.Test.YtdjnbnbhpjiicaaDoorShaMac
import Derived.Test.YtdjnbnbhpjiicaaDoorShaSame
import Derived.Test.YtdjnbnbhpjiicaaDoorTail
import Derived.Test.YtdjnbnbhpjiicaaDoorB64
set_option linter.unusedVariables false
set_option linter.unusedSimpArgs false
namespace Go.Con
/-- the first six bytes of a token -/
def bodyB (t : Tok) : List UInt8 := [UInt8.ofNat t.client.toNat, UInt8.ofNat t.rights.toNat] ++ fourB t.til.toNat
theorem bodyB_length (t : Tok) : (bodyB t).length = 6 := rfl
def proofB (key body : List UInt8) : List UInt8 := (Sha.mac key body).take 16
theorem proofB_length (key body : List UInt8) : (proofB key body).length = 16 := by rw [proofB, List.length_take, Sha.mac_length]; rfl
/-- a token's bytes -/
def tokenB (key : List UInt8) (t : Tok) : List UInt8 := bodyB t ++ proofB key (bodyB t)
theorem tokenB_length (key : List UInt8) (t : Tok) : (tokenB key t).length = 22 := by rw [tokenB, List.length_append, bodyB_length, proofB_length]
/-- what six bytes say -/
def rawTok (l : List UInt8) : Tok := ⟨(l.getD 0 0).toNat, (l.getD 1 0).toNat, (((l.getD 2 0).toNat * 16777216 + (l.getD 3 0).toNat * 65536 + (l.getD 4 0).toNat * 256 + (l.getD 5 0).toNat : Nat) : Int)⟩
/-- what is proved of bytes, with 32 bytes of a key -/
def proveC (key l : List UInt8) : Tok × Int :=
  if l.length ≠ 22 then (Tok.zero, 1) else if proofB key (l.take 6) ≠ l.drop 6 then (Tok.zero, 6) else if tokB (rawTok l) = true then (rawTok l, 0) else (Tok.zero, 2)
end Go.Con
namespace Go.Proofs.YtdjnbnbhpjiicaaDoor
open Go.RowKit Go.Con

/-- A call that gives bytes in memory of its own, and turns nothing that was there. -/
def FreshR (w : World) (R : List UInt8) (e : Ending) (w' : World) : Prop := ∃ v', e = .returned v' ∧ Rd w' v' R ∧ (∀ k, v'.ownBlock = some k → w.heap.size ≤ k) ∧ Below w.heap.size w w'

set_option maxHeartbeats 400000 in
theorem proof_any (kv v : Value) (k l : List UInt8) (w : World) (hkv : Rd w kv k) (hv : Rd w v l) (hkl : k.length ≤ 256) (hl : l.length ≤ 2000) (hk : Kn w) :
    Calls Tryd.prog 48 #[kv, v] w (FreshR w (proofB k l)) := by
  have HKV := Lib.hid hkv
  have HV := Lib.hid hv
  have HK := Lib.hid hk
  obtain ⟨m, hm⟩ : ∃ m, m = Sha.mac k l := ⟨_, rfl⟩
  have hml : m.length = 32 := by rw [hm]; exact Sha.mac_length _ _
  have hmac := fun w' (h1 : Rd w' kv k) (h2 : Rd w' v l) h3 => Mac_ok kv v k l w' h1 h2 hkl hl h3
  rw [← hm] at hmac
  have HMAC := Lib.hid hmac
  have HM := Lib.hid hm
  have HML := Lib.hid hml
  clear hkv hv hk hm hml hmac
  go_enter Tryd.func48, Tryd.ntmps48
  go_wp2_with fail
  refine (HMAC.out _ HKV.out HV.out HK.out).mono ?_
  rintro e w1 ⟨v1, rfl, ho1, hb1⟩
  obtain ⟨g, c, hv1, hg1, hg2, hc, hcm⟩ := ho1.shape (by intro h; have := HML.out; rw [h] at this; cases this)
  rw [HML.out] at hv1 hc
  subst hv1
  have HO1 := Lib.hid ho1
  have HB1 := Lib.hid hb1
  clear ho1 hb1
  go_wp2
  go_ret
  refine ⟨_, rfl, ?_, fun k hk => ?_, HB1.out⟩
  · rw [proofB, ← HM.out]; exact HO1.out.rd.pre 16 (by rw [HML.out]; decide)
  · have : g = k := by simpa [Value.ownBlock] using hk
    omega

theorem Own.newRow (w : World) (base : Nat) (l : List UInt8) (n : Nat) (hn : l.length = n) (hb : base ≤ w.heap.size) (hm : n ≤ maxLen) : Own (w.alloc (.cells (l.map u8v).toArray 5)) base (.slice (some ⟨w.heap.size, 0, none⟩) n n) l := by
  subst hn
  refine ⟨by simp, .inr ⟨w.heap.size, l.length, (l.map u8v).toArray, rfl, hb, heapNew w _, Nat.le_refl _, hm, by simp, ?_⟩⟩
  rw [List.take_of_length_le (by simp)]
theorem newO2 (W : World) (base : Nat) (x0 x1 : Int) (b0 b1 : UInt8) (h0 : x0 = b0.toNat) (h1 : x1 = b1.toNat) (hb : base ≤ W.heap.size) :
    Own (W.alloc (.cells #[.int .u8 x0, .int .u8 x1] 5)) base (.slice (some ⟨W.heap.size, 0, none⟩) 2 2) [b0, b1] := by
  subst h0 h1; exact Own.newRow W base [b0, b1] 2 rfl hb (by decide)

set_option maxHeartbeats 1000000 in
theorem Grant_ok (kv : Value) (k : List UInt8) (t : Con.Tok) (w : World) (hkv : Rd w kv k) (hkl : k.length = 32) (ht : t.Ok) (hk : Kn w) :
    Calls Tryd.prog 34 #[kv, tokV t] w (FreshBC w (tokenB k t) 0) := by
  obtain ⟨a, c, rfl, hlc, hcm⟩ := hkv.sliceN 32 hkl
  have HKV := Lib.hid hkv
  have HK := Lib.hid hk
  have htk := fun w => token_ok t w ht
  obtain ⟨c0, c1, r0, r1, u0, u1⟩ := ht
  obtain ⟨cl, r, u⟩ := t
  dsimp only at c0 c1 r0 r1 u0 u1
  unfold tokV at htk ⊢
  dsimp only at htk ⊢
  have HTK := Lib.hid htk
  have e1 : cl = ((UInt8.ofNat cl.toNat).toNat : Int) := by rw [UInt8.toNat_ofNat']; omega
  have e2 : r = ((UInt8.ofNat r.toNat).toNat : Int) := by rw [UInt8.toNat_ofNat']; omega
  have hn2 : ∀ (W : World) base, base ≤ W.heap.size → Own (W.alloc (.cells #[.int .u8 cl, .int .u8 r] 5)) base (.slice (some ⟨W.heap.size, 0, none⟩) 2 2) [UInt8.ofNat cl.toNat, UInt8.ofNat r.toNat] := fun W base hb =>
    newO2 W base cl r _ _ e1 e2 hb
  have HN2 := Lib.hid hn2
  obtain ⟨B, hB⟩ : ∃ B, B = bodyB ⟨cl, r, u⟩ := ⟨_, rfl⟩
  have hbe : [UInt8.ofNat cl.toNat, UInt8.ofNat r.toNat] ++ fourB u.toNat = B := hB.symm
  have hBl : B.length = 6 := by rw [hB]; rfl
  have HBE := Lib.hid hbe
  have HBL := Lib.hid hBl
  have hte : tokenB k ⟨cl, r, u⟩ = B ++ proofB k B := by rw [hB]; rfl
  rw [hte]
  clear hkv hk htk e1 e2 hn2 hB hbe hBl hte
  go_enter Tryd.func34, Tryd.ntmps34
  go_wp2_with fail
  refine (HTK.out _).mono ?_
  rintro e w1 ⟨rfl, hb1⟩
  have s1 : w.heap.size + 1 ≤ w1.heap.size := by simpa using hb1.size
  have X1 := Lib.hid ((hb1.block w.heap.size (by simp)).trans (heapNew w _))
  have B1 := Lib.hid (((Below.refl w.heap.size w).alloc (Nat.le_refl _) _).trans (hb1.mono (by simp)))
  have d0 := cellAt X1.out 0 rfl
  have d1 := cellAt X1.out 1 rfl
  have d2 : ∀ o, (w1.alloc o).cell? ⟨w.heap.size, 2, none⟩ = some (.int .i64 u) := fun o => by
    rw [((Below.refl w1.heap.size w1).alloc (Nat.le_refl _) o).cell (p := ⟨w.heap.size, 2, none⟩) (by show w.heap.size < _; omega)]; exact cellAt X1.out 2 rfl
  clear hb1
  go_wp2_with fail
  refine (four_any _ _ u w1.heap.size _ (HN2.out w1 w1.heap.size (Nat.le_refl _)) (by simp) u0 (by simp)).mono ?_
  rintro e w2 ⟨v2, rfl, ho2, hk2⟩
  rw [HBE.out] at ho2
  obtain ⟨g2, c2, hv2, hg2, hg2', hc2, hm2⟩ := ho2.shape (by intro h; have := HBL.out; rw [h] at this; cases this)
  rw [HBL.out] at hv2 hc2
  subst hv2
  have T2 := Lib.hid (((Below.refl w1.heap.size w1).alloc (Nat.le_refl _) _).trans ((hk2.mono (B' := w1.heap.size) (S' := fun _ => False) (by simp) (fun k hk h => absurd (show w1.heap.size = k by simpa [Value.ownBlock] using h) (by omega))).below (fun _ _ h => h)))
  have B2 := Lib.hid (B1.out.trans (T2.out.mono (by omega)))
  have O2 := Lib.hid ho2
  clear ho2 hk2 d0 d1 d2
  go_wp2_with fail
  refine (proof_any _ _ k B _ (HKV.out.stay B2.out) O2.out.rd (by omega) (by rw [HBL.out]; decide) (HK.out.stay B2.out)).mono ?_
  rintro e w3 ⟨v3, rfl, hr3, ho3, hb3⟩
  have R3 := Lib.hid hr3
  have B3 := Lib.hid (B2.out.trans (hb3.mono B2.out.size))
  have O3 := Lib.hid (O2.out.below hb3 (fun k hk => (O2.out.lt k hk).2))
  have s3 := B3.out.size
  have s13 : w1.heap.size ≤ w3.heap.size := Nat.le_trans T2.out.size hb3.size
  clear hr3 ho3 hb3
  go_wp2_with (at_builtin; refine apB rfl (.tmp 26) (.tmp 29) rfl w.heap.size _ v3 B (proofB k B) rfl (O3.out.mono (by omega)) rfl R3.out (by rw [HBL.out, proofB_length]; decide) s3 ?_; intro v4 w4 hown4 hg4; have HO4 := Lib.hid hown4; have HG4 := Lib.hid hg4; clear hown4 hg4)
  go_ret2
  exact ⟨_, rfl, HO4.out, B3.out.grown HG4.out s3 (fun k hk => by have := (O3.out.lt k hk).1; omega)⟩
end Go.Proofs.YtdjnbnbhpjiicaaDoor
