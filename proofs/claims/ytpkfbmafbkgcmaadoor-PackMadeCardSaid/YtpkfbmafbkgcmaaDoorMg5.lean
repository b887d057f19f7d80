/-
  Texts put together: B64, Gra, Res, Prv, ChaS.
-/
import Derived.WalkKit
import Derived.Test.YtpkfbmafbkgcmaaDoorMg4
import Derived.Test.YtpkfbmafbkgcmaaDoorMg3
import Derived.Deep.RegionHeld3
import Derived.Deep.RegionWith
import Derived.Test.YtpkfbmafbkgcmaaDoorMg1
set_option linter.unusedVariables false
set_option linter.unusedSimpArgs false
namespace Go.Con
open Go Go.RowKit
theorem or64 (x y : Nat) (hx : x < 9223372036854775808) (hy : y < 9223372036854775808) : bits .or .i64 (x : Int) (y : Int) = ((x ||| y : Nat) : Int) := by
  show IntKind.i64.wrap ((BitVec.ofInt 64 (x : Int) ||| BitVec.ofInt 64 (y : Int)).toNat : Int) = _
  have hxy : (x ||| y) < 2 ^ 63 := Nat.or_lt_two_pow hx hy
  rw [BitVec.ofInt_natCast, BitVec.ofInt_natCast, BitVec.toNat_or, BitVec.toNat_ofNat, BitVec.toNat_ofNat, Nat.mod_eq_of_lt (by omega), Nat.mod_eq_of_lt (by omega)]
  exact IntWalk.i64_in _ (by omega)
theorem and64 (x y : Nat) (hx : x < 9223372036854775808) (hy : y < 9223372036854775808) : bits .and .i64 (x : Int) (y : Int) = ((x &&& y : Nat) : Int) := by
  show IntKind.i64.wrap ((BitVec.ofInt 64 (x : Int) &&& BitVec.ofInt 64 (y : Int)).toNat : Int) = _
  have hxy : (x &&& y) < 2 ^ 63 := Nat.and_lt_two_pow x hy
  rw [BitVec.ofInt_natCast, BitVec.ofInt_natCast, BitVec.toNat_and, BitVec.toNat_ofNat, BitVec.toNat_ofNat, Nat.mod_eq_of_lt (by omega), Nat.mod_eq_of_lt (by omega)]
  exact IntWalk.i64_in _ (by omega)
/-- bits that are apart are added -/
theorem or_apart (a b i : Nat) (h : b < 2 ^ i) : (a * 2 ^ i ||| b) = a * 2 ^ i + b := by
  have := Nat.shiftLeft_add_eq_or_of_lt h a
  rw [Nat.shiftLeft_eq] at this
  exact this.symm
theorem four64 (x0 x1 x2 x3 : UInt8) :
    bits .or .i64 (bits .or .i64 (bits .or .i64 (wrap64 (wrap64 (x0.toNat : Int) * 16777216)) (wrap64 (wrap64 (x1.toNat : Int) * 65536))) (wrap64 (wrap64 (x2.toNat : Int) * 256))) (wrap64 (x3.toNat : Int))
      = ((x0.toNat * 16777216 + x1.toNat * 65536 + x2.toNat * 256 + x3.toNat : Nat) : Int) := by
  have h0 := x0.toNat_lt
  have h1 := x1.toNat_lt
  have h2 := x2.toNat_lt
  have h3 := x3.toNat_lt
  have w (n : Nat) (h : n < 9223372036854775808) : wrap64 (n : Int) = n := IntWalk.wrap64_in _ (by omega)
  rw [w _ (by omega), w _ (by omega), w _ (by omega), w _ (by omega)]
  rw [show (x0.toNat : Int) * 16777216 = ((x0.toNat * 16777216 : Nat) : Int) by omega, show (x1.toNat : Int) * 65536 = ((x1.toNat * 65536 : Nat) : Int) by omega, show (x2.toNat : Int) * 256 = ((x2.toNat * 256 : Nat) : Int) by omega]
  rw [w _ (by omega), w _ (by omega), w _ (by omega)]
  have e1 := or_apart x0.toNat (x1.toNat * 65536) 24 (by omega)
  have e2 := or_apart (x0.toNat * 256 + x1.toNat) (x2.toNat * 256) 16 (by omega)
  have e3 := or_apart (x0.toNat * 65536 + x1.toNat * 256 + x2.toNat) x3.toNat 8 (by omega)
  rw [or64 _ _ (by omega) (by omega)]
  rw [show (2 : Nat) ^ 24 = 16777216 by rfl] at e1
  rw [show (2 : Nat) ^ 16 = 65536 by rfl] at e2
  rw [show (2 : Nat) ^ 8 = 256 by rfl] at e3
  rw [e1, or64 _ _ (by omega) (by omega)]
  rw [show x0.toNat * 16777216 + x1.toNat * 65536 = (x0.toNat * 256 + x1.toNat) * 65536 by omega, e2, or64 _ _ (by omega) (by omega)]
  rw [show (x0.toNat * 256 + x1.toNat) * 65536 + x2.toNat * 256 = (x0.toNat * 65536 + x1.toNat * 256 + x2.toNat) * 256 by omega, e3]
end Go.Con


set_option linter.unusedVariables false
set_option linter.unusedSimpArgs false
namespace Go.Con
/-- the first six bytes of a token -/
def bodyB (t : Tok) : List UInt8 := [UInt8.ofNat t.client.toNat, UInt8.ofNat t.rights.toNat] ++ fourB t.til.toNat
theorem bodyB_length (t : Tok) : (bodyB t).length = 6 := rfl
def proofB (key body : List UInt8) : List UInt8 := (Sha.mac key body).take 16
theorem proofB_length (key body : List UInt8) : (proofB key body).length = 16 := by rw [proofB, List.length_take, Sha.mac_length]; rfl
/-- a token's bytes -/
def tokenB (key : List UInt8) (t : Tok) : List UInt8 := bodyB t ++ proofB key (bodyB t)
theorem tokenB_length (key : List UInt8) (t : Tok) : (tokenB key t).length = 22 := by rw [tokenB, List.length_append, bodyB_length, proofB_length]
/-- what six bytes say -/
def rawTok (l : List UInt8) : Tok := ⟨(l.getD 0 0).toNat, (l.getD 1 0).toNat, (((l.getD 2 0).toNat * 16777216 + (l.getD 3 0).toNat * 65536 + (l.getD 4 0).toNat * 256 + (l.getD 5 0).toNat : Nat) : Int)⟩
/-- what is proved of bytes, with 32 bytes of a key -/
def proveC (key l : List UInt8) : Tok × Int :=
  if l.length ≠ 22 then (Tok.zero, 1) else if proofB key (l.take 6) ≠ l.drop 6 then (Tok.zero, 6) else if tokB (rawTok l) = true then (rawTok l, 0) else (Tok.zero, 2)
end Go.Con
namespace Go.Proofs.YtpkfbmafbkgcmaaDoor
open Go.RowKit Go.Con

/-- A call that gives bytes in memory of its own, and turns nothing that was there. -/
def FreshR (w : World) (R : List UInt8) (e : Ending) (w' : World) : Prop := ∃ v', e = .returned v' ∧ Rd w' v' R ∧ (∀ k, v'.ownBlock = some k → w.heap.size ≤ k) ∧ Below w.heap.size w w'

set_option maxHeartbeats 400000 in
theorem proof_any (kv v : Value) (k l : List UInt8) (w : World) (hkv : Rd w kv k) (hv : Rd w v l) (hkl : k.length ≤ 256) (hl : l.length ≤ 2000) (hk : Kn w) :
    Calls Tryd.prog 23 #[kv, v] w (FreshR w (proofB k l)) := by
  have HKV := Lib.hid hkv
  have HV := Lib.hid hv
  have HK := Lib.hid hk
  obtain ⟨m, hm⟩ : ∃ m, m = Sha.mac k l := ⟨_, rfl⟩
  have hml : m.length = 32 := by rw [hm]; exact Sha.mac_length _ _
  have hmac := fun w' (h1 : Rd w' kv k) (h2 : Rd w' v l) h3 => Mac_ok kv v k l w' h1 h2 hkl hl h3
  rw [← hm] at hmac
  have HMAC := Lib.hid hmac
  have HM := Lib.hid hm
  have HML := Lib.hid hml
  clear hkv hv hk hm hml hmac
  go_enter Tryd.func23, Tryd.ntmps23
  go_wp2_with fail
  refine (HMAC.out _ HKV.out HV.out HK.out).mono ?_
  rintro e w1 ⟨v1, rfl, ho1, hb1⟩
  obtain ⟨g, c, hv1, hg1, hg2, hc, hcm⟩ := ho1.shape (by intro h; have := HML.out; rw [h] at this; cases this)
  rw [HML.out] at hv1 hc
  subst hv1
  have HO1 := Lib.hid ho1
  have HB1 := Lib.hid hb1
  clear ho1 hb1
  go_wp2
  go_ret
  refine ⟨_, rfl, ?_, fun k hk => ?_, HB1.out⟩
  · rw [proofB, ← HM.out]; exact HO1.out.rd.pre 16 (by rw [HML.out]; decide)
  · have : g = k := by simpa [Value.ownBlock] using hk
    omega

theorem Own.newRow (w : World) (base : Nat) (l : List UInt8) (n : Nat) (hn : l.length = n) (hb : base ≤ w.heap.size) (hm : n ≤ maxLen) : Own (w.alloc (.cells (l.map u8v).toArray 5)) base (.slice (some ⟨w.heap.size, 0, none⟩) n n) l := by
  subst hn
  refine ⟨by simp, .inr ⟨w.heap.size, l.length, (l.map u8v).toArray, rfl, hb, heapNew w _, Nat.le_refl _, hm, by simp, ?_⟩⟩
  rw [List.take_of_length_le (by simp)]
theorem newO2 (W : World) (base : Nat) (x0 x1 : Int) (b0 b1 : UInt8) (h0 : x0 = b0.toNat) (h1 : x1 = b1.toNat) (hb : base ≤ W.heap.size) :
    Own (W.alloc (.cells #[.int .u8 x0, .int .u8 x1] 5)) base (.slice (some ⟨W.heap.size, 0, none⟩) 2 2) [b0, b1] := by
  subst h0 h1; exact Own.newRow W base [b0, b1] 2 rfl hb (by decide)

set_option maxHeartbeats 1000000 in
theorem Grant_ok (kv : Value) (k : List UInt8) (t : Con.Tok) (w : World) (hkv : Rd w kv k) (hkl : k.length = 32) (ht : t.Ok) (hk : Kn w) :
    Calls Tryd.prog 12 #[kv, tokV t] w (FreshBC w (tokenB k t) 0) := by
  obtain ⟨a, c, rfl, hlc, hcm⟩ := hkv.sliceN 32 hkl
  have HKV := Lib.hid hkv
  have HK := Lib.hid hk
  have htk := fun w => token_ok t w ht
  obtain ⟨c0, c1, r0, r1, u0, u1⟩ := ht
  obtain ⟨cl, r, u⟩ := t
  dsimp only at c0 c1 r0 r1 u0 u1
  unfold tokV at htk ⊢
  dsimp only at htk ⊢
  have HTK := Lib.hid htk
  have e1 : cl = ((UInt8.ofNat cl.toNat).toNat : Int) := by rw [UInt8.toNat_ofNat']; omega
  have e2 : r = ((UInt8.ofNat r.toNat).toNat : Int) := by rw [UInt8.toNat_ofNat']; omega
  have hn2 : ∀ (W : World) base, base ≤ W.heap.size → Own (W.alloc (.cells #[.int .u8 cl, .int .u8 r] 5)) base (.slice (some ⟨W.heap.size, 0, none⟩) 2 2) [UInt8.ofNat cl.toNat, UInt8.ofNat r.toNat] := fun W base hb =>
    newO2 W base cl r _ _ e1 e2 hb
  have HN2 := Lib.hid hn2
  obtain ⟨B, hB⟩ : ∃ B, B = bodyB ⟨cl, r, u⟩ := ⟨_, rfl⟩
  have hbe : [UInt8.ofNat cl.toNat, UInt8.ofNat r.toNat] ++ fourB u.toNat = B := hB.symm
  have hBl : B.length = 6 := by rw [hB]; rfl
  have HBE := Lib.hid hbe
  have HBL := Lib.hid hBl
  have hte : tokenB k ⟨cl, r, u⟩ = B ++ proofB k B := by rw [hB]; rfl
  rw [hte]
  clear hkv hk htk e1 e2 hn2 hB hbe hBl hte
  go_enter Tryd.func12, Tryd.ntmps12
  go_wp2_with fail
  refine (HTK.out _).mono ?_
  rintro e w1 ⟨rfl, hb1⟩
  have s1 : w.heap.size + 1 ≤ w1.heap.size := by simpa using hb1.size
  have X1 := Lib.hid ((hb1.block w.heap.size (by simp)).trans (heapNew w _))
  have B1 := Lib.hid (((Below.refl w.heap.size w).alloc (Nat.le_refl _) _).trans (hb1.mono (by simp)))
  have d0 := cellAt X1.out 0 rfl
  have d1 := cellAt X1.out 1 rfl
  have d2 : ∀ o, (w1.alloc o).cell? ⟨w.heap.size, 2, none⟩ = some (.int .i64 u) := fun o => by
    rw [((Below.refl w1.heap.size w1).alloc (Nat.le_refl _) o).cell (p := ⟨w.heap.size, 2, none⟩) (by show w.heap.size < _; omega)]; exact cellAt X1.out 2 rfl
  clear hb1
  go_wp2_with fail
  refine (four_any _ _ u w1.heap.size _ (HN2.out w1 w1.heap.size (Nat.le_refl _)) (by simp) u0 (by simp)).mono ?_
  rintro e w2 ⟨v2, rfl, ho2, hk2⟩
  rw [HBE.out] at ho2
  obtain ⟨g2, c2, hv2, hg2, hg2', hc2, hm2⟩ := ho2.shape (by intro h; have := HBL.out; rw [h] at this; cases this)
  rw [HBL.out] at hv2 hc2
  subst hv2
  have T2 := Lib.hid (((Below.refl w1.heap.size w1).alloc (Nat.le_refl _) _).trans ((hk2.mono (B' := w1.heap.size) (S' := fun _ => False) (by simp) (fun k hk h => absurd (show w1.heap.size = k by simpa [Value.ownBlock] using h) (by omega))).below (fun _ _ h => h)))
  have B2 := Lib.hid (B1.out.trans (T2.out.mono (by omega)))
  have O2 := Lib.hid ho2
  clear ho2 hk2 d0 d1 d2
  go_wp2_with fail
  refine (proof_any _ _ k B _ (HKV.out.stay B2.out) O2.out.rd (by omega) (by rw [HBL.out]; decide) (HK.out.stay B2.out)).mono ?_
  rintro e w3 ⟨v3, rfl, hr3, ho3, hb3⟩
  have R3 := Lib.hid hr3
  have B3 := Lib.hid (B2.out.trans (hb3.mono B2.out.size))
  have O3 := Lib.hid (O2.out.below hb3 (fun k hk => (O2.out.lt k hk).2))
  have s3 := B3.out.size
  have s13 : w1.heap.size ≤ w3.heap.size := Nat.le_trans T2.out.size hb3.size
  clear hr3 ho3 hb3
  go_wp2_with (at_builtin; refine apB rfl (.tmp 26) (.tmp 29) rfl w.heap.size _ v3 B (proofB k B) rfl (O3.out.mono (by omega)) rfl R3.out (by rw [HBL.out, proofB_length]; decide) s3 ?_; intro v4 w4 hown4 hg4; have HO4 := Lib.hid hown4; have HG4 := Lib.hid hg4; clear hown4 hg4)
  go_ret2
  exact ⟨_, rfl, HO4.out, B3.out.grown HG4.out s3 (fun k hk => by have := (O3.out.lt k hk).1; omega)⟩
end Go.Proofs.YtpkfbmafbkgcmaaDoor

set_option linter.unusedVariables false
set_option linter.unusedSimpArgs false
namespace Go.Con
open Go Go.RowKit
theorem results_c {P : Program} {fn : Func} {tmps : Array Value} {w : World} {a : Nat} {t : TypeId} {ad : Addr} {v : Value} (hr : fn.results = #[.cell a t]) (ht : tmps.getD a undef = .pointer (some ad))
    (hl : (loadVar t ad).run P w = .ok v w) : (results fn tmps).run P w = .ok v w := by
  unfold results
  rw [hr]
  simp only [Array.getD_eq_getD_getElem?] at ht
  generalize loadVar = L at hl ⊢
  simp [ht, hl, go_sem]
theorem results_ct {P : Program} {fn : Func} {tmps : Array Value} {w : World} {a b : Nat} {t : TypeId} {ad : Addr} {v : Value} (hr : fn.results = #[.cell a t, .tmp b]) (ht : tmps.getD a undef = .pointer (some ad))
    (hl : (loadVar t ad).run P w = .ok v w) : (results fn tmps).run P w = .ok (.tuple #[v, tmps.getD b undef]) w := by
  unfold results
  rw [hr]
  simp only [Array.getD_eq_getD_getElem?] at ht
  generalize loadVar = L at hl ⊢
  simp [ht, hl, go_sem]
theorem results_cct {P : Program} {fn : Func} {tmps : Array Value} {w : World} {a b c : Nat} {t u : TypeId} {ad bd : Addr} {v x : Value} (hr : fn.results = #[.cell a t, .cell b u, .tmp c]) (ht : tmps.getD a undef = .pointer (some ad)) (hu : tmps.getD b undef = .pointer (some bd))
    (hl : (loadVar t ad).run P w = .ok v w) (hx : (loadVar u bd).run P w = .ok x w) : (results fn tmps).run P w = .ok (.tuple #[v, x, tmps.getD c undef]) w := by
  unfold results
  rw [hr]
  simp only [Array.getD_eq_getD_getElem?] at ht hu
  generalize loadVar = L at hl hx ⊢
  simp [ht, hu, hl, hx, go_sem]
end Go.Con

set_option linter.unusedVariables false
set_option linter.unusedSimpArgs false
namespace Go.Proofs.YtpkfbmafbkgcmaaDoor
open Go.RowKit Go.Con

set_option maxHeartbeats 1000000 in
theorem Prove_short1 (a b : Option Addr) (kl kc bl bc : Nat) (w : World) (h : kl ≠ 32) :
    Calls Tryd.prog 32 #[.slice a kl kc, .slice b bl bc] w fun e w' => e = .returned (.tuple #[tokV Con.Tok.zero, .int .i64 1]) ∧ Below w.heap.size w w' := by
  have hb : ((kl : Int) != 32) = true := by simpa using (by omega : (kl : Int) ≠ 32)
  clear h
  go_enter Tryd.func32, Tryd.ntmps32
  go_wp2
  refine bodyPost_ret (v := .tuple #[tokV Con.Tok.zero, .int .i64 1]) ?_ rfl ⟨rfl, ?_⟩
  · simp [results, Tryd.results32, go_sem, tokV, Con.Tok.zero]
  · exact (Below.refl _ _).alloc (Nat.le_refl _) _
set_option maxHeartbeats 1000000 in
theorem Prove_short2 (a b : Option Addr) (kc bl bc : Nat) (w : World) (h : bl ≠ 22) :
    Calls Tryd.prog 32 #[.slice a 32 kc, .slice b bl bc] w fun e w' => e = .returned (.tuple #[tokV Con.Tok.zero, .int .i64 1]) ∧ Below w.heap.size w w' := by
  have hb : ((bl : Int) != 22) = true := by simpa using (by omega : (bl : Int) ≠ 22)
  clear h
  go_enter Tryd.func32, Tryd.ntmps32
  go_wp2
  refine bodyPost_ret (v := .tuple #[tokV Con.Tok.zero, .int .i64 1]) ?_ rfl ⟨rfl, ?_⟩
  · simp [results, Tryd.results32, go_sem, tokV, Con.Tok.zero]
  · exact (Below.refl _ _).alloc (Nat.le_refl _) _

theorem wr8 (y : UInt8) : IntKind.i64.wrap (y.toNat : Int) = (y.toNat : Int) := by
  have := y.toNat_lt; exact IntWalk.i64_in _ (by omega)
theorem four64w (x0 x1 x2 x3 : UInt8) :
    bits .or .i64 (bits .or .i64 (bits .or .i64 (IntKind.i64.wrap ((x0.toNat : Int) * 16777216)) (IntKind.i64.wrap ((x1.toNat : Int) * 65536))) (IntKind.i64.wrap ((x2.toNat : Int) * 256))) (x3.toNat : Int)
      = ((x0.toNat * 16777216 + x1.toNat * 65536 + x2.toNat * 256 + x3.toNat : Nat) : Int) := by
  have h := four64 x0 x1 x2 x3
  have h0 := x0.toNat_lt
  have h1 := x1.toNat_lt
  have h2 := x2.toNat_lt
  have h3 := x3.toNat_lt
  have e (n : Int) (h : 0 ≤ n ∧ n < 9223372036854775808) : wrap64 n = IntKind.i64.wrap n := (IntWalk.wrap64_in n (by omega)).trans (IntWalk.i64_in n (by omega)).symm
  rw [e (x0.toNat : Int) (by omega), e (x1.toNat : Int) (by omega), e (x2.toNat : Int) (by omega), e (x3.toNat : Int) (by omega), wr8, wr8, wr8, wr8, e ((x0.toNat : Int) * 16777216) (by omega), e ((x1.toNat : Int) * 65536) (by omega), e ((x2.toNat : Int) * 256) (by omega)] at h
  exact h
theorem set3 {w : World} {b : Nat} {e : TypeId} {c0 c1 c2 v0 v1 v2 : Value} (h : w.heap[b]? = some (.cells #[c0, c1, c2] e (0, 0))) :
    (((w.setCell ⟨b, 0, none⟩ v0).setCell ⟨b, 1, none⟩ v1).setCell ⟨b, 2, none⟩ v2).heap[b]? = some (.cells #[v0, v1, v2] e (0, 0)) :=
  heapSet (o := 2) (heapSet (o := 1) (heapSet (o := 0) h v0) v1) v2
theorem set3_below {a w : World} {b B : Nat} {v0 v1 v2 : Value} (h : Below B a w) (hb : B ≤ b) :
    Below B a (((w.setCell ⟨b, 0, none⟩ v0).setCell ⟨b, 1, none⟩ v1).setCell ⟨b, 2, none⟩ v2) := ((h.setCell hb _).setCell hb _).setCell hb _
set_option maxRecDepth 100000 in
set_option maxHeartbeats 2000000 in
theorem Prove_full (kv bv : Value) (k l : List UInt8) (w : World) (hkv : Rd w kv k) (hbv : Rd w bv l) (hkl : k.length = 32) (hl : l.length = 22) (hk : Kn w) :
    Calls Tryd.prog 32 #[kv, bv] w fun e w' => e = .returned (.tuple #[tokV (proveC k l).1, .int .i64 (proveC k l).2]) ∧ Below w.heap.size w w' := by
  obtain ⟨kb, ko, kc, rfl, _, _⟩ := hkv.shapeN 32 hkl (by decide)
  obtain ⟨bb, bo, bc, rfl, hbc, _⟩ := hbv.shapeN 22 hl (by decide)
  have HKV := Lib.hid hkv
  have HBV := Lib.hid hbv
  have HK := Lib.hid hk
  have HKL := Lib.hid hkl
  have HL := Lib.hid hl
  have h6 : (l.take 6).length = 6 := by rw [List.length_take, hl]; rfl
  have H6 := Lib.hid h6
  have hbc6 : bc ≠ 6 := by omega
  have hbi : (6 : Int) ≤ (bc : Int) := by omega
  have hbi2 : (22 : Int) ≤ (bc : Int) := by omega
  obtain ⟨t, ht⟩ : ∃ t, t = (proofB k (l.take 6) == l.drop 6) := ⟨_, rfl⟩
  have HT := Lib.hid ht
  have hsm := fun a b w h1 h2 => shaSame_any a b (proofB k (l.take 6)) (l.drop 6) w h1 h2
  rw [← ht] at hsm
  have HSM := Lib.hid hsm
  have hcb : ∀ W, Below w.heap.size w W → ∀ i, i < 22 → W.cell? ⟨bb, bo + i, none⟩ = some (.int .u8 (l.getD i 0).toNat) := by
    intro W hW i hi
    obtain ⟨a', c', e, _, _, _, h⟩ := hbv.stay hW
    obtain ⟨b', off, e4, h2⟩ := h (by intro h; rw [h] at hl; cases hl)
    injection e with e1 e2 e3
    subst e1
    injection e4 with e4
    injection e4 with e5 e6
    subst e5 e6
    exact h2 i (by rw [hl]; exact hi)
  have HCB := Lib.hid hcb
  have hpc : proveC k l = if t = false then (Con.Tok.zero, 6) else if tokB (rawTok l) = true then (rawTok l, 0) else (Con.Tok.zero, 2) := by
    unfold proveC
    rw [if_neg (by rw [hl]; simp), ht]
    by_cases e : proofB k (l.take 6) = l.drop 6
    · have e' : (proofB k (l.take 6) == l.drop 6) = true := by simpa using e
      rw [if_neg (show ¬ (proofB k (l.take 6) ≠ l.drop 6) from fun h => h e), e']
      simp
    · have e' : (proofB k (l.take 6) == l.drop 6) = false := by simpa using e
      rw [if_pos e, e', if_pos rfl]
  have HPC := Lib.hid hpc
  clear hkv hbv hk hkl hl h6 ht hsm hcb hpc
  go_enter Tryd.func32, Tryd.ntmps32
  go_wp2_with fail
  have ba : Below w.heap.size w (w.alloc (.cells #[.int .i64 0, .int .i64 0, .int .i64 0] 28)).drew := ((Below.refl _ _).alloc (Nat.le_refl _) _).drew
  have BA := Lib.hid ba
  clear ba
  go_region_with (first
    | (go_at_call 23; refine (proof_any _ _ k (l.take 6) _ (HKV.out.stay BA.out) ((HBV.out.stay BA.out).pre 6 (by rw [HL.out]; decide)) (by rw [HKL.out]; decide) (by rw [H6.out]; decide) (HK.out.stay BA.out)).mono ?_; rintro e w1 ⟨v1, rfl, hr1, ho1, hb1⟩; have R1 := Lib.hid hr1; have B1 := Lib.hid hb1; clear hr1 ho1 hb1)
    | (go_at_call 45; refine (HSM.out _ _ _ R1.out (((HBV.out.stay BA.out).stay B1.out).tail 6 16 (by decide) rfl)).mono ?_; rintro e w2 ⟨rfl, hd2⟩))
  all_goals
    have hb2 : Below w.heap.size w w2 := by obtain ⟨q, rfl⟩ := hd2; exact below_drewN (BA.out.trans (B1.out.mono BA.out.size)) q
    have hx2 : w2.heap[w.heap.size]? = some (.cells #[.int .i64 0, .int .i64 0, .int .i64 0] 28 (0, 0)) := by
      obtain ⟨q, rfl⟩ := hd2
      exact (B1.out.block w.heap.size (by simp)).trans (heapNew w _)
    have B2 := Lib.hid hb2
    have X2 := Lib.hid hx2
    have z0 := cellAt hx2 0 rfl
    have z1 := cellAt hx2 1 rfl
    have z2 := cellAt hx2 2 rfl
    have zf := freeAt hx2
    clear hd2 hb2 hx2 R1 B1
    by_cases htt : t = false
    · have hpf : proveC k l = (Con.Tok.zero, 6) := by rw [HPC.out, if_pos htt]
      have HPF := Lib.hid hpf
      subst htt
      clear hpf
      go_wp2
      have hW := set3 (w := w2) (b := w.heap.size) (e := 28) (v0 := .int .i64 0) (v1 := .int .i64 0) (v2 := .int .i64 0) X2.out
      have hb := set3_below (b := w.heap.size) (B := w.heap.size) (v0 := .int .i64 0) (v1 := .int .i64 0) (v2 := .int .i64 0) B2.out (Nat.le_refl _)
      generalize hWe : World.setCell _ _ _ = W
      rw [hWe] at hW hb
      have k0 := cellAt hW 0 rfl
      have k1 := cellAt hW 1 rfl
      have k2 := cellAt hW 2 rfl
      clear hW hWe z0 z1 z2 zf
      refine bodyPost_ret (v := .tuple #[tokV Con.Tok.zero, .int .i64 6]) ?_ rfl ⟨by rw [HPF.out], hb⟩
      simp [results, Tryd.results32, go_sem, tokV, Con.Tok.zero, k0, k1, k2]
    · have htt' : t = true := by simpa using htt
      have hpt : proveC k l = if tokB (rawTok l) = true then (rawTok l, 0) else (Con.Tok.zero, 2) := by rw [HPC.out, if_neg htt]
      subst htt'
      have HPT := Lib.hid hpt
      clear htt hpt
      have q0 : w2.cell? ⟨bb, bo, none⟩ = _ := HCB.out w2 B2.out 0 (by decide)
      have q1 := HCB.out w2 B2.out 1 (by decide)
      have q2 := HCB.out w2 B2.out 2 (by decide)
      have q3 := HCB.out w2 B2.out 3 (by decide)
      have q4 := HCB.out w2 B2.out 4 (by decide)
      have q5 := HCB.out w2 B2.out 5 (by decide)
      have htk := fun w => token_any (rawTok l) w
      unfold rawTok tokV at htk
      dsimp only at htk
      obtain ⟨y0, hy0⟩ : ∃ y, y = l.getD 0 0 := ⟨_, rfl⟩
      obtain ⟨y1, hy1⟩ : ∃ y, y = l.getD 1 0 := ⟨_, rfl⟩
      obtain ⟨y2, hy2⟩ : ∃ y, y = l.getD 2 0 := ⟨_, rfl⟩
      obtain ⟨y3, hy3⟩ : ∃ y, y = l.getD 3 0 := ⟨_, rfl⟩
      obtain ⟨y4, hy4⟩ : ∃ y, y = l.getD 4 0 := ⟨_, rfl⟩
      obtain ⟨y5, hy5⟩ : ∃ y, y = l.getD 5 0 := ⟨_, rfl⟩
      rw [← hy0] at q0
      rw [← hy1] at q1
      rw [← hy2] at q2
      rw [← hy3] at q3
      rw [← hy4] at q4
      rw [← hy5] at q5
      rw [← hy0, ← hy1, ← hy2, ← hy3, ← hy4, ← hy5] at htk
      have HTK := Lib.hid htk
      have HY := Lib.hid (show rawTok l = ⟨y0.toNat, y1.toNat, ((y2.toNat * 16777216 + y3.toNat * 65536 + y4.toNat * 256 + y5.toNat : Nat) : Int)⟩ by unfold rawTok; rw [hy0, hy1, hy2, hy3, hy4, hy5])
      clear htk hy0 hy1 hy2 hy3 hy4 hy5
      go_wp2_with fail
      go_region_held3 (fun W => W.cell? ⟨bb, bo, none⟩ = some (.int .u8 y0.toNat) ∧ W.cell? ⟨bb, bo + 1, none⟩ = some (.int .u8 y1.toNat) ∧ W.cell? ⟨bb, bo + 2, none⟩ = some (.int .u8 y2.toNat) ∧ W.cell? ⟨bb, bo + 3, none⟩ = some (.int .u8 y3.toNat) ∧ W.cell? ⟨bb, bo + 4, none⟩ = some (.int .u8 y4.toNat) ∧ W.cell? ⟨bb, bo + 5, none⟩ = some (.int .u8 y5.toNat)) (go_keep) (fail)
      all_goals
        rw [wr8 y0, wr8 y1, wr8 y2, wr8 y3, wr8 y4, wr8 y5, four64w]
        obtain ⟨N, hN⟩ : ∃ N : Nat, N = y2.toNat * 16777216 + y3.toNat * 65536 + y4.toNat * 256 + y5.toNat := ⟨_, rfl⟩
        rw [← hN] at HTK HY ⊢
        clear hN q0 q1 q2 q3 q4 q5
        have hx3 : (w2.alloc (.cells #[.int .i64 y0.toNat, .int .i64 y1.toNat, .int .i64 N] 28)).drew.heap[w2.heap.size]? = some (.cells #[.int .i64 y0.toNat, .int .i64 y1.toNat, .int .i64 N] 28 (0, 0)) := heapNew w2 _
        have hx3b : (w2.alloc (.cells #[.int .i64 y0.toNat, .int .i64 y1.toNat, .int .i64 N] 28)).drew.heap[w.heap.size]? = some (.cells #[.int .i64 0, .int .i64 0, .int .i64 0] 28 (0, 0)) := (heapOld w2 _ _ (lt_of_heap X2.out)).trans X2.out
        have hb3 : Below w.heap.size w (w2.alloc (.cells #[.int .i64 y0.toNat, .int .i64 y1.toNat, .int .i64 N] 28)).drew := (B2.out.alloc B2.out.size _).drew
        generalize hW3 : (w2.alloc (.cells #[.int .i64 y0.toNat, .int .i64 y1.toNat, .int .i64 N] 28)).drew = w3 at hx3 hx3b hb3 ⊢
        clear hW3 z0 z1 z2 zf
        have X3 := Lib.hid hx3
        have X3b := Lib.hid hx3b
        have B3 := Lib.hid hb3
        have j0 := cellAt hx3 0 rfl
        have j1 := cellAt hx3 1 rfl
        have j2 := cellAt hx3 2 rfl
        clear hx3 hx3b hb3
        go_wp2_with fail
        refine (HTK.out _).mono ?_
        rintro e w4 ⟨rfl, hb4⟩
        have X4 := Lib.hid ((hb4.block _ (lt_of_heap X3.out)).trans X3.out)
        have X4b := Lib.hid ((hb4.block _ (lt_of_heap X3b.out)).trans X3b.out)
        have B4 := Lib.hid (B3.out.trans (hb4.mono B3.out.size))
        have r0 := cellAt X4.out 0 rfl
        have r1 := cellAt X4.out 1 rfl
        have r2 := cellAt X4.out 2 rfl
        have z0 := cellAt X4b.out 0 rfl
        have z1 := cellAt X4b.out 1 rfl
        have z2 := cellAt X4b.out 2 rfl
        have zf := freeAt X4b.out
        clear hb4 j0 j1 j2
        by_cases htb : tokB (rawTok l) = true
        · have hpf : proveC k l = (rawTok l, 0) := by rw [HPT.out, if_pos htb]
          have HPF := Lib.hid hpf
          rw [HY.out] at htb
          rw [if_pos htb]
          clear hpf
          go_wp2
          have hW := set3 (w := w4) (b := w.heap.size) (e := 28) (v0 := .int .i64 y0.toNat) (v1 := .int .i64 y1.toNat) (v2 := .int .i64 N) X4b.out
          have hb := set3_below (b := w.heap.size) (B := w.heap.size) (v0 := .int .i64 y0.toNat) (v1 := .int .i64 y1.toNat) (v2 := .int .i64 N) B4.out (Nat.le_refl _)
          generalize hWe : World.setCell _ _ _ = W
          rw [hWe] at hW hb
          have k0 := cellAt hW 0 rfl
          have k1 := cellAt hW 1 rfl
          have k2 := cellAt hW 2 rfl
          clear hW hWe z0 z1 z2 zf r0 r1 r2
          refine bodyPost_ret (v := .tuple #[tokV ⟨y0.toNat, y1.toNat, N⟩, .int .i64 0]) ?_ rfl ⟨by rw [HPF.out, HY.out], hb⟩
          simp [results, Tryd.results32, go_sem, tokV, k0, k1, k2]
        · have hpf : proveC k l = (Con.Tok.zero, 2) := by rw [HPT.out, if_neg htb]
          have HPF := Lib.hid hpf
          rw [HY.out] at htb
          rw [if_neg htb]
          clear hpf
          go_wp2
          have hW := set3 (w := w4) (b := w.heap.size) (e := 28) (v0 := .int .i64 0) (v1 := .int .i64 0) (v2 := .int .i64 0) X4b.out
          have hb := set3_below (b := w.heap.size) (B := w.heap.size) (v0 := .int .i64 0) (v1 := .int .i64 0) (v2 := .int .i64 0) B4.out (Nat.le_refl _)
          generalize hWe : World.setCell _ _ _ = W
          rw [hWe] at hW hb
          have k0 := cellAt hW 0 rfl
          have k1 := cellAt hW 1 rfl
          have k2 := cellAt hW 2 rfl
          clear hW hWe z0 z1 z2 zf r0 r1 r2
          refine bodyPost_ret (v := .tuple #[tokV Con.Tok.zero, .int .i64 2]) ?_ rfl ⟨by rw [HPF.out], hb⟩
          simp [results, Tryd.results32, go_sem, tokV, Con.Tok.zero, k0, k1, k2]
theorem Prove_any (kv bv : Value) (k l : List UInt8) (w : World) (hkv : Rd w kv k) (hbv : Rd w bv l) (hkl : k.length = 32) (hk : Kn w) :
    Calls Tryd.prog 32 #[kv, bv] w fun e w' => e = .returned (.tuple #[tokV (proveC k l).1, .int .i64 (proveC k l).2]) ∧ Below w.heap.size w w' := by
  by_cases hl : l.length = 22
  · exact Prove_full kv bv k l w hkv hbv hkl hl hk
  · obtain ⟨a, c, rfl, _, _⟩ := hkv.sliceN 32 hkl
    obtain ⟨b, d, rfl, _, _⟩ := hbv.slice
    have e : proveC k l = (Con.Tok.zero, 1) := by unfold proveC; rw [if_pos hl]
    rw [e]
    exact Prove_short2 a b c l.length d w hl
end Go.Proofs.YtpkfbmafbkgcmaaDoor

set_option linter.unusedVariables false
set_option linter.unusedSimpArgs false
namespace Go.Con.Cha
/-- a word, turned to the left -/
def rotl (x : UInt32) (n : Nat) : UInt32 := UInt32.ofNat ((x.toNat <<< n % 4294967296) ||| (x.toNat / 2 ^ (32 - n)))
def at0 (s : List UInt32) (i : Nat) : UInt32 := s.getD i 0
def add1 (s : List UInt32) (a b : Nat) : List UInt32 := s.set a (at0 s a + at0 s b)
def mix1 (s : List UInt32) (a d n : Nat) : List UInt32 := s.set d (rotl (at0 s d ^^^ at0 s a) n)
def turns (k : Nat) : Nat := match k with | 0 => 16 | 1 => 12 | 2 => 8 | _ => 7
/-- the words of a quarter of a round, in the k-th step -/
def pa (a c k : Nat) : Nat := if k % 2 = 0 then a else c
def qstep (s : List UInt32) (a b c d k : Nat) : List UInt32 := mix1 (add1 s (pa a c k) (pa b d k)) (pa a c k) (pa d b k) (turns k)
def qk (s : List UInt32) (a b c d : Nat) : Nat → List UInt32
  | 0 => s
  | k + 1 => qstep (qk s a b c d k) a b c d k
def quarter (s : List UInt32) (a b c d : Nat) : List UInt32 := qk s a b c d 4
theorem qk_length (s : List UInt32) (a b c d k : Nat) : (qk s a b c d k).length = s.length := by
  induction k with
  | zero => rfl
  | succ k ih => rw [qk, qstep, mix1, List.length_set, add1, List.length_set, ih]
/-- the columns, so many of them -/
def cols (s : List UInt32) : Nat → List UInt32
  | 0 => s
  | i + 1 => quarter (cols s i) i (4 + i) (8 + i) (12 + i)
/-- the diagonals -/
def diags (s : List UInt32) : Nat → List UInt32
  | 0 => s
  | i + 1 => quarter (diags s i) i (4 + (i + 1) % 4) (8 + (i + 2) % 4) (12 + (i + 3) % 4)
def rounds (s : List UInt32) : Nat → List UInt32
  | 0 => s
  | r + 1 => diags (cols (rounds s r) 4) 4
theorem cols_length (s : List UInt32) (i : Nat) : (cols s i).length = s.length := by
  induction i with
  | zero => rfl
  | succ i ih => rw [cols, quarter, qk_length, ih]
theorem diags_length (s : List UInt32) (i : Nat) : (diags s i).length = s.length := by
  induction i with
  | zero => rfl
  | succ i ih => rw [diags, quarter, qk_length, ih]
theorem rounds_length (s : List UInt32) (i : Nat) : (rounds s i).length = s.length := by
  induction i with
  | zero => rfl
  | succ i ih => rw [rounds, diags_length, cols_length, ih]
/-- a word of four bytes, the lowest one first -/
def word (b : List UInt8) (k : Nat) : UInt32 := (b.getD k 0).toUInt32 ||| (b.getD (k + 1) 0).toUInt32 <<< 8 ||| (b.getD (k + 2) 0).toUInt32 <<< 16 ||| (b.getD (k + 3) 0).toUInt32 <<< 24
def start (key : List UInt8) (counter : UInt32) (nonce : List UInt8) : List UInt32 :=
  [1634760805, 857760878, 2036477234, 1797285236, word key 0, word key 4, word key 8, word key 12, word key 16, word key 20, word key 24, word key 28, counter, word nonce 0, word nonce 4, word nonce 8]
/-- four bytes of a word, the lowest one first -/
def le4 (n : UInt32) : List UInt8 := [n.toUInt8, (n >>> 8).toUInt8, (n >>> 16).toUInt8, (n >>> 24).toUInt8]
def outs (x s : List UInt32) : Nat → List UInt8
  | 0 => []
  | i + 1 => outs x s i ++ le4 (at0 x i + at0 s i)
def block (key : List UInt8) (counter : UInt32) (nonce : List UInt8) : List UInt8 :=
  outs (rounds (start key counter nonce) 10) (start key counter nonce) 16
theorem outs_length (x s : List UInt32) (i : Nat) : (outs x s i).length = 4 * i := by
  induction i with
  | zero => rfl
  | succ i ih => rw [outs, List.length_append, ih]; simp [le4]; omega
theorem block_length (key : List UInt8) (counter : UInt32) (nonce : List UInt8) : (block key counter nonce).length = 64 := outs_length _ _ 16
end Go.Con.Cha
