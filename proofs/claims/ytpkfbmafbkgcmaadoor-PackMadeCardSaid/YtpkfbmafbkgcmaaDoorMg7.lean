/-
  Texts put together: Some, Filled, Pick, Frm, ChaP.
-/
import Derived.Test.YtpkfbmafbkgcmaaDoorMg2
import Derived.ProofKit
import Derived.OpenShut
import Derived.ShutString
import Derived.ChangeOld
import Derived.Below
import Derived.Lib.SmallJoins
import Derived.LaidLaws
import Derived.LaidMore
import Derived.LaidHandle
import Derived.Stop.Joined
import Derived.SevenTiedAt
import Derived.Test.YtpkfbmafbkgcmaaDoorMg6
set_option linter.unusedVariables false
set_option linter.unusedSimpArgs false
namespace Go.Proofs.YtpkfbmafbkgcmaaDoor
open Go.RowKit Go.Con

end Go.Proofs.YtpkfbmafbkgcmaaDoor

set_option linter.unusedVariables false
set_option linter.unusedSimpArgs false
namespace Go.Proofs.YtpkfbmafbkgcmaaDoor
open Go.RowKit Go.Con

end Go.Proofs.YtpkfbmafbkgcmaaDoor

set_option linter.unusedVariables false
set_option linter.unusedSimpArgs false
namespace Go.Proofs.YtpkfbmafbkgcmaaDoor
open Go.RowKit Go.Con

set_option maxHeartbeats 400000 in
theorem picked_any (n m : Int) (w : World) (h1 : -9223372036854775808 ≤ n) (h2 : n ≤ 9223372036854775807) (h3 : 0 < m) :
    Calls Tryd.prog 8 #[.int .i64 n, .int .i64 m] w fun e w' => e = .returned (.int .i64 (pick n m)) ∧ w = w' := by
  by_cases hn : n < 0
  · go_enter Tryd.func8, Tryd.ntmps8
    go_wp2
    go_ret
    exact ⟨ret_int (by rw [pick, if_pos hn, ← Int.neg_tmod, Int.tmod_eq_emod_of_nonneg (by omega)]), rfl⟩
  · go_enter Tryd.func8, Tryd.ntmps8
    go_wp2
    go_ret
    exact ⟨ret_int (by rw [pick, if_neg (by omega)]), rfl⟩

end Go.Proofs.YtpkfbmafbkgcmaaDoor

set_option linter.unusedVariables false
set_option linter.unusedSimpArgs false
namespace Go.Proofs.YtpkfbmafbkgcmaaDoor
open Go.ChangeShapes Go.WideShapes Go.ChangeAt Go.RowKit Go.Con

theorem own : ownKnob Tryd.prog.godebug = none := by kernel_rfl
theorem laidOut : laidOutB Tryd.prog = true := by kernel_rfl

section
variable {H : Type} {enc : TypeId × Value → H} {W : World} {base b0 : Nat}

set_option maxRecDepth 100000 in
theorem open_bytes {v : Value} {d : DataW H} {p : List MemPlace} (hv : Value.okWide Tryd.prog W .any b0 31 v) (h : DataW.Trod enc Tryd.prog W base (fun _ => true) true 31 v d p) : ∃ l, Rd W v l := by
  obtain ⟨a, len, cap, rfl⟩ := okWide_slice Tryd.underlying31 hv
  obtain ⟨fuel, hf⟩ := h
  rcases open_ints Tryd.underlying31 Tryd.underlying5 (by kernel_rfl) hf with ⟨hcs, _⟩ | ⟨x, l, c, zs, hcs, _, hl, hm, hz, _, hcell, hwz⟩
  · simp [Value.cells] at hcs
    obtain ⟨rfl, rfl, rfl⟩ := hcs
    exact ⟨[], Rd.nil W⟩
  · simp [Value.cells] at hcs
    obtain ⟨rfl, rfl, rfl⟩ := hcs
    refine ⟨(zs.take len).map fun z => UInt8.ofNat z.toNat, ?_⟩
    have hzl : zs.length = cap := by simpa using hz
    have hlen : ((zs.take len).map fun z => UInt8.ofNat z.toNat).length = len := by simp; omega
    refine ⟨some x, cap, by rw [hlen], by rw [hlen]; exact hl, hm, (fun h => by cases h), fun hne => ?_⟩
    have hpos : 0 < len := by rw [← hlen]; exact List.length_pos_iff.2 hne
    obtain ⟨b, off, spot⟩ := x
    have hspot : spot = none := by
      have := hcell 0 (by omega)
      simpa [Addr.add] using World.cell?_spot this
    subst hspot
    refine ⟨b, off, rfl, fun i hi => ?_⟩
    rw [hlen] at hi
    have hc := hcell i (by omega)
    have hiz : i < zs.length := by omega
    have hb := bounds_u8 (hwz zs[i] (List.getElem_mem hiz))
    have e : u8v (((zs.take len).map fun z => UInt8.ofNat z.toNat).getD i 0) = .int .u8 (zs.getD i 0) := by
      have e1 : ((zs.take len).map fun z => UInt8.ofNat z.toNat).getD i 0 = UInt8.ofNat zs[i].toNat := by
        simp [List.getElem?_take, hi, hiz]
      have e2 : zs.getD i 0 = zs[i] := by simp [hiz]
      have e3 : (UInt8.ofNat zs[i].toNat).toNat = zs[i].toNat := by
        rw [UInt8.toNat_ofNat']; omega
      rw [e1, e2, u8v, e3]
      congr 1
      omega
    rw [e]
    unfold Addr.add at hc
    split at hc
    · rename_i h0; subst h0; simpa using hc
    · exact hc

/-- An int that came in. -/
def IsInt (v : Value) (n : Int) : Prop := v = .int .i64 n ∧ -9223372036854775808 ≤ n ∧ n ≤ 9223372036854775807
set_option maxRecDepth 100000 in
theorem open_int {v : Value} {d : DataW H} {p : List MemPlace} (hv : Value.okWide Tryd.prog W .any b0 3 v) (h : DataW.Trod enc Tryd.prog W base (fun _ => true) true 3 v d p) : ∃ n, IsInt v n := by
  obtain ⟨n, rfl, _, _, wn⟩ := ChangeShapes.open_int Tryd.underlying3 hv h
  exact ⟨n, rfl, (bounds_i64 wn).1, (bounds_i64 wn).2⟩
def IsBool (v : Value) (b : Bool) : Prop := v = .bool b
set_option maxRecDepth 100000 in
theorem open_bool {v : Value} {d : DataW H} {p : List MemPlace} (hv : Value.okWide Tryd.prog W .any b0 4 v) (h : DataW.Trod enc Tryd.prog W base (fun _ => true) true 4 v d p) : ∃ b, IsBool v b := by
  obtain ⟨b, rfl, _, _⟩ := RowKit.open_bool Tryd.underlying4 hv h
  exact ⟨b, rfl⟩
end
end Go.Proofs.YtpkfbmafbkgcmaaDoor

set_option linter.unusedVariables false
set_option linter.unusedSimpArgs false
namespace Go.Con.Cha
theorem mix_ext (key nonce a b : List UInt8) (c d : Nat) (hl : a.length = b.length) (h : ∀ i, i < a.length → mixAt key c nonce a i = mixAt key d nonce b i) : mix key c nonce a = mix key d nonce b := by
  unfold mix
  rw [hl]
  apply List.map_congr_left
  intro i hi
  exact h i (by rw [hl]; exact List.mem_range.1 hi)
theorem xor_twice (x y : UInt8) : x ^^^ y ^^^ y = x := by rw [UInt8.xor_assoc, UInt8.xor_self, UInt8.xor_zero]
theorem mix_twice (key nonce data : List UInt8) (c : Nat) : mix key c nonce (mix key c nonce data) = data := by
  apply List.ext_getElem (by rw [mix_length, mix_length])
  intro i h1 h2
  have e1 := mix_at key c nonce (mix key c nonce data) i (by rw [mix_length]; exact h2)
  have e2 := mix_at key c nonce data i h2
  simp only [List.getD_eq_getElem?_getD, List.getElem?_eq_getElem h1, Option.getD_some] at e1
  rw [e1, mixAt, e2, mixAt, xor_twice]
  simp [h2]
theorem mix_noughts (key nonce : List UInt8) (c m : Nat) : (mix key c nonce (List.replicate (64 + m) 0)).drop 64 = mix key (c + 1) nonce (List.replicate m 0) := by
  apply List.ext_getElem (by simp [mix_length])
  intro i h1 h2
  have hm : i < m := by simpa [mix_length] using h2
  have e1 := mix_at key c nonce (List.replicate (64 + m) 0) (64 + i) (by simp; omega)
  have e2 := mix_at key (c + 1) nonce (List.replicate m 0) i (by simp; omega)
  have l1 : 64 + i < (mix key c nonce (List.replicate (64 + m) 0)).length := by simp [mix_length]; omega
  simp only [List.getD_eq_getElem?_getD, List.getElem?_eq_getElem l1, List.getElem?_eq_getElem h2, Option.getD_some] at e1 e2
  rw [List.getElem_drop, e1, e2, mixAt, mixAt, show c + (64 + i) / 64 = c + 1 + i / 64 by omega, show (64 + i) % 64 = i % 64 by omega]
  simp [hm]
end Go.Con.Cha
namespace Go.Proofs.YtpkfbmafbkgcmaaDoor
open Go.RowKit Go.Con
theorem Block_nat (kv nv : Value) (key nonce : List UInt8) (q : Int) (c : Nat) (w : World) (hk : Rd w kv key) (hn : Rd w nv nonce) (hkl : key.length = 32) (hnl : nonce.length = 12) (hc : c ≤ 1073741824) (hq : q = (c : Int)) :
    Calls Tryd.prog 49 #[kv, .int .i64 q, nv] w (FreshBE w (Cha.block key (UInt32.ofNat c) nonce) 0) := by
  have e : (UInt32.ofNat c).toNat = c := by rw [UInt32.toNat_ofNat']; omega
  have h := Block_ok kv nv key nonce (UInt32.ofNat c) w hk hn hkl hnl (by omega)
  rw [e] at h
  subst hq
  exact h
theorem Mix_nat (kv nv dv : Value) (key nonce data : List UInt8) (q : Int) (c : Nat) (w : World) (hk : Rd w kv key) (hn : Rd w nv nonce) (hd : Rd w dv data) (hkl : key.length = 32) (hnl : nonce.length = 12) (hc : c ≤ 1073741824) (hdl : data.length ≤ 2000) (hq : q = (c : Int)) :
    Calls Tryd.prog 39 #[kv, .int .i64 q, nv, dv] w (FreshBE w (Cha.mix key c nonce data) 0) := by
  have e : (UInt32.ofNat c).toNat = c := by rw [UInt32.toNat_ofNat']; omega
  have h := Mix_ok kv nv dv key nonce data (UInt32.ofNat c) w hk hn hd hkl hnl (by omega) hdl
  rw [e] at h
  subst hq
  exact h
theorem Rd.empty (w : World) (a : Option Addr) : Rd w (.slice a 0 0) [] := ⟨a, 0, rfl, Nat.le_refl _, Nat.zero_le _, fun _ => rfl, fun h => absurd rfl h⟩
theorem RdShift {w : World} {b o k n c : Nat} {l : List UInt8} (h : Rd w (.slice ((some (⟨b, o, none⟩ : Addr)).map (·.add (k * 1))) n c) l) : Rd w (.slice (some ⟨b, o + k, none⟩) n c) l := by
  have e : (some (⟨b, o, none⟩ : Addr)).map (·.add (k * 1)) = some ⟨b, o + k, none⟩ := by
    simp only [Option.map_some, Nat.mul_one, Addr.add]
    split
    · rename_i h; subst h; rfl
    · rfl
  rw [e] at h
  exact h
end Go.Proofs.YtpkfbmafbkgcmaaDoor
