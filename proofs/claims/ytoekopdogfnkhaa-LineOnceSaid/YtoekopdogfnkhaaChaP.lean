/-
  Small laws of the stream in plain Lean; contracts whose counter is an int.
-/
import Derived.Test.YtoekopdogfnkhaaChaM
import Derived.Test.YtoekopdogfnkhaaFilled
import Derived.Test.YtoekopdogfnkhaaPick
import Derived.Test.YtoekopdogfnkhaaFrm
set_option linter.unusedVariables false
set_option linter.unusedSimpArgs false
namespace Go.Con.Cha
theorem mix_ext (key nonce a b : List UInt8) (c d : Nat) (hl : a.length = b.length) (h : ∀ i, i < a.length → mixAt key c nonce a i = mixAt key d nonce b i) : mix key c nonce a = mix key d nonce b := by
  unfold mix
  rw [hl]
  apply List.map_congr_left
  intro i hi
  exact h i (by rw [hl]; exact List.mem_range.1 hi)
theorem xor_twice (x y : UInt8) : x ^^^ y ^^^ y = x := by rw [UInt8.xor_assoc, UInt8.xor_self, UInt8.xor_zero]
theorem mix_twice (key nonce data : List UInt8) (c : Nat) : mix key c nonce (mix key c nonce data) = data := by
  apply List.ext_getElem (by rw [mix_length, mix_length])
  intro i h1 h2
  have e1 := mix_at key c nonce (mix key c nonce data) i (by rw [mix_length]; exact h2)
  have e2 := mix_at key c nonce data i h2
  simp only [List.getD_eq_getElem?_getD, List.getElem?_eq_getElem h1, Option.getD_some] at e1
  rw [e1, mixAt, e2, mixAt, xor_twice]
  simp [h2]
theorem mix_noughts (key nonce : List UInt8) (c m : Nat) : (mix key c nonce (List.replicate (64 + m) 0)).drop 64 = mix key (c + 1) nonce (List.replicate m 0) := by
  apply List.ext_getElem (by simp [mix_length])
  intro i h1 h2
  have hm : i < m := by simpa [mix_length] using h2
  have e1 := mix_at key c nonce (List.replicate (64 + m) 0) (64 + i) (by simp; omega)
  have e2 := mix_at key (c + 1) nonce (List.replicate m 0) i (by simp; omega)
  have l1 : 64 + i < (mix key c nonce (List.replicate (64 + m) 0)).length := by simp [mix_length]; omega
  simp only [List.getD_eq_getElem?_getD, List.getElem?_eq_getElem l1, List.getElem?_eq_getElem h2, Option.getD_some] at e1 e2
  rw [List.getElem_drop, e1, e2, mixAt, mixAt, show c + (64 + i) / 64 = c + 1 + i / 64 by omega, show (64 + i) % 64 = i % 64 by omega]
  simp [hm]
end Go.Con.Cha
namespace Go.Proofs.Ytoekopdogfnkhaa
open Go.RowKit Go.Con
theorem Block_nat (kv nv : Value) (key nonce : List UInt8) (q : Int) (c : Nat) (w : World) (hk : Rd w kv key) (hn : Rd w nv nonce) (hkl : key.length = 32) (hnl : nonce.length = 12) (hc : c ≤ 1073741824) (hq : q = (c : Int)) :
    Calls Try.prog 28 #[kv, .int .i64 q, nv] w (FreshBE w (Cha.block key (UInt32.ofNat c) nonce) 0) := by
  have e : (UInt32.ofNat c).toNat = c := by rw [UInt32.toNat_ofNat']; omega
  have h := Block_ok kv nv key nonce (UInt32.ofNat c) w hk hn hkl hnl (by omega)
  rw [e] at h
  subst hq
  exact h
theorem Mix_nat (kv nv dv : Value) (key nonce data : List UInt8) (q : Int) (c : Nat) (w : World) (hk : Rd w kv key) (hn : Rd w nv nonce) (hd : Rd w dv data) (hkl : key.length = 32) (hnl : nonce.length = 12) (hc : c ≤ 1073741824) (hdl : data.length ≤ 2000) (hq : q = (c : Int)) :
    Calls Try.prog 27 #[kv, .int .i64 q, nv, dv] w (FreshBE w (Cha.mix key c nonce data) 0) := by
  have e : (UInt32.ofNat c).toNat = c := by rw [UInt32.toNat_ofNat']; omega
  have h := Mix_ok kv nv dv key nonce data (UInt32.ofNat c) w hk hn hd hkl hnl (by omega) hdl
  rw [e] at h
  subst hq
  exact h
theorem Rd.empty (w : World) (a : Option Addr) : Rd w (.slice a 0 0) [] := ⟨a, 0, rfl, Nat.le_refl _, Nat.zero_le _, fun _ => rfl, fun h => absurd rfl h⟩
theorem RdShift {w : World} {b o k n c : Nat} {l : List UInt8} (h : Rd w (.slice ((some (⟨b, o, none⟩ : Addr)).map (·.add (k * 1))) n c) l) : Rd w (.slice (some ⟨b, o + k, none⟩) n c) l := by
  have e : (some (⟨b, o, none⟩ : Addr)).map (·.add (k * 1)) = some ⟨b, o + k, none⟩ := by
    simp only [Option.map_some, Nat.mul_one, Addr.add]
    split
    · rename_i h; subst h; rfl
    · rfl
  rw [e] at h
  exact h
end Go.Proofs.Ytoekopdogfnkhaa
