/-
  Small laws of a token's bytes.
-/
import Derived.Test.YtdjnbnbhpjiicaaDoorGra
set_option linter.unusedVariables false
set_option linter.unusedSimpArgs false
namespace Go.Con
theorem tokenB_take (k : List UInt8) (t : Con.Tok) : (tokenB k t).take 6 = bodyB t := by rw [tokenB, List.take_append_of_le_length (by rw [bodyB_length]; decide), List.take_of_length_le (by rw [bodyB_length]; decide)]
theorem tokenB_drop (k : List UInt8) (t : Con.Tok) : (tokenB k t).drop 6 = proofB k (bodyB t) := by rw [tokenB, List.drop_append_of_le_length (by rw [bodyB_length]; decide), List.drop_of_length_le (by rw [bodyB_length]; decide), List.nil_append]
theorem tokenB_raw (k : List UInt8) (t : Con.Tok) (h : t.Ok) : rawTok (tokenB k t) = t := by
  obtain ⟨c, r, u⟩ := t
  obtain ⟨c0, c1, r0, r1, u0, u1⟩ := h
  dsimp only at c0 c1 r0 r1 u0 u1
  have e0 : (tokenB k ⟨c, r, u⟩).getD 0 0 = UInt8.ofNat c.toNat := rfl
  have e1 : (tokenB k ⟨c, r, u⟩).getD 1 0 = UInt8.ofNat r.toNat := rfl
  have e2 : (tokenB k ⟨c, r, u⟩).getD 2 0 = UInt8.ofNat (u.toNat / 16777216) := rfl
  have e3 : (tokenB k ⟨c, r, u⟩).getD 3 0 = UInt8.ofNat (u.toNat / 65536) := rfl
  have e4 : (tokenB k ⟨c, r, u⟩).getD 4 0 = UInt8.ofNat (u.toNat / 256) := rfl
  have e5 : (tokenB k ⟨c, r, u⟩).getD 5 0 = UInt8.ofNat u.toNat := rfl
  unfold rawTok
  rw [e0, e1, e2, e3, e4, e5, UInt8.toNat_ofNat', UInt8.toNat_ofNat', UInt8.toNat_ofNat', UInt8.toNat_ofNat', UInt8.toNat_ofNat', UInt8.toNat_ofNat']
  have a : ((c.toNat % 2 ^ 8 : Nat) : Int) = c := by omega
  have b : ((r.toNat % 2 ^ 8 : Nat) : Int) = r := by omega
  have d : ((u.toNat / 16777216 % 2 ^ 8 * 16777216 + u.toNat / 65536 % 2 ^ 8 * 65536 + u.toNat / 256 % 2 ^ 8 * 256 + u.toNat % 2 ^ 8 : Nat) : Int) = u := by omega
  rw [a, b, d]
theorem tokB_of {t : Con.Tok} (h : t.Ok) : tokB t = true := decide_eq_true ⟨h.c0, h.c1, h.r0, h.r1, h.u0, h.u1⟩
theorem prove_grant (k : List UInt8) (t : Con.Tok) (h : t.Ok) : proveC k (tokenB k t) = (t, 0) := by
  unfold proveC
  rw [if_neg (by rw [tokenB_length]; simp), tokenB_take, tokenB_drop, if_neg (fun h => h rfl), tokenB_raw k t h, if_pos (tokB_of h)]
end Go.Con
