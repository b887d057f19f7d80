/-
  The keys of clients and of the issuer, in plain Lean: each is another.
-/
import Derived.Test.YtdjnbnbhpjiicaaDoorShaS2
namespace Go.Con
/-- the key of a client -/
def keyC (b : UInt8) : List UInt8 := Sha.draw [b] [99, 108, 105, 101, 110, 116] [] 32
/-- the key of the issuer -/
def keyI : List UInt8 := Sha.draw [255] [105, 115, 115, 117, 101, 114] [] 32
theorem keyC_length (b : UInt8) : (keyC b).length = 32 := Sha.draw_length _ _ _ _
theorem keyI_length : keyI.length = 32 := Sha.draw_length _ _ _ _
/-- the first byte of each key -/
def headK (b : UInt8) : Option UInt8 := (keyC b)[0]?
theorem headK_0 : headK 0 = some 164 := by decide +kernel
theorem headK_1 : headK 1 = some 62 := by decide +kernel
theorem headK_2 : headK 2 = some 98 := by decide +kernel
theorem headK_3 : headK 3 = some 60 := by decide +kernel
theorem headK_4 : headK 4 = some 104 := by decide +kernel
theorem headK_5 : headK 5 = some 194 := by decide +kernel
theorem headK_6 : headK 6 = some 6 := by decide +kernel
theorem headK_7 : headK 7 = some 18 := by decide +kernel
theorem headI : keyI[0]? = some 184 := by decide +kernel
theorem small8 (b : UInt8) (hb : b.toNat ≤ 7) : b = 0 ∨ b = 1 ∨ b = 2 ∨ b = 3 ∨ b = 4 ∨ b = 5 ∨ b = 6 ∨ b = 7 := by
  have h : b.toNat = 0 ∨ b.toNat = 1 ∨ b.toNat = 2 ∨ b.toNat = 3 ∨ b.toNat = 4 ∨ b.toNat = 5 ∨ b.toNat = 6 ∨ b.toNat = 7 := by omega
  rcases h with h | h | h | h | h | h | h | h
  · exact .inl (UInt8.toNat_inj.1 h)
  · exact .inr (.inl (UInt8.toNat_inj.1 h))
  · exact .inr (.inr (.inl (UInt8.toNat_inj.1 h)))
  · exact .inr (.inr (.inr (.inl (UInt8.toNat_inj.1 h))))
  · exact .inr (.inr (.inr (.inr (.inl (UInt8.toNat_inj.1 h)))))
  · exact .inr (.inr (.inr (.inr (.inr (.inl (UInt8.toNat_inj.1 h))))))
  · exact .inr (.inr (.inr (.inr (.inr (.inr (.inl (UInt8.toNat_inj.1 h)))))))
  · exact .inr (.inr (.inr (.inr (.inr (.inr (.inr (UInt8.toNat_inj.1 h)))))))
def headT (b : UInt8) : Option UInt8 := some (([164, 62, 98, 60, 104, 194, 6, 18] : List UInt8).getD b.toNat 0)
theorem headK_eq (b : UInt8) (hb : b.toNat ≤ 7) : headK b = headT b := by
  rcases small8 b hb with rfl | rfl | rfl | rfl | rfl | rfl | rfl | rfl
  · rw [headK_0]; rfl
  · rw [headK_1]; rfl
  · rw [headK_2]; rfl
  · rw [headK_3]; rfl
  · rw [headK_4]; rfl
  · rw [headK_5]; rfl
  · rw [headK_6]; rfl
  · rw [headK_7]; rfl
theorem headT_inj : ∀ i, i < 8 → ∀ j, j < 8 → headT (UInt8.ofNat i) = headT (UInt8.ofNat j) → i = j := by decide
theorem headT_ne : ∀ i, i < 8 → headT (UInt8.ofNat i) ≠ some 184 := by decide
theorem keyC_inj (b c : UInt8) (hb : b.toNat ≤ 7) (hc : c.toNat ≤ 7) (h : keyC b = keyC c) : b = c := by
  have h1 : headT b = headT c := by rw [← headK_eq b hb, ← headK_eq c hc, headK, headK, h]
  exact UInt8.toNat_inj.1 (headT_inj b.toNat (by omega) c.toNat (by omega) (by simpa using h1))
theorem keyI_ne (b : UInt8) (hb : b.toNat ≤ 7) : keyC b ≠ keyI := by
  intro h
  have h1 : headT b = some 184 := by rw [← headK_eq b hb, headK, h, headI]
  exact headT_ne b.toNat (by omega) (by simpa using h1)
end Go.Con
