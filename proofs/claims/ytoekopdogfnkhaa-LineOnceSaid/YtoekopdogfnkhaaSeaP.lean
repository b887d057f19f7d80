/-
  Sealing in plain Lean (no program in sight).
-/
import Derived.Test.YtoekopdogfnkhaaChaP
import Derived.Test.YtoekopdogfnkhaaTagP
set_option linter.unusedVariables false
set_option linter.unusedSimpArgs false
namespace Go.Con.Sea
def pad (l : List UInt8) : List UInt8 := l ++ List.replicate ((16 - l.length % 16) % 16) 0
theorem pad_length (l : List UInt8) : (pad l).length = l.length + (16 - l.length % 16) % 16 := by simp [pad]
/-- what the tag is of -/
def data (known sealed : List UInt8) : List UInt8 := ((pad known ++ pad sealed) ++ Pol.leB 8 known.length) ++ Pol.leB 8 sealed.length
theorem data_length (known sealed : List UInt8) : (data known sealed).length ≤ known.length + sealed.length + 46 := by
  simp only [data, List.length_append, pad_length, Pol.leB_length]; omega
def tag (key nonce known sealed : List UInt8) : List UInt8 := Pol.tag ((Cha.block key (UInt32.ofNat 0) nonce).take 32) (data known sealed)
theorem tag_length (key nonce known sealed : List UInt8) : (tag key nonce known sealed).length = 16 := Pol.tag_length _ _
/-- what is sealed, and its tag behind it -/
def boxed (key nonce known plain : List UInt8) : List UInt8 := Cha.mix key 1 nonce plain ++ tag key nonce known (Cha.mix key 1 nonce plain)
theorem boxed_length (key nonce known plain : List UInt8) : (boxed key nonce known plain).length = plain.length + 16 := by simp [boxed, Cha.mix_length, tag_length]
theorem boxed_take (key nonce known plain : List UInt8) : (boxed key nonce known plain).take plain.length = Cha.mix key 1 nonce plain := by
  rw [boxed]; exact List.take_left' (Cha.mix_length _ _ _ _)
theorem boxed_drop (key nonce known plain : List UInt8) : (boxed key nonce known plain).drop plain.length = tag key nonce known (Cha.mix key 1 nonce plain) := by
  rw [boxed]; exact List.drop_left' (Cha.mix_length _ _ _ _)
end Go.Con.Sea
