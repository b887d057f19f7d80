/-
  The walks of sha.Sum, pad, mac, Mac.
-/
import Derived.Test.YtdkbajdnckmckaaShaT
import Derived.Test.YtdkbajdnckmckaaShaS2
import Derived.Test.YtdkbajdnckmckaaBy2
import Derived.Laws.CopyOwn
set_option linter.unusedVariables false
set_option linter.unusedSimpArgs false
namespace Go.Proofs.Ytdkbajdnckmckaa
open Go.RowKit Go.Con


theorem Own.ofRow {w : World} {base g : Nat} {cur : Array Value} (l : List UInt8) (n : Nat) (hn : l.length = n) (hb : base ≤ g) (hg : w.heap[g]? = some (.cells cur 5 (0, 0))) (hs : cur.size = n) (hm : n ≤ maxLen)
    (hc : ∀ j, j < n → cur[j]? = some (u8v (l.getD j 0))) : Own w base (.slice (some ⟨g, 0, none⟩) n n) l := by
  subst hn
  refine ⟨by simp, .inr ⟨g, l.length, cur, rfl, hb, hg, Nat.le_refl _, hm, by omega, ?_⟩⟩
  apply List.ext_getElem?
  intro i
  by_cases hi : i < l.length
  · rw [List.getElem?_take, if_pos (by omega)]
    have := hc i hi
    simp only [Array.getElem?_toList, this]
    simp [hi]
  · rw [List.getElem?_eq_none (by simp; omega), List.getElem?_eq_none (by simp; omega)]

section
variable {ops : Array Oper} {rest : List Oper} {o : Oper} {a : Act} {Q : Exit → Act → World → Prop} {w : World}
end

/-- The row of a padded key, on its way. -/
def padRow (k : List UInt8) (x : UInt8) (j n : Nat) : UInt8 := if j < n then (k ++ List.replicate (64 - k.length) 0).getD j 0 ^^^ x else (k ++ List.replicate (64 - k.length) 0).getD j 0

theorem padRow_hit (k : List UInt8) (x : UInt8) (j : Nat) : padRow k x j (j + 1) = padRow k x j j ^^^ x := by
  unfold padRow; rw [if_pos (by omega), if_neg (by omega)]
theorem padRow_miss (k : List UInt8) (x : UInt8) (j n : Nat) (h : j ≠ n) : padRow k x j (n + 1) = padRow k x j n := by
  unfold padRow
  by_cases hj : j < n
  · rw [if_pos hj, if_pos (by omega)]
  · rw [if_neg hj, if_neg (by omega)]
theorem padRow_end (l : List UInt8) (x : UInt8) (k : List UInt8) (j : Nat) (hj : j < 64) (hk : (if 64 < l.length then Sha.sum l else l) = k) : padRow k x j 64 = (Sha.padKey l x).getD j 0 := by
  have hl : j < (Sha.padKey l x).length := by rw [Sha.padKey_length]; exact hj
  unfold padRow
  rw [if_pos hj]
  simp only [List.getD_eq_getElem?_getD, List.getElem?_eq_getElem hl, Option.getD_some]
  simp only [Sha.padKey, hk]
  rw [List.getElem_map]
  congr 1
  have hl2 : j < (k ++ List.replicate (64 - k.length) 0).length := by
    have h := hl
    simp only [Sha.padKey, hk, List.length_map] at h
    exact h
  rw [List.getElem?_eq_getElem hl2, Option.getD_some]
theorem row0 (k : List UInt8) (x : UInt8) (j : Nat) (hk : k.length ≤ 64) (hj : j < 64) (Z : List Value) (hZ : Z = List.replicate 64 (Value.int .u8 0)) :
    ((k.map u8v ++ Z.drop k.length).toArray)[j]? = some (u8v (padRow k x j 0)) := by
  subst hZ
  unfold padRow
  rw [if_neg (by omega)]
  simp only [List.getElem?_toArray, List.drop_replicate, List.getD_eq_getElem?_getD]
  by_cases h : j < k.length
  · rw [List.getElem?_append_left (by simpa using h), List.getElem?_append_left h]
    simp [h]
  · rw [List.getElem?_append_right (by simp; omega), List.getElem?_append_right (by omega)]
    simp [List.getElem?_replicate, show j - k.length < 64 - k.length by omega]
    rfl

end Go.Proofs.Ytdkbajdnckmckaa
