/-
  Appending as one step of a region that draws its order.
-/
import Derived.Test.YtdkbajdnckmckaaApZ
import Derived.Deep.RegionLaw
set_option linter.unusedVariables false
set_option linter.unusedSimpArgs false
namespace Go.Proofs.Ytdkbajdnckmckaa
open Go.RowKit Go.Con
/-- A new row, written out, is the call's own. -/
theorem ownNew (w : World) (base : Nat) (l : List UInt8) (n : Nat) (hn : l.length = n) (hb : base ≤ w.heap.size) (hm : n ≤ maxLen) : Own (w.alloc (.cells (l.map u8v).toArray 5)) base (.slice (some ⟨w.heap.size, 0, none⟩) n n) l := by
  subst hn
  refine ⟨by simp, .inr ⟨w.heap.size, l.length, (l.map u8v).toArray, rfl, hb, heapNew w _, Nat.le_refl _, hm, by simp, ?_⟩⟩
  rw [List.take_of_length_le (by simp)]
theorem ownNew1 (W : World) (base : Nat) (x0 : Int) (b0 : UInt8) (h0 : x0 = b0.toNat) (hb : base ≤ W.heap.size) :
    Own (W.alloc (.cells #[.int .u8 x0] 5)) base (.slice (some ⟨W.heap.size, 0, none⟩) 1 1) [b0] := by
  subst h0; exact ownNew W base [b0] 1 rfl hb (by decide)
section
variable {ops : Array Oper} {o : Oper} {a : Act} {w : World} {K : Act → World → Prop} {Q : Exit → Act → World → Prop} {E : Prop}
end
end Go.Proofs.Ytdkbajdnckmckaa
