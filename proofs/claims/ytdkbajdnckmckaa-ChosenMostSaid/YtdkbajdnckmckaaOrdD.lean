/-
  The walk of order.Decode.
-/
import Derived.Test.YtdkbajdnckmckaaOrdE
import Derived.Test.YtdkbajdnckmckaaB64
set_option linter.unusedVariables false
set_option linter.unusedSimpArgs false
namespace Go.Con
/-- the number that begins at a place of a list, four bytes of it -/
def decAt (l : List UInt8) (k : Nat) : Int := ((((l.getD (4 * k) 0).toNat * 16777216 + (l.getD (4 * k + 1) 0).toNat * 65536 + (l.getD (4 * k + 2) 0).toNat * 256 + (l.getD (4 * k + 3) 0).toNat : Nat)) : Int)
def decRaw (l : List UInt8) : Cmd := ⟨decAt l 0, decAt l 1, decAt l 2, decAt l 3, decAt l 4⟩
def decC (l : List UInt8) : Cmd × Int := if l.length ≠ 20 then (Cmd.zero, 1) else if checkC (decRaw l) ≠ 0 then (Cmd.zero, checkC (decRaw l)) else (decRaw l, 0)
end Go.Con
namespace Go.Proofs.Ytdkbajdnckmckaa
open Go.RowKit Go.Con

theorem set5 {w : World} {b : Nat} {e : TypeId} {c : Cmd} {v0 v1 v2 v3 v4 : Value} (h : w.heap[b]? = some (.cells (cmdA c) e (0, 0))) :
    (((((w.setCell ⟨b, 0, none⟩ v0).setCell ⟨b, 1, none⟩ v1).setCell ⟨b, 2, none⟩ v2).setCell ⟨b, 3, none⟩ v3).setCell ⟨b, 4, none⟩ v4).heap[b]? = some (.cells #[v0, v1, v2, v3, v4] e (0, 0)) :=
  heapSet (o := 4) (heapSet (o := 3) (heapSet (o := 2) (heapSet (o := 1) (heapSet (o := 0) h v0) v1) v2) v3) v4
theorem set5_below {a w : World} {b B : Nat} {v0 v1 v2 v3 v4 : Value} (h : Below B a w) (hb : B ≤ b) :
    Below B a (((((w.setCell ⟨b, 0, none⟩ v0).setCell ⟨b, 1, none⟩ v1).setCell ⟨b, 2, none⟩ v2).setCell ⟨b, 3, none⟩ v3).setCell ⟨b, 4, none⟩ v4) :=
  ((((h.setCell hb _).setCell hb _).setCell hb _).setCell hb _).setCell hb _
def decCells (l : List UInt8) (k : Nat) : Nat → Value := fun j => .int .i64 (if j < k then decAt l j else 0)
end Go.Proofs.Ytdkbajdnckmckaa
