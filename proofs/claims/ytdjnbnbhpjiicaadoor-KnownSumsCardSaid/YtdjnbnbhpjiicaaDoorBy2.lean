/-
  More on slices of bytes: strings made of them; what a call that gives fresh bytes leaves.
-/
import Derived.Test.YtdjnbnbhpjiicaaDoorRows
import Derived.Test.YtdjnbnbhpjiicaaDoorBit
import Derived.Test.YtdjnbnbhpjiicaaDoorQt
import Derived.Test.YtdjnbnbhpjiicaaDoorByt
import Derived.WalkKit
import Derived.WalkSpells
import Derived.WalkLawsBesides
import Derived.BigQuiet
import Derived.Deep.QuietTactic
import Derived.LoopTactic
import Derived.Lib.Hide
import Derived.Lib.BufferRead
namespace Go.Con
/-- a number from 0 to many - 1 -/
def pick (n m : Int) : Int := (if n < 0 then -(n + 1) else n) % m
theorem pick_nonneg (n m : Int) (h : 0 < m) : 0 ≤ pick n m := Int.emod_nonneg _ (by omega)
theorem pick_lt (n m : Int) (h : 0 < m) : pick n m < m := Int.emod_lt_of_pos _ h
/-- just so many bytes -/
def fill (l : List UInt8) (n : Nat) : List UInt8 := l.take n ++ List.replicate (n - l.length) 0
theorem fill_length (l : List UInt8) (n : Nat) : (fill l n).length = n := by simp [fill]; omega
end Go.Con
namespace Go.Proofs.YtdjnbnbhpjiicaaDoor
open Go.RowKit Go.Con

theorem ret_int {k : IntKind} {a b : Int} (h : a = b) : Ending.returned (.int k a) = .returned (.int k b) := by rw [h]

/-- A call that gives a row of its own with these bytes, and turns nothing that was there. -/
def FreshB (w : World) (R : List UInt8) (e : Ending) (w' : World) : Prop := ∃ v', e = .returned v' ∧ Own w' w.heap.size v' R ∧ Below w.heap.size w w'

/-- 'string(v)' of shown bytes. -/
theorem run_str (w : World) (v : Value) (l : List UInt8) (h : Rd w v l) : (convert 35 9 v).run Tryd.prog w = .ok (.string ⟨l.toArray⟩) w := by
  obtain ⟨a, c, rfl, h1, h2⟩ := h.slice
  cases a with
  | none =>
    obtain ⟨rfl, _, _⟩ := h.none_nil
    exact Lib.run_convert_nil_bytes w 35 9 5 c Tryd.underlying35 Tryd.underlying5 Tryd.underlying9
  | some ad =>
    refine run_convert_bytes_back w 35 9 5 ad c l Tryd.underlying35 Tryd.underlying5 Tryd.underlying9 fun j hj => ?_
    have := h.cells ad rfl j (u8v l[j]) (by simp [hj])
    exact this
end Go.Proofs.YtdjnbnbhpjiicaaDoor
