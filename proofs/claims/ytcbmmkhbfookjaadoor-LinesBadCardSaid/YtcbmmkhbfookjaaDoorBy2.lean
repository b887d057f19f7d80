/-
  More on slices of bytes: strings made of them; what a call that gives fresh bytes leaves.
-/
import Derived.Test.YtcbmmkhbfookjaaDoorRows
import Derived.Test.YtcbmmkhbfookjaaDoorBit
import Derived.Test.YtcbmmkhbfookjaaDoorQt
import Derived.Test.YtcbmmkhbfookjaaDoorByt
import Derived.WalkKit
import Derived.WalkSpells
import Derived.WalkLawsBesides
import Derived.BigQuiet
import Derived.Deep.QuietTactic
import Derived.LoopTactic
import Derived.Lib.Hide
import Derived.Lib.BufferRead
set_option linter.unusedVariables false
set_option linter.unusedSimpArgs false
namespace Go.Con
/-- a number from 0 to many - 1 -/
def pick (n m : Int) : Int := (if n < 0 then -(n + 1) else n) % m
theorem pick_nonneg (n m : Int) (h : 0 < m) : 0 ≤ pick n m := Int.emod_nonneg _ (by omega)
theorem pick_lt (n m : Int) (h : 0 < m) : pick n m < m := Int.emod_lt_of_pos _ h
/-- just so many bytes -/
def fill (l : List UInt8) (n : Nat) : List UInt8 := l.take n ++ List.replicate (n - l.length) 0
theorem fill_length (l : List UInt8) (n : Nat) : (fill l n).length = n := by simp [fill]; omega
end Go.Con
namespace Go.Proofs.YtcbmmkhbfookjaaDoor
open Go.RowKit Go.Con

theorem ret_int {k : IntKind} {a b : Int} (h : a = b) : Ending.returned (.int k a) = .returned (.int k b) := by rw [h]

/-- A call that gives a row of its own with these bytes, and turns nothing that was there. -/
def FreshB (w : World) (R : List UInt8) (e : Ending) (w' : World) : Prop := ∃ v', e = .returned v' ∧ Own w' w.heap.size v' R ∧ Below w.heap.size w w'

/-- A call that gives a row of its own with these bytes and a number, and turns nothing that was there. -/
def FreshBE (w : World) (R : List UInt8) (c : Int) (e : Ending) (w' : World) : Prop := ∃ v', e = .returned (.tuple #[v', .int .i64 c]) ∧ Own w' w.heap.size v' R ∧ Below w.heap.size w w'
/-- Its shape, the length named. -/
theorem Rd.sliceN {w : World} {v : Value} {l : List UInt8} (h : Rd w v l) (n : Nat) (hn : l.length = n) : ∃ a c, v = .slice a n c ∧ n ≤ c ∧ c ≤ maxLen := by
  subst hn; exact h.slice
section
variable {ops : Array Oper} {rest : List Oper} {o : Oper} {a : Act} {Q : Exit → Act → World → Prop}
/-- make([]byte, n). -/
theorem makeB (w : World) (hg : o.guard = none) (l c : Operand) (hop : o.op = Op.makeSlice 30 l c) (n : Nat) (L C : Int) (hl : a.eval l = .int .i64 L) (hc : a.eval c = .int .i64 C) (hL : L = (n : Int)) (hC : C = (n : Int)) (hn : n ≤ 281474976710656)
    (hK : ∀ w', Own w' w.heap.size (.slice (some ⟨w.heap.size, 0, none⟩) n n) (List.replicate n 0) → Below w.heap.size w w' → wpList Tryd.prog ops Q rest (a.put o.dst (.slice (some ⟨w.heap.size, 0, none⟩) n n)) w') : wpList Tryd.prog ops Q (o :: rest) a w := by
  obtain ⟨i0, hi, hz0, hz1, hz2⟩ := info_parts Tryd.info8
  refine wpList_make_full w hg l c 30 hop w.heap.size 5 i0 (.int .u8 0) 1 Tryd.underlying30 hi hz0 hz1 .i64 .i64 L C n hl hc hL hC (by rw [hz2]; omega) (by unfold maxLen; omega) (Nat.le_refl _) ?_
  intro w' hown hgr
  refine hK w' ?_ ((Below.refl _ _).grown hgr (Nat.le_refl _) (fun k hk => by cases hk))
  have hm : (madeCells (Value.int .u8 0).cells (n * 1)).toList = (List.replicate n (0 : UInt8)).map u8v := by
    apply List.ext_getElem?
    intro j
    by_cases hj : j < n
    · simp [madeCells, Value.cells, u8v, List.getElem?_replicate, hj, Nat.mod_one]
    · simp [madeCells, Value.cells, u8v, List.getElem?_replicate, hj]
  unfold Own
  rw [List.length_replicate, ← hm]
  exact hown
end
/-- 'string(v)' of shown bytes. -/
theorem run_str (w : World) (v : Value) (l : List UInt8) (h : Rd w v l) : (convert 30 9 v).run Tryd.prog w = .ok (.string ⟨l.toArray⟩) w := by
  obtain ⟨a, c, rfl, h1, h2⟩ := h.slice
  cases a with
  | none =>
    obtain ⟨rfl, _, _⟩ := h.none_nil
    exact Lib.run_convert_nil_bytes w 30 9 5 c Tryd.underlying30 Tryd.underlying5 Tryd.underlying9
  | some ad =>
    refine run_convert_bytes_back w 30 9 5 ad c l Tryd.underlying30 Tryd.underlying5 Tryd.underlying9 fun j hj => ?_
    have := h.cells ad rfl j (u8v l[j]) (by simp [hj])
    exact this
end Go.Proofs.YtcbmmkhbfookjaaDoor
