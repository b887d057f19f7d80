/-
  The walks of lines.numbers and lines.Check.
-/
import Derived.Test.YtcbmmkhbfookjaaDoorAct
set_option linter.unusedVariables false
set_option linter.unusedSimpArgs false
namespace Go.Con
open Go
/-- the numbers of an act of a kind: each one's field, and its bound -/
def slotsOf (k : Int) : List (Nat × Int) :=
  if k = 1 ∨ k = 2 ∨ k = 3 ∨ k = 9 then [(1, 4)] else if k = 4 ∨ k = 5 ∨ k = 6 then [(2, 1048576)] else if k = 8 then [(1, 4), (3, 100000)] else []
end Go.Con
namespace Go.Proofs.YtcbmmkhbfookjaaDoor
open Go.RowKit Go.Con
/-- the row of an act's numbers: pointers into the act, and bounds -/
def slotCells (b : Nat) : List (Nat × Int) → List Value
  | [] => []
  | (f, m) :: l => .pointer (some ⟨b, f, none⟩) :: .int .i64 m :: slotCells b l
/-- a row of numbers that is shown -/
def SlotsAt (w : World) (v : Value) (b lo : Nat) (l : List (Nat × Int)) : Prop :=
  (l = [] ∧ v = .slice none 0 0) ∨ ∃ s, v = .slice (some ⟨s, 0, none⟩) l.length l.length ∧ lo ≤ s ∧ w.heap[s]? = some (.cells (slotCells b l).toArray 63 (0, 0))
set_option maxRecDepth 100000 in
set_option maxHeartbeats 2000000 in
theorem slots_any (b : Nat) (k n a p : Int) (dv : Value) (w : World) (hb : w.heap[b]? = some (.cells #[.int .i64 k, .int .i64 n, .int .i64 a, .int .i64 p, dv] 32 (0, 0))) (hk : 1 ≤ k) (hk9 : k ≤ 9) :
    Calls Tryd.prog 19 #[.pointer (some ⟨b, 0, none⟩)] w fun e w' => ∃ v, e = .returned (.tuple #[v, .bool true]) ∧ SlotsAt w' v b w.heap.size (slotsOf k) ∧ Below w.heap.size w w' := by
  have x0 : w.cell? ⟨b, 0, none⟩ = some (.int .i64 k) := cellAt hb 0 rfl
  have hbl : b < w.heap.size := lt_of_heap hb
  have HB := Lib.hid hb
  clear hb
  have hc : (k = 1 ∨ k = 2 ∨ k = 3 ∨ k = 9) ∨ (k = 4 ∨ k = 5 ∨ k = 6) ∨ k = 7 ∨ k = 8 := by omega
  clear hk hk9
  rcases hc with (rfl | rfl | rfl | rfl) | (rfl | rfl | rfl) | rfl | rfl
  · go_enter Tryd.func19, Tryd.ntmps19
    go_wp2_with fail
    go_region_held3 (fun w' => w'.cell? ⟨b, 0, none⟩ = some (.int .i64 1)) (go_keep) (fail)
    all_goals go_wp2_with fail
    all_goals
      go_ret2
      exact ⟨_, rfl, .inr ⟨w.heap.size + 1 + 1, rfl, by omega, (alloc3A rfl).2.2.1⟩, (alloc3A rfl).2.2.2.1.drew⟩
  · go_enter Tryd.func19, Tryd.ntmps19
    go_wp2_with fail
    go_region_held3 (fun w' => w'.cell? ⟨b, 0, none⟩ = some (.int .i64 2)) (go_keep) (fail)
    all_goals go_wp2_with fail
    all_goals
      go_ret2
      exact ⟨_, rfl, .inr ⟨w.heap.size + 1 + 1, rfl, by omega, (alloc3A rfl).2.2.1⟩, (alloc3A rfl).2.2.2.1.drew⟩
  · go_enter Tryd.func19, Tryd.ntmps19
    go_wp2_with fail
    go_region_held3 (fun w' => w'.cell? ⟨b, 0, none⟩ = some (.int .i64 3)) (go_keep) (fail)
    all_goals go_wp2_with fail
    all_goals
      go_ret2
      exact ⟨_, rfl, .inr ⟨w.heap.size + 1 + 1, rfl, by omega, (alloc3A rfl).2.2.1⟩, (alloc3A rfl).2.2.2.1.drew⟩
  · go_enter Tryd.func19, Tryd.ntmps19
    go_wp2_with fail
    go_region_held3 (fun w' => w'.cell? ⟨b, 0, none⟩ = some (.int .i64 9)) (go_keep) (fail)
    all_goals go_wp2_with fail
    all_goals
      go_ret2
      exact ⟨_, rfl, .inr ⟨w.heap.size + 1 + 1, rfl, by omega, (alloc3A rfl).2.2.1⟩, (alloc3A rfl).2.2.2.1.drew⟩
  · go_enter Tryd.func19, Tryd.ntmps19
    go_wp2_with fail
    go_region_held3 (fun w' => w'.cell? ⟨b, 0, none⟩ = some (.int .i64 4)) (go_keep) (fail)
    all_goals go_wp2_with fail
    all_goals
      go_ret2
      exact ⟨_, rfl, .inr ⟨w.heap.size + 1 + 1, rfl, by omega, (alloc3A rfl).2.2.1⟩, (alloc3A rfl).2.2.2.1.drew⟩
  · go_enter Tryd.func19, Tryd.ntmps19
    go_wp2_with fail
    go_region_held3 (fun w' => w'.cell? ⟨b, 0, none⟩ = some (.int .i64 5)) (go_keep) (fail)
    all_goals go_wp2_with fail
    all_goals
      go_ret2
      exact ⟨_, rfl, .inr ⟨w.heap.size + 1 + 1, rfl, by omega, (alloc3A rfl).2.2.1⟩, (alloc3A rfl).2.2.2.1.drew⟩
  · go_enter Tryd.func19, Tryd.ntmps19
    go_wp2_with fail
    go_region_held3 (fun w' => w'.cell? ⟨b, 0, none⟩ = some (.int .i64 6)) (go_keep) (fail)
    all_goals go_wp2_with fail
    all_goals
      go_ret2
      exact ⟨_, rfl, .inr ⟨w.heap.size + 1 + 1, rfl, by omega, (alloc3A rfl).2.2.1⟩, (alloc3A rfl).2.2.2.1.drew⟩
  · go_enter Tryd.func19, Tryd.ntmps19
    go_wp2_with fail
    go_region_held3 (fun w' => w'.cell? ⟨b, 0, none⟩ = some (.int .i64 7)) (go_keep) (fail)
    all_goals go_wp2_with fail
    all_goals
      go_ret2
      exact ⟨_, rfl, .inl ⟨rfl, rfl⟩, (((Below.refl _ _).alloc (Nat.le_refl _) _).alloc (by simp) _).drew⟩
  · go_enter Tryd.func19, Tryd.ntmps19
    go_wp2_with fail
    go_region_held3 (fun w' => w'.cell? ⟨b, 0, none⟩ = some (.int .i64 8)) (go_keep) (fail)
    all_goals go_wp2_with fail
    · go_region_held3 (fun w' => w'.cell? ⟨w.heap.size, 0, none⟩ = some (.pointer (some ⟨b, 1, none⟩)) ∧ w'.cell? ⟨w.heap.size, 1, none⟩ = some (.int .i64 4)) (go_keep) (fail)
      all_goals go_wp2_with fail
      all_goals
        go_ret2
        exact ⟨_, rfl, .inr ⟨w.heap.size + 1 + 1, rfl, by omega, (alloc3A rfl).2.2.1⟩, (alloc3A rfl).2.2.2.1.drew.drew⟩
    · go_region_held3 (fun w' => w'.cell? ⟨w.heap.size + 1, 0, none⟩ = some (.pointer (some ⟨b, 1, none⟩)) ∧ w'.cell? ⟨w.heap.size + 1, 1, none⟩ = some (.int .i64 4)) (go_keep) (fail)
      all_goals go_wp2_with fail
      all_goals
        go_ret2
        exact ⟨_, rfl, .inr ⟨w.heap.size + 1 + 1, rfl, by omega, (alloc3A rfl).2.2.1⟩, (alloc3A rfl).2.2.2.1.drew.drew⟩
end Go.Proofs.YtcbmmkhbfookjaaDoor
