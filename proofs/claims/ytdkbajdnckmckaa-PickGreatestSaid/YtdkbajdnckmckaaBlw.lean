/-
  The walk of conclavekeep.below, and what the acceptors' laws share.
-/
import Derived.Test.YtdkbajdnckmckaaVoW
set_option linter.unusedVariables false
set_option linter.unusedSimpArgs false
namespace Go.Proofs.Ytdkbajdnckmckaa
open Go.RowKit Go.Con
set_option maxRecDepth 100000 in
set_option maxHeartbeats 1000000 in
theorem below_to (r n s m : Int) (c : Bool) (w : World) (h : Hid (decide (cmpB (r, n) (s, m) < 0) = c)) :
    Calls Try.prog 16 #[.agg #[.int .i64 r, .int .i64 n], .agg #[.int .i64 s, .int .i64 m]] w fun e w' => e = .returned (.bool c) ∧ Below w.heap.size w w' := by
  have hc : (decide (r < s) = true ∧ c = true) ∨ (decide (r < s) = false ∧ (r == s) = false ∧ c = false) ∨ (decide (r < s) = false ∧ (r == s) = true ∧ decide (n < m) = true ∧ c = true) ∨ (decide (r < s) = false ∧ (r == s) = true ∧ decide (n < m) = false ∧ c = false) := by
    have h2 := h.out
    rw [← h2]
    simp only [decide_eq_true_eq, decide_eq_false_iff_not, beq_iff_eq, beq_eq_false_iff_ne, ne_eq, cmpB_low]
    omega
  rcases hc with ⟨h1, rfl⟩ | ⟨h1, h2, rfl⟩ | ⟨h1, h2, h3, rfl⟩ | ⟨h1, h2, h3, rfl⟩
  all_goals
    go_enter Try.func16, Try.ntmps16
    go_wp2_with fail
    go_ret
    exact ⟨rfl, ((Below.refl _ _).alloc (Nat.le_refl _) _).alloc (by simp) _⟩
theorem okV_zero {s : Int} {b : Int × Int} (h0 : 0 ≤ s) (h1 : s < 40) (hb : okB b = true) : okV ⟨s, b, Cmd.zero⟩ = true := by
  unfold okV
  have hc : checkC Cmd.zero = 0 := by decide
  rw [hb, hc]
  simp
  omega
theorem okV_get {s q : Int} {b : Int × Int} (h0 : 0 ≤ s) (h1 : s < 40) (hb : okB b = true) (hq0 : 0 ≤ q) (hq : q < 1000) : okV ⟨s, b, ⟨2, 0, q, 0, 0⟩⟩ = true := by
  have hcc : checkC ⟨2, 0, q, 0, 0⟩ = 0 := by
    unfold checkC
    rw [if_neg (show ¬ ((2 : Int) = 0) by decide), if_pos (show (1 : Int) ≤ 2 ∧ (2 : Int) ≤ 3 by decide)]
    have hr : inRange ⟨2, 0, q, 0, 0⟩ = true := by unfold inRange; rw [decide_eq_true_eq]; simp; omega
    rw [if_neg (by rw [hr]; decide), if_neg (show ¬ ((2 : Int) ≠ 1 ∧ (0 : Int) ≠ 0) by decide)]
  unfold okV
  rw [hb, hcc]
  simp
  omega
/-- voted, its value opened -/
theorem voted_to (v : Value) (l : List Cmd) (w : World) (hv : RdWishes w v l) :
    Calls Try.prog 13 #[v] w fun e w' => ∃ pr pn va vc L, e = .returned (.tuple #[.agg #[.int .i64 pr, .int .i64 pn, .slice va L.length vc], .bool true]) ∧ OwnV w' w.heap.size (.slice va L.length vc) L ∧ okA (pr, pn) L = true ∧ pr ≤ 9 ∧ L.length ≤ 30 ∧ Below w.heap.size w w' :=
  (voted_any v l w hv).mono fun e w' ⟨p, vs, L, h1, h2, h3, h4, h5, h6⟩ => by
    obtain ⟨va, vc, rfl, -⟩ := id h2.row
    exact ⟨p.1, p.2, va, vc, L, h1, h2, h3, h4, h5, h6⟩
/-- an acceptor in a variable -/
def AccIn (w : World) (b : Nat) (r n : Int) (v : Value) : Prop := w.heap[b]? = some (.cells #[.int .i64 r, .int .i64 n, v] 39 (0, 0))
theorem AccIn.cells {w : World} {b : Nat} {r n : Int} {v : Value} (h : AccIn w b r n v) : w.cell? ⟨b, 0, none⟩ = some (.int .i64 r) ∧ w.cell? ⟨b, 1, none⟩ = some (.int .i64 n) ∧ w.cell? ⟨b, 2, none⟩ = some v := ⟨cellAt h 0 rfl, cellAt h 1 rfl, cellAt h 2 rfl⟩
theorem AccIn.stay {w w' : World} {b : Nat} {r n : Int} {v : Value} (h : AccIn w b r n v) (hb : Below w.heap.size w w') : AccIn w' b r n v := (hb.block b (lt_of_heap h)).trans h
def BalIn (w : World) (b : Nat) (r n : Int) : Prop := w.heap[b]? = some (.cells #[.int .i64 r, .int .i64 n] 28 (0, 0))
theorem BalIn.cells {w : World} {b : Nat} {r n : Int} (h : BalIn w b r n) : w.cell? ⟨b, 0, none⟩ = some (.int .i64 r) ∧ w.cell? ⟨b, 1, none⟩ = some (.int .i64 n) := ⟨cellAt h 0 rfl, cellAt h 1 rfl⟩
theorem BalIn.stay {w w' : World} {b : Nat} {r n : Int} (h : BalIn w b r n) (hb : Below w.heap.size w w') : BalIn w' b r n := (hb.block b (lt_of_heap h)).trans h
theorem RdWishes.stay {w w' : World} {v : Value} {l : List Cmd} (h : RdWishes w v l) (hb : Below w.heap.size w w') : RdWishes w' v l := by
  obtain ⟨a, c, rfl, h1, h2, h3, h4⟩ := h
  refine ⟨a, c, rfl, h1, h2, h3, fun hl => ?_⟩
  obtain ⟨b, off, rfl, hc⟩ := h4 hl
  refine ⟨b, off, rfl, fun i hi j hj => ?_⟩
  have h5 := hc i hi j hj
  rw [← h5]
  have h6 : (wishCells (l.getD i Cmd.zero))[j]? = some ((wishCells (l.getD i Cmd.zero))[j]'hj) := List.getElem?_eq_getElem hj
  rw [h6] at h5
  exact World.cell?_of_block (w := w) (hb.block b (World.block_lt_of_cell? w _ h5))
end Go.Proofs.Ytdkbajdnckmckaa
