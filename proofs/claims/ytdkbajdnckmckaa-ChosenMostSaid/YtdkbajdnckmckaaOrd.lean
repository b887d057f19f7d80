/-
  Commands as plain data; the walks of order.within and order.Check.
-/
import Derived.Test.YtdkbajdnckmckaaBy2
set_option linter.unusedVariables false
set_option linter.unusedSimpArgs false
namespace Go.Con
/-- five numbers: a command; and what a wish is made of -/
structure Cmd where
  kind : Int
  client : Int
  seq : Int
  name : Int
  value : Int
  deriving DecidableEq
def Cmd.zero : Cmd := ⟨0, 0, 0, 0, 0⟩
def cmdV (c : Cmd) : Value := .agg #[.int .i64 c.kind, .int .i64 c.client, .int .i64 c.seq, .int .i64 c.name, .int .i64 c.value]
def inRange (c : Cmd) : Bool := decide (0 ≤ c.client ∧ c.client ≤ 7 ∧ 0 ≤ c.seq ∧ c.seq ≤ 1048576 ∧ 0 ≤ c.name ∧ c.name ≤ 7 ∧ 0 ≤ c.value ∧ c.value ≤ 1073741824)
/-- what is wrong with a command; 0: nothing -/
def checkC (c : Cmd) : Int :=
  if c.kind = 0 then (if c = Cmd.zero then 0 else 3)
  else if 1 ≤ c.kind ∧ c.kind ≤ 3 then (if inRange c = false then 2 else if c.kind ≠ 1 ∧ c.value ≠ 0 then 3 else 0)
  else 4
end Go.Con
namespace Go.Proofs.Ytdkbajdnckmckaa
open Go.RowKit Go.Con

set_option maxHeartbeats 400000 in
theorem within_true (n lo hi : Int) (w : World) (h1 : lo ≤ n) (h2 : n ≤ hi) :
    Calls Try.prog 36 #[.int .i64 n, .int .i64 lo, .int .i64 hi] w fun e w' => e = .returned (.bool true) ∧ w = w' := by
  go_enter Try.func36, Try.ntmps36
  go_wp2
  go_ret
  exact ⟨rfl, rfl⟩
set_option maxHeartbeats 400000 in
theorem within_false (n lo hi : Int) (w : World) (h : n < lo ∨ hi < n) :
    Calls Try.prog 36 #[.int .i64 n, .int .i64 lo, .int .i64 hi] w fun e w' => e = .returned (.bool false) ∧ w = w' := by
  by_cases h1 : n < lo
  · go_enter Try.func36, Try.ntmps36
    go_wp2
    go_ret
    exact ⟨rfl, rfl⟩
  · have h2 : hi < n := by omega
    have h3 : lo ≤ n := by omega
    have hd : decide (n ≤ hi) = false := by simp; omega
    go_enter Try.func36, Try.ntmps36
    go_wp2
    go_ret
    exact ⟨rfl, rfl⟩
def withinB (n lo hi : Int) : Bool := decide (lo ≤ n ∧ n ≤ hi)
theorem within_any (n lo hi : Int) (w : World) :
    Calls Try.prog 36 #[.int .i64 n, .int .i64 lo, .int .i64 hi] w fun e w' => e = .returned (.bool (withinB n lo hi)) ∧ w = w' := by
  by_cases h : lo ≤ n ∧ n ≤ hi
  · exact (within_true n lo hi w h.1 h.2).mono fun e w' ⟨he, hw⟩ => ⟨by rw [he, withinB, decide_eq_true h], hw⟩
  · exact (within_false n lo hi w (by omega)).mono fun e w' ⟨he, hw⟩ => ⟨by rw [he, withinB, decide_eq_false h], hw⟩

set_option maxHeartbeats 400000 in
theorem check_k1a (cl sq nm vl : Int) (w : World) (h : cl < 0 ∨ 7 < cl) :
    Calls Try.prog 31 #[.agg #[.int .i64 1, .int .i64 cl, .int .i64 sq, .int .i64 nm, .int .i64 vl]] w fun e w' => e = .returned (.int .i64 2) ∧ Below w.heap.size w w' := by
  go_enter Try.func31, Try.ntmps31
  go_wp2_with (go_at_call 36; first | (refine (within_true _ _ _ _ (by omega) (by omega)).mono ?_; rintro e w' ⟨rfl, rfl⟩) | (refine (within_false _ _ _ _ (by omega)).mono ?_; rintro e w' ⟨rfl, rfl⟩))
  go_ret
  exact ⟨rfl, (Below.refl _ _).alloc (Nat.le_refl _) _⟩
set_option maxHeartbeats 400000 in
theorem check_k1b (cl sq nm vl : Int) (w : World) (hc1 : 0 ≤ cl) (hc2 : cl ≤ 7) (h : sq < 0 ∨ 1048576 < sq) :
    Calls Try.prog 31 #[.agg #[.int .i64 1, .int .i64 cl, .int .i64 sq, .int .i64 nm, .int .i64 vl]] w fun e w' => e = .returned (.int .i64 2) ∧ Below w.heap.size w w' := by
  go_enter Try.func31, Try.ntmps31
  go_wp2_with (go_at_call 36; first | (refine (within_true _ _ _ _ (by omega) (by omega)).mono ?_; rintro e w' ⟨rfl, rfl⟩) | (refine (within_false _ _ _ _ (by omega)).mono ?_; rintro e w' ⟨rfl, rfl⟩))
  go_ret
  exact ⟨rfl, (Below.refl _ _).alloc (Nat.le_refl _) _⟩
set_option maxHeartbeats 400000 in
theorem check_k1c (cl sq nm vl : Int) (w : World) (hc1 : 0 ≤ cl) (hc2 : cl ≤ 7) (hs1 : 0 ≤ sq) (hs2 : sq ≤ 1048576) (h : nm < 0 ∨ 7 < nm) :
    Calls Try.prog 31 #[.agg #[.int .i64 1, .int .i64 cl, .int .i64 sq, .int .i64 nm, .int .i64 vl]] w fun e w' => e = .returned (.int .i64 2) ∧ Below w.heap.size w w' := by
  go_enter Try.func31, Try.ntmps31
  go_wp2_with (go_at_call 36; first | (refine (within_true _ _ _ _ (by omega) (by omega)).mono ?_; rintro e w' ⟨rfl, rfl⟩) | (refine (within_false _ _ _ _ (by omega)).mono ?_; rintro e w' ⟨rfl, rfl⟩))
  go_ret
  exact ⟨rfl, (Below.refl _ _).alloc (Nat.le_refl _) _⟩
set_option maxHeartbeats 400000 in
theorem check_k1d (cl sq nm vl : Int) (w : World) (hc1 : 0 ≤ cl) (hc2 : cl ≤ 7) (hs1 : 0 ≤ sq) (hs2 : sq ≤ 1048576) (hn1 : 0 ≤ nm) (hn2 : nm ≤ 7) (h : vl < 0 ∨ 1073741824 < vl) :
    Calls Try.prog 31 #[.agg #[.int .i64 1, .int .i64 cl, .int .i64 sq, .int .i64 nm, .int .i64 vl]] w fun e w' => e = .returned (.int .i64 2) ∧ Below w.heap.size w w' := by
  go_enter Try.func31, Try.ntmps31
  go_wp2_with (go_at_call 36; first | (refine (within_true _ _ _ _ (by omega) (by omega)).mono ?_; rintro e w' ⟨rfl, rfl⟩) | (refine (within_false _ _ _ _ (by omega)).mono ?_; rintro e w' ⟨rfl, rfl⟩))
  go_ret
  exact ⟨rfl, (Below.refl _ _).alloc (Nat.le_refl _) _⟩
set_option maxHeartbeats 400000 in
theorem check_k1e (cl sq nm vl : Int) (w : World) (hc1 : 0 ≤ cl) (hc2 : cl ≤ 7) (hs1 : 0 ≤ sq) (hs2 : sq ≤ 1048576) (hn1 : 0 ≤ nm) (hn2 : nm ≤ 7) (hv1 : 0 ≤ vl) (hv2 : vl ≤ 1073741824) :
    Calls Try.prog 31 #[.agg #[.int .i64 1, .int .i64 cl, .int .i64 sq, .int .i64 nm, .int .i64 vl]] w fun e w' => e = .returned (.int .i64 0) ∧ Below w.heap.size w w' := by
  go_enter Try.func31, Try.ntmps31
  go_wp2_with (go_at_call 36; first | (refine (within_true _ _ _ _ (by omega) (by omega)).mono ?_; rintro e w' ⟨rfl, rfl⟩) | (refine (within_false _ _ _ _ (by omega)).mono ?_; rintro e w' ⟨rfl, rfl⟩))
  go_ret
  exact ⟨rfl, (Below.refl _ _).alloc (Nat.le_refl _) _⟩
set_option maxHeartbeats 400000 in
theorem check_k2a (cl sq nm vl : Int) (w : World) (h : cl < 0 ∨ 7 < cl) :
    Calls Try.prog 31 #[.agg #[.int .i64 2, .int .i64 cl, .int .i64 sq, .int .i64 nm, .int .i64 vl]] w fun e w' => e = .returned (.int .i64 2) ∧ Below w.heap.size w w' := by
  go_enter Try.func31, Try.ntmps31
  go_wp2_with (go_at_call 36; first | (refine (within_true _ _ _ _ (by omega) (by omega)).mono ?_; rintro e w' ⟨rfl, rfl⟩) | (refine (within_false _ _ _ _ (by omega)).mono ?_; rintro e w' ⟨rfl, rfl⟩))
  go_ret
  exact ⟨rfl, (Below.refl _ _).alloc (Nat.le_refl _) _⟩
set_option maxHeartbeats 400000 in
theorem check_k2b (cl sq nm vl : Int) (w : World) (hc1 : 0 ≤ cl) (hc2 : cl ≤ 7) (h : sq < 0 ∨ 1048576 < sq) :
    Calls Try.prog 31 #[.agg #[.int .i64 2, .int .i64 cl, .int .i64 sq, .int .i64 nm, .int .i64 vl]] w fun e w' => e = .returned (.int .i64 2) ∧ Below w.heap.size w w' := by
  go_enter Try.func31, Try.ntmps31
  go_wp2_with (go_at_call 36; first | (refine (within_true _ _ _ _ (by omega) (by omega)).mono ?_; rintro e w' ⟨rfl, rfl⟩) | (refine (within_false _ _ _ _ (by omega)).mono ?_; rintro e w' ⟨rfl, rfl⟩))
  go_ret
  exact ⟨rfl, (Below.refl _ _).alloc (Nat.le_refl _) _⟩
set_option maxHeartbeats 400000 in
theorem check_k2c (cl sq nm vl : Int) (w : World) (hc1 : 0 ≤ cl) (hc2 : cl ≤ 7) (hs1 : 0 ≤ sq) (hs2 : sq ≤ 1048576) (h : nm < 0 ∨ 7 < nm) :
    Calls Try.prog 31 #[.agg #[.int .i64 2, .int .i64 cl, .int .i64 sq, .int .i64 nm, .int .i64 vl]] w fun e w' => e = .returned (.int .i64 2) ∧ Below w.heap.size w w' := by
  go_enter Try.func31, Try.ntmps31
  go_wp2_with (go_at_call 36; first | (refine (within_true _ _ _ _ (by omega) (by omega)).mono ?_; rintro e w' ⟨rfl, rfl⟩) | (refine (within_false _ _ _ _ (by omega)).mono ?_; rintro e w' ⟨rfl, rfl⟩))
  go_ret
  exact ⟨rfl, (Below.refl _ _).alloc (Nat.le_refl _) _⟩
set_option maxHeartbeats 400000 in
theorem check_k2d (cl sq nm vl : Int) (w : World) (hc1 : 0 ≤ cl) (hc2 : cl ≤ 7) (hs1 : 0 ≤ sq) (hs2 : sq ≤ 1048576) (hn1 : 0 ≤ nm) (hn2 : nm ≤ 7) (h : vl < 0 ∨ 1073741824 < vl) :
    Calls Try.prog 31 #[.agg #[.int .i64 2, .int .i64 cl, .int .i64 sq, .int .i64 nm, .int .i64 vl]] w fun e w' => e = .returned (.int .i64 2) ∧ Below w.heap.size w w' := by
  go_enter Try.func31, Try.ntmps31
  go_wp2_with (go_at_call 36; first | (refine (within_true _ _ _ _ (by omega) (by omega)).mono ?_; rintro e w' ⟨rfl, rfl⟩) | (refine (within_false _ _ _ _ (by omega)).mono ?_; rintro e w' ⟨rfl, rfl⟩))
  go_ret
  exact ⟨rfl, (Below.refl _ _).alloc (Nat.le_refl _) _⟩
set_option maxHeartbeats 400000 in
theorem check_k2e (cl sq nm vl : Int) (w : World) (hc1 : 0 ≤ cl) (hc2 : cl ≤ 7) (hs1 : 0 ≤ sq) (hs2 : sq ≤ 1048576) (hn1 : 0 ≤ nm) (hn2 : nm ≤ 7) (hv1 : 0 ≤ vl) (hv2 : vl ≤ 1073741824) (hv : vl ≠ 0) :
    Calls Try.prog 31 #[.agg #[.int .i64 2, .int .i64 cl, .int .i64 sq, .int .i64 nm, .int .i64 vl]] w fun e w' => e = .returned (.int .i64 3) ∧ Below w.heap.size w w' := by
  have hvb : (vl != 0) = true := by simpa using hv
  clear hv
  go_enter Try.func31, Try.ntmps31
  go_wp2_with (go_at_call 36; first | (refine (within_true _ _ _ _ (by omega) (by omega)).mono ?_; rintro e w' ⟨rfl, rfl⟩) | (refine (within_false _ _ _ _ (by omega)).mono ?_; rintro e w' ⟨rfl, rfl⟩))
  go_ret
  exact ⟨rfl, (Below.refl _ _).alloc (Nat.le_refl _) _⟩
set_option maxHeartbeats 400000 in
theorem check_k2f (cl sq nm : Int) (w : World) (hc1 : 0 ≤ cl) (hc2 : cl ≤ 7) (hs1 : 0 ≤ sq) (hs2 : sq ≤ 1048576) (hn1 : 0 ≤ nm) (hn2 : nm ≤ 7) :
    Calls Try.prog 31 #[.agg #[.int .i64 2, .int .i64 cl, .int .i64 sq, .int .i64 nm, .int .i64 0]] w fun e w' => e = .returned (.int .i64 0) ∧ Below w.heap.size w w' := by
  go_enter Try.func31, Try.ntmps31
  go_wp2_with (go_at_call 36; first | (refine (within_true _ _ _ _ (by omega) (by omega)).mono ?_; rintro e w' ⟨rfl, rfl⟩) | (refine (within_false _ _ _ _ (by omega)).mono ?_; rintro e w' ⟨rfl, rfl⟩))
  go_ret
  exact ⟨rfl, (Below.refl _ _).alloc (Nat.le_refl _) _⟩
set_option maxHeartbeats 400000 in
theorem check_k3a (cl sq nm vl : Int) (w : World) (h : cl < 0 ∨ 7 < cl) :
    Calls Try.prog 31 #[.agg #[.int .i64 3, .int .i64 cl, .int .i64 sq, .int .i64 nm, .int .i64 vl]] w fun e w' => e = .returned (.int .i64 2) ∧ Below w.heap.size w w' := by
  go_enter Try.func31, Try.ntmps31
  go_wp2_with (go_at_call 36; first | (refine (within_true _ _ _ _ (by omega) (by omega)).mono ?_; rintro e w' ⟨rfl, rfl⟩) | (refine (within_false _ _ _ _ (by omega)).mono ?_; rintro e w' ⟨rfl, rfl⟩))
  go_ret
  exact ⟨rfl, (Below.refl _ _).alloc (Nat.le_refl _) _⟩
set_option maxHeartbeats 400000 in
theorem check_k3b (cl sq nm vl : Int) (w : World) (hc1 : 0 ≤ cl) (hc2 : cl ≤ 7) (h : sq < 0 ∨ 1048576 < sq) :
    Calls Try.prog 31 #[.agg #[.int .i64 3, .int .i64 cl, .int .i64 sq, .int .i64 nm, .int .i64 vl]] w fun e w' => e = .returned (.int .i64 2) ∧ Below w.heap.size w w' := by
  go_enter Try.func31, Try.ntmps31
  go_wp2_with (go_at_call 36; first | (refine (within_true _ _ _ _ (by omega) (by omega)).mono ?_; rintro e w' ⟨rfl, rfl⟩) | (refine (within_false _ _ _ _ (by omega)).mono ?_; rintro e w' ⟨rfl, rfl⟩))
  go_ret
  exact ⟨rfl, (Below.refl _ _).alloc (Nat.le_refl _) _⟩
set_option maxHeartbeats 400000 in
theorem check_k3c (cl sq nm vl : Int) (w : World) (hc1 : 0 ≤ cl) (hc2 : cl ≤ 7) (hs1 : 0 ≤ sq) (hs2 : sq ≤ 1048576) (h : nm < 0 ∨ 7 < nm) :
    Calls Try.prog 31 #[.agg #[.int .i64 3, .int .i64 cl, .int .i64 sq, .int .i64 nm, .int .i64 vl]] w fun e w' => e = .returned (.int .i64 2) ∧ Below w.heap.size w w' := by
  go_enter Try.func31, Try.ntmps31
  go_wp2_with (go_at_call 36; first | (refine (within_true _ _ _ _ (by omega) (by omega)).mono ?_; rintro e w' ⟨rfl, rfl⟩) | (refine (within_false _ _ _ _ (by omega)).mono ?_; rintro e w' ⟨rfl, rfl⟩))
  go_ret
  exact ⟨rfl, (Below.refl _ _).alloc (Nat.le_refl _) _⟩
set_option maxHeartbeats 400000 in
theorem check_k3d (cl sq nm vl : Int) (w : World) (hc1 : 0 ≤ cl) (hc2 : cl ≤ 7) (hs1 : 0 ≤ sq) (hs2 : sq ≤ 1048576) (hn1 : 0 ≤ nm) (hn2 : nm ≤ 7) (h : vl < 0 ∨ 1073741824 < vl) :
    Calls Try.prog 31 #[.agg #[.int .i64 3, .int .i64 cl, .int .i64 sq, .int .i64 nm, .int .i64 vl]] w fun e w' => e = .returned (.int .i64 2) ∧ Below w.heap.size w w' := by
  go_enter Try.func31, Try.ntmps31
  go_wp2_with (go_at_call 36; first | (refine (within_true _ _ _ _ (by omega) (by omega)).mono ?_; rintro e w' ⟨rfl, rfl⟩) | (refine (within_false _ _ _ _ (by omega)).mono ?_; rintro e w' ⟨rfl, rfl⟩))
  go_ret
  exact ⟨rfl, (Below.refl _ _).alloc (Nat.le_refl _) _⟩
set_option maxHeartbeats 400000 in
theorem check_k3e (cl sq nm vl : Int) (w : World) (hc1 : 0 ≤ cl) (hc2 : cl ≤ 7) (hs1 : 0 ≤ sq) (hs2 : sq ≤ 1048576) (hn1 : 0 ≤ nm) (hn2 : nm ≤ 7) (hv1 : 0 ≤ vl) (hv2 : vl ≤ 1073741824) (hv : vl ≠ 0) :
    Calls Try.prog 31 #[.agg #[.int .i64 3, .int .i64 cl, .int .i64 sq, .int .i64 nm, .int .i64 vl]] w fun e w' => e = .returned (.int .i64 3) ∧ Below w.heap.size w w' := by
  have hvb : (vl != 0) = true := by simpa using hv
  clear hv
  go_enter Try.func31, Try.ntmps31
  go_wp2_with (go_at_call 36; first | (refine (within_true _ _ _ _ (by omega) (by omega)).mono ?_; rintro e w' ⟨rfl, rfl⟩) | (refine (within_false _ _ _ _ (by omega)).mono ?_; rintro e w' ⟨rfl, rfl⟩))
  go_ret
  exact ⟨rfl, (Below.refl _ _).alloc (Nat.le_refl _) _⟩
set_option maxHeartbeats 400000 in
theorem check_k3f (cl sq nm : Int) (w : World) (hc1 : 0 ≤ cl) (hc2 : cl ≤ 7) (hs1 : 0 ≤ sq) (hs2 : sq ≤ 1048576) (hn1 : 0 ≤ nm) (hn2 : nm ≤ 7) :
    Calls Try.prog 31 #[.agg #[.int .i64 3, .int .i64 cl, .int .i64 sq, .int .i64 nm, .int .i64 0]] w fun e w' => e = .returned (.int .i64 0) ∧ Below w.heap.size w w' := by
  go_enter Try.func31, Try.ntmps31
  go_wp2_with (go_at_call 36; first | (refine (within_true _ _ _ _ (by omega) (by omega)).mono ?_; rintro e w' ⟨rfl, rfl⟩) | (refine (within_false _ _ _ _ (by omega)).mono ?_; rintro e w' ⟨rfl, rfl⟩))
  go_ret
  exact ⟨rfl, (Below.refl _ _).alloc (Nat.le_refl _) _⟩

set_option maxHeartbeats 1000000 in
theorem Check_any (c : Cmd) (w : World) :
    Calls Try.prog 31 #[cmdV c] w fun e w' => e = .returned (.int .i64 (checkC c)) ∧ Below w.heap.size w w' := by
  obtain ⟨k, cl, sq, nm, vl⟩ := c
  show Calls Try.prog 31 #[.agg #[.int .i64 k, .int .i64 cl, .int .i64 sq, .int .i64 nm, .int .i64 vl]] w _
  by_cases h0 : k = 0
  · subst h0
    by_cases hz : (⟨0, cl, sq, nm, vl⟩ : Cmd) = Cmd.zero
    · have hc : checkC ⟨0, cl, sq, nm, vl⟩ = 0 := by rw [checkC, if_pos rfl, if_pos hz]
      rw [hc]
      injection hz with a1 a2 a3 a4 a5
      subst a2 a3 a4 a5
      clear hc
      go_enter Try.func31, Try.ntmps31
      go_wp2
      go_ret
      exact ⟨rfl, (Below.refl _ _).alloc (Nat.le_refl _) _⟩
    · have hc : checkC ⟨0, cl, sq, nm, vl⟩ = 3 := by rw [checkC, if_pos rfl, if_neg hz]
      rw [hc]
      have Hz := Lib.hid hz
      clear hc hz
      go_enter Try.func31, Try.ntmps31
      go_wp2
      all_goals go_ret
      all_goals first
        | exact ⟨rfl, (Below.refl _ _).alloc (Nat.le_refl _) _⟩
        | (exfalso; apply Hz.out; subst_vars; rfl)
        | (exfalso; apply Hz.out; simp_all [Cmd.zero])
  · by_cases hk : 1 ≤ k ∧ k ≤ 3
    · have hk3 : k = 1 ∨ k = 2 ∨ k = 3 := by omega
      have bad : inRange ⟨k, cl, sq, nm, vl⟩ = false → checkC ⟨k, cl, sq, nm, vl⟩ = 2 := fun h => by rw [checkC, if_neg h0, if_pos hk, if_pos h]
      have good3 : inRange ⟨k, cl, sq, nm, vl⟩ = true → k ≠ 1 → vl ≠ 0 → checkC ⟨k, cl, sq, nm, vl⟩ = 3 := fun h h1 h2 => by rw [checkC, if_neg h0, if_pos hk, if_neg (by rw [h]; decide), if_pos ⟨h1, h2⟩]
      have good0 : inRange ⟨k, cl, sq, nm, vl⟩ = true → (k = 1 ∨ vl = 0) → checkC ⟨k, cl, sq, nm, vl⟩ = 0 := fun h h1 => by rw [checkC, if_neg h0, if_pos hk, if_neg (by rw [h]; decide), if_neg (by simp; omega)]
      by_cases c1 : 0 ≤ cl ∧ cl ≤ 7
      · by_cases c2 : 0 ≤ sq ∧ sq ≤ 1048576
        · by_cases c3 : 0 ≤ nm ∧ nm ≤ 7
          · by_cases c4 : 0 ≤ vl ∧ vl ≤ 1073741824
            · have hin : inRange ⟨k, cl, sq, nm, vl⟩ = true := by simp [inRange]; omega
              by_cases hv : vl = 0
              · rw [good0 hin (.inr hv)]
                subst hv
                rcases hk3 with rfl | rfl | rfl
                · exact check_k1e _ _ _ _ _ c1.1 c1.2 c2.1 c2.2 c3.1 c3.2 c4.1 c4.2
                · exact check_k2f _ _ _ _ c1.1 c1.2 c2.1 c2.2 c3.1 c3.2
                · exact check_k3f _ _ _ _ c1.1 c1.2 c2.1 c2.2 c3.1 c3.2
              · rcases hk3 with rfl | rfl | rfl
                · rw [good0 hin (.inl rfl)]
                  exact check_k1e _ _ _ _ _ c1.1 c1.2 c2.1 c2.2 c3.1 c3.2 c4.1 c4.2
                · rw [good3 hin (by decide) hv]
                  exact check_k2e _ _ _ _ _ c1.1 c1.2 c2.1 c2.2 c3.1 c3.2 c4.1 c4.2 hv
                · rw [good3 hin (by decide) hv]
                  exact check_k3e _ _ _ _ _ c1.1 c1.2 c2.1 c2.2 c3.1 c3.2 c4.1 c4.2 hv
            · rw [bad (by unfold inRange; rw [decide_eq_false_iff_not]; dsimp only; omega)]
              rcases hk3 with rfl | rfl | rfl
              · exact check_k1d _ _ _ _ _ c1.1 c1.2 c2.1 c2.2 c3.1 c3.2 (by omega)
              · exact check_k2d _ _ _ _ _ c1.1 c1.2 c2.1 c2.2 c3.1 c3.2 (by omega)
              · exact check_k3d _ _ _ _ _ c1.1 c1.2 c2.1 c2.2 c3.1 c3.2 (by omega)
          · rw [bad (by unfold inRange; rw [decide_eq_false_iff_not]; dsimp only; omega)]
            rcases hk3 with rfl | rfl | rfl
            · exact check_k1c _ _ _ _ _ c1.1 c1.2 c2.1 c2.2 (by omega)
            · exact check_k2c _ _ _ _ _ c1.1 c1.2 c2.1 c2.2 (by omega)
            · exact check_k3c _ _ _ _ _ c1.1 c1.2 c2.1 c2.2 (by omega)
        · rw [bad (by unfold inRange; rw [decide_eq_false_iff_not]; dsimp only; omega)]
          rcases hk3 with rfl | rfl | rfl
          · exact check_k1b _ _ _ _ _ c1.1 c1.2 (by omega)
          · exact check_k2b _ _ _ _ _ c1.1 c1.2 (by omega)
          · exact check_k3b _ _ _ _ _ c1.1 c1.2 (by omega)
      · rw [bad (by unfold inRange; rw [decide_eq_false_iff_not]; dsimp only; omega)]
        rcases hk3 with rfl | rfl | rfl
        · exact check_k1a _ _ _ _ _ (by omega)
        · exact check_k2a _ _ _ _ _ (by omega)
        · exact check_k3a _ _ _ _ _ (by omega)
    · have hc : checkC ⟨k, cl, sq, nm, vl⟩ = 4 := by rw [checkC, if_neg h0, if_neg hk]
      rw [hc]
      have e0 : (k == 0) = false := by simpa using h0
      have e1 : (k == 1) = false := by rw [beq_eq_false_iff_ne]; omega
      have e2 : (k == 2) = false := by rw [beq_eq_false_iff_ne]; omega
      have e3 : (k == 3) = false := by rw [beq_eq_false_iff_ne]; omega
      clear hc h0 hk
      go_enter Try.func31, Try.ntmps31
      go_wp2
      go_ret
      exact ⟨rfl, (Below.refl _ _).alloc (Nat.le_refl _) _⟩
end Go.Proofs.Ytdkbajdnckmckaa
