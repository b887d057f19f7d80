/-
  Texts put together: Ord, Res, Pax, PxP, ApZ.
-/
import Derived.Test.YtdkbajdnckmckaaMg1
import Derived.WalkKit
import Derived.Deep.RegionHeld3
import Derived.Deep.Cut
import Derived.Lib.AppendZerosOnto
set_option linter.unusedVariables false
set_option linter.unusedSimpArgs false
namespace Go.Con
/-- five numbers: a command; and what a wish is made of -/
structure Cmd where
  kind : Int
  client : Int
  seq : Int
  name : Int
  value : Int
  deriving DecidableEq
def Cmd.zero : Cmd := ⟨0, 0, 0, 0, 0⟩
def cmdV (c : Cmd) : Value := .agg #[.int .i64 c.kind, .int .i64 c.client, .int .i64 c.seq, .int .i64 c.name, .int .i64 c.value]
def inRange (c : Cmd) : Bool := decide (0 ≤ c.client ∧ c.client ≤ 7 ∧ 0 ≤ c.seq ∧ c.seq ≤ 1048576 ∧ 0 ≤ c.name ∧ c.name ≤ 7 ∧ 0 ≤ c.value ∧ c.value ≤ 1073741824)
/-- what is wrong with a command; 0: nothing -/
def checkC (c : Cmd) : Int :=
  if c.kind = 0 then (if c = Cmd.zero then 0 else 3)
  else if 1 ≤ c.kind ∧ c.kind ≤ 3 then (if inRange c = false then 2 else if c.kind ≠ 1 ∧ c.value ≠ 0 then 3 else 0)
  else 4
end Go.Con
namespace Go.Proofs.Ytdkbajdnckmckaa
open Go.RowKit Go.Con

set_option maxHeartbeats 400000 in
theorem within_true (n lo hi : Int) (w : World) (h1 : lo ≤ n) (h2 : n ≤ hi) :
    Calls Try.prog 36 #[.int .i64 n, .int .i64 lo, .int .i64 hi] w fun e w' => e = .returned (.bool true) ∧ w = w' := by
  go_enter Try.func36, Try.ntmps36
  go_wp2
  go_ret
  exact ⟨rfl, rfl⟩
set_option maxHeartbeats 400000 in
theorem within_false (n lo hi : Int) (w : World) (h : n < lo ∨ hi < n) :
    Calls Try.prog 36 #[.int .i64 n, .int .i64 lo, .int .i64 hi] w fun e w' => e = .returned (.bool false) ∧ w = w' := by
  by_cases h1 : n < lo
  · go_enter Try.func36, Try.ntmps36
    go_wp2
    go_ret
    exact ⟨rfl, rfl⟩
  · have h2 : hi < n := by omega
    have h3 : lo ≤ n := by omega
    have hd : decide (n ≤ hi) = false := by simp; omega
    go_enter Try.func36, Try.ntmps36
    go_wp2
    go_ret
    exact ⟨rfl, rfl⟩
def withinB (n lo hi : Int) : Bool := decide (lo ≤ n ∧ n ≤ hi)
theorem within_any (n lo hi : Int) (w : World) :
    Calls Try.prog 36 #[.int .i64 n, .int .i64 lo, .int .i64 hi] w fun e w' => e = .returned (.bool (withinB n lo hi)) ∧ w = w' := by
  by_cases h : lo ≤ n ∧ n ≤ hi
  · exact (within_true n lo hi w h.1 h.2).mono fun e w' ⟨he, hw⟩ => ⟨by rw [he, withinB, decide_eq_true h], hw⟩
  · exact (within_false n lo hi w (by omega)).mono fun e w' ⟨he, hw⟩ => ⟨by rw [he, withinB, decide_eq_false h], hw⟩

set_option maxHeartbeats 400000 in
theorem check_k1a (cl sq nm vl : Int) (w : World) (h : cl < 0 ∨ 7 < cl) :
    Calls Try.prog 31 #[.agg #[.int .i64 1, .int .i64 cl, .int .i64 sq, .int .i64 nm, .int .i64 vl]] w fun e w' => e = .returned (.int .i64 2) ∧ Below w.heap.size w w' := by
  go_enter Try.func31, Try.ntmps31
  go_wp2_with (go_at_call 36; first | (refine (within_true _ _ _ _ (by omega) (by omega)).mono ?_; rintro e w' ⟨rfl, rfl⟩) | (refine (within_false _ _ _ _ (by omega)).mono ?_; rintro e w' ⟨rfl, rfl⟩))
  go_ret
  exact ⟨rfl, (Below.refl _ _).alloc (Nat.le_refl _) _⟩
set_option maxHeartbeats 400000 in
theorem check_k1b (cl sq nm vl : Int) (w : World) (hc1 : 0 ≤ cl) (hc2 : cl ≤ 7) (h : sq < 0 ∨ 1048576 < sq) :
    Calls Try.prog 31 #[.agg #[.int .i64 1, .int .i64 cl, .int .i64 sq, .int .i64 nm, .int .i64 vl]] w fun e w' => e = .returned (.int .i64 2) ∧ Below w.heap.size w w' := by
  go_enter Try.func31, Try.ntmps31
  go_wp2_with (go_at_call 36; first | (refine (within_true _ _ _ _ (by omega) (by omega)).mono ?_; rintro e w' ⟨rfl, rfl⟩) | (refine (within_false _ _ _ _ (by omega)).mono ?_; rintro e w' ⟨rfl, rfl⟩))
  go_ret
  exact ⟨rfl, (Below.refl _ _).alloc (Nat.le_refl _) _⟩
set_option maxHeartbeats 400000 in
theorem check_k1c (cl sq nm vl : Int) (w : World) (hc1 : 0 ≤ cl) (hc2 : cl ≤ 7) (hs1 : 0 ≤ sq) (hs2 : sq ≤ 1048576) (h : nm < 0 ∨ 7 < nm) :
    Calls Try.prog 31 #[.agg #[.int .i64 1, .int .i64 cl, .int .i64 sq, .int .i64 nm, .int .i64 vl]] w fun e w' => e = .returned (.int .i64 2) ∧ Below w.heap.size w w' := by
  go_enter Try.func31, Try.ntmps31
  go_wp2_with (go_at_call 36; first | (refine (within_true _ _ _ _ (by omega) (by omega)).mono ?_; rintro e w' ⟨rfl, rfl⟩) | (refine (within_false _ _ _ _ (by omega)).mono ?_; rintro e w' ⟨rfl, rfl⟩))
  go_ret
  exact ⟨rfl, (Below.refl _ _).alloc (Nat.le_refl _) _⟩
set_option maxHeartbeats 400000 in
theorem check_k1d (cl sq nm vl : Int) (w : World) (hc1 : 0 ≤ cl) (hc2 : cl ≤ 7) (hs1 : 0 ≤ sq) (hs2 : sq ≤ 1048576) (hn1 : 0 ≤ nm) (hn2 : nm ≤ 7) (h : vl < 0 ∨ 1073741824 < vl) :
    Calls Try.prog 31 #[.agg #[.int .i64 1, .int .i64 cl, .int .i64 sq, .int .i64 nm, .int .i64 vl]] w fun e w' => e = .returned (.int .i64 2) ∧ Below w.heap.size w w' := by
  go_enter Try.func31, Try.ntmps31
  go_wp2_with (go_at_call 36; first | (refine (within_true _ _ _ _ (by omega) (by omega)).mono ?_; rintro e w' ⟨rfl, rfl⟩) | (refine (within_false _ _ _ _ (by omega)).mono ?_; rintro e w' ⟨rfl, rfl⟩))
  go_ret
  exact ⟨rfl, (Below.refl _ _).alloc (Nat.le_refl _) _⟩
set_option maxHeartbeats 400000 in
theorem check_k1e (cl sq nm vl : Int) (w : World) (hc1 : 0 ≤ cl) (hc2 : cl ≤ 7) (hs1 : 0 ≤ sq) (hs2 : sq ≤ 1048576) (hn1 : 0 ≤ nm) (hn2 : nm ≤ 7) (hv1 : 0 ≤ vl) (hv2 : vl ≤ 1073741824) :
    Calls Try.prog 31 #[.agg #[.int .i64 1, .int .i64 cl, .int .i64 sq, .int .i64 nm, .int .i64 vl]] w fun e w' => e = .returned (.int .i64 0) ∧ Below w.heap.size w w' := by
  go_enter Try.func31, Try.ntmps31
  go_wp2_with (go_at_call 36; first | (refine (within_true _ _ _ _ (by omega) (by omega)).mono ?_; rintro e w' ⟨rfl, rfl⟩) | (refine (within_false _ _ _ _ (by omega)).mono ?_; rintro e w' ⟨rfl, rfl⟩))
  go_ret
  exact ⟨rfl, (Below.refl _ _).alloc (Nat.le_refl _) _⟩
set_option maxHeartbeats 400000 in
theorem check_k2a (cl sq nm vl : Int) (w : World) (h : cl < 0 ∨ 7 < cl) :
    Calls Try.prog 31 #[.agg #[.int .i64 2, .int .i64 cl, .int .i64 sq, .int .i64 nm, .int .i64 vl]] w fun e w' => e = .returned (.int .i64 2) ∧ Below w.heap.size w w' := by
  go_enter Try.func31, Try.ntmps31
  go_wp2_with (go_at_call 36; first | (refine (within_true _ _ _ _ (by omega) (by omega)).mono ?_; rintro e w' ⟨rfl, rfl⟩) | (refine (within_false _ _ _ _ (by omega)).mono ?_; rintro e w' ⟨rfl, rfl⟩))
  go_ret
  exact ⟨rfl, (Below.refl _ _).alloc (Nat.le_refl _) _⟩
set_option maxHeartbeats 400000 in
theorem check_k2b (cl sq nm vl : Int) (w : World) (hc1 : 0 ≤ cl) (hc2 : cl ≤ 7) (h : sq < 0 ∨ 1048576 < sq) :
    Calls Try.prog 31 #[.agg #[.int .i64 2, .int .i64 cl, .int .i64 sq, .int .i64 nm, .int .i64 vl]] w fun e w' => e = .returned (.int .i64 2) ∧ Below w.heap.size w w' := by
  go_enter Try.func31, Try.ntmps31
  go_wp2_with (go_at_call 36; first | (refine (within_true _ _ _ _ (by omega) (by omega)).mono ?_; rintro e w' ⟨rfl, rfl⟩) | (refine (within_false _ _ _ _ (by omega)).mono ?_; rintro e w' ⟨rfl, rfl⟩))
  go_ret
  exact ⟨rfl, (Below.refl _ _).alloc (Nat.le_refl _) _⟩
set_option maxHeartbeats 400000 in
theorem check_k2c (cl sq nm vl : Int) (w : World) (hc1 : 0 ≤ cl) (hc2 : cl ≤ 7) (hs1 : 0 ≤ sq) (hs2 : sq ≤ 1048576) (h : nm < 0 ∨ 7 < nm) :
    Calls Try.prog 31 #[.agg #[.int .i64 2, .int .i64 cl, .int .i64 sq, .int .i64 nm, .int .i64 vl]] w fun e w' => e = .returned (.int .i64 2) ∧ Below w.heap.size w w' := by
  go_enter Try.func31, Try.ntmps31
  go_wp2_with (go_at_call 36; first | (refine (within_true _ _ _ _ (by omega) (by omega)).mono ?_; rintro e w' ⟨rfl, rfl⟩) | (refine (within_false _ _ _ _ (by omega)).mono ?_; rintro e w' ⟨rfl, rfl⟩))
  go_ret
  exact ⟨rfl, (Below.refl _ _).alloc (Nat.le_refl _) _⟩
set_option maxHeartbeats 400000 in
theorem check_k2d (cl sq nm vl : Int) (w : World) (hc1 : 0 ≤ cl) (hc2 : cl ≤ 7) (hs1 : 0 ≤ sq) (hs2 : sq ≤ 1048576) (hn1 : 0 ≤ nm) (hn2 : nm ≤ 7) (h : vl < 0 ∨ 1073741824 < vl) :
    Calls Try.prog 31 #[.agg #[.int .i64 2, .int .i64 cl, .int .i64 sq, .int .i64 nm, .int .i64 vl]] w fun e w' => e = .returned (.int .i64 2) ∧ Below w.heap.size w w' := by
  go_enter Try.func31, Try.ntmps31
  go_wp2_with (go_at_call 36; first | (refine (within_true _ _ _ _ (by omega) (by omega)).mono ?_; rintro e w' ⟨rfl, rfl⟩) | (refine (within_false _ _ _ _ (by omega)).mono ?_; rintro e w' ⟨rfl, rfl⟩))
  go_ret
  exact ⟨rfl, (Below.refl _ _).alloc (Nat.le_refl _) _⟩
set_option maxHeartbeats 400000 in
theorem check_k2e (cl sq nm vl : Int) (w : World) (hc1 : 0 ≤ cl) (hc2 : cl ≤ 7) (hs1 : 0 ≤ sq) (hs2 : sq ≤ 1048576) (hn1 : 0 ≤ nm) (hn2 : nm ≤ 7) (hv1 : 0 ≤ vl) (hv2 : vl ≤ 1073741824) (hv : vl ≠ 0) :
    Calls Try.prog 31 #[.agg #[.int .i64 2, .int .i64 cl, .int .i64 sq, .int .i64 nm, .int .i64 vl]] w fun e w' => e = .returned (.int .i64 3) ∧ Below w.heap.size w w' := by
  have hvb : (vl != 0) = true := by simpa using hv
  clear hv
  go_enter Try.func31, Try.ntmps31
  go_wp2_with (go_at_call 36; first | (refine (within_true _ _ _ _ (by omega) (by omega)).mono ?_; rintro e w' ⟨rfl, rfl⟩) | (refine (within_false _ _ _ _ (by omega)).mono ?_; rintro e w' ⟨rfl, rfl⟩))
  go_ret
  exact ⟨rfl, (Below.refl _ _).alloc (Nat.le_refl _) _⟩
set_option maxHeartbeats 400000 in
theorem check_k2f (cl sq nm : Int) (w : World) (hc1 : 0 ≤ cl) (hc2 : cl ≤ 7) (hs1 : 0 ≤ sq) (hs2 : sq ≤ 1048576) (hn1 : 0 ≤ nm) (hn2 : nm ≤ 7) :
    Calls Try.prog 31 #[.agg #[.int .i64 2, .int .i64 cl, .int .i64 sq, .int .i64 nm, .int .i64 0]] w fun e w' => e = .returned (.int .i64 0) ∧ Below w.heap.size w w' := by
  go_enter Try.func31, Try.ntmps31
  go_wp2_with (go_at_call 36; first | (refine (within_true _ _ _ _ (by omega) (by omega)).mono ?_; rintro e w' ⟨rfl, rfl⟩) | (refine (within_false _ _ _ _ (by omega)).mono ?_; rintro e w' ⟨rfl, rfl⟩))
  go_ret
  exact ⟨rfl, (Below.refl _ _).alloc (Nat.le_refl _) _⟩
set_option maxHeartbeats 400000 in
theorem check_k3a (cl sq nm vl : Int) (w : World) (h : cl < 0 ∨ 7 < cl) :
    Calls Try.prog 31 #[.agg #[.int .i64 3, .int .i64 cl, .int .i64 sq, .int .i64 nm, .int .i64 vl]] w fun e w' => e = .returned (.int .i64 2) ∧ Below w.heap.size w w' := by
  go_enter Try.func31, Try.ntmps31
  go_wp2_with (go_at_call 36; first | (refine (within_true _ _ _ _ (by omega) (by omega)).mono ?_; rintro e w' ⟨rfl, rfl⟩) | (refine (within_false _ _ _ _ (by omega)).mono ?_; rintro e w' ⟨rfl, rfl⟩))
  go_ret
  exact ⟨rfl, (Below.refl _ _).alloc (Nat.le_refl _) _⟩
set_option maxHeartbeats 400000 in
theorem check_k3b (cl sq nm vl : Int) (w : World) (hc1 : 0 ≤ cl) (hc2 : cl ≤ 7) (h : sq < 0 ∨ 1048576 < sq) :
    Calls Try.prog 31 #[.agg #[.int .i64 3, .int .i64 cl, .int .i64 sq, .int .i64 nm, .int .i64 vl]] w fun e w' => e = .returned (.int .i64 2) ∧ Below w.heap.size w w' := by
  go_enter Try.func31, Try.ntmps31
  go_wp2_with (go_at_call 36; first | (refine (within_true _ _ _ _ (by omega) (by omega)).mono ?_; rintro e w' ⟨rfl, rfl⟩) | (refine (within_false _ _ _ _ (by omega)).mono ?_; rintro e w' ⟨rfl, rfl⟩))
  go_ret
  exact ⟨rfl, (Below.refl _ _).alloc (Nat.le_refl _) _⟩
set_option maxHeartbeats 400000 in
theorem check_k3c (cl sq nm vl : Int) (w : World) (hc1 : 0 ≤ cl) (hc2 : cl ≤ 7) (hs1 : 0 ≤ sq) (hs2 : sq ≤ 1048576) (h : nm < 0 ∨ 7 < nm) :
    Calls Try.prog 31 #[.agg #[.int .i64 3, .int .i64 cl, .int .i64 sq, .int .i64 nm, .int .i64 vl]] w fun e w' => e = .returned (.int .i64 2) ∧ Below w.heap.size w w' := by
  go_enter Try.func31, Try.ntmps31
  go_wp2_with (go_at_call 36; first | (refine (within_true _ _ _ _ (by omega) (by omega)).mono ?_; rintro e w' ⟨rfl, rfl⟩) | (refine (within_false _ _ _ _ (by omega)).mono ?_; rintro e w' ⟨rfl, rfl⟩))
  go_ret
  exact ⟨rfl, (Below.refl _ _).alloc (Nat.le_refl _) _⟩
set_option maxHeartbeats 400000 in
theorem check_k3d (cl sq nm vl : Int) (w : World) (hc1 : 0 ≤ cl) (hc2 : cl ≤ 7) (hs1 : 0 ≤ sq) (hs2 : sq ≤ 1048576) (hn1 : 0 ≤ nm) (hn2 : nm ≤ 7) (h : vl < 0 ∨ 1073741824 < vl) :
    Calls Try.prog 31 #[.agg #[.int .i64 3, .int .i64 cl, .int .i64 sq, .int .i64 nm, .int .i64 vl]] w fun e w' => e = .returned (.int .i64 2) ∧ Below w.heap.size w w' := by
  go_enter Try.func31, Try.ntmps31
  go_wp2_with (go_at_call 36; first | (refine (within_true _ _ _ _ (by omega) (by omega)).mono ?_; rintro e w' ⟨rfl, rfl⟩) | (refine (within_false _ _ _ _ (by omega)).mono ?_; rintro e w' ⟨rfl, rfl⟩))
  go_ret
  exact ⟨rfl, (Below.refl _ _).alloc (Nat.le_refl _) _⟩
set_option maxHeartbeats 400000 in
theorem check_k3e (cl sq nm vl : Int) (w : World) (hc1 : 0 ≤ cl) (hc2 : cl ≤ 7) (hs1 : 0 ≤ sq) (hs2 : sq ≤ 1048576) (hn1 : 0 ≤ nm) (hn2 : nm ≤ 7) (hv1 : 0 ≤ vl) (hv2 : vl ≤ 1073741824) (hv : vl ≠ 0) :
    Calls Try.prog 31 #[.agg #[.int .i64 3, .int .i64 cl, .int .i64 sq, .int .i64 nm, .int .i64 vl]] w fun e w' => e = .returned (.int .i64 3) ∧ Below w.heap.size w w' := by
  have hvb : (vl != 0) = true := by simpa using hv
  clear hv
  go_enter Try.func31, Try.ntmps31
  go_wp2_with (go_at_call 36; first | (refine (within_true _ _ _ _ (by omega) (by omega)).mono ?_; rintro e w' ⟨rfl, rfl⟩) | (refine (within_false _ _ _ _ (by omega)).mono ?_; rintro e w' ⟨rfl, rfl⟩))
  go_ret
  exact ⟨rfl, (Below.refl _ _).alloc (Nat.le_refl _) _⟩
set_option maxHeartbeats 400000 in
theorem check_k3f (cl sq nm : Int) (w : World) (hc1 : 0 ≤ cl) (hc2 : cl ≤ 7) (hs1 : 0 ≤ sq) (hs2 : sq ≤ 1048576) (hn1 : 0 ≤ nm) (hn2 : nm ≤ 7) :
    Calls Try.prog 31 #[.agg #[.int .i64 3, .int .i64 cl, .int .i64 sq, .int .i64 nm, .int .i64 0]] w fun e w' => e = .returned (.int .i64 0) ∧ Below w.heap.size w w' := by
  go_enter Try.func31, Try.ntmps31
  go_wp2_with (go_at_call 36; first | (refine (within_true _ _ _ _ (by omega) (by omega)).mono ?_; rintro e w' ⟨rfl, rfl⟩) | (refine (within_false _ _ _ _ (by omega)).mono ?_; rintro e w' ⟨rfl, rfl⟩))
  go_ret
  exact ⟨rfl, (Below.refl _ _).alloc (Nat.le_refl _) _⟩

set_option maxHeartbeats 1000000 in
theorem Check_any (c : Cmd) (w : World) :
    Calls Try.prog 31 #[cmdV c] w fun e w' => e = .returned (.int .i64 (checkC c)) ∧ Below w.heap.size w w' := by
  obtain ⟨k, cl, sq, nm, vl⟩ := c
  show Calls Try.prog 31 #[.agg #[.int .i64 k, .int .i64 cl, .int .i64 sq, .int .i64 nm, .int .i64 vl]] w _
  by_cases h0 : k = 0
  · subst h0
    by_cases hz : (⟨0, cl, sq, nm, vl⟩ : Cmd) = Cmd.zero
    · have hc : checkC ⟨0, cl, sq, nm, vl⟩ = 0 := by rw [checkC, if_pos rfl, if_pos hz]
      rw [hc]
      injection hz with a1 a2 a3 a4 a5
      subst a2 a3 a4 a5
      clear hc
      go_enter Try.func31, Try.ntmps31
      go_wp2
      go_ret
      exact ⟨rfl, (Below.refl _ _).alloc (Nat.le_refl _) _⟩
    · have hc : checkC ⟨0, cl, sq, nm, vl⟩ = 3 := by rw [checkC, if_pos rfl, if_neg hz]
      rw [hc]
      have Hz := Lib.hid hz
      clear hc hz
      go_enter Try.func31, Try.ntmps31
      go_wp2
      all_goals go_ret
      all_goals first
        | exact ⟨rfl, (Below.refl _ _).alloc (Nat.le_refl _) _⟩
        | (exfalso; apply Hz.out; subst_vars; rfl)
        | (exfalso; apply Hz.out; simp_all [Cmd.zero])
  · by_cases hk : 1 ≤ k ∧ k ≤ 3
    · have hk3 : k = 1 ∨ k = 2 ∨ k = 3 := by omega
      have bad : inRange ⟨k, cl, sq, nm, vl⟩ = false → checkC ⟨k, cl, sq, nm, vl⟩ = 2 := fun h => by rw [checkC, if_neg h0, if_pos hk, if_pos h]
      have good3 : inRange ⟨k, cl, sq, nm, vl⟩ = true → k ≠ 1 → vl ≠ 0 → checkC ⟨k, cl, sq, nm, vl⟩ = 3 := fun h h1 h2 => by rw [checkC, if_neg h0, if_pos hk, if_neg (by rw [h]; decide), if_pos ⟨h1, h2⟩]
      have good0 : inRange ⟨k, cl, sq, nm, vl⟩ = true → (k = 1 ∨ vl = 0) → checkC ⟨k, cl, sq, nm, vl⟩ = 0 := fun h h1 => by rw [checkC, if_neg h0, if_pos hk, if_neg (by rw [h]; decide), if_neg (by simp; omega)]
      by_cases c1 : 0 ≤ cl ∧ cl ≤ 7
      · by_cases c2 : 0 ≤ sq ∧ sq ≤ 1048576
        · by_cases c3 : 0 ≤ nm ∧ nm ≤ 7
          · by_cases c4 : 0 ≤ vl ∧ vl ≤ 1073741824
            · have hin : inRange ⟨k, cl, sq, nm, vl⟩ = true := by simp [inRange]; omega
              by_cases hv : vl = 0
              · rw [good0 hin (.inr hv)]
                subst hv
                rcases hk3 with rfl | rfl | rfl
                · exact check_k1e _ _ _ _ _ c1.1 c1.2 c2.1 c2.2 c3.1 c3.2 c4.1 c4.2
                · exact check_k2f _ _ _ _ c1.1 c1.2 c2.1 c2.2 c3.1 c3.2
                · exact check_k3f _ _ _ _ c1.1 c1.2 c2.1 c2.2 c3.1 c3.2
              · rcases hk3 with rfl | rfl | rfl
                · rw [good0 hin (.inl rfl)]
                  exact check_k1e _ _ _ _ _ c1.1 c1.2 c2.1 c2.2 c3.1 c3.2 c4.1 c4.2
                · rw [good3 hin (by decide) hv]
                  exact check_k2e _ _ _ _ _ c1.1 c1.2 c2.1 c2.2 c3.1 c3.2 c4.1 c4.2 hv
                · rw [good3 hin (by decide) hv]
                  exact check_k3e _ _ _ _ _ c1.1 c1.2 c2.1 c2.2 c3.1 c3.2 c4.1 c4.2 hv
            · rw [bad (by unfold inRange; rw [decide_eq_false_iff_not]; dsimp only; omega)]
              rcases hk3 with rfl | rfl | rfl
              · exact check_k1d _ _ _ _ _ c1.1 c1.2 c2.1 c2.2 c3.1 c3.2 (by omega)
              · exact check_k2d _ _ _ _ _ c1.1 c1.2 c2.1 c2.2 c3.1 c3.2 (by omega)
              · exact check_k3d _ _ _ _ _ c1.1 c1.2 c2.1 c2.2 c3.1 c3.2 (by omega)
          · rw [bad (by unfold inRange; rw [decide_eq_false_iff_not]; dsimp only; omega)]
            rcases hk3 with rfl | rfl | rfl
            · exact check_k1c _ _ _ _ _ c1.1 c1.2 c2.1 c2.2 (by omega)
            · exact check_k2c _ _ _ _ _ c1.1 c1.2 c2.1 c2.2 (by omega)
            · exact check_k3c _ _ _ _ _ c1.1 c1.2 c2.1 c2.2 (by omega)
        · rw [bad (by unfold inRange; rw [decide_eq_false_iff_not]; dsimp only; omega)]
          rcases hk3 with rfl | rfl | rfl
          · exact check_k1b _ _ _ _ _ c1.1 c1.2 (by omega)
          · exact check_k2b _ _ _ _ _ c1.1 c1.2 (by omega)
          · exact check_k3b _ _ _ _ _ c1.1 c1.2 (by omega)
      · rw [bad (by unfold inRange; rw [decide_eq_false_iff_not]; dsimp only; omega)]
        rcases hk3 with rfl | rfl | rfl
        · exact check_k1a _ _ _ _ _ (by omega)
        · exact check_k2a _ _ _ _ _ (by omega)
        · exact check_k3a _ _ _ _ _ (by omega)
    · have hc : checkC ⟨k, cl, sq, nm, vl⟩ = 4 := by rw [checkC, if_neg h0, if_neg hk]
      rw [hc]
      have e0 : (k == 0) = false := by simpa using h0
      have e1 : (k == 1) = false := by rw [beq_eq_false_iff_ne]; omega
      have e2 : (k == 2) = false := by rw [beq_eq_false_iff_ne]; omega
      have e3 : (k == 3) = false := by rw [beq_eq_false_iff_ne]; omega
      clear hc h0 hk
      go_enter Try.func31, Try.ntmps31
      go_wp2
      go_ret
      exact ⟨rfl, (Below.refl _ _).alloc (Nat.le_refl _) _⟩
end Go.Proofs.Ytdkbajdnckmckaa

set_option linter.unusedVariables false
set_option linter.unusedSimpArgs false
namespace Go.Con
open Go Go.RowKit
theorem results_c {P : Program} {fn : Func} {tmps : Array Value} {w : World} {a : Nat} {t : TypeId} {ad : Addr} {v : Value} (hr : fn.results = #[.cell a t]) (ht : tmps.getD a undef = .pointer (some ad))
    (hl : (loadVar t ad).run P w = .ok v w) : (results fn tmps).run P w = .ok v w := by
  unfold results
  rw [hr]
  simp only [Array.getD_eq_getD_getElem?] at ht
  generalize loadVar = L at hl ⊢
  simp [ht, hl, go_sem]
theorem results_ct {P : Program} {fn : Func} {tmps : Array Value} {w : World} {a b : Nat} {t : TypeId} {ad : Addr} {v : Value} (hr : fn.results = #[.cell a t, .tmp b]) (ht : tmps.getD a undef = .pointer (some ad))
    (hl : (loadVar t ad).run P w = .ok v w) : (results fn tmps).run P w = .ok (.tuple #[v, tmps.getD b undef]) w := by
  unfold results
  rw [hr]
  simp only [Array.getD_eq_getD_getElem?] at ht
  generalize loadVar = L at hl ⊢
  simp [ht, hl, go_sem]
theorem results_cct {P : Program} {fn : Func} {tmps : Array Value} {w : World} {a b c : Nat} {t u : TypeId} {ad bd : Addr} {v x : Value} (hr : fn.results = #[.cell a t, .cell b u, .tmp c]) (ht : tmps.getD a undef = .pointer (some ad)) (hu : tmps.getD b undef = .pointer (some bd))
    (hl : (loadVar t ad).run P w = .ok v w) (hx : (loadVar u bd).run P w = .ok x w) : (results fn tmps).run P w = .ok (.tuple #[v, x, tmps.getD c undef]) w := by
  unfold results
  rw [hr]
  simp only [Array.getD_eq_getD_getElem?] at ht hu
  generalize loadVar = L at hl hx ⊢
  simp [ht, hu, hl, hx, go_sem]
end Go.Con

set_option linter.unusedVariables false
set_option linter.unusedSimpArgs false
namespace Go.Con
open Go
/-- which of two numbers is greater -/
def cmpI (a b : Int) : Int := if a < b then -1 else if b < a then 1 else 0
/-- which of two ballots is greater: a round, then a node -/
def cmpB (a b : Int × Int) : Int := if cmpI a.1 b.1 ≠ 0 then cmpI a.1 b.1 else cmpI a.2 b.2
/-- may it be a proposer's? -/
def okB (b : Int × Int) : Bool := decide (1 ≤ b.1) && (decide (b.1 ≤ 65536) && (decide (0 ≤ b.2) && decide (b.2 < 5)))
structure Vot where
  slot : Int
  bal : Int × Int
  what : Cmd
  deriving DecidableEq
def Vot.zero : Vot := ⟨0, (0, 0), Cmd.zero⟩
def votCells (v : Vot) : List Value := [.int .i64 v.slot, .int .i64 v.bal.1, .int .i64 v.bal.2, .int .i64 v.what.kind, .int .i64 v.what.client, .int .i64 v.what.seq, .int .i64 v.what.name, .int .i64 v.what.value]
def votV (v : Vot) : Value := .agg (votCells v).toArray
/-- may a vote be? -/
def okV (v : Vot) : Bool := decide (0 ≤ v.slot) && (decide (v.slot < 40) && (okB v.bal && decide (checkC v.what = 0)))
theorem cmpI_cases (a b : Int) : (a < b ∧ cmpI a b = -1) ∨ (a = b ∧ cmpI a b = 0) ∨ (b < a ∧ cmpI a b = 1) := by
  unfold cmpI
  split
  · exact .inl ⟨by assumption, rfl⟩
  · split
    · exact .inr (.inr ⟨by assumption, rfl⟩)
    · exact .inr (.inl ⟨by omega, rfl⟩)
end Go.Con
namespace Go.Proofs.Ytdkbajdnckmckaa
open Go.RowKit Go.Con
set_option maxRecDepth 100000 in
theorem cmp_any (a b : Int) (w : World) :
    Calls Try.prog 26 #[.int .i64 a, .int .i64 b] w fun e w' => e = .returned (.int .i64 (cmpI a b)) ∧ w' = w := by
  have e1 : (a != a) = false := by simp
  have e2 : (b != b) = false := by simp
  rcases cmpI_cases a b with ⟨h, hr⟩ | ⟨h, hr⟩ | ⟨h, hr⟩
  · have d1 : decide (a < b) = true := by rw [decide_eq_true_eq]; exact h
    rw [hr]
    go_enter Try.func26, Try.ntmps26
    go_wp2
    go_ret
    exact ⟨rfl, rfl⟩
  · have d1 : decide (a < b) = false := by rw [decide_eq_false_iff_not]; omega
    have d2 : decide (b < a) = false := by rw [decide_eq_false_iff_not]; omega
    rw [hr]
    clear h
    go_enter Try.func26, Try.ntmps26
    go_wp2
    go_ret
    exact ⟨rfl, rfl⟩
  · have d1 : decide (a < b) = false := by rw [decide_eq_false_iff_not]; omega
    have d2 : decide (b < a) = true := by rw [decide_eq_true_eq]; omega
    rw [hr]
    go_enter Try.func26, Try.ntmps26
    go_wp2
    go_ret
    exact ⟨rfl, rfl⟩
set_option maxRecDepth 100000 in
set_option maxHeartbeats 1000000 in
theorem or2_any (x y : Int) (b : Nat) (w : World) (h0 : w.cell? ⟨b, 0, none⟩ = some (.int .i64 x)) (h1 : w.cell? ⟨b, 1, none⟩ = some (.int .i64 y)) :
    Calls Try.prog 32 #[.slice (some ⟨b, 0, none⟩) 2 2] w fun e w' => e = .returned (.int .i64 (if x ≠ 0 then x else y)) ∧ w' = w := by
  obtain ⟨r, hr⟩ : ∃ r, r = if x ≠ 0 then x else y := ⟨_, rfl⟩
  rw [← hr]
  have HR := Lib.hid hr
  clear hr
  go_enter Try.func32, Try.ntmps32
  go_wp2_with fail
  go_loopw [5, 8] (fun _ i wr => wr = w ∧ (i = .int .i64 0 ∨ (i = .int .i64 1 ∧ x = 0) ∨ (i = .int .i64 2 ∧ x = 0 ∧ y = 0))) (fun _ i _ => 2 - (intOf i).toNat)
  case atStart => exact ⟨rfl, .inl rfl⟩
  case round =>
    obtain ⟨rfl, rfl | ⟨rfl, hx⟩ | ⟨rfl, hx, hy⟩⟩ := hrel
    · by_cases hx : x = 0
      · have d : (x != 0) = false := by simp [hx]
        go_wp2_with fail
        go_roundw
        case rel => exact ⟨trivial, .inr (.inl ⟨rfl, hx⟩)⟩
        case measure => simp [intOf]
      · have d : (x != 0) = true := by simp [hx]
        have hrx : r = x := by rw [HR.out, if_pos hx]
        subst hrx
        go_wp2_with fail
        go_ret
        exact ⟨rfl, rfl⟩
    · have HX := Lib.hid hx
      clear hx
      by_cases hy : y = 0
      · have d : (y != 0) = false := by simp [hy]
        go_wp2_with fail
        go_roundw
        case rel => exact ⟨trivial, .inr (.inr ⟨rfl, HX.out, hy⟩)⟩
        case measure => simp [intOf]
      · have d : (y != 0) = true := by simp [hy]
        have hrx : r = y := by rw [HR.out, if_neg (by rw [HX.out]; decide)]
        subst hrx
        go_wp2_with fail
        go_ret
        exact ⟨rfl, rfl⟩
    · have hrx : r = 0 := by rw [HR.out, if_neg (by rw [hx]; decide), hy]
      subst hrx
      clear hx hy
      go_wp2_with fail
      go_ret
      exact ⟨rfl, rfl⟩
set_option maxRecDepth 100000 in
set_option maxHeartbeats 1000000 in
theorem ballot_any (b : Int × Int) (w : World) :
    Calls Try.prog 22 #[.agg #[.int .i64 b.1, .int .i64 b.2]] w fun e w' => e = .returned (.bool (okB b)) ∧ Below w.heap.size w w' := by
  obtain ⟨r, n⟩ := b
  dsimp only
  have hc : (decide (1 ≤ r) = false ∧ okB (r, n) = false) ∨ (decide (1 ≤ r) = true ∧ decide (r ≤ 65536) = false ∧ okB (r, n) = false) ∨ (decide (1 ≤ r) = true ∧ decide (r ≤ 65536) = true ∧ decide (0 ≤ n) = false ∧ okB (r, n) = false) ∨ (decide (1 ≤ r) = true ∧ decide (r ≤ 65536) = true ∧ decide (0 ≤ n) = true ∧ decide (n < 5) = false ∧ okB (r, n) = false) ∨ (decide (1 ≤ r) = true ∧ decide (r ≤ 65536) = true ∧ decide (0 ≤ n) = true ∧ decide (n < 5) = true ∧ okB (r, n) = true) := by
    unfold okB
    dsimp only
    cases decide (1 ≤ r) <;> cases decide (r ≤ 65536) <;> cases decide (0 ≤ n) <;> cases decide (n < 5) <;> simp
  rcases hc with ⟨h1, hr⟩ | ⟨h1, h2, hr⟩ | ⟨h1, h2, h3, hr⟩ | ⟨h1, h2, h3, h4, hr⟩ | ⟨h1, h2, h3, h4, hr⟩
  all_goals
    rw [hr]
    clear hr
    go_enter Try.func22, Try.ntmps22
    go_wp2_with fail
    go_ret
    exact ⟨rfl, (Below.refl _ _).alloc (Nat.le_refl _) _⟩
theorem alloc3P {w w0 : World} {A B C : Obj} (h : ((w.alloc A).alloc B).alloc C = w0) : w0.heap[w.heap.size]? = some A ∧ w0.heap[w.heap.size + 1]? = some B ∧ w0.heap[w.heap.size + 1 + 1]? = some C ∧ Below w.heap.size w w0 ∧ w0.heap.size = w.heap.size + 3 := by
  subst h
  have e : ((w.alloc A).alloc B).heap.size = w.heap.size + 1 + 1 := by simp
  have e1 : (w.alloc A).heap.size = w.heap.size + 1 := by simp
  refine ⟨?_, ?_, ?_, (((Below.refl w.heap.size w).alloc (Nat.le_refl _) _).alloc (by simp) _).alloc (by simp; omega) _, by simp⟩
  · rw [heapOld _ _ _ (by omega), heapOld _ _ _ (by omega)]; exact heapNew _ _
  · rw [heapOld _ _ _ (by omega)]
    have := heapNew (w.alloc A) B
    rwa [e1] at this
  · have := heapNew ((w.alloc A).alloc B) C
    rwa [e] at this
theorem new3c {w : World} {A B : Obj} {x y : Value} {t : TypeId} : (((w.alloc A).alloc B).alloc (.cells #[x, y] t)).drew.cell? ⟨w.heap.size + 1 + 1, 0, none⟩ = some x ∧ (((w.alloc A).alloc B).alloc (.cells #[x, y] t)).drew.cell? ⟨w.heap.size + 1 + 1, 1, none⟩ = some y := by
  have h := (alloc3P (w := w) (A := A) (B := B) (C := .cells #[x, y] t) rfl).2.2.1
  exact ⟨cellAt h 0 rfl, cellAt h 1 rfl⟩
theorem cmp_to (a b c : Int) (w : World) (h : Hid (cmpI a b = c)) :
    Calls Try.prog 26 #[.int .i64 a, .int .i64 b] w fun e w' => e = .returned (.int .i64 c) ∧ w' = w := by
  rw [← h.out]; exact cmp_any a b w
theorem or2_to (x y c : Int) (b : Nat) (w : World) (h0 : w.cell? ⟨b, 0, none⟩ = some (.int .i64 x)) (h1 : w.cell? ⟨b, 1, none⟩ = some (.int .i64 y)) (h : Hid ((if x ≠ 0 then x else y) = c)) :
    Calls Try.prog 32 #[.slice (some ⟨b, 0, none⟩) 2 2] w fun e w' => e = .returned (.int .i64 c) ∧ w' = w := by
  rw [← h.out]; exact or2_any x y b w h0 h1
set_option maxRecDepth 100000 in
set_option maxHeartbeats 1000000 in
theorem compare_any (a b : Int × Int) (w : World) :
    Calls Try.prog 21 #[.agg #[.int .i64 a.1, .int .i64 a.2], .agg #[.int .i64 b.1, .int .i64 b.2]] w fun e w' => e = .returned (.int .i64 (cmpB a b)) ∧ Below w.heap.size w w' := by
  obtain ⟨r, n⟩ := a
  obtain ⟨s, m⟩ := b
  dsimp only
  obtain ⟨c1, hc1⟩ : ∃ c, c = cmpI r s := ⟨_, rfl⟩
  obtain ⟨c2, hc2⟩ : ∃ c, c = cmpI n m := ⟨_, rfl⟩
  have hr : cmpB (r, n) (s, m) = if c1 ≠ 0 then c1 else c2 := by unfold cmpB; rw [hc1, hc2]
  have HC1 := Lib.hid hc1.symm
  have HC2 := Lib.hid hc2.symm
  rw [hr]
  clear hr hc1 hc2
  generalize hcr : (if c1 ≠ 0 then c1 else c2) = cr
  have HO := Lib.hid hcr
  clear hcr
  go_enter Try.func21, Try.ntmps21
  go_wp2_with fail
  go_region_held3 (fun w' => w'.cell? ⟨w.heap.size, 0, none⟩ = some (.int .i64 r) ∧ w'.cell? ⟨w.heap.size, 1, none⟩ = some (.int .i64 n) ∧ w'.cell? ⟨w.heap.size + 1, 0, none⟩ = some (.int .i64 s) ∧ w'.cell? ⟨w.heap.size + 1, 1, none⟩ = some (.int .i64 m)) (go_keep) (first
    | (go_at_call 26; refine (cmp_to _ _ _ _ (by assumption)).mono ?_; rintro e _ ⟨rfl, rfl⟩)
    | (go_at_call 32; refine (or2_to _ _ _ _ _ new3c.1 new3c.2 HO).mono ?_; rintro e _ ⟨rfl, rfl⟩))
  go_wp2_with fail
  go_ret
  exact ⟨rfl, (alloc3P rfl).2.2.2.1.drew⟩
theorem ballot_to (r n : Int) (c : Bool) (w : World) (h : Hid (okB (r, n) = c)) :
    Calls Try.prog 22 #[.agg #[.int .i64 r, .int .i64 n]] w fun e w' => e = .returned (.bool c) ∧ Below w.heap.size w w' := by
  rw [← h.out]; exact ballot_any (r, n) w
theorem ordCheck_to (k cl sq nm vl c : Int) (w : World) (h : Hid (checkC ⟨k, cl, sq, nm, vl⟩ = c)) :
    Calls Try.prog 31 #[.agg #[.int .i64 k, .int .i64 cl, .int .i64 sq, .int .i64 nm, .int .i64 vl]] w fun e w' => e = .returned (.int .i64 c) ∧ Below w.heap.size w w' := by
  rw [← h.out]; exact Check_any ⟨k, cl, sq, nm, vl⟩ w
theorem compare_to (r n s m c : Int) (w : World) (h : Hid (cmpB (r, n) (s, m) = c)) :
    Calls Try.prog 21 #[.agg #[.int .i64 r, .int .i64 n], .agg #[.int .i64 s, .int .i64 m]] w fun e w' => e = .returned (.int .i64 c) ∧ Below w.heap.size w w' := by
  rw [← h.out]; exact compare_any (r, n) (s, m) w
set_option maxRecDepth 100000 in
set_option maxHeartbeats 1000000 in
theorem vote_any (v : Vot) (w : World) :
    Calls Try.prog 20 #[votV v] w fun e w' => e = .returned (.bool (okV v)) ∧ Below w.heap.size w w' := by
  obtain ⟨sl, ⟨r, n⟩, ⟨k, cl, sq, nm, vl⟩⟩ := v
  show Calls Try.prog 20 #[.agg #[.int .i64 sl, .int .i64 r, .int .i64 n, .int .i64 k, .int .i64 cl, .int .i64 sq, .int .i64 nm, .int .i64 vl]] w _
  obtain ⟨b, hb⟩ : ∃ b, b = okB (r, n) := ⟨_, rfl⟩
  obtain ⟨c, hc⟩ : ∃ c, c = checkC ⟨k, cl, sq, nm, vl⟩ := ⟨_, rfl⟩
  have hcase : (decide (0 ≤ sl) = false ∧ okV ⟨sl, (r, n), ⟨k, cl, sq, nm, vl⟩⟩ = false) ∨ (decide (0 ≤ sl) = true ∧ decide (sl < 40) = false ∧ okV ⟨sl, (r, n), ⟨k, cl, sq, nm, vl⟩⟩ = false) ∨
      (decide (0 ≤ sl) = true ∧ decide (sl < 40) = true ∧ b = false ∧ okV ⟨sl, (r, n), ⟨k, cl, sq, nm, vl⟩⟩ = false) ∨
      (decide (0 ≤ sl) = true ∧ decide (sl < 40) = true ∧ b = true ∧ (c == 0) = false ∧ okV ⟨sl, (r, n), ⟨k, cl, sq, nm, vl⟩⟩ = false) ∨
      (decide (0 ≤ sl) = true ∧ decide (sl < 40) = true ∧ b = true ∧ (c == 0) = true ∧ okV ⟨sl, (r, n), ⟨k, cl, sq, nm, vl⟩⟩ = true) := by
    unfold okV
    dsimp only
    rw [← hb, ← hc]
    have e : decide (c = 0) = (c == 0) := by rw [Bool.eq_iff_iff]; simp
    rw [e]
    cases decide (0 ≤ sl) <;> cases decide (sl < 40) <;> cases b <;> cases (c == 0) <;> simp
  have HB := Lib.hid hb.symm
  have HC := Lib.hid hc.symm
  clear hb hc
  rcases hcase with ⟨h1, hr⟩ | ⟨h1, h2, hr⟩ | ⟨h1, h2, rfl, hr⟩ | ⟨h1, h2, rfl, h4, hr⟩ | ⟨h1, h2, rfl, h4, hr⟩
  · rw [hr]
    clear hr
    go_enter Try.func20, Try.ntmps20
    go_wp2_with fail
    go_ret
    exact ⟨rfl, (Below.refl _ _).alloc (Nat.le_refl _) _⟩
  · rw [hr]
    clear hr
    go_enter Try.func20, Try.ntmps20
    go_wp2_with fail
    go_ret
    exact ⟨rfl, (Below.refl _ _).alloc (Nat.le_refl _) _⟩
  all_goals
    rw [hr]
    clear hr
    go_enter Try.func20, Try.ntmps20
    go_wp2_with (first
      | (go_at_call 22; refine (ballot_to _ _ _ _ (by assumption)).mono ?_; rintro e w1 ⟨rfl, hb1⟩; have B1 := Lib.hid (((Below.refl w.heap.size w).alloc (Nat.le_refl _) (.cells #[.int .i64 sl, .int .i64 r, .int .i64 n, .int .i64 k, .int .i64 cl, .int .i64 sq, .int .i64 nm, .int .i64 vl] 32)).trans (hb1.mono (by simp))); have hz := (hb1.block w.heap.size (by simp)).trans (heapNew _ _); have y3 := cellAt hz 3 rfl; have y4 := cellAt hz 4 rfl; have y5 := cellAt hz 5 rfl; have y6 := cellAt hz 6 rfl; have y7 := cellAt hz 7 rfl; clear hb1 hz)
      | (go_at_call 31; refine (ordCheck_to _ _ _ _ _ _ _ (by assumption)).mono ?_; rintro e w2 ⟨rfl, hb2⟩; have B2 := Lib.hid (B1.out.trans (hb2.mono B1.out.size)); clear hb2))
    go_ret
    exact ⟨rfl, by first | exact B2.out | exact B1.out⟩
end Go.Proofs.Ytdkbajdnckmckaa

set_option linter.unusedVariables false
namespace Go.Con
open Go
/-- one slot: who has ever voted what in which round; what each has promised; what a round proposes -/
structure PxS (V : Type) where
  h : Nat → Nat → Option V
  p : Nat → Nat
  v : Nat → Option V
/-- more than half of five -/
def Maj (Q : List Nat) : Prop := Q.Nodup ∧ (∀ a ∈ Q, a < 5) ∧ 5 < 2 * Q.length
theorem nodup_lt_len : ∀ (n : Nat) (l : List Nat), l.Nodup → (∀ a ∈ l, a < n) → l.length ≤ n
  | 0, l, _, h => by
    cases l with
    | nil => exact Nat.le_refl _
    | cons a l => exact absurd (h a (List.mem_cons_self ..)) (Nat.not_lt_zero _)
  | n + 1, l, hn, h => by
    by_cases hm : n ∈ l
    · have h1 := nodup_lt_len n (l.erase n) (hn.erase n) (fun a ha => by
        have h2 := (hn.mem_erase_iff).1 ha
        have h3 := h a h2.2
        have h4 := h2.1
        omega)
      rw [List.length_erase_of_mem hm] at h1
      omega
    · have h1 := nodup_lt_len n l hn (fun a ha => by
        have h3 := h a ha
        have h4 : a ≠ n := fun e => hm (e ▸ ha)
        omega)
      omega
theorem maj_meet {Q R : List Nat} (hq : Maj Q) (hr : Maj R) : ∃ a, a ∈ Q ∧ a ∈ R := by
  rcases Classical.em (∃ a, a ∈ Q ∧ a ∈ R) with h | h
  · exact h
  · exfalso
    have hn : (Q ++ R).Nodup := List.nodup_append.2 ⟨hq.1, hr.1, fun a ha b hb e => h ⟨a, ha, e ▸ hb⟩⟩
    have := nodup_lt_len 5 (Q ++ R) hn (fun a ha => by
      rcases List.mem_append.1 ha with h | h
      · exact hq.2.1 a h
      · exact hr.2.1 a h)
    simp at this
    have h1 := hq.2.2
    have h2 := hr.2.2
    omega
/-- in each round below, that value is proposed, or a majority has not voted and never will -/
def PxS.Safe {V : Type} (s : PxS V) (b : Nat) (v : V) : Prop := ∀ b', b' < b → s.v b' = some v ∨ ∃ Q, Maj Q ∧ ∀ a ∈ Q, s.h a b' = none ∧ b' < s.p a
structure PxS.Ok {V : Type} (s : PxS V) : Prop where
  val : ∀ a b x, s.h a b = some x → s.v b = some x
  low : ∀ a b x, s.h a b = some x → b ≤ s.p a
  safe : ∀ b x, s.v b = some x → s.Safe b x
/-- NO TWO ARE CHOSEN -/
theorem PxS.Ok.one {V : Type} {s : PxS V} (h : s.Ok) {b b' : Nat} {x x' : V} {Q Q' : List Nat} (hq : Maj Q) (hq' : Maj Q') (h1 : ∀ a ∈ Q, s.h a b = some x) (h2 : ∀ a ∈ Q', s.h a b' = some x') : x = x' := by
  have key : ∀ {b b' : Nat} {x x' : V} {Q Q' : List Nat}, Maj Q → Maj Q' → (∀ a ∈ Q, s.h a b = some x) → (∀ a ∈ Q', s.h a b' = some x') → b' < b → x' = x := by
    intro b b' x x' Q Q' hq hq' h1 h2 hb
    rcases Classical.em (x' = x) with e | e
    · exact e
    · exfalso
      obtain ⟨a, ha, ha'⟩ := maj_meet hq hq'
      rcases h.safe b x (h.val a b x (h1 a ha)) b' hb with h3 | ⟨R, hR, hR2⟩
      · rw [h.val a b' x' (h2 a ha')] at h3
        injection h3 with h3
        exact e h3
      · obtain ⟨c, hc, hc'⟩ := maj_meet hR hq'
        have := (hR2 c hc).1
        rw [h2 c hc'] at this
        cases this
  rcases Nat.lt_trichotomy b b' with hb | hb | hb
  · exact key hq' hq h2 h1 hb
  · subst hb
    obtain ⟨a, ha, ha'⟩ := maj_meet hq hq'
    have e := h1 a ha
    rw [h2 a ha'] at e
    injection e with e
    exact e.symm
  · exact (key hq hq' h1 h2 hb).symm
/-- a promise is raised -/
theorem PxS.Ok.raise {V : Type} {s : PxS V} (h : s.Ok) (a b : Nat) (hb : s.p a ≤ b) : PxS.Ok { s with p := fun c => if c = a then b else s.p c } := by
  have hp : ∀ c, s.p c ≤ (fun c => if c = a then b else s.p c) c := fun c => by
    show s.p c ≤ if c = a then b else s.p c
    split
    · rename_i e; rw [e]; exact hb
    · exact Nat.le_refl _
  refine ⟨h.val, fun c d x hx => Nat.le_trans (h.low c d x hx) (hp c), fun d x hx d' h1 => ?_⟩
  rcases h.safe d x hx d' h1 with h2 | ⟨Q, hQ, hQ2⟩
  · exact .inl h2
  · exact .inr ⟨Q, hQ, fun c hc => ⟨(hQ2 c hc).1, Nat.lt_of_lt_of_le (hQ2 c hc).2 (hp c)⟩⟩
/-- a vote is cast -/
theorem PxS.Ok.vote {V : Type} {s : PxS V} (h : s.Ok) (a b : Nat) (x : V) (hv : s.v b = some x) (hb : s.p a ≤ b) : PxS.Ok { s with h := fun c d => if c = a ∧ d = b then some x else s.h c d, p := fun c => if c = a then b else s.p c } := by
  have hp : ∀ c, s.p c ≤ (if c = a then b else s.p c) := fun c => by
    split
    · rename_i e; rw [e]; exact hb
    · exact Nat.le_refl _
  refine ⟨fun c d y hy => ?_, fun c d y hy => ?_, fun d y hy d' h1 => ?_⟩
  · have hy : (if c = a ∧ d = b then some x else s.h c d) = some y := hy
    show s.v d = some y
    split at hy
    · rename_i e
      rw [e.2, hv]; exact hy
    · exact h.val c d y hy
  · have hy : (if c = a ∧ d = b then some x else s.h c d) = some y := hy
    show d ≤ if c = a then b else s.p c
    split at hy
    · rename_i e
      rw [if_pos e.1, e.2]; exact Nat.le_refl _
    · exact Nat.le_trans (h.low c d y hy) (hp c)
  · rcases h.safe d y hy d' h1 with h2 | ⟨Q, hQ, hQ2⟩
    · exact .inl h2
    · refine .inr ⟨Q, hQ, fun c hc => ⟨?_, Nat.lt_of_lt_of_le (hQ2 c hc).2 (hp c)⟩⟩
      show (if c = a ∧ d' = b then some x else s.h c d') = none
      split
      · rename_i e
        have := (hQ2 c hc).2
        rw [e.1, e.2] at this
        omega
      · exact (hQ2 c hc).1
/-- a round proposes a value that is safe -/
theorem PxS.Ok.ask {V : Type} {s : PxS V} (h : s.Ok) (b : Nat) (x : V) (hn : s.v b = none) (hs : s.Safe b x) : PxS.Ok { s with v := fun d => if d = b then some x else s.v d } := by
  have keep : ∀ d y, s.v d = some y → (if d = b then some x else s.v d) = some y := fun d y hy => by
    split
    · rename_i e; rw [e, hn] at hy; cases hy
    · exact hy
  refine ⟨fun c d y hy => keep d y (h.val c d y hy), h.low, fun d y hy d' h1 => ?_⟩
  have hy : (if d = b then some x else s.v d) = some y := hy
  have hS : s.Safe d y := by
    split at hy
    · rename_i e
      injection hy with hy
      rw [e, ← hy]; exact hs
    · exact h.safe d y hy
  rcases hS d' h1 with h2 | h2
  · exact .inl (keep d' y h2)
  · exact .inr h2
/-- what a majority of promises tells: the greatest vote below, or none -/
theorem PxS.Ok.told {V : Type} {s : PxS V} (h : s.Ok) (b : Nat) (Q : List Nat) (hQ : Maj Q) (hp : ∀ a ∈ Q, b ≤ s.p a) (x : V) (hx : (∀ a ∈ Q, ∀ d, d < b → s.h a d = none) ∨ ∃ m, m < b ∧ s.v m = some x ∧ ∀ a ∈ Q, ∀ d, m < d → d < b → s.h a d = none) : s.Safe b x := by
  intro b' hb
  rcases hx with hx | ⟨m, hm, hv, hx⟩
  · exact .inr ⟨Q, hQ, fun a ha => ⟨hx a ha b' hb, Nat.lt_of_lt_of_le hb (hp a ha)⟩⟩
  · rcases Nat.lt_trichotomy b' m with h1 | h1 | h1
    · exact h.safe m x hv b' h1
    · rw [h1]; exact .inl hv
    · exact .inr ⟨Q, hQ, fun a ha => ⟨hx a ha b' h1 hb, Nat.lt_of_lt_of_le hb (hp a ha)⟩⟩
end Go.Con

set_option linter.unusedVariables false
set_option linter.unusedSimpArgs false
namespace Go.Proofs.Ytdkbajdnckmckaa
open Go.RowKit Go.Con
theorem zeroCells8 (n : Nat) : Builtin.zeroCells (Value.int .u8 0).cells n = ((List.replicate n (0 : UInt8)).map u8v).toArray := by
  apply Array.ext (by simp [Builtin.zeroCells, Value.cells])
  intro j h1 h2
  simp [Builtin.zeroCells, Value.cells, u8v, Nat.mod_one]
section
variable {ops : Array Oper} {rest : List Oper} {o : Oper} {a : Act} {Q : Exit → Act → World → Prop} {w : World}
end
end Go.Proofs.Ytdkbajdnckmckaa
