/-
  The walk of conclavekeep.joined: lists of bytes, one behind the other.
-/
import Derived.Test.YtdjnbnbhpjiicaaDoorBy2
set_option linter.unusedVariables false
set_option linter.unusedSimpArgs false
namespace Go.Con
theorem flatten_len {α : Type} (q : Nat) : ∀ l : List (List α), (∀ x ∈ l, x.length ≤ q) → l.flatten.length ≤ l.length * q
  | [], _ => by simp
  | x :: l, h => by
    have h1 := h x (by simp)
    have h2 := flatten_len q l (fun y hy => h y (by simp [hy]))
    simp only [List.flatten_cons, List.length_append, List.length_cons, Nat.add_mul, Nat.one_mul]
    omega
theorem flatten_take_succ {α : Type} (l : List (List α)) (k : Nat) (h : k < l.length) : (l.take (k + 1)).flatten = (l.take k).flatten ++ l.getD k [] := by
  rw [List.take_succ_eq_append_getElem h, List.flatten_append]
  simp [h]
end Go.Con
namespace Go.Proofs.YtdjnbnbhpjiicaaDoor
open Go.RowKit Go.Con
set_option maxHeartbeats 400000 in
theorem joined_any (b n : Nat) (vs : List Value) (ls : List (List UInt8)) (w : World) (hn : n ≤ 100) (hv : vs.length = n) (hl : ls.length = n)
    (hb : w.heap[b]? = some (.cells vs.toArray 35 (0, 0))) (hr : ∀ i, i < n → Rd w (vs.getD i undef) (ls.getD i [])) (hs : ∀ l ∈ ls, l.length ≤ 100000) :
    Calls Tryd.prog 32 #[.slice (some ⟨b, 0, none⟩) n n] w (FreshB w ls.flatten) := by
  have HV := Lib.hid hv
  have HL := Lib.hid hl
  have HB0 := Lib.hid hb
  have HR := Lib.hid hr
  have HS := Lib.hid hs
  clear hv hl hb hr hs
  go_enter Tryd.func32, Tryd.ntmps32
  go_wp2
  go_loopw [3, 4] (fun v i wr => ∃ k : Nat, k ≤ n ∧ i = .int .i64 k ∧ Own wr w.heap.size v (ls.take k).flatten ∧ Below w.heap.size w wr) (fun _ i _ => n - (intOf i).toNat)
  case atStart => exact ⟨0, Nat.zero_le _, rfl, Own.nil _ _, Below.refl _ _⟩
  case round =>
    obtain ⟨k, hk, rfl, hO, hB⟩ := hrel
    have HO := Lib.hid hO
    have HB := Lib.hid hB
    clear hO hB
    by_cases hlt : k < n
    · obtain ⟨vk, hvk⟩ : ∃ vk, vk = vs.getD k undef := ⟨_, rfl⟩
      have hc : wr.cell? ⟨b, k, none⟩ = some vk := by
        rw [hvk, HB.out.cell (p := ⟨b, k, none⟩) (lt_of_heap HB0.out)]
        refine cellAt HB0.out k ?_
        have : k < vs.length := by rw [HV.out]; exact hlt
        simp [this]
      have hrk : Rd wr vk (ls.getD k []) := by rw [hvk]; exact (HR.out k hlt).stay HB.out
      have hlen : (ls.take k).flatten.length + (ls.getD k []).length ≤ 140737488355328 := by
        have h1 := flatten_len 100000 (ls.take k) (fun x hx => HS.out x (List.mem_of_mem_take hx))
        have h2 : (ls.getD k []).length ≤ 100000 := by
          have : k < ls.length := by rw [HL.out]; exact hlt
          have h3 : ls.getD k [] = ls[k] := by simp [this]
          rw [h3]; exact HS.out _ (List.getElem_mem this)
        have h3 : (ls.take k).length ≤ 100 := by simp; omega
        have h4 : (ls.take k).length * 100000 ≤ 100 * 100000 := Nat.mul_le_mul_right _ h3
        omega
      have HRK := Lib.hid hrk
      have HLEN := Lib.hid hlen
      have hfl : (ls.take (k + 1)).flatten = (ls.take k).flatten ++ ls.getD k [] := flatten_take_succ ls k (by rw [HL.out]; exact hlt)
      have HFL := Lib.hid hfl
      clear hvk hrk hlen hfl
      go_wp2_with (at_builtin; refine apB rfl (.tmp 11) (.tmp 15) rfl w.heap.size _ vk _ (ls.getD k []) rfl HO.out rfl HRK.out HLEN.out HB.out.size ?_; intro v3 w3 hown3 hg3; have HO3 := Lib.hid hown3; have HG3 := Lib.hid hg3; clear hown3 hg3)
      go_roundw
      case rel => exact ⟨k + 1, by omega, by go_num, by rw [HFL.out]; exact HO3.out, HB.out.grown HG3.out HB.out.size (fun j hj => (HO.out.lt j hj).1)⟩
      case measure => simp [intOf]; omega
    · go_wp2
      go_ret
      have hkn : k = n := by omega
      have h := HO.out
      rw [hkn, List.take_of_length_le (by rw [HL.out]; exact Nat.le_refl _)] at h
      exact ⟨_, rfl, h, HB.out⟩
/-- a row of two, of three -/
theorem rows2 {w : World} {v0 v1 : Value} {l0 l1 : List UInt8} (h0 : Rd w v0 l0) (h1 : Rd w v1 l1) : ∀ i, i < 2 → Rd w (([v0, v1] : List Value).getD i undef) (([l0, l1] : List (List UInt8)).getD i []) := by
  intro i hi
  have : i = 0 ∨ i = 1 := by omega
  rcases this with rfl | rfl
  · exact h0
  · exact h1
theorem rows3 {w : World} {v0 v1 v2 : Value} {l0 l1 l2 : List UInt8} (h0 : Rd w v0 l0) (h1 : Rd w v1 l1) (h2 : Rd w v2 l2) : ∀ i, i < 3 → Rd w (([v0, v1, v2] : List Value).getD i undef) (([l0, l1, l2] : List (List UInt8)).getD i []) := by
  intro i hi
  have : i = 0 ∨ i = 1 ∨ i = 2 := by omega
  rcases this with rfl | rfl | rfl
  · exact h0
  · exact h1
  · exact h2
theorem joined2 (W : World) (v0 v1 : Value) (l0 l1 : List UInt8) (h0 : Rd W v0 l0) (h1 : Rd W v1 l1) (s0 : l0.length ≤ 100000) (s1 : l1.length ≤ 100000) :
    Calls Tryd.prog 32 #[.slice (some ⟨W.heap.size, 0, none⟩) 2 2] (W.alloc (.cells #[v0, v1] 35)) (FreshB (W.alloc (.cells #[v0, v1] 35)) (l0 ++ l1)) := by
  have h := joined_any W.heap.size 2 [v0, v1] [l0, l1] _ (by decide) rfl rfl (heapNew W (.cells #[v0, v1] 35)) (rows2 (h0.alloc _) (h1.alloc _)) (by intro l hl; simp at hl; rcases hl with rfl | rfl <;> assumption)
  simpa using h
theorem joined3 (W : World) (v0 v1 v2 : Value) (l0 l1 l2 : List UInt8) (h0 : Rd W v0 l0) (h1 : Rd W v1 l1) (h2 : Rd W v2 l2) (s0 : l0.length ≤ 100000) (s1 : l1.length ≤ 100000) (s2 : l2.length ≤ 100000) :
    Calls Tryd.prog 32 #[.slice (some ⟨W.heap.size, 0, none⟩) 3 3] (W.alloc (.cells #[v0, v1, v2] 35)) (FreshB (W.alloc (.cells #[v0, v1, v2] 35)) (l0 ++ (l1 ++ l2))) := by
  have h := joined_any W.heap.size 3 [v0, v1, v2] [l0, l1, l2] _ (by decide) rfl rfl (heapNew W (.cells #[v0, v1, v2] 35)) (rows3 (h0.alloc _) (h1.alloc _) (h2.alloc _)) (by intro l hl; simp at hl; rcases hl with rfl | rfl | rfl <;> assumption)
  simpa using h
theorem joined2b (W : World) (b : Nat) (v0 v1 : Value) (l0 l1 : List UInt8) (hb : b = W.heap.size) (h0 : Rd W v0 l0) (h1 : Rd W v1 l1) (s0 : l0.length ≤ 100000) (s1 : l1.length ≤ 100000) :
    Calls Tryd.prog 32 #[.slice (some ⟨b, 0, none⟩) 2 2] (W.alloc (.cells #[v0, v1] 35)) (FreshB (W.alloc (.cells #[v0, v1] 35)) (l0 ++ l1)) := by
  subst hb; exact joined2 W v0 v1 l0 l1 h0 h1 s0 s1
theorem joined3b (W : World) (b : Nat) (v0 v1 v2 : Value) (l0 l1 l2 : List UInt8) (hb : b = W.heap.size) (h0 : Rd W v0 l0) (h1 : Rd W v1 l1) (h2 : Rd W v2 l2) (s0 : l0.length ≤ 100000) (s1 : l1.length ≤ 100000) (s2 : l2.length ≤ 100000) :
    Calls Tryd.prog 32 #[.slice (some ⟨b, 0, none⟩) 3 3] (W.alloc (.cells #[v0, v1, v2] 35)) (FreshB (W.alloc (.cells #[v0, v1, v2] 35)) (l0 ++ (l1 ++ l2))) := by
  subst hb; exact joined3 W v0 v1 v2 l0 l1 l2 h0 h1 h2 s0 s1 s2
end Go.Proofs.YtdjnbnbhpjiicaaDoor
