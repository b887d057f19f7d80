/-
  The walks of line.Check and New.
-/
import Derived.Test.YtoekopdogfnkhaaChn
set_option linter.unusedVariables false
set_option linter.unusedSimpArgs false
namespace Go.Con
/-- which numbers of a window are met may be, below a top -/
structure SeenOk (t : Nat) (f : Nat → Bool) : Prop where
  low : ∀ i, i < 8 → f i = true → 8 ≤ t + i
  top : 0 < t → f 7 = true
end Go.Con
namespace Go.Proofs.Ytoekopdogfnkhaa
open Go.RowKit Go.Con
theorem cindex8 (f : Nat → Bool) (k : Nat) (hk : k < 8) (W : World) : (Instr.index 26 (.agg #[.bool (f 0), .bool (f 1), .bool (f 2), .bool (f 3), .bool (f 4), .bool (f 5), .bool (f 6), .bool (f 7)]) (.int .i64 k)).run Try.prog W = .ok (.bool (f k)) W := by
  have h8 : k = 0 ∨ k = 1 ∨ k = 2 ∨ k = 3 ∨ k = 4 ∨ k = 5 ∨ k = 6 ∨ k = 7 := by omega
  rcases h8 with rfl | rfl | rfl | rfl | rfl | rfl | rfl | rfl <;> (show _ = _; kernel_rfl)
set_option maxRecDepth 100000 in
set_option maxHeartbeats 2000000 in
theorem lineCheck_ok (a : Option Addr) (c s t : Nat) (f : Nat → Bool) (w : World) (hs : s ≤ 1073741824) (ht : t ≤ 1073741824) (hf : SeenOk t f) :
    Calls Try.prog 13 #[.agg #[.slice a 32 c, .int .i64 s, .int .i64 t, .bool (f 0), .bool (f 1), .bool (f 2), .bool (f 3), .bool (f 4), .bool (f 5), .bool (f 6), .bool (f 7)]] w fun e w' => e = .returned (.int .i64 0) ∧ Below w.heap.size w w' := by
  have d1 : decide ((s : Int) < 0) = false := by rw [decide_eq_false_iff_not]; omega
  have d2 : decide ((1073741824 : Int) < (s : Int)) = false := by rw [decide_eq_false_iff_not]; omega
  have d3 : decide ((t : Int) < 0) = false := by rw [decide_eq_false_iff_not]; omega
  have d4 : decide ((1073741824 : Int) < (t : Int)) = false := by rw [decide_eq_false_iff_not]; omega
  have HIX := Lib.hid (fun k hk W => cindex8 f k hk W)
  have HF := Lib.hid hf
  obtain ⟨fn, hfn⟩ : ∃ fn : Nat → Value, fn = fun k => .bool (f k) := ⟨_, rfl⟩
  obtain ⟨b0, hb0⟩ : ∃ b, b = f 0 := ⟨_, rfl⟩
  obtain ⟨b1, hb1⟩ : ∃ b, b = f 1 := ⟨_, rfl⟩
  obtain ⟨b2, hb2⟩ : ∃ b, b = f 2 := ⟨_, rfl⟩
  obtain ⟨b3, hb3⟩ : ∃ b, b = f 3 := ⟨_, rfl⟩
  obtain ⟨b4, hb4⟩ : ∃ b, b = f 4 := ⟨_, rfl⟩
  obtain ⟨b5, hb5⟩ : ∃ b, b = f 5 := ⟨_, rfl⟩
  obtain ⟨b6, hb6⟩ : ∃ b, b = f 6 := ⟨_, rfl⟩
  obtain ⟨b7, hb7⟩ : ∃ b, b = f 7 := ⟨_, rfl⟩
  rw [← hb0, ← hb1, ← hb2, ← hb3, ← hb4, ← hb5, ← hb6, ← hb7] at HIX ⊢
  have H7 := Lib.hid hb7
  clear hf hfn hb0 hb1 hb2 hb3 hb4 hb5 hb6 hb7
  go_enter Try.func13, Try.ntmps13
  go_wp2_with fail
  go_loop [31] (fun i => ∃ k : Nat, k ≤ 8 ∧ i = .int .i64 k) (fun i => 8 - (intOf i).toNat)
  case atStart => exact ⟨0, by omega, rfl⟩
  case round =>
    obtain ⟨k, hk, rfl⟩ := hrel
    by_cases hlt : k < 8
    · have hdk : decide ((k : Int) < 8) = true := by rw [decide_eq_true_eq]; omega
      have hix := HIX.out k hlt
      obtain ⟨b, hb⟩ : ∃ b, b = f k := ⟨_, rfl⟩
      rw [← hb] at hix
      cases b with
      | false =>
        clear hb
        go_wp2_with fail
        go_round
        case rel => exact ⟨k + 1, by omega, by go_num⟩
        case measure => simp [intOf]; omega
      | true =>
        have hl := HF.out.low k hlt hb.symm
        have hl2 : decide ((t : Int) - 8 + (k : Int) < 0) = false := by rw [decide_eq_false_iff_not]; omega
        clear hb
        go_wp2_with fail
        go_round
        case rel => exact ⟨k + 1, by omega, by go_num⟩
        case measure => simp [intOf]; omega
    · have hdk : decide ((k : Int) < 8) = false := by rw [decide_eq_false_iff_not]; omega
      by_cases h0 : 0 < t
      · have hd0 : decide ((0 : Int) < (t : Int)) = true := by rw [decide_eq_true_eq]; omega
        have h7 : b7 = true := by rw [H7.out]; exact HF.out.top h0
        subst h7
        go_wp2
        go_ret
        exact ⟨rfl, (Below.refl _ _).alloc (Nat.le_refl _) _⟩
      · have hd0 : decide ((0 : Int) < (t : Int)) = false := by rw [decide_eq_false_iff_not]; omega
        have ht0 : t = 0 := by omega
        subst ht0
        go_wp2
        go_ret
        exact ⟨rfl, (Below.refl _ _).alloc (Nat.le_refl _) _⟩
/-- A key of another length. -/
theorem lineCheck_key (a : Option Addr) (n c s t : Nat) (b0 b1 b2 b3 b4 b5 b6 b7 : Bool) (w : World) (hn : n ≠ 32) :
    Calls Try.prog 13 #[.agg #[.slice a n c, .int .i64 s, .int .i64 t, .bool b0, .bool b1, .bool b2, .bool b3, .bool b4, .bool b5, .bool b6, .bool b7]] w fun e w' => e = .returned (.int .i64 5) ∧ Below w.heap.size w w' := by
  have h1 : ((n : Int) != 32) = true := by rw [bne_iff_ne]; omega
  have h2 : ((n : Int) == 32) = false := by rw [beq_eq_false_iff_ne]; omega
  go_enter Try.func13, Try.ntmps13
  go_wp2
  go_ret
  exact ⟨rfl, (Below.refl _ _).alloc (Nat.le_refl _) _⟩
set_option maxRecDepth 100000 in
set_option maxHeartbeats 1000000 in
/-- A top with nothing met. -/
theorem lineCheck_top (a : Option Addr) (c : Nat) (w : World) :
    Calls Try.prog 13 #[.agg #[.slice a 32 c, .int .i64 0, .int .i64 1, .bool false, .bool false, .bool false, .bool false, .bool false, .bool false, .bool false, .bool false]] w fun e w' => e = .returned (.int .i64 5) ∧ Below w.heap.size w w' := by
  have HIX := Lib.hid (fun k hk W => cindex8 (fun _ => false) k hk W)
  go_enter Try.func13, Try.ntmps13
  go_wp2_with fail
  go_loop [31] (fun i => ∃ k : Nat, k ≤ 8 ∧ i = .int .i64 k) (fun i => 8 - (intOf i).toNat)
  case atStart => exact ⟨0, by omega, rfl⟩
  case round =>
    obtain ⟨k, hk, rfl⟩ := hrel
    by_cases hlt : k < 8
    · have hdk : decide ((k : Int) < 8) = true := by rw [decide_eq_true_eq]; omega
      have hix := HIX.out k hlt
      go_wp2_with fail
      go_round
      case rel => exact ⟨k + 1, by omega, by go_num⟩
      case measure => simp [intOf]; omega
    · have hdk : decide ((k : Int) < 8) = false := by rw [decide_eq_false_iff_not]; omega
      go_wp2
      go_ret
      exact ⟨rfl, (Below.refl _ _).alloc (Nat.le_refl _) _⟩
set_option maxRecDepth 100000 in
set_option maxHeartbeats 1000000 in
theorem lineNew_any (a : Addr) (c : Nat) (key : List UInt8) (w : World) (hv : Rd w (.slice (some a) 32 c) key) (hn : key.length = 32) :
    Calls Try.prog 8 #[.slice (some a) 32 c] w
      fun e w' => ∃ kv, e = .returned (.tuple #[.agg #[kv, .int .i64 0, .int .i64 0, .bool false, .bool false, .bool false, .bool false, .bool false, .bool false, .bool false, .bool false], .int .i64 0]) ∧ Own w' w.heap.size kv key ∧ Below w.heap.size w w' := by
  have HV := Lib.hid hv
  have HN := Lib.hid hn
  clear hv hn
  go_enter Try.func8, Try.ntmps8
  go_wp2_with fail
  refine (own_any a c key 0 0 false false false false false false false false _ (HV.out.alloc _) HN.out).mono ?_
  rintro e w1 ⟨kv, rfl, hok, hb1⟩
  obtain ⟨kg, kcap, hkv, _, _, _, _⟩ := hok.shape (by intro h; have := HN.out; rw [h] at this; cases this)
  rw [HN.out] at hkv
  subst hkv
  have y1 := (hb1.block w.heap.size (by simp)).trans (heapNew w (.cells #[.slice none 0 0, .int .i64 0, .int .i64 0, .bool false, .bool false, .bool false, .bool false, .bool false, .bool false, .bool false, .bool false] 28))
  have B1 := Lib.hid (((Below.refl w.heap.size w).alloc (Nat.le_refl _) _).trans (hb1.mono (by simp)))
  have O1 := Lib.hid hok
  have hth : w1.there w.heap.size 0 11 := there_of y1 rfl
  have HTH := Lib.hid hth
  have Y1 := Lib.hid y1
  clear hok hb1 y1 hth
  go_wp2_with (refine wpList_store_mid rfl 28 (.tmp 2) (.tmp 10) rfl w.heap.size 0 #[.slice (some ⟨kg, 0, none⟩) 32 kcap, .int .i64 0, .int .i64 0, .bool false, .bool false, .bool false, .bool false, .bool false, .bool false, .bool false, .bool false] rfl rfl HTH.out chanSz (chanOne' _ _ _ _ _ _ _ _ _ _ _ O1.out.one) ?_)
  have hst := storedRow (vs := [.slice (some ⟨kg, 0, none⟩) 32 kcap, .int .i64 0, .int .i64 0, .bool false, .bool false, .bool false, .bool false, .bool false, .bool false, .bool false, .bool false]) Y1.out rfl
  have hl := run_loadVar_mid (P := Try.prog) _ w.heap.size 0 28 _ _ (range_of hst) Try.underlying28 rfl chanSz
  refine bodyPost_ret (v := .tuple #[.agg #[.slice (some ⟨kg, 0, none⟩) 32 kcap, .int .i64 0, .int .i64 0, .bool false, .bool false, .bool false, .bool false, .bool false, .bool false, .bool false, .bool false], .int .i64 0]) (results_ct Try.results8 rfl hl) rfl ⟨_, rfl, ?_, ?_⟩
  · refine (O1.out.ofHeap (fun k hk => ?_)).mono (by simp)
    have hk2 := (O1.out.lt k hk).1
    simp at hk2
    rw [heap_setCells_ne (by omega)]
  · exact below_setCells (Nat.le_refl _) _ _ _ B1.out
end Go.Proofs.Ytoekopdogfnkhaa
