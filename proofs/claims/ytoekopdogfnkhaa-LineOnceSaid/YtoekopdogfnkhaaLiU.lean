/-
  The walks of line.Take and line.Send where they refuse at once.
-/
import Derived.Test.YtoekopdogfnkhaaLiT
set_option linter.unusedVariables false
set_option linter.unusedSimpArgs false
namespace Go.Proofs.Ytoekopdogfnkhaa
open Go.RowKit Go.Con
set_option maxRecDepth 100000 in
set_option maxHeartbeats 2000000 in
theorem Take_short (a ra : Addr) (c m rc s t : Nat) (ro : Option Addr) (f : Nat → Bool) (w : World) (hm : m < 20) (hs : s ≤ 1073741824) (ht : t ≤ 1073741824) (hf : SeenOk t f) :
    Calls Try.prog 10 #[.agg #[.slice (some a) 32 c, .int .i64 s, .int .i64 t, .bool (f 0), .bool (f 1), .bool (f 2), .bool (f 3), .bool (f 4), .bool (f 5), .bool (f 6), .bool (f 7)], .slice ro m rc] w fun e w' => e = .returned (.tuple #[.agg #[.slice none 0 0, .int .i64 0, .int .i64 0, .bool false, .bool false, .bool false, .bool false, .bool false, .bool false, .bool false, .bool false], .slice none 0 0, .int .i64 13]) ∧ Below w.heap.size w w' := by
  have d20 : decide ((m : Int) < 20) = true := by rw [decide_eq_true_eq]; omega
  have d2020 : decide ((2020 : Int) < (m : Int)) = false := by rw [decide_eq_false_iff_not]; omega
  have hck := fun w => lineCheck_ok (some a) c s t f w hs ht hf
  have HCK := Lib.hid hck
  obtain ⟨f0, hf0⟩ : ∃ b, b = f 0 := ⟨_, rfl⟩
  obtain ⟨f1, hf1⟩ : ∃ b, b = f 1 := ⟨_, rfl⟩
  obtain ⟨f2, hf2⟩ : ∃ b, b = f 2 := ⟨_, rfl⟩
  obtain ⟨f3, hf3⟩ : ∃ b, b = f 3 := ⟨_, rfl⟩
  obtain ⟨f4, hf4⟩ : ∃ b, b = f 4 := ⟨_, rfl⟩
  obtain ⟨f5, hf5⟩ : ∃ b, b = f 5 := ⟨_, rfl⟩
  obtain ⟨f6, hf6⟩ : ∃ b, b = f 6 := ⟨_, rfl⟩
  obtain ⟨f7, hf7⟩ : ∃ b, b = f 7 := ⟨_, rfl⟩
  rw [← hf0, ← hf1, ← hf2, ← hf3, ← hf4, ← hf5, ← hf6, ← hf7] at HCK ⊢
  clear hck hf hf0 hf1 hf2 hf3 hf4 hf5 hf6 hf7
  go_enter Try.func10, Try.ntmps10
  go_wp2_with fail
  refine (HCK.out _).mono ?_
  rintro e w1 ⟨rfl, hb1⟩
  have y1 := (hb1.block (w.heap.size + 1) (by simp)).trans (heapNew1 w _ (.cells #[.slice none 0 0, .int .i64 0, .int .i64 0, .bool false, .bool false, .bool false, .bool false, .bool false, .bool false, .bool false, .bool false] 28))
  have b1 := (((Below.refl w.heap.size w).alloc (Nat.le_refl _) _).alloc (by simp) _).trans (hb1.mono (by simp; omega))
  skip
  have Y1 := Lib.hid y1
  have B1 := Lib.hid b1
  clear hb1 y1 b1
  go_wp2_with (refine wpList_store_mid rfl 28 (.tmp 4) (.tmp 28) rfl (w.heap.size + 1) 0 #[.slice none 0 0, .int .i64 0, .int .i64 0, .bool false, .bool false, .bool false, .bool false, .bool false, .bool false, .bool false, .bool false] rfl rfl (there_of Y1.out rfl) chanSz (chanOne' _ _ _ _ _ _ _ _ _ _ _ rfl) ?_)
  have hst := storedRow (vs := [.slice none 0 0, .int .i64 0, .int .i64 0, .bool false, .bool false, .bool false, .bool false, .bool false, .bool false, .bool false, .bool false]) Y1.out rfl
  have hl := run_loadVar_mid (P := Try.prog) _ (w.heap.size + 1) 0 28 _ _ (range_of hst) Try.underlying28 rfl chanSz
  exact bodyPost_ret (v := .tuple #[.agg #[.slice none 0 0, .int .i64 0, .int .i64 0, .bool false, .bool false, .bool false, .bool false, .bool false, .bool false, .bool false, .bool false], .slice none 0 0, .int .i64 13]) (results_ctt Try.results10 rfl hl) rfl ⟨rfl, below_setCells (by omega) _ _ _ B1.out⟩
set_option maxRecDepth 100000 in
set_option maxHeartbeats 2000000 in
theorem Take_key (a : Option Addr) (n c m rc : Nat) (ro : Option Addr) (w : World) (hn : n ≠ 32) :
    Calls Try.prog 10 #[.agg #[.slice a n c, .int .i64 0, .int .i64 0, .bool false, .bool false, .bool false, .bool false, .bool false, .bool false, .bool false, .bool false], .slice ro m rc] w fun e w' => e = .returned (.tuple #[.agg #[.slice none 0 0, .int .i64 0, .int .i64 0, .bool false, .bool false, .bool false, .bool false, .bool false, .bool false, .bool false, .bool false], .slice none 0 0, .int .i64 5]) ∧ Below w.heap.size w w' := by
  go_enter Try.func10, Try.ntmps10
  go_wp2_with fail
  refine (lineCheck_key a n c 0 0 false false false false false false false false _ hn).mono ?_
  rintro e w1 ⟨rfl, hb1⟩
  have y1 := (hb1.block (w.heap.size + 1) (by simp)).trans (heapNew1 w _ (.cells #[.slice none 0 0, .int .i64 0, .int .i64 0, .bool false, .bool false, .bool false, .bool false, .bool false, .bool false, .bool false, .bool false] 28))
  have b1 := (((Below.refl w.heap.size w).alloc (Nat.le_refl _) _).alloc (by simp) _).trans (hb1.mono (by simp; omega))
  skip
  have Y1 := Lib.hid y1
  have B1 := Lib.hid b1
  clear hb1 y1 b1
  go_wp2_with (refine wpList_store_mid rfl 28 (.tmp 4) (.tmp 17) rfl (w.heap.size + 1) 0 #[.slice none 0 0, .int .i64 0, .int .i64 0, .bool false, .bool false, .bool false, .bool false, .bool false, .bool false, .bool false, .bool false] rfl rfl (there_of Y1.out rfl) chanSz (chanOne' _ _ _ _ _ _ _ _ _ _ _ rfl) ?_)
  have hst := storedRow (vs := [.slice none 0 0, .int .i64 0, .int .i64 0, .bool false, .bool false, .bool false, .bool false, .bool false, .bool false, .bool false, .bool false]) Y1.out rfl
  have hl := run_loadVar_mid (P := Try.prog) _ (w.heap.size + 1) 0 28 _ _ (range_of hst) Try.underlying28 rfl chanSz
  exact bodyPost_ret (v := .tuple #[.agg #[.slice none 0 0, .int .i64 0, .int .i64 0, .bool false, .bool false, .bool false, .bool false, .bool false, .bool false, .bool false, .bool false], .slice none 0 0, .int .i64 5]) (results_ctt Try.results10 rfl hl) rfl ⟨rfl, below_setCells (by omega) _ _ _ B1.out⟩
set_option maxRecDepth 100000 in
set_option maxHeartbeats 2000000 in
theorem Send_top (a : Option Addr) (c : Nat) (pv : Value) (w : World) :
    Calls Try.prog 15 #[.agg #[.slice a 32 c, .int .i64 0, .int .i64 1, .bool false, .bool false, .bool false, .bool false, .bool false, .bool false, .bool false, .bool false], pv] w fun e w' => e = .returned (.tuple #[.agg #[.slice none 0 0, .int .i64 0, .int .i64 0, .bool false, .bool false, .bool false, .bool false, .bool false, .bool false, .bool false, .bool false], .slice none 0 0, .int .i64 5]) ∧ Below w.heap.size w w' := by
  go_enter Try.func15, Try.ntmps15
  go_wp2_with fail
  refine (lineCheck_top a c _).mono ?_
  rintro e w1 ⟨rfl, hb1⟩
  have y1 := (hb1.block (w.heap.size + 1) (by simp)).trans (heapNew1 w _ (.cells #[.slice none 0 0, .int .i64 0, .int .i64 0, .bool false, .bool false, .bool false, .bool false, .bool false, .bool false, .bool false, .bool false] 28))
  have b1 := (((Below.refl w.heap.size w).alloc (Nat.le_refl _) _).alloc (by simp) _).trans (hb1.mono (by simp; omega))
  skip
  have Y1 := Lib.hid y1
  have B1 := Lib.hid b1
  clear hb1 y1 b1
  go_wp2_with (refine wpList_store_mid rfl 28 (.tmp 4) (.tmp 17) rfl (w.heap.size + 1) 0 #[.slice none 0 0, .int .i64 0, .int .i64 0, .bool false, .bool false, .bool false, .bool false, .bool false, .bool false, .bool false, .bool false] rfl rfl (there_of Y1.out rfl) chanSz (chanOne' _ _ _ _ _ _ _ _ _ _ _ rfl) ?_)
  have hst := storedRow (vs := [.slice none 0 0, .int .i64 0, .int .i64 0, .bool false, .bool false, .bool false, .bool false, .bool false, .bool false, .bool false, .bool false]) Y1.out rfl
  have hl := run_loadVar_mid (P := Try.prog) _ (w.heap.size + 1) 0 28 _ _ (range_of hst) Try.underlying28 rfl chanSz
  exact bodyPost_ret (v := .tuple #[.agg #[.slice none 0 0, .int .i64 0, .int .i64 0, .bool false, .bool false, .bool false, .bool false, .bool false, .bool false, .bool false, .bool false], .slice none 0 0, .int .i64 5]) (results_ctt Try.results15 rfl hl) rfl ⟨rfl, below_setCells (by omega) _ _ _ B1.out⟩
set_option maxRecDepth 100000 in
set_option maxHeartbeats 2000000 in
theorem Send_full (a : Addr) (c m pc s t : Nat) (pa : Option Addr) (f : Nat → Bool) (w : World) (hm : m ≤ 2000) (hsf : s = 1073741824) (ht : t ≤ 1073741824) (hf : SeenOk t f) :
    Calls Try.prog 15 #[.agg #[.slice (some a) 32 c, .int .i64 s, .int .i64 t, .bool (f 0), .bool (f 1), .bool (f 2), .bool (f 3), .bool (f 4), .bool (f 5), .bool (f 6), .bool (f 7)], .slice pa m pc] w fun e w' => e = .returned (.tuple #[.agg #[.slice none 0 0, .int .i64 0, .int .i64 0, .bool false, .bool false, .bool false, .bool false, .bool false, .bool false, .bool false, .bool false], .slice none 0 0, .int .i64 8]) ∧ Below w.heap.size w w' := by
  have d2000 : decide ((2000 : Int) < (m : Int)) = false := by rw [decide_eq_false_iff_not]; omega
  have hsn : ((s : Int) == 1073741824) = true := by rw [beq_iff_eq]; omega
  have hck := fun w => lineCheck_ok (some a) c s t f w (by omega) ht hf
  have HCK := Lib.hid hck
  obtain ⟨f0, hf0⟩ : ∃ b, b = f 0 := ⟨_, rfl⟩
  obtain ⟨f1, hf1⟩ : ∃ b, b = f 1 := ⟨_, rfl⟩
  obtain ⟨f2, hf2⟩ : ∃ b, b = f 2 := ⟨_, rfl⟩
  obtain ⟨f3, hf3⟩ : ∃ b, b = f 3 := ⟨_, rfl⟩
  obtain ⟨f4, hf4⟩ : ∃ b, b = f 4 := ⟨_, rfl⟩
  obtain ⟨f5, hf5⟩ : ∃ b, b = f 5 := ⟨_, rfl⟩
  obtain ⟨f6, hf6⟩ : ∃ b, b = f 6 := ⟨_, rfl⟩
  obtain ⟨f7, hf7⟩ : ∃ b, b = f 7 := ⟨_, rfl⟩
  rw [← hf0, ← hf1, ← hf2, ← hf3, ← hf4, ← hf5, ← hf6, ← hf7] at HCK ⊢
  clear hsf hck hf hf0 hf1 hf2 hf3 hf4 hf5 hf6 hf7
  go_enter Try.func15, Try.ntmps15
  go_wp2_with fail
  refine (HCK.out _).mono ?_
  rintro e w1 ⟨rfl, hb1⟩
  have y1 := (hb1.block (w.heap.size + 1) (by simp)).trans (heapNew1 w _ (.cells #[.slice none 0 0, .int .i64 0, .int .i64 0, .bool false, .bool false, .bool false, .bool false, .bool false, .bool false, .bool false, .bool false] 28))
  have b1 := (((Below.refl w.heap.size w).alloc (Nat.le_refl _) _).alloc (by simp) _).trans (hb1.mono (by simp; omega))
  have c1 := cellAt ((hb1.block w.heap.size (by simp; omega)).trans (heapNew0 w (.cells #[.slice (some a) 32 c, .int .i64 s, .int .i64 t, .bool f0, .bool f1, .bool f2, .bool f3, .bool f4, .bool f5, .bool f6, .bool f7] 28) _)) 1 rfl
  have Y1 := Lib.hid y1
  have B1 := Lib.hid b1
  clear hb1 y1 b1
  go_wp2_with (refine wpList_store_mid rfl 28 (.tmp 4) (.tmp 28) rfl (w.heap.size + 1) 0 #[.slice none 0 0, .int .i64 0, .int .i64 0, .bool false, .bool false, .bool false, .bool false, .bool false, .bool false, .bool false, .bool false] rfl rfl (there_of Y1.out rfl) chanSz (chanOne' _ _ _ _ _ _ _ _ _ _ _ rfl) ?_)
  have hst := storedRow (vs := [.slice none 0 0, .int .i64 0, .int .i64 0, .bool false, .bool false, .bool false, .bool false, .bool false, .bool false, .bool false, .bool false]) Y1.out rfl
  have hl := run_loadVar_mid (P := Try.prog) _ (w.heap.size + 1) 0 28 _ _ (range_of hst) Try.underlying28 rfl chanSz
  exact bodyPost_ret (v := .tuple #[.agg #[.slice none 0 0, .int .i64 0, .int .i64 0, .bool false, .bool false, .bool false, .bool false, .bool false, .bool false, .bool false, .bool false], .slice none 0 0, .int .i64 8]) (results_ctt Try.results15 rfl hl) rfl ⟨rfl, below_setCells (by omega) _ _ _ B1.out⟩
end Go.Proofs.Ytoekopdogfnkhaa
