/-
  lines.numbers and lines.Check at an act of no kind.
-/
import Derived.Test.YtcbmmkhbfookjaaDoorLnS
set_option linter.unusedVariables false
set_option linter.unusedSimpArgs false
namespace Go.Proofs.YtcbmmkhbfookjaaDoor
open Go.RowKit Go.Con
set_option maxRecDepth 100000 in
set_option maxHeartbeats 1000000 in
theorem slots_none (b : Nat) (w : World) (hb : w.cell? ⟨b, 0, none⟩ = some (.int .i64 0)) :
    Calls Tryd.prog 19 #[.pointer (some ⟨b, 0, none⟩)] w fun e w' => e = .returned (.tuple #[.slice none 0 0, .bool false]) ∧ Below w.heap.size w w' := by
  go_enter Tryd.func19, Tryd.ntmps19
  go_wp2_with fail
  go_region_held3 (fun w' => w'.cell? ⟨b, 0, none⟩ = some (.int .i64 0)) (go_keep) (fail)
  all_goals go_wp2_with fail
  all_goals
    go_ret2
    exact ⟨rfl, (((Below.refl _ _).alloc (Nat.le_refl _) _).alloc (by simp) _).drew⟩
set_option maxRecDepth 100000 in
set_option maxHeartbeats 1000000 in
theorem Check_none (n a p : Int) (dv : Value) (d : List UInt8) (w : World) (hd : Rd w dv d) :
    Calls Tryd.prog 12 #[.agg #[.int .i64 0, .int .i64 n, .int .i64 a, .int .i64 p, dv]] w fun e w' => e = .returned (.int .i64 4) ∧ Below w.heap.size w w' := by
  obtain ⟨da, dc, rfl, hdc, hdm⟩ := hd.slice
  clear hd
  go_enter Tryd.func12, Tryd.ntmps12
  go_upto_region 1 with fail
  generalize hW : World.alloc _ _ = w1
  have A1 := Lib.hid (show w1.heap[w.heap.size]? = some (.cells #[.int .i64 0, .int .i64 n, .int .i64 a, .int .i64 p, .slice da d.length dc] 32 (0, 0)) by rw [← hW]; exact heapNew _ _)
  have B1 := Lib.hid (show Below w.heap.size w w1 by rw [← hW]; exact (Below.refl _ _).alloc (Nat.le_refl _) _)
  clear hW
  go_wp2_with (go_at_call 19; refine (slots_none w.heap.size _ (cellAt A1.out 0 rfl)).mono ?_; rintro e w2 ⟨rfl, h1⟩; have B2 := Lib.hid (B1.out.trans (h1.mono B1.out.size)); clear h1)
  go_ret
  exact ⟨rfl, B2.out⟩
theorem slots_all (b : Nat) (k n a p : Int) (dv : Value) (w : World) (hb : w.heap[b]? = some (.cells #[.int .i64 k, .int .i64 n, .int .i64 a, .int .i64 p, dv] 32 (0, 0))) (hk : 0 ≤ k) (hk9 : k ≤ 9) :
    Calls Tryd.prog 19 #[.pointer (some ⟨b, 0, none⟩)] w fun e w' => ∃ sa sc fl, e = .returned (.tuple #[.slice sa (slotsOf k).length sc, .bool fl]) ∧ SlotsAt w' (.slice sa (slotsOf k).length sc) b w.heap.size (slotsOf k) ∧ Below w.heap.size w w' := by
  by_cases h0 : k = 0
  · subst h0
    refine (slots_none b w (cellAt hb 0 rfl)).mono ?_
    rintro e w' ⟨rfl, h1⟩
    exact ⟨none, 0, false, rfl, .inl ⟨rfl, rfl⟩, h1⟩
  · refine (slots_any b k n a p dv w hb (by omega) hk9).mono ?_
    rintro e w' ⟨v, rfl, h1, h2⟩
    obtain ⟨sa, sc, hsv⟩ : ∃ sa sc, v = .slice sa (slotsOf k).length sc := by
      rcases id h1 with ⟨e1, e2⟩ | ⟨s, e2, -⟩
      · exact ⟨none, 0, by rw [e1, e2]; rfl⟩
      · exact ⟨_, _, e2⟩
    subst hsv
    exact ⟨sa, sc, true, rfl, h1, h2⟩
end Go.Proofs.YtcbmmkhbfookjaaDoor
