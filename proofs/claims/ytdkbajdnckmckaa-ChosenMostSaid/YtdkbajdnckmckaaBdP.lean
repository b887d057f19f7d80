/-
  The walks of paxos.Promise and paxos.Accept of what may not be.
-/
import Derived.Test.YtdkbajdnckmckaaVod
import Derived.Deep.CutRange
set_option linter.unusedVariables false
set_option linter.unusedSimpArgs false
namespace Go.Proofs.Ytdkbajdnckmckaa
open Go.RowKit Go.Con
set_option maxRecDepth 100000 in
set_option maxHeartbeats 2000000 in
theorem Promise_bad (pr pn br bn : Int) (v : Value) (l : List Vot) (w : World) (hv : Votes w v l) (hok : okA (pr, pn) l = true) (hb : okB (br, bn) = false) (hl : l.length ≤ 1000) :
    Calls Try.prog 14 #[.agg #[.int .i64 pr, .int .i64 pn, v], .agg #[.int .i64 br, .int .i64 bn]] w fun e w' => e = .returned (.tuple #[.agg #[.int .i64 0, .int .i64 0, .slice none 0 0], .slice none 0 0, .int .i64 2]) ∧ Below w.heap.size w w' := by
  obtain ⟨ea, ec, rfl, hle, hcm, -⟩ := id hv.1
  obtain ⟨n, hn⟩ : ∃ n, n = l.length := ⟨_, rfl⟩
  rw [← hn] at hv hle hl ⊢
  have HV := Lib.hid hv
  have HOK := Lib.hid (show (if okA (pr, pn) l then (0 : Int) else 5) = 0 by rw [hok]; rfl)
  have HB := Lib.hid hb
  clear hv hn hok hb
  go_enter Try.func14, Try.ntmps14
  go_upto_region 1 with fail
  generalize hW : World.alloc _ _ = w0
  have G := Lib.hid (alloc3Q hW)
  have a0 := cellAt G.out.1 0 rfl
  have a1 := cellAt G.out.1 1 rfl
  have a2 := cellAt G.out.1 2 rfl
  clear hW
  go_upto_region 4 with (go_at_call 12; refine (accCheck_to _ _ _ _ l _ ((HV.out.stay G.out.2.2.2.1).1) HOK).mono ?_; rintro e w1 ⟨rfl, hb1⟩; have B1 := Lib.hid hb1; clear hb1)
  clear a0 a1 a2
  have g3 := (B1.out.block _ (lt_of_heap G.out.2.1)).trans G.out.2.1
  have b0 := cellAt g3 0 rfl
  have b1 := cellAt g3 1 rfl
  clear g3
  go_wp2_with (go_at_call 22; refine (ballot_to _ _ _ _ HB).mono ?_; rintro e w3 ⟨rfl, hb2⟩; have B3 := Lib.hid (G.out.2.2.2.1.trans ((B1.out.trans (hb2.mono B1.out.size)).mono G.out.2.2.2.1.size)); have g4 := ((B1.out.trans (hb2.mono B1.out.size)).block _ (lt_of_heap G.out.2.2.1)).trans G.out.2.2.1; have Z4 := Lib.hid g4; have z0 := cellAt g4 0 rfl; have z1 := cellAt g4 1 rfl; have z2 := cellAt g4 2 rfl; have zf := freeAt g4; clear hb2 g4)
  generalize hW : World.setCell _ _ _ = w5
  have z5 : w5.heap[w.heap.size + 1 + 1]? = some (.cells #[.int .i64 0, .int .i64 0, .slice none 0 0] 39 (0, 0)) := by
    rw [← hW]; exact heapSet (heapSet (heapSet Z4.out _) _) _
  have hle2 : w.heap.size ≤ w.heap.size + 1 + 1 := by omega
  have b5 : Below w.heap.size w w5 := by rw [← hW]; exact ((B3.out.setCell hle2 _).setCell hle2 _).setCell hle2 _
  clear hW z0 z1 z2 zf
  have e0 : w5.cell? ⟨w.heap.size + 1 + 1, 0, none⟩ = some (.int .i64 0) := cellAt z5 0 rfl
  have e1 : w5.cell? ⟨w.heap.size + 1 + 1, 1, none⟩ = some (.int .i64 0) := cellAt z5 1 rfl
  have e2 : w5.cell? ⟨w.heap.size + 1 + 1, 2, none⟩ = some (.slice none 0 0) := cellAt z5 2 rfl
  refine bodyPost_ret (v := .tuple #[.agg #[.int .i64 0, .int .i64 0, .slice none 0 0], .slice none 0 0, .int .i64 2]) ?_ rfl ⟨rfl, b5⟩
  simp [results, Try.results14, go_sem, e0, e1, e2]
set_option maxRecDepth 100000 in
set_option maxHeartbeats 2000000 in
theorem Accept_bad (pr pn y0 y1 y2 y3 y4 y5 y6 y7 : Int) (v : Value) (l : List Vot) (w : World) (hv : Votes w v l) (hok : okA (pr, pn) l = true) (hb : okV ⟨y0, (y1, y2), ⟨y3, y4, y5, y6, y7⟩⟩ = false) (hl : l.length ≤ 1000) :
    Calls Try.prog 15 #[.agg #[.int .i64 pr, .int .i64 pn, v], .agg #[.int .i64 y0, .int .i64 y1, .int .i64 y2, .int .i64 y3, .int .i64 y4, .int .i64 y5, .int .i64 y6, .int .i64 y7]] w fun e w' => e = .returned (.tuple #[.agg #[.int .i64 0, .int .i64 0, .slice none 0 0], .int .i64 2]) ∧ Below w.heap.size w w' := by
  obtain ⟨ea, ec, rfl, hle, hcm, -⟩ := id hv.1
  obtain ⟨n, hn⟩ : ∃ n, n = l.length := ⟨_, rfl⟩
  rw [← hn] at hv hle hl ⊢
  have HV := Lib.hid hv
  have HOK := Lib.hid (show (if okA (pr, pn) l then (0 : Int) else 5) = 0 by rw [hok]; rfl)
  have HB := Lib.hid hb
  clear hv hn hok hb
  go_enter Try.func15, Try.ntmps15
  go_upto_region 1 with fail
  generalize hW : World.alloc _ _ = w0
  have G := Lib.hid (alloc3Q hW)
  have a0 := cellAt G.out.1 0 rfl
  have a1 := cellAt G.out.1 1 rfl
  have a2 := cellAt G.out.1 2 rfl
  clear hW
  go_upto_region 4 with (go_at_call 12; refine (accCheck_to _ _ _ _ l _ ((HV.out.stay G.out.2.2.2.1).1) HOK).mono ?_; rintro e w1 ⟨rfl, hb1⟩; have B1 := Lib.hid hb1; clear hb1)
  clear a0 a1 a2
  have g3 := (B1.out.block _ (lt_of_heap G.out.2.1)).trans G.out.2.1
  have b0 := cellAt g3 0 rfl
  have b1 := cellAt g3 1 rfl
  have b2 := cellAt g3 2 rfl
  have b3 := cellAt g3 3 rfl
  have b4 := cellAt g3 4 rfl
  have b5 := cellAt g3 5 rfl
  have b6 := cellAt g3 6 rfl
  have b7 := cellAt g3 7 rfl
  clear g3
  go_wp2_with (go_at_call 20; refine (vote_to _ _ _ _ _ _ _ _ _ _ HB).mono ?_; rintro e w3 ⟨rfl, hb2⟩; have B3 := Lib.hid (G.out.2.2.2.1.trans ((B1.out.trans (hb2.mono B1.out.size)).mono G.out.2.2.2.1.size)); have g4 := ((B1.out.trans (hb2.mono B1.out.size)).block _ (lt_of_heap G.out.2.2.1)).trans G.out.2.2.1; have Z4 := Lib.hid g4; have z0 := cellAt g4 0 rfl; have z1 := cellAt g4 1 rfl; have z2 := cellAt g4 2 rfl; have zf := freeAt g4; clear hb2 g4)
  generalize hW : World.setCell _ _ _ = w5
  have z5 : w5.heap[w.heap.size + 1 + 1]? = some (.cells #[.int .i64 0, .int .i64 0, .slice none 0 0] 39 (0, 0)) := by
    rw [← hW]; exact heapSet (heapSet (heapSet Z4.out _) _) _
  have hle2 : w.heap.size ≤ w.heap.size + 1 + 1 := by omega
  have b5 : Below w.heap.size w w5 := by rw [← hW]; exact ((B3.out.setCell hle2 _).setCell hle2 _).setCell hle2 _
  clear hW z0 z1 z2 zf
  have e0 : w5.cell? ⟨w.heap.size + 1 + 1, 0, none⟩ = some (.int .i64 0) := cellAt z5 0 rfl
  have e1 : w5.cell? ⟨w.heap.size + 1 + 1, 1, none⟩ = some (.int .i64 0) := cellAt z5 1 rfl
  have e2 : w5.cell? ⟨w.heap.size + 1 + 1, 2, none⟩ = some (.slice none 0 0) := cellAt z5 2 rfl
  refine bodyPost_ret (v := .tuple #[.agg #[.int .i64 0, .int .i64 0, .slice none 0 0], .int .i64 2]) ?_ rfl ⟨rfl, b5⟩
  simp [results, Try.results15, go_sem, e0, e1, e2]
end Go.Proofs.Ytdkbajdnckmckaa
