/-
  Texts put together: BdP, StS, StX, OrdD, ApP.
-/
import Derived.Test.YtdkbajdnckmckaaDoorMg8
import Derived.Deep.CutRange
import Derived.Test.YtdkbajdnckmckaaDoorMg3
set_option linter.unusedVariables false
set_option linter.unusedSimpArgs false
namespace Go.Proofs.YtdkbajdnckmckaaDoor
open Go.RowKit Go.Con
set_option maxRecDepth 100000 in
set_option maxHeartbeats 2000000 in
theorem Promise_bad (pr pn br bn : Int) (v : Value) (l : List Vot) (w : World) (hv : Votes w v l) (hok : okA (pr, pn) l = true) (hb : okB (br, bn) = false) (hl : l.length ≤ 1000) :
    Calls Tryd.prog 16 #[.agg #[.int .i64 pr, .int .i64 pn, v], .agg #[.int .i64 br, .int .i64 bn]] w fun e w' => e = .returned (.tuple #[.agg #[.int .i64 0, .int .i64 0, .slice none 0 0], .slice none 0 0, .int .i64 2]) ∧ Below w.heap.size w w' := by
  obtain ⟨ea, ec, rfl, hle, hcm, -⟩ := id hv.1
  obtain ⟨n, hn⟩ : ∃ n, n = l.length := ⟨_, rfl⟩
  rw [← hn] at hv hle hl ⊢
  have HV := Lib.hid hv
  have HOK := Lib.hid (show (if okA (pr, pn) l then (0 : Int) else 5) = 0 by rw [hok]; rfl)
  have HB := Lib.hid hb
  clear hv hn hok hb
  go_enter Tryd.func16, Tryd.ntmps16
  go_upto_region 1 with fail
  generalize hW : World.alloc _ _ = w0
  have G := Lib.hid (alloc3Q hW)
  have a0 := cellAt G.out.1 0 rfl
  have a1 := cellAt G.out.1 1 rfl
  have a2 := cellAt G.out.1 2 rfl
  clear hW
  go_upto_region 4 with (go_at_call 29; refine (accCheck_to _ _ _ _ l _ ((HV.out.stay G.out.2.2.2.1).1) HOK).mono ?_; rintro e w1 ⟨rfl, hb1⟩; have B1 := Lib.hid hb1; clear hb1)
  clear a0 a1 a2
  have g3 := (B1.out.block _ (lt_of_heap G.out.2.1)).trans G.out.2.1
  have b0 := cellAt g3 0 rfl
  have b1 := cellAt g3 1 rfl
  clear g3
  go_wp2_with (go_at_call 30; refine (ballot_to _ _ _ _ HB).mono ?_; rintro e w3 ⟨rfl, hb2⟩; have B3 := Lib.hid (G.out.2.2.2.1.trans ((B1.out.trans (hb2.mono B1.out.size)).mono G.out.2.2.2.1.size)); have g4 := ((B1.out.trans (hb2.mono B1.out.size)).block _ (lt_of_heap G.out.2.2.1)).trans G.out.2.2.1; have Z4 := Lib.hid g4; have z0 := cellAt g4 0 rfl; have z1 := cellAt g4 1 rfl; have z2 := cellAt g4 2 rfl; have zf := freeAt g4; clear hb2 g4)
  generalize hW : World.setCell _ _ _ = w5
  have z5 : w5.heap[w.heap.size + 1 + 1]? = some (.cells #[.int .i64 0, .int .i64 0, .slice none 0 0] 45 (0, 0)) := by
    rw [← hW]; exact heapSet (heapSet (heapSet Z4.out _) _) _
  have hle2 : w.heap.size ≤ w.heap.size + 1 + 1 := by omega
  have b5 : Below w.heap.size w w5 := by rw [← hW]; exact ((B3.out.setCell hle2 _).setCell hle2 _).setCell hle2 _
  clear hW z0 z1 z2 zf
  have e0 : w5.cell? ⟨w.heap.size + 1 + 1, 0, none⟩ = some (.int .i64 0) := cellAt z5 0 rfl
  have e1 : w5.cell? ⟨w.heap.size + 1 + 1, 1, none⟩ = some (.int .i64 0) := cellAt z5 1 rfl
  have e2 : w5.cell? ⟨w.heap.size + 1 + 1, 2, none⟩ = some (.slice none 0 0) := cellAt z5 2 rfl
  refine bodyPost_ret (v := .tuple #[.agg #[.int .i64 0, .int .i64 0, .slice none 0 0], .slice none 0 0, .int .i64 2]) ?_ rfl ⟨rfl, b5⟩
  simp [results, Tryd.results16, go_sem, e0, e1, e2]
set_option maxRecDepth 100000 in
set_option maxHeartbeats 2000000 in
theorem Accept_bad (pr pn y0 y1 y2 y3 y4 y5 y6 y7 : Int) (v : Value) (l : List Vot) (w : World) (hv : Votes w v l) (hok : okA (pr, pn) l = true) (hb : okV ⟨y0, (y1, y2), ⟨y3, y4, y5, y6, y7⟩⟩ = false) (hl : l.length ≤ 1000) :
    Calls Tryd.prog 23 #[.agg #[.int .i64 pr, .int .i64 pn, v], .agg #[.int .i64 y0, .int .i64 y1, .int .i64 y2, .int .i64 y3, .int .i64 y4, .int .i64 y5, .int .i64 y6, .int .i64 y7]] w fun e w' => e = .returned (.tuple #[.agg #[.int .i64 0, .int .i64 0, .slice none 0 0], .int .i64 2]) ∧ Below w.heap.size w w' := by
  obtain ⟨ea, ec, rfl, hle, hcm, -⟩ := id hv.1
  obtain ⟨n, hn⟩ : ∃ n, n = l.length := ⟨_, rfl⟩
  rw [← hn] at hv hle hl ⊢
  have HV := Lib.hid hv
  have HOK := Lib.hid (show (if okA (pr, pn) l then (0 : Int) else 5) = 0 by rw [hok]; rfl)
  have HB := Lib.hid hb
  clear hv hn hok hb
  go_enter Tryd.func23, Tryd.ntmps23
  go_upto_region 1 with fail
  generalize hW : World.alloc _ _ = w0
  have G := Lib.hid (alloc3Q hW)
  have a0 := cellAt G.out.1 0 rfl
  have a1 := cellAt G.out.1 1 rfl
  have a2 := cellAt G.out.1 2 rfl
  clear hW
  go_upto_region 4 with (go_at_call 29; refine (accCheck_to _ _ _ _ l _ ((HV.out.stay G.out.2.2.2.1).1) HOK).mono ?_; rintro e w1 ⟨rfl, hb1⟩; have B1 := Lib.hid hb1; clear hb1)
  clear a0 a1 a2
  have g3 := (B1.out.block _ (lt_of_heap G.out.2.1)).trans G.out.2.1
  have b0 := cellAt g3 0 rfl
  have b1 := cellAt g3 1 rfl
  have b2 := cellAt g3 2 rfl
  have b3 := cellAt g3 3 rfl
  have b4 := cellAt g3 4 rfl
  have b5 := cellAt g3 5 rfl
  have b6 := cellAt g3 6 rfl
  have b7 := cellAt g3 7 rfl
  clear g3
  go_wp2_with (go_at_call 34; refine (vote_to _ _ _ _ _ _ _ _ _ _ HB).mono ?_; rintro e w3 ⟨rfl, hb2⟩; have B3 := Lib.hid (G.out.2.2.2.1.trans ((B1.out.trans (hb2.mono B1.out.size)).mono G.out.2.2.2.1.size)); have g4 := ((B1.out.trans (hb2.mono B1.out.size)).block _ (lt_of_heap G.out.2.2.1)).trans G.out.2.2.1; have Z4 := Lib.hid g4; have z0 := cellAt g4 0 rfl; have z1 := cellAt g4 1 rfl; have z2 := cellAt g4 2 rfl; have zf := freeAt g4; clear hb2 g4)
  generalize hW : World.setCell _ _ _ = w5
  have z5 : w5.heap[w.heap.size + 1 + 1]? = some (.cells #[.int .i64 0, .int .i64 0, .slice none 0 0] 45 (0, 0)) := by
    rw [← hW]; exact heapSet (heapSet (heapSet Z4.out _) _) _
  have hle2 : w.heap.size ≤ w.heap.size + 1 + 1 := by omega
  have b5 : Below w.heap.size w w5 := by rw [← hW]; exact ((B3.out.setCell hle2 _).setCell hle2 _).setCell hle2 _
  clear hW z0 z1 z2 zf
  have e0 : w5.cell? ⟨w.heap.size + 1 + 1, 0, none⟩ = some (.int .i64 0) := cellAt z5 0 rfl
  have e1 : w5.cell? ⟨w.heap.size + 1 + 1, 1, none⟩ = some (.int .i64 0) := cellAt z5 1 rfl
  have e2 : w5.cell? ⟨w.heap.size + 1 + 1, 2, none⟩ = some (.slice none 0 0) := cellAt z5 2 rfl
  refine bodyPost_ret (v := .tuple #[.agg #[.int .i64 0, .int .i64 0, .slice none 0 0], .int .i64 2]) ?_ rfl ⟨rfl, b5⟩
  simp [results, Tryd.results23, go_sem, e0, e1, e2]
end Go.Proofs.YtdkbajdnckmckaaDoor

set_option linter.unusedVariables false
set_option linter.unusedSimpArgs false
namespace Go.Proofs.YtdkbajdnckmckaaDoor
open Go.RowKit Go.Con
theorem alloc2T {w w0 : World} {A B : Obj} (h : (w.alloc A).alloc B = w0) : w0.heap[w.heap.size]? = some A ∧ w0.heap[w.heap.size + 1]? = some B ∧ Below w.heap.size w w0 ∧ w0.heap.size = w.heap.size + 1 + 1 := by
  subst h
  exact ⟨heapNew0 w A B, heapNew1 w A B, ((Below.refl _ _).alloc (Nat.le_refl _) _).alloc (by simp) _, by simp⟩
set_option maxRecDepth 100000 in
set_option maxHeartbeats 2000000 in
theorem sSync_ok (v : Value) (l : List UInt8) (s : Int) (w : World) (hv : Rd w v l) (h0 : 0 ≤ s) (h1 : s ≤ l.length) (h2 : l.length ≤ 100000) :
    Calls Tryd.prog 11 #[.agg #[v, .int .i64 s]] w (TapePost w l (l.length : Nat) 0) := by
  obtain ⟨a, c, rfl, hc, hcm⟩ := id hv.slice
  obtain ⟨n, hn⟩ : ∃ n, n = l.length := ⟨_, rfl⟩
  have HOPEN := Lib.hid (fun w h => open_ok (.slice a l.length c) l s w h h0 h1 h2)
  rw [← hn] at hv h1 h2 hc HOPEN ⊢
  have HV := Lib.hid hv
  have HN := Lib.hid hn
  clear hv hn hc hcm
  go_enter Tryd.func11, Tryd.ntmps11
  go_upto_region 1 with fail
  generalize hW : World.alloc _ _ = w1
  obtain ⟨X, Y, B0, hz1⟩ := alloc2T hW
  have HB0 := Lib.hid B0
  have c0 := cellAt X 0 rfl
  have c1 := cellAt X 1 rfl
  have HV1 := Lib.hid (HV.out.below B0 HV.out.lt)
  have HZ := Lib.hid hz1
  have HY := Lib.hid Y
  clear hW hz1 X Y B0
  go_upto_region 2 with (go_at_call 20; refine (HOPEN.out _ HV1.out).mono ?_; rintro e w2 ⟨v2, rfl, ho2, hb2⟩; obtain ⟨sa, sc, rfl, _, _⟩ := ho2.rd.sliceN n HN.out.symm; have B2 := Lib.hid hb2; have O2 := Lib.hid ho2; clear ho2 hb2)
  have hb3 : Below w1.heap.size w1 (w2.alloc (.cells #[.slice sa n sc, .int .i64 s] 27)) := B2.out.alloc B2.out.size _
  have x3 : (w2.alloc (.cells #[.slice sa n sc, .int .i64 s] 27)).heap[w2.heap.size]? = some (.cells #[.slice sa n sc, .int .i64 s] 27) := heapNew _ _
  have o3 : Own (w2.alloc (.cells #[.slice sa n sc, .int .i64 s] 27)) w1.heap.size (.slice sa n sc) l := O2.out.alloc _
  have hlt : ∀ k, (Value.slice sa n sc).ownBlock = some k → k < w2.heap.size := fun k hk => (O2.out.lt k hk).2
  have hg1 : w1.heap.size ≤ w2.heap.size := B2.out.size
  obtain ⟨q, hq⟩ : ∃ b, b = w2.heap.size := ⟨_, rfl⟩
  rw [← hq] at x3 hlt hg1 ⊢
  generalize hW : w2.alloc _ = w3 at hb3 x3 o3 ⊢
  have y3 := (hb3.block _ (lt_of_heap HY.out)).trans HY.out
  have HX := Lib.hid x3
  have HY3 := Lib.hid y3
  have B3 := Lib.hid hb3
  have O3 := Lib.hid o3
  have HLT := Lib.hid hlt
  have e0 := cellAt x3 0 rfl
  have e1 := cellAt x3 1 rfl
  have ef := freeAt x3
  have hqn : ¬ (w.heap.size + 1 = q) := by have := HZ.out; omega
  have hqn' : ¬ (q = w.heap.size + 1) := by omega
  clear hW hb3 x3 y3 o3 hlt c0 c1 B2 hq
  go_upto_region 5 with fail
  have x4 := heapSet (o := 1) HX.out (.int .i64 (n : Int))
  have y4 := (heapSet_ne (w := w3) 1 (.int .i64 (n : Int)) hqn).trans HY3.out
  have b4 : Below w1.heap.size w1 (w3.setCell ⟨q, 1, none⟩ (.int .i64 (n : Int))) := B3.out.setCell (by show w1.heap.size ≤ q; omega) _
  have o4 := O3.out.ofHeapK (w' := w3.setCell ⟨q, 1, none⟩ (.int .i64 (n : Int))) (fun k hk => heapSet_ne 1 _ (by have := HLT.out k hk; omega))
  generalize hW : World.setCell _ _ _ = w4 at x4 y4 b4 o4 ⊢
  have f0 := cellAt x4 0 rfl
  have f1 := cellAt x4 1 rfl
  have g0 := cellAt y4 0 rfl
  have g1 := cellAt y4 1 rfl
  have gf := freeAt y4
  have HY4 := Lib.hid y4
  have B4 := Lib.hid b4
  have O4 := Lib.hid o4
  clear hW x4 y4 b4 o4 e0 e1 ef
  go_wp2_with fail
  have z5 := heapSet (o := 1) (heapSet (o := 0) HY4.out (.slice sa n sc)) (.int .i64 (n : Int))
  have b5 : Below w.heap.size w ((w4.setCell ⟨w.heap.size + 1, 0, none⟩ (.slice sa n sc)).setCell ⟨w.heap.size + 1, 1, none⟩ (.int .i64 (n : Int))) := ((HB0.out.trans (B4.out.mono HB0.out.size)).setCell (by show w.heap.size ≤ w.heap.size + 1; omega) _).setCell (by show w.heap.size ≤ w.heap.size + 1; omega) _
  have o5 := (O4.out.mono (base' := w.heap.size) HB0.out.size).ofHeapK (w' := (w4.setCell ⟨w.heap.size + 1, 0, none⟩ (.slice sa n sc)).setCell ⟨w.heap.size + 1, 1, none⟩ (.int .i64 (n : Int))) (fun k hk => by
    have h4 := (O4.out.lt k hk).1
    have := HZ.out
    exact (heapSet_ne 1 _ (by omega)).trans (heapSet_ne 0 _ (by omega)))
  generalize hW : World.setCell _ _ _ = wZ at z5 b5 o5 ⊢
  have hl := run_loadVar_mid (P := Tryd.prog) wZ (w.heap.size + 1) 0 27 [.slice sa n sc, .int .i64 n] _ (range_of z5) Tryd.underlying27 rfl tapeSz
  exact bodyPost_ret (v := .tuple #[.agg #[.slice sa n sc, .int .i64 n], .int .i64 0]) (results_ct Tryd.results11 rfl hl) rfl ⟨_, rfl, o5, b5⟩
/-- a tape that is shown -/
def TapeR (w : World) (l : List UInt8) (s c : Int) (e : Ending) (w' : World) : Prop :=
  ∃ v', e = .returned (.tuple #[.agg #[v', .int .i64 s], .int .i64 c]) ∧ Rd w' v' l ∧ Below w.heap.size w w'
theorem TapePost.rd {w : World} {l : List UInt8} {s c : Int} {e : Ending} {w' : World} (h : TapePost w l s c e w') : TapeR w l s c e w' := by
  obtain ⟨v, h1, h2, h3⟩ := h; exact ⟨v, h1, h2.rd, h3⟩
theorem Rd.ofHeapS {w w' : World} {v : Value} {l : List UInt8} (h : Rd w v l) (hh : ∀ k, v.ownBlock = some k → l ≠ [] → w'.heap[k]? = w.heap[k]?) : Rd w' v l := by
  obtain ⟨a, c, rfl, h1, h2, h3, h4⟩ := h
  refine ⟨a, c, rfl, h1, h2, h3, fun hne => ?_⟩
  obtain ⟨b, off, rfl, h5⟩ := h4 hne
  exact ⟨b, off, rfl, fun i hi => (World.cell?_of_block (w := w) (hh b rfl hne)).trans (h5 i hi)⟩
theorem Rd.capN {w : World} {a : Option Addr} {k c : Nat} {l : List UInt8} (h : Rd w (.slice a k c) l) (n : Nat) (hn : l.length = n) : n ≤ c ∧ c ≤ maxLen := by
  subst hn
  obtain ⟨_, _, e, h1, h2, _⟩ := h
  injection e with e1 e2 e3
  subst e3
  exact ⟨h1, h2⟩
theorem Rd.pre3 {w : World} {a : Option Addr} {n c : Nat} {l : List UInt8} (h : Rd w (.slice a n c) l) (m : Nat) (hm : m ≤ l.length) : Rd w (.slice a m m) (l.take m) := by
  have h2 := h.pre m hm
  have hl : (l.take m).length = m := by simp; omega
  obtain ⟨a', c', e, h3, h4, h5, h6⟩ := h2
  rw [hl] at e h3
  injection e with e1 e2 e3
  subst e1 e3
  exact ⟨_, _, by rw [hl], Nat.le_of_eq hl, by omega, fun h => by have := h5 h; omega, h6⟩
set_option maxRecDepth 100000 in
set_option maxHeartbeats 2000000 in
theorem sCrash_ok (v : Value) (l : List UInt8) (s k : Int) (m : Nat) (w : World) (hv : Rd w v l) (h0 : 0 ≤ s) (h1 : s ≤ l.length) (h2 : l.length ≤ 100000) (hk0 : 0 ≤ k) (hk1 : k ≤ 1000000000) (hm : (m : Int) = s + min k ((l.length : Int) - s)) :
    Calls Tryd.prog 17 #[.agg #[v, .int .i64 s], .int .i64 k] w (TapeR w (l.take m) m 0) := by
  obtain ⟨a, c, rfl, hc, hcm⟩ := id hv.slice
  obtain ⟨n, hn⟩ : ∃ n, n = l.length := ⟨_, rfl⟩
  have HOPEN := Lib.hid (fun w h => open_ok (.slice a l.length c) l s w h h0 h1 h2)
  rw [← hn] at hv h1 h2 hc hm HOPEN ⊢
  have hmn : m ≤ n := by omega
  have HV := Lib.hid hv
  have HN := Lib.hid hn
  have HM := Lib.hid hm
  have dk : decide (k < 0) = false := by rw [decide_eq_false_iff_not]; omega
  have HK1 := Lib.hid hk1
  clear hv hn hc hcm hm hk1
  go_enter Tryd.func17, Tryd.ntmps17
  go_upto_region 1 with fail
  generalize hW : World.alloc _ _ = w1
  obtain ⟨X, Y, B0, hz1⟩ := alloc2T hW
  have HB0 := Lib.hid B0
  have c0 := cellAt X 0 rfl
  have c1 := cellAt X 1 rfl
  have HV1 := Lib.hid (HV.out.below B0 HV.out.lt)
  have HZ := Lib.hid hz1
  have HY := Lib.hid Y
  clear hW hz1 X Y B0
  go_upto_region 2 with (go_at_call 20; refine (HOPEN.out _ HV1.out).mono ?_; rintro e w2 ⟨v2, rfl, ho2, hb2⟩; obtain ⟨sa, sc, rfl, _, _⟩ := ho2.rd.sliceN n HN.out.symm; have B2 := Lib.hid hb2; have O2 := Lib.hid ho2; clear ho2 hb2)
  have hb3 : Below w1.heap.size w1 (w2.alloc (.cells #[.slice sa n sc, .int .i64 s] 27)) := B2.out.alloc B2.out.size _
  have x3 : (w2.alloc (.cells #[.slice sa n sc, .int .i64 s] 27)).heap[w2.heap.size]? = some (.cells #[.slice sa n sc, .int .i64 s] 27) := heapNew _ _
  have o3 : Own (w2.alloc (.cells #[.slice sa n sc, .int .i64 s] 27)) w1.heap.size (.slice sa n sc) l := O2.out.alloc _
  have hg1 : w1.heap.size ≤ w2.heap.size := B2.out.size
  obtain ⟨q, hq⟩ : ∃ b, b = w2.heap.size := ⟨_, rfl⟩
  rw [← hq] at x3 hg1 ⊢
  generalize hW : w2.alloc _ = w3 at hb3 x3 o3 ⊢
  have y3 := (hb3.block _ (lt_of_heap HY.out)).trans HY.out
  have HX := Lib.hid x3
  have HY3 := Lib.hid y3
  have B3 := Lib.hid hb3
  have O3 := Lib.hid o3
  have e0 := cellAt x3 0 rfl
  have e1 := cellAt x3 1 rfl
  have hqn : ¬ (w.heap.size + 1 = q) := by have := HZ.out; omega
  have hqn' : ¬ (q = w.heap.size + 1) := by omega
  have g0 := cellAt y3 0 rfl
  have g1 := cellAt y3 1 rfl
  have gf := freeAt y3
  clear hW hb3 x3 y3 o3 c0 c1 B2 hq
  have hmm : (if k < (n : Int) - s then k else (n : Int) - s) = (m : Int) - s := by have := HM.out; split <;> omega
  have HMM := Lib.hid hmm
  clear hmm
  obtain ⟨hsc, hscm⟩ := O3.out.rd.capN n HN.out.symm
  have hcm' : sc ≤ 9223372036854775807 := hscm
  clear hscm
  have HR := Lib.hid (O3.out.rd.pre3 m (by rw [← HN.out]; exact hmn))
  have HLO := Lib.hid (show ∀ k, (Value.slice sa m m).ownBlock = some k → l.take m ≠ [] → w1.heap.size ≤ k from fun k hk _ => (O3.out.lt k (by cases sa with | none => exact absurd hk (by simp [Value.ownBlock]) | some b => exact hk)).1)
  clear O3
  have hn0 : (n : Int) ≤ 100000 := by omega
  have HR2 := Lib.hid (show ∀ b x y, b = w.heap.size + 1 → Rd ((w3.setCell ⟨b, 0, none⟩ x).setCell ⟨b, 1, none⟩ y) (.slice sa m m) (l.take m) from fun b x y hb => by
    refine (HR.out.ofHeapS (fun k hk hne => ?_))
    have h4 := HLO.out k hk hne
    have := HZ.out
    exact (heapSet_ne 1 _ (by omega)).trans (heapSet_ne 0 _ (by omega)))
  by_cases hlt : (n : Int) - s < k
  · obtain rfl : m = n := by have := HM.out; omega
    have hms : s + ((m : Int) - s) = (m : Int) := by omega
    go_wp2_with fail
    have z5 := heapSet (o := 1) (heapSet (o := 0) HY3.out (.slice sa m m)) (.int .i64 (m : Int))
    have b5 : Below w.heap.size w ((w3.setCell ⟨w.heap.size + 1, 0, none⟩ (.slice sa m m)).setCell ⟨w.heap.size + 1, 1, none⟩ (.int .i64 (m : Int))) := ((HB0.out.trans (B3.out.mono HB0.out.size)).setCell (by show w.heap.size ≤ w.heap.size + 1; omega) _).setCell (by show w.heap.size ≤ w.heap.size + 1; omega) _
    have r5 : Rd ((w3.setCell ⟨w.heap.size + 1, 0, none⟩ (.slice sa m m)).setCell ⟨w.heap.size + 1, 1, none⟩ (.int .i64 (m : Int))) (.slice sa m m) (l.take m) := HR2.out _ _ _ rfl
    generalize hW : World.setCell _ _ _ = wZ at z5 b5 r5 ⊢
    have hl := run_loadVar_mid (P := Tryd.prog) wZ (w.heap.size + 1) 0 27 [.slice sa m m, .int .i64 m] _ (range_of z5) Tryd.underlying27 rfl tapeSz
    exact bodyPost_ret (v := .tuple #[.agg #[.slice sa m m, .int .i64 m], .int .i64 0]) (results_ct Tryd.results17 rfl hl) rfl ⟨_, rfl, r5, b5⟩
  · have hms : s + k = (m : Int) := by have := HM.out; omega
    go_wp2_with fail
    have z5 := heapSet (o := 1) (heapSet (o := 0) HY3.out (.slice sa m m)) (.int .i64 (m : Int))
    have b5 : Below w.heap.size w ((w3.setCell ⟨w.heap.size + 1, 0, none⟩ (.slice sa m m)).setCell ⟨w.heap.size + 1, 1, none⟩ (.int .i64 (m : Int))) := ((HB0.out.trans (B3.out.mono HB0.out.size)).setCell (by show w.heap.size ≤ w.heap.size + 1; omega) _).setCell (by show w.heap.size ≤ w.heap.size + 1; omega) _
    have r5 : Rd ((w3.setCell ⟨w.heap.size + 1, 0, none⟩ (.slice sa m m)).setCell ⟨w.heap.size + 1, 1, none⟩ (.int .i64 (m : Int))) (.slice sa m m) (l.take m) := HR2.out _ _ _ rfl
    generalize hW : World.setCell _ _ _ = wZ at z5 b5 r5 ⊢
    have hl := run_loadVar_mid (P := Tryd.prog) wZ (w.heap.size + 1) 0 27 [.slice sa m m, .int .i64 m] _ (range_of z5) Tryd.underlying27 rfl tapeSz
    exact bodyPost_ret (v := .tuple #[.agg #[.slice sa m m, .int .i64 m], .int .i64 0]) (results_ct Tryd.results17 rfl hl) rfl ⟨_, rfl, r5, b5⟩
end Go.Proofs.YtdkbajdnckmckaaDoor

set_option linter.unusedVariables false
set_option linter.unusedSimpArgs false
namespace Go.Proofs.YtdkbajdnckmckaaDoor
open Go.RowKit Go.Con
set_option maxRecDepth 100000 in
set_option maxHeartbeats 2000000 in
theorem sPromise_bad (v : Value) (l : List UInt8) (s r q : Int) (w : World) (hv : Rd w v l) (h0 : 0 ≤ s) (h1 : s ≤ l.length) (h2 : l.length ≤ 100000) (hq : okB (r, q) = false) :
    Calls Tryd.prog 9 #[.agg #[v, .int .i64 s], .agg #[.int .i64 r, .int .i64 q]] w (TapePost w [] 0 2) := by
  obtain ⟨a, c, rfl, hc, hcm⟩ := id hv.slice
  obtain ⟨n, hn⟩ : ∃ n, n = l.length := ⟨_, rfl⟩
  have HOPEN := Lib.hid (fun w h => open_ok (.slice a l.length c) l s w h h0 h1 h2)
  have HBAD := Lib.hid (fun w => Promise_bad 0 0 r q (.slice none 0 0) [] w (votes_nil w) (by decide) hq (by decide))
  rw [← hn] at hv h1 h2 hc HOPEN ⊢
  have HV := Lib.hid hv
  have HN := Lib.hid hn
  have B0 := Lib.hid ((((Below.refl w.heap.size w).alloc (Nat.le_refl _) (.cells #[.slice a n c, .int .i64 s] 27)).alloc (by simp) (.cells #[.int .i64 r, .int .i64 q] 24)).alloc (by simp; omega) (.cells #[.slice none 0 0, .int .i64 0] 27))
  clear hv hn hc hcm hq
  go_enter Tryd.func9, Tryd.ntmps9
  go_upto_region 1 with fail
  generalize hW : World.alloc _ _ = w1 at B0 ⊢
  obtain ⟨X, Z, Y, _⟩ := alloc3T hW
  have hz1 : w1.heap.size = w.heap.size + 1 + 1 + 1 := by rw [← hW]; simp
  have HZ := Lib.hid hz1
  have c0 := cellAt X 0 rfl
  have c1 := cellAt X 1 rfl
  have HV1 := Lib.hid (HV.out.below B0.out HV.out.lt)
  have HY := Lib.hid Y
  have HZB := Lib.hid Z
  clear hW hz1 X Y Z
  go_upto_region 2 with (go_at_call 20; refine (HOPEN.out _ HV1.out).mono ?_; rintro e w2 ⟨v2, rfl, ho2, hb2⟩; obtain ⟨sa, sc, rfl, _, _⟩ := ho2.rd.sliceN n HN.out.symm; have B2 := Lib.hid hb2; clear ho2 hb2)
  have hb3 : Below w1.heap.size w1 (w2.alloc (.cells #[.slice sa n sc, .int .i64 s] 27)) := B2.out.alloc B2.out.size _
  generalize hW : w2.alloc _ = w3 at hb3 ⊢
  have z3 := (hb3.block _ (lt_of_heap HZB.out)).trans HZB.out
  have e0 := cellAt z3 0 rfl
  have e1 := cellAt z3 1 rfl
  have B3 := Lib.hid hb3
  clear hW hb3 z3 B2 c0 c1
  go_upto_region 5 with (go_at_call 16; refine (HBAD.out _).mono ?_; rintro e w4 ⟨rfl, hb4⟩; have B4 := Lib.hid hb4; clear hb4)
  have hb5 : Below w1.heap.size w1 (w4.alloc (.cells #[.int .i64 0, .int .i64 0, .slice none 0 0] 45)) := (B3.out.trans (B4.out.mono B3.out.size)).alloc (by have := B3.out.size; have := B4.out.size; omega) _
  obtain ⟨x5, hx5⟩ : ∃ b, b = w4.heap.size := ⟨_, rfl⟩
  rw [← hx5]
  generalize hW : w4.alloc _ = w5 at hb5 ⊢
  have B5 := Lib.hid hb5
  have y5 := (hb5.block _ (lt_of_heap HY.out)).trans HY.out
  have cy0 := cellAt y5 0 rfl
  have cy1 := cellAt y5 1 rfl
  have fy := freeAt y5
  have HY5 := Lib.hid y5
  clear hW hb5 hx5 y5 B3 B4 e0 e1
  go_wp2_with fail
  have z4 := heapSet (o := 1) (heapSet (o := 0) HY5.out (.slice none 0 0)) (.int .i64 0)
  have B4 := Lib.hid (show Below w.heap.size w ((w5.setCell ⟨w.heap.size + 1 + 1, 0, none⟩ (.slice none 0 0)).setCell ⟨w.heap.size + 1 + 1, 1, none⟩ (.int .i64 0)) from ((B0.out.trans (B5.out.mono B0.out.size)).setCell (by show w.heap.size ≤ w.heap.size + 1 + 1; omega) _).setCell (by show w.heap.size ≤ w.heap.size + 1 + 1; omega) _)
  generalize hW : World.setCell _ _ _ = wZ at z4 B4 ⊢
  have hl := run_loadVar_mid (P := Tryd.prog) wZ (w.heap.size + 1 + 1) 0 27 [.slice none 0 0, .int .i64 0] _ (range_of z4) Tryd.underlying27 rfl tapeSz
  exact bodyPost_ret (v := .tuple #[.agg #[.slice none 0 0, .int .i64 0], .int .i64 2]) (results_ct Tryd.results9 rfl hl) rfl ⟨_, rfl, Own.nil _ _, B4.out⟩
set_option maxRecDepth 100000 in
set_option maxHeartbeats 2000000 in
theorem sVote_bad (v : Value) (l : List UInt8) (s y0 y1 y2 y3 y4 y5 y6 y7 : Int) (w : World) (hv : Rd w v l) (h0 : 0 ≤ s) (h1 : s ≤ l.length) (h2 : l.length ≤ 100000) (hq : okV ⟨y0, (y1, y2), ⟨y3, y4, y5, y6, y7⟩⟩ = false) :
    Calls Tryd.prog 10 #[.agg #[v, .int .i64 s], .agg #[.int .i64 y0, .int .i64 y1, .int .i64 y2, .int .i64 y3, .int .i64 y4, .int .i64 y5, .int .i64 y6, .int .i64 y7]] w (TapePost w [] 0 2) := by
  obtain ⟨a, c, rfl, hc, hcm⟩ := id hv.slice
  obtain ⟨n, hn⟩ : ∃ n, n = l.length := ⟨_, rfl⟩
  have HOPEN := Lib.hid (fun w h => open_ok (.slice a l.length c) l s w h h0 h1 h2)
  have HBAD := Lib.hid (fun w => Accept_bad 0 0 y0 y1 y2 y3 y4 y5 y6 y7 (.slice none 0 0) [] w (votes_nil w) (by decide) hq (by decide))
  rw [← hn] at hv h1 h2 hc HOPEN ⊢
  have HV := Lib.hid hv
  have HN := Lib.hid hn
  have B0 := Lib.hid ((((Below.refl w.heap.size w).alloc (Nat.le_refl _) (.cells #[.slice a n c, .int .i64 s] 27)).alloc (by simp) (.cells #[.int .i64 y0, .int .i64 y1, .int .i64 y2, .int .i64 y3, .int .i64 y4, .int .i64 y5, .int .i64 y6, .int .i64 y7] 35)).alloc (by simp; omega) (.cells #[.slice none 0 0, .int .i64 0] 27))
  clear hv hn hc hcm hq
  go_enter Tryd.func10, Tryd.ntmps10
  go_upto_region 1 with fail
  generalize hW : World.alloc _ _ = w1 at B0 ⊢
  obtain ⟨X, Z, Y, _⟩ := alloc3T hW
  have hz1 : w1.heap.size = w.heap.size + 1 + 1 + 1 := by rw [← hW]; simp
  have HZ := Lib.hid hz1
  have c0 := cellAt X 0 rfl
  have c1 := cellAt X 1 rfl
  have HV1 := Lib.hid (HV.out.below B0.out HV.out.lt)
  have HY := Lib.hid Y
  have HZB := Lib.hid Z
  clear hW hz1 X Y Z
  go_upto_region 2 with (go_at_call 20; refine (HOPEN.out _ HV1.out).mono ?_; rintro e w2 ⟨v2, rfl, ho2, hb2⟩; obtain ⟨sa, sc, rfl, _, _⟩ := ho2.rd.sliceN n HN.out.symm; have B2 := Lib.hid hb2; clear ho2 hb2)
  have hb3 : Below w1.heap.size w1 (w2.alloc (.cells #[.slice sa n sc, .int .i64 s] 27)) := B2.out.alloc B2.out.size _
  generalize hW : w2.alloc _ = w3 at hb3 ⊢
  have z3 := (hb3.block _ (lt_of_heap HZB.out)).trans HZB.out
  have e0 := cellAt z3 0 rfl
  have e1 := cellAt z3 1 rfl
  have e2 := cellAt z3 2 rfl
  have e3 := cellAt z3 3 rfl
  have e4 := cellAt z3 4 rfl
  have e5 := cellAt z3 5 rfl
  have e6 := cellAt z3 6 rfl
  have e7 := cellAt z3 7 rfl
  have B3 := Lib.hid hb3
  clear hW hb3 z3 B2 c0 c1
  go_upto_region 5 with (go_at_call 23; refine (HBAD.out _).mono ?_; rintro e w4 ⟨rfl, hb4⟩; have B4 := Lib.hid hb4; clear hb4)
  have hb5 : Below w1.heap.size w1 (w4.alloc (.cells #[.int .i64 0, .int .i64 0, .slice none 0 0] 45)) := (B3.out.trans (B4.out.mono B3.out.size)).alloc (by have := B3.out.size; have := B4.out.size; omega) _
  obtain ⟨x5, hx5⟩ : ∃ b, b = w4.heap.size := ⟨_, rfl⟩
  rw [← hx5]
  generalize hW : w4.alloc _ = w5 at hb5 ⊢
  have B5 := Lib.hid hb5
  have y5 := (hb5.block _ (lt_of_heap HY.out)).trans HY.out
  have cy0 := cellAt y5 0 rfl
  have cy1 := cellAt y5 1 rfl
  have fy := freeAt y5
  have HY5 := Lib.hid y5
  clear hW hb5 hx5 y5 B3 B4 e0 e1 e2 e3 e4 e5 e6 e7
  go_wp2_with fail
  have z4 := heapSet (o := 1) (heapSet (o := 0) HY5.out (.slice none 0 0)) (.int .i64 0)
  have B4 := Lib.hid (show Below w.heap.size w ((w5.setCell ⟨w.heap.size + 1 + 1, 0, none⟩ (.slice none 0 0)).setCell ⟨w.heap.size + 1 + 1, 1, none⟩ (.int .i64 0)) from ((B0.out.trans (B5.out.mono B0.out.size)).setCell (by show w.heap.size ≤ w.heap.size + 1 + 1; omega) _).setCell (by show w.heap.size ≤ w.heap.size + 1 + 1; omega) _)
  generalize hW : World.setCell _ _ _ = wZ at z4 B4 ⊢
  have hl := run_loadVar_mid (P := Tryd.prog) wZ (w.heap.size + 1 + 1) 0 27 [.slice none 0 0, .int .i64 0] _ (range_of z4) Tryd.underlying27 rfl tapeSz
  exact bodyPost_ret (v := .tuple #[.agg #[.slice none 0 0, .int .i64 0], .int .i64 2]) (results_ct Tryd.results10 rfl hl) rfl ⟨_, rfl, Own.nil _ _, B4.out⟩
set_option maxRecDepth 100000 in
set_option maxHeartbeats 2000000 in
theorem open_over (s : Int) (w : World) (h1 : 0 < s) (h2 : s ≤ 1000) :
    Calls Tryd.prog 20 #[.agg #[.slice none 0 0, .int .i64 s]] w fun e w' => e = .returned (.tuple #[.agg #[.slice none 0 0, .int .i64 0], .bool false]) ∧ Below w.heap.size w w' := by
  have d1 : decide (s < 0) = false := by rw [decide_eq_false_iff_not]; omega
  have d2 : decide (0 < s) = true := by rw [decide_eq_true_eq]; omega
  go_enter Tryd.func20, Tryd.ntmps20
  go_upto_region 1 with fail
  generalize hW : World.alloc _ _ = w1
  obtain ⟨X, Y, B0, hz1⟩ := alloc2T hW
  have HB0 := Lib.hid B0
  have c0 := cellAt X 0 rfl
  have c1 := cellAt X 1 rfl
  have HY := Lib.hid Y
  have g0 := cellAt Y 0 rfl
  have g1 := cellAt Y 1 rfl
  have gf := freeAt Y
  clear hW hz1 X Y B0
  go_wp2_with fail
  have z5 := heapSet (o := 1) (heapSet (o := 0) HY.out (.slice none 0 0)) (.int .i64 0)
  have b5 : Below w.heap.size w ((w1.setCell ⟨w.heap.size + 1, 0, none⟩ (.slice none 0 0)).setCell ⟨w.heap.size + 1, 1, none⟩ (.int .i64 0)) := (HB0.out.setCell (by show w.heap.size ≤ w.heap.size + 1; omega) _).setCell (by show w.heap.size ≤ w.heap.size + 1; omega) _
  generalize hW : World.setCell _ _ _ = wZ at z5 b5 ⊢
  have hl := run_loadVar_mid (P := Tryd.prog) wZ (w.heap.size + 1) 0 27 [.slice none 0 0, .int .i64 0] _ (range_of z5) Tryd.underlying27 rfl tapeSz
  exact bodyPost_ret (v := .tuple #[.agg #[.slice none 0 0, .int .i64 0], .bool false]) (results_ct Tryd.results20 rfl hl) rfl ⟨rfl, b5⟩
set_option maxRecDepth 100000 in
set_option maxHeartbeats 2000000 in
theorem sSync_over (s : Int) (w : World) (h1 : 0 < s) (h2 : s ≤ 1000) :
    Calls Tryd.prog 11 #[.agg #[.slice none 0 0, .int .i64 s]] w (TapePost w [] 0 5) := by
  have HOPEN := Lib.hid (fun w => open_over s w h1 h2)
  go_enter Tryd.func11, Tryd.ntmps11
  go_upto_region 1 with fail
  generalize hW : World.alloc _ _ = w1
  obtain ⟨X, Y, B0, hz1⟩ := alloc2T hW
  have HB0 := Lib.hid B0
  have c0 := cellAt X 0 rfl
  have c1 := cellAt X 1 rfl
  have HY := Lib.hid Y
  clear hW hz1 X Y B0
  go_upto_region 2 with (go_at_call 20; refine (HOPEN.out _).mono ?_; rintro e w2 ⟨rfl, hb2⟩; have B2 := Lib.hid hb2; clear hb2)
  have hb3 : Below w1.heap.size w1 (w2.alloc (.cells #[.slice none 0 0, .int .i64 0] 27)) := B2.out.alloc B2.out.size _
  generalize hW : w2.alloc _ = w3 at hb3 ⊢
  have y3 := (hb3.block _ (lt_of_heap HY.out)).trans HY.out
  have HY3 := Lib.hid y3
  have B3 := Lib.hid hb3
  have g0 := cellAt y3 0 rfl
  have g1 := cellAt y3 1 rfl
  have gf := freeAt y3
  clear hW hb3 y3 c0 c1 B2
  go_wp2_with fail
  have z5 := heapSet (o := 1) (heapSet (o := 0) HY3.out (.slice none 0 0)) (.int .i64 0)
  have b5 : Below w.heap.size w ((w3.setCell ⟨w.heap.size + 1, 0, none⟩ (.slice none 0 0)).setCell ⟨w.heap.size + 1, 1, none⟩ (.int .i64 0)) := ((HB0.out.trans (B3.out.mono HB0.out.size)).setCell (by show w.heap.size ≤ w.heap.size + 1; omega) _).setCell (by show w.heap.size ≤ w.heap.size + 1; omega) _
  generalize hW : World.setCell _ _ _ = wZ at z5 b5 ⊢
  have hl := run_loadVar_mid (P := Tryd.prog) wZ (w.heap.size + 1) 0 27 [.slice none 0 0, .int .i64 0] _ (range_of z5) Tryd.underlying27 rfl tapeSz
  exact bodyPost_ret (v := .tuple #[.agg #[.slice none 0 0, .int .i64 0], .int .i64 5]) (results_ct Tryd.results11 rfl hl) rfl ⟨_, rfl, Own.nil _ _, b5⟩
end Go.Proofs.YtdkbajdnckmckaaDoor

set_option linter.unusedVariables false
set_option linter.unusedSimpArgs false
namespace Go.Con
/-- the number that begins at a place of a list, four bytes of it -/
def decAt (l : List UInt8) (k : Nat) : Int := ((((l.getD (4 * k) 0).toNat * 16777216 + (l.getD (4 * k + 1) 0).toNat * 65536 + (l.getD (4 * k + 2) 0).toNat * 256 + (l.getD (4 * k + 3) 0).toNat : Nat)) : Int)
def decRaw (l : List UInt8) : Cmd := ⟨decAt l 0, decAt l 1, decAt l 2, decAt l 3, decAt l 4⟩
def decC (l : List UInt8) : Cmd × Int := if l.length ≠ 20 then (Cmd.zero, 1) else if checkC (decRaw l) ≠ 0 then (Cmd.zero, checkC (decRaw l)) else (decRaw l, 0)
end Go.Con
namespace Go.Proofs.YtdkbajdnckmckaaDoor
open Go.RowKit Go.Con

theorem set5 {w : World} {b : Nat} {e : TypeId} {c : Cmd} {v0 v1 v2 v3 v4 : Value} (h : w.heap[b]? = some (.cells (cmdA c) e (0, 0))) :
    (((((w.setCell ⟨b, 0, none⟩ v0).setCell ⟨b, 1, none⟩ v1).setCell ⟨b, 2, none⟩ v2).setCell ⟨b, 3, none⟩ v3).setCell ⟨b, 4, none⟩ v4).heap[b]? = some (.cells #[v0, v1, v2, v3, v4] e (0, 0)) :=
  heapSet (o := 4) (heapSet (o := 3) (heapSet (o := 2) (heapSet (o := 1) (heapSet (o := 0) h v0) v1) v2) v3) v4
theorem set5_below {a w : World} {b B : Nat} {v0 v1 v2 v3 v4 : Value} (h : Below B a w) (hb : B ≤ b) :
    Below B a (((((w.setCell ⟨b, 0, none⟩ v0).setCell ⟨b, 1, none⟩ v1).setCell ⟨b, 2, none⟩ v2).setCell ⟨b, 3, none⟩ v3).setCell ⟨b, 4, none⟩ v4) :=
  ((((h.setCell hb _).setCell hb _).setCell hb _).setCell hb _).setCell hb _
set_option maxHeartbeats 400000 in
theorem Decode_short (v : Value) (l : List UInt8) (w : World) (hR : Rd w v l) (hl : l.length ≠ 20) :
    Calls Tryd.prog 44 #[v] w fun e w' => e = .returned (.tuple #[cmdV Cmd.zero, .int .i64 1]) ∧ Below w.heap.size w w' := by
  obtain ⟨a, c, rfl, hlc, hcm⟩ := hR.slice
  have hb : (((l.length : Nat) : Int) != 20) = true := by simpa using (by omega : ((l.length : Nat) : Int) ≠ 20)
  clear hl
  go_enter Tryd.func44, Tryd.ntmps44
  go_wp2
  refine bodyPost_ret (v := .tuple #[cmdV Cmd.zero, .int .i64 1]) ?_ rfl ⟨rfl, ?_⟩
  · simp [results, Tryd.results44, go_sem, cmdV, Cmd.zero]
  · exact (Below.refl _ _).alloc (Nat.le_refl _) _

def decCells (l : List UInt8) (k : Nat) : Nat → Value := fun j => .int .i64 (if j < k then decAt l j else 0)
set_option maxHeartbeats 1000000 in
theorem Decode_full (v : Value) (l : List UInt8) (w : World) (hR : Rd w v l) (hl : l.length = 20) :
    Calls Tryd.prog 44 #[v] w fun e w' => e = .returned (.tuple #[cmdV (decC l).1, .int .i64 (decC l).2]) ∧ Below w.heap.size w w' := by
  have hck := fun w' => Check_any (decRaw l) w'
  have HCK := Lib.hid hck
  have HR := Lib.hid hR
  have hRS := hR.slice
  rw [hl] at hRS
  obtain ⟨a, c, rfl, hlc, hcm⟩ := hRS
  have HL := Lib.hid hl
  clear hck hR hl
  have hix := fun k hk W => indexP (w.heap.size + 1) k hk W
  have HIX := Lib.hid hix
  clear hix
  go_enter Tryd.func44, Tryd.ntmps44
  go_wp2_with fail
  refine (numbers_any _ _).mono ?_
  rintro e w1 ⟨rfl, hb1⟩
  have hx1 : w1.heap[w.heap.size + 1]? = some (.cells (cmdA Cmd.zero) 33 (0, 0)) := (hb1.block _ (by simp)).trans (heapNew1 _ _ _)
  have hx0 : w1.heap[w.heap.size]? = some (.cells (cmdA Cmd.zero) 33 (0, 0)) := (hb1.block _ (by simp; omega)).trans (heapNew0 _ _ _)
  have hs1 : w.heap.size + 2 ≤ w1.heap.size := by have := hb1.size; simpa using this
  have HB1 := Lib.hid ((((Below.refl w.heap.size w).alloc (Nat.le_refl _) (.cells (cmdA Cmd.zero) 33)).alloc (by simp) (.cells (cmdA Cmd.zero) 33)).trans (hb1.mono (by simp; omega)))
  have HX1 := Lib.hid hx1
  have HX0 := Lib.hid hx0
  clear hb1 hx1 hx0
  go_wp2_with fail
  go_loopw [13] (fun i wr => ∃ k : Nat, k ≤ 5 ∧ i = .int .i64 k ∧ (∃ cur, wr.heap[w.heap.size + 1]? = some (.cells cur 33 (0, 0)) ∧ cur.size = 5 ∧ ∀ j, j < 5 → cur[j]? = some (decCells l k j)) ∧ wr.heap[w.heap.size]? = some (.cells (cmdA Cmd.zero) 33 (0, 0)) ∧ Below w.heap.size w wr)
    (fun i _ => 5 - (intOf i).toNat)
  case atStart => exact ⟨0, by omega, rfl, ⟨_, HX1.out, rfl, fun j hj => by
      have h5 : j = 0 ∨ j = 1 ∨ j = 2 ∨ j = 3 ∨ j = 4 := by omega
      rcases h5 with rfl | rfl | rfl | rfl | rfl <;> rfl⟩, HX0.out, HB1.out⟩
  case round =>
    obtain ⟨k, hk, rfl, ⟨cur, hcur, hsz, hold⟩, hX0, hB⟩ := hrel
    have HX := Lib.hid hX0
    have HB := Lib.hid hB
    by_cases hlt : k < 5
    · have HOLD := Lib.hid hold
      obtain ⟨b, off, rfl, hcell⟩ : ∃ b off, a = some ⟨b, off, none⟩ ∧ ∀ i, i < 20 → wr.cell? ⟨b, off + i, none⟩ = some (u8v (l.getD i 0)) := by
        obtain ⟨a', c', e, _, _, _, h⟩ := HR.out
        injection e with e1 e2 e3
        subst e1
        obtain ⟨b, off, e4, h2⟩ := h (by intro h0; have := HL.out; rw [h0] at this; cases this)
        refine ⟨b, off, e4, fun i hi => ?_⟩
        have h3 := h2 i (by have := HL.out; omega)
        exact (World.cell?_of_block (w := w) (hB.block b (World.block_lt_of_cell? w _ h3))).trans h3
      obtain ⟨x0, hx0⟩ : ∃ x, x = l.getD (4 * k) 0 := ⟨_, rfl⟩
      obtain ⟨x1, hx1⟩ : ∃ x, x = l.getD (4 * k + 1) 0 := ⟨_, rfl⟩
      obtain ⟨x2, hx2⟩ : ∃ x, x = l.getD (4 * k + 2) 0 := ⟨_, rfl⟩
      obtain ⟨x3, hx3⟩ : ∃ x, x = l.getD (4 * k + 3) 0 := ⟨_, rfl⟩
      have c0 : wr.cell? ⟨b, off + 4 * k, none⟩ = some (.int .u8 x0.toNat) := by rw [hx0]; exact hcell (4 * k) (by omega)
      have c1 : wr.cell? ⟨b, off + (4 * k + 1), none⟩ = some (.int .u8 x1.toNat) := by rw [hx1]; exact hcell (4 * k + 1) (by omega)
      have c2 : wr.cell? ⟨b, off + (4 * k + 2), none⟩ = some (.int .u8 x2.toNat) := by rw [hx2]; exact hcell (4 * k + 2) (by omega)
      have c3 : wr.cell? ⟨b, off + (4 * k + 3), none⟩ = some (.int .u8 x3.toNat) := by rw [hx3]; exact hcell (4 * k + 3) (by omega)
      have hdec : ((x0.toNat * 16777216 + x1.toNat * 65536 + x2.toNat * 256 + x3.toNat : Nat) : Int) = decAt l k := by rw [decAt, hx0, hx1, hx2, hx3]
      have HDEC := Lib.hid hdec
      have hcc := cellD hcur k (by omega)
      have hfr := freeAt hcur k
      have hik := HIX.out k hlt
      have HCUR := Lib.hid hcur
      clear hcell hx0 hx1 hx2 hx3 hold hdec hcur hX0 hB
      go_wp2
      refine region_quiet_tail 35 (by kernel_rfl) (by kernel_rfl) ?_
      simp only [List.take_succ_cons, List.take_zero, List.drop_succ_cons, List.drop_zero]
      repeat (go_big_quiet_step (fail))
      refine wpQuiet_nil ?_
      intro w9 hw9
      obtain ⟨nq, rfl⟩ := hw9
      go_wp2
      go_roundw
      case rel =>
        refine ⟨k + 1, by omega, by go_num, ?_, ?_, ?_⟩
        · refine turnOne (g := decCells l k) (g' := decCells l (k + 1)) nq HCUR.out hsz hlt HOLD.out ?_ ?_
          · rw [four64, HDEC.out, decCells, if_pos (by omega)]
          · intro j hj hne
            by_cases hjk : j < k
            · rw [decCells, decCells, if_pos hjk, if_pos (by omega)]
            · rw [decCells, decCells, if_neg hjk, if_neg (by omega)]
        · rw [heapSet_ne _ _ (by omega)]; exact HX.out
        · exact (below_drewN HB.out nq).setCell (by simp) _
      case measure => simp [intOf]; omega
    · have hk5 : k = 5 := by omega
      have hcur5 : wr.heap[w.heap.size + 1]? = some (.cells (cmdA (decRaw l)) 33 (0, 0)) := by
        rw [hcur]
        have e : cur = cmdA (decRaw l) := by
          apply Array.ext (by simpa [cmdA] using hsz)
          intro j h1 h2
          have hj : j < 5 := by omega
          have := hold j hj
          rw [Array.getElem?_eq_getElem h1, decCells, if_pos (by omega)] at this
          injection this with this
          rw [this]
          have h5 : j = 0 ∨ j = 1 ∨ j = 2 ∨ j = 3 ∨ j = 4 := by omega
          rcases h5 with rfl | rfl | rfl | rfl | rfl <;> rfl
        rw [e]
      have d0 : wr.cell? ⟨w.heap.size + 1, 0, none⟩ = some (.int .i64 (decAt l 0)) := cellAt hcur5 0 rfl
      have d1 : wr.cell? ⟨w.heap.size + 1, 1, none⟩ = some (.int .i64 (decAt l 1)) := cellAt hcur5 1 rfl
      have d2 : wr.cell? ⟨w.heap.size + 1, 2, none⟩ = some (.int .i64 (decAt l 2)) := cellAt hcur5 2 rfl
      have d3 : wr.cell? ⟨w.heap.size + 1, 3, none⟩ = some (.int .i64 (decAt l 3)) := cellAt hcur5 3 rfl
      have d4 : wr.cell? ⟨w.heap.size + 1, 4, none⟩ = some (.int .i64 (decAt l 4)) := cellAt hcur5 4 rfl
      have hc0 : decC l = if checkC (decRaw l) ≠ 0 then (Cmd.zero, checkC (decRaw l)) else (decRaw l, 0) := by rw [decC, if_neg (by rw [HL.out]; simp)]
      have HC0 := Lib.hid hc0
      have HCUR := Lib.hid hcur5
      clear hold hcur hX0 hB hc0 hcur5
      obtain ⟨q, hq⟩ : ∃ q, q = checkC (decRaw l) := ⟨_, rfl⟩
      rw [← hq] at HCK HC0
      have HQ := Lib.hid hq
      clear hq
      go_wp2_with fail
      refine (HCK.out _).mono ?_
      rintro e w2 ⟨rfl, hb2⟩
      have hbb := HB.out.trans (hb2.mono (by have := HB.out.size; omega))
      have HBB := Lib.hid hbb
      have hx2 := (hb2.block _ (by have := lt_of_heap HX.out; omega)).trans HX.out
      have hy2 := (hb2.block _ (by have := lt_of_heap HCUR.out; omega)).trans HCUR.out
      have g0 : w2.cell? ⟨w.heap.size + 1, 0, none⟩ = some (.int .i64 (decAt l 0)) := cellAt hy2 0 rfl
      have g1 : w2.cell? ⟨w.heap.size + 1, 1, none⟩ = some (.int .i64 (decAt l 1)) := cellAt hy2 1 rfl
      have g2 : w2.cell? ⟨w.heap.size + 1, 2, none⟩ = some (.int .i64 (decAt l 2)) := cellAt hy2 2 rfl
      have g3 : w2.cell? ⟨w.heap.size + 1, 3, none⟩ = some (.int .i64 (decAt l 3)) := cellAt hy2 3 rfl
      have g4 : w2.cell? ⟨w.heap.size + 1, 4, none⟩ = some (.int .i64 (decAt l 4)) := cellAt hy2 4 rfl
      have j0 := freeAt hx2
      have j1 : ∀ o < 5, ∃ v, w2.cell? ⟨w.heap.size, o, none⟩ = some v := fun o ho => ⟨_, cellD hx2 o ho⟩
      have H2 := Lib.hid hx2
      clear hb2 hx2 hy2 hbb d0 d1 d2 d3 d4
      obtain ⟨_, f0⟩ := j1 0 (by omega)
      obtain ⟨_, f1⟩ := j1 1 (by omega)
      obtain ⟨_, f2⟩ := j1 2 (by omega)
      obtain ⟨_, f3⟩ := j1 3 (by omega)
      obtain ⟨_, f4⟩ := j1 4 (by omega)
      clear j1
      by_cases hq0 : q = 0
      · have hc1 : decC l = (decRaw l, 0) := by rw [HC0.out, hq0]; rfl
        have HC1 := Lib.hid hc1
        have hqb : (q != 0) = false := by simpa using hq0
        clear hq0 hc1
        go_wp2
        have hW := set5 (w := w2) (b := w.heap.size) (e := 33) (v0 := .int .i64 (decAt l 0)) (v1 := .int .i64 (decAt l 1)) (v2 := .int .i64 (decAt l 2)) (v3 := .int .i64 (decAt l 3)) (v4 := .int .i64 (decAt l 4)) (H2.out)
        have hb := set5_below (b := w.heap.size) (B := w.heap.size) (v0 := .int .i64 (decAt l 0)) (v1 := .int .i64 (decAt l 1)) (v2 := .int .i64 (decAt l 2)) (v3 := .int .i64 (decAt l 3)) (v4 := .int .i64 (decAt l 4)) HBB.out (Nat.le_refl _)
        generalize hWe : World.setCell _ _ _ = W
        rw [hWe] at hW hb
        have k0 := cellAt hW 0 rfl
        have k1 := cellAt hW 1 rfl
        have k2 := cellAt hW 2 rfl
        have k3 := cellAt hW 3 rfl
        have k4 := cellAt hW 4 rfl
        clear hW hWe g0 g1 g2 g3 g4 f0 f1 f2 f3 f4 j0
        refine bodyPost_ret (v := .tuple #[cmdV (decRaw l), .int .i64 0]) ?_ rfl ⟨by rw [HC1.out], hb⟩
        simp [results, Tryd.results44, go_sem, cmdV, decRaw, k0, k1, k2, k3, k4]
      · have hc1 : decC l = (Cmd.zero, q) := by rw [HC0.out, if_pos hq0]
        have HC1 := Lib.hid hc1
        have hqb : (q != 0) = true := by simpa using hq0
        clear hq0 hc1
        go_wp2
        have hW := set5 (w := w2) (b := w.heap.size) (e := 33) (v0 := .int .i64 0) (v1 := .int .i64 0) (v2 := .int .i64 0) (v3 := .int .i64 0) (v4 := .int .i64 0) (H2.out)
        have hb := set5_below (b := w.heap.size) (B := w.heap.size) (v0 := .int .i64 0) (v1 := .int .i64 0) (v2 := .int .i64 0) (v3 := .int .i64 0) (v4 := .int .i64 0) HBB.out (Nat.le_refl _)
        generalize hWe : World.setCell _ _ _ = W
        rw [hWe] at hW hb
        have k0 := cellAt hW 0 rfl
        have k1 := cellAt hW 1 rfl
        have k2 := cellAt hW 2 rfl
        have k3 := cellAt hW 3 rfl
        have k4 := cellAt hW 4 rfl
        clear hW hWe g0 g1 g2 g3 g4 f0 f1 f2 f3 f4 j0
        refine bodyPost_ret (v := .tuple #[cmdV Cmd.zero, .int .i64 q]) ?_ rfl ⟨by rw [HC1.out], hb⟩
        simp [results, Tryd.results44, go_sem, cmdV, Cmd.zero, k0, k1, k2, k3, k4]

theorem Decode_any (v : Value) (l : List UInt8) (w : World) (hR : Rd w v l) :
    Calls Tryd.prog 44 #[v] w fun e w' => e = .returned (.tuple #[cmdV (decC l).1, .int .i64 (decC l).2]) ∧ Below w.heap.size w w' := by
  by_cases hl : l.length = 20
  · exact Decode_full v l w hR hl
  · have e : decC l = (Cmd.zero, 1) := by rw [decC, if_pos hl]
    rw [e]
    exact Decode_short v l w hR hl
end Go.Proofs.YtdkbajdnckmckaaDoor

set_option linter.unusedVariables false
set_option linter.unusedSimpArgs false
namespace Go.Con
open Go
theorem okVs_len {p : Int × Int} : ∀ {l : List Vot} {last : Int}, last ≤ 39 → okVs p last l = true → (l.length : Int) ≤ 39 - last
  | [], last, h, _ => by simp; omega
  | v :: l, last, h, hl => by
    have hl' : (okV v && decide (last < v.slot) && decide (cmpB v.bal p ≤ 0) && okVs p v.slot l) = true := hl
    simp only [Bool.and_eq_true, decide_eq_true_eq] at hl'
    obtain ⟨⟨⟨h1, h2⟩, _⟩, h3⟩ := hl'
    have h4 := okV_parts h1
    have h5 := okVs_len (by omega) h3
    simp only [List.length_cons]
    omega
theorem okA_len {p : Int × Int} {l : List Vot} (h : okA p l = true) : l.length ≤ 1000 := by
  unfold okA at h
  simp only [Bool.and_eq_true] at h
  have := okVs_len (by omega) h.2
  omega
/-- an acceptor -/
structure Apr where
  p : Int × Int
  l : List Vot
  deriving DecidableEq
def Apr.ok (a : Apr) : Bool := okA a.p a.l
def Apr.zero : Apr := ⟨(0, 0), []⟩
/-- a promise -/
def proA (a : Apr) (b : Int × Int) : Option Apr := if okB b = true ∧ ¬ cmpB b a.p < 0 then some ⟨b, a.l⟩ else none
/-- a vote -/
def votA (a : Apr) (y : Vot) : Option Apr := if okV y = true ∧ ¬ cmpB y.bal a.p < 0 then some ⟨y.bal, putV y a.l⟩ else none
theorem proA_ok {a c : Apr} {b : Int × Int} (h : a.ok = true) (hc : proA a b = some c) : c.ok = true := by
  unfold proA at hc
  split at hc
  · rename_i h1
    injection hc with hc
    subst hc
    exact okA_higher h h1.1 h1.2
  · cases hc
theorem votA_ok {a c : Apr} {y : Vot} (h : a.ok = true) (hc : votA a y = some c) : c.ok = true := by
  unfold votA at hc
  split at hc
  · rename_i h1
    injection hc with hc
    subst hc
    exact okA_put h h1.1 h1.2
  · cases hc
end Go.Con
namespace Go.Proofs.YtdkbajdnckmckaaDoor
open Go.RowKit Go.Con
def bodPro (l : List UInt8) : Int × Int := (getN (l.drop 1), getN (l.drop 5))
def bodVot (l : List UInt8) : Vot := ⟨getN (l.drop 1), (getN (l.drop 5), getN (l.drop 9)), (decC (l.drop 13)).1⟩
/-- what a body makes of an acceptor -/
def applyB (a : Apr) (l : List UInt8) : Option Apr :=
  if l.length = 9 ∧ l.getD 0 0 = 1 then proA a (bodPro l)
  else if l.length = 33 ∧ l.getD 0 0 = 2 then (if (decC (l.drop 13)).2 = 0 then votA a (bodVot l) else none)
  else none
theorem applyB_ok {a c : Apr} {l : List UInt8} (h : a.ok = true) (hc : applyB a l = some c) : c.ok = true := by
  unfold applyB at hc
  split at hc
  · exact proA_ok h hc
  · split at hc
    · split at hc
      · exact votA_ok h hc
      · cases hc
    · cases hc
/-- promised or not -/
theorem Promise_all (a : Apr) (br bn : Int) (v : Value) (w : World) (hv : Votes w v a.l) (hok : a.ok = true) :
    Calls Tryd.prog 16 #[.agg #[.int .i64 a.p.1, .int .i64 a.p.2, v], .agg #[.int .i64 br, .int .i64 bn]] w fun e w' =>
      Below w.heap.size w w' ∧ ∃ x y a1 n1 c1 v2 c, e = .returned (.tuple #[.agg #[.int .i64 x, .int .i64 y, .slice a1 n1 c1], v2, .int .i64 c]) ∧ ((proA a (br, bn) = none ∧ c ≠ 0) ∨ (proA a (br, bn) = some ⟨(x, y), a.l⟩ ∧ c = 0 ∧ OwnV w' w.heap.size (.slice a1 n1 c1) a.l)) := by
  obtain ⟨⟨pr, pn⟩, l⟩ := a
  have hl : l.length ≤ 1000 := okA_len hok
  cases hb : okB (br, bn) with
  | false =>
    refine (Promise_bad pr pn br bn v l w hv hok hb hl).mono ?_
    rintro e w' ⟨rfl, h⟩
    exact ⟨h, _, _, _, _, _, _, _, rfl, .inl ⟨by simp [proA, hb], by decide⟩⟩
  | true =>
    refine (Promise_to pr pn br bn v l w hv hok hb hl).mono ?_
    rintro e w' ⟨h, h2 | h2⟩
    · obtain ⟨h2, rfl⟩ := h2
      exact ⟨h, _, _, _, _, _, _, _, rfl, .inl ⟨by simp [proA, h2], by decide⟩⟩
    · obtain ⟨h2, v1, v2, rfl, o1, _⟩ := h2
      obtain ⟨a1, c1, rfl, -⟩ := id o1.row
      exact ⟨h, _, _, _, _, _, _, _, rfl, .inr ⟨by rw [proA, if_pos ⟨hb, h2⟩], rfl, o1⟩⟩
/-- voted or not -/
theorem Accept_all (a : Apr) (y0 y1 y2 y3 y4 y5 y6 y7 : Int) (v : Value) (w : World) (hv : Votes w v a.l) (hok : a.ok = true) :
    Calls Tryd.prog 23 #[.agg #[.int .i64 a.p.1, .int .i64 a.p.2, v], .agg #[.int .i64 y0, .int .i64 y1, .int .i64 y2, .int .i64 y3, .int .i64 y4, .int .i64 y5, .int .i64 y6, .int .i64 y7]] w fun e w' =>
      Below w.heap.size w w' ∧ ∃ x y a1 n1 c1 c, e = .returned (.tuple #[.agg #[.int .i64 x, .int .i64 y, .slice a1 n1 c1], .int .i64 c]) ∧ ((votA a ⟨y0, (y1, y2), ⟨y3, y4, y5, y6, y7⟩⟩ = none ∧ c ≠ 0) ∨ (∃ m, votA a ⟨y0, (y1, y2), ⟨y3, y4, y5, y6, y7⟩⟩ = some ⟨(x, y), m⟩ ∧ c = 0 ∧ OwnV w' w.heap.size (.slice a1 n1 c1) m)) := by
  obtain ⟨⟨pr, pn⟩, l⟩ := a
  have hl : l.length ≤ 1000 := okA_len hok
  cases hb : okV ⟨y0, (y1, y2), ⟨y3, y4, y5, y6, y7⟩⟩ with
  | false =>
    refine (Accept_bad pr pn y0 y1 y2 y3 y4 y5 y6 y7 v l w hv hok hb hl).mono ?_
    rintro e w' ⟨rfl, h⟩
    exact ⟨h, _, _, _, _, _, _, rfl, .inl ⟨by simp [votA, hb], by decide⟩⟩
  | true =>
    refine (Accept_to pr pn y0 y1 y2 y3 y4 y5 y6 y7 v l w hv hok hb hl).mono ?_
    rintro e w' ⟨h, h2 | h2⟩
    · obtain ⟨h2, rfl⟩ := h2
      exact ⟨h, _, _, _, _, _, _, rfl, .inl ⟨by simp [votA, h2], by decide⟩⟩
    · obtain ⟨h2, v1, rfl, o1⟩ := h2
      obtain ⟨a1, c1, rfl, -⟩ := id o1.row
      exact ⟨h, _, _, _, _, _, _, rfl, .inr ⟨_, by rw [votA, if_pos ⟨hb, h2⟩], rfl, o1⟩⟩
end Go.Proofs.YtdkbajdnckmckaaDoor
