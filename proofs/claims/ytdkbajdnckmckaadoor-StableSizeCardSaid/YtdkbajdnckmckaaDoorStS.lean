/-
  The walks of stable.Sync and stable.Crash; what may not be.
-/
import Derived.Test.YtdkbajdnckmckaaDoorStV
import Derived.Test.YtdkbajdnckmckaaDoorBdP
set_option linter.unusedVariables false
set_option linter.unusedSimpArgs false
namespace Go.Proofs.YtdkbajdnckmckaaDoor
open Go.RowKit Go.Con
theorem alloc2T {w w0 : World} {A B : Obj} (h : (w.alloc A).alloc B = w0) : w0.heap[w.heap.size]? = some A ∧ w0.heap[w.heap.size + 1]? = some B ∧ Below w.heap.size w w0 ∧ w0.heap.size = w.heap.size + 1 + 1 := by
  subst h
  exact ⟨heapNew0 w A B, heapNew1 w A B, ((Below.refl _ _).alloc (Nat.le_refl _) _).alloc (by simp) _, by simp⟩
set_option maxRecDepth 100000 in
set_option maxHeartbeats 2000000 in
theorem sSync_ok (v : Value) (l : List UInt8) (s : Int) (w : World) (hv : Rd w v l) (h0 : 0 ≤ s) (h1 : s ≤ l.length) (h2 : l.length ≤ 100000) :
    Calls Tryd.prog 11 #[.agg #[v, .int .i64 s]] w (TapePost w l (l.length : Nat) 0) := by
  obtain ⟨a, c, rfl, hc, hcm⟩ := id hv.slice
  obtain ⟨n, hn⟩ : ∃ n, n = l.length := ⟨_, rfl⟩
  have HOPEN := Lib.hid (fun w h => open_ok (.slice a l.length c) l s w h h0 h1 h2)
  rw [← hn] at hv h1 h2 hc HOPEN ⊢
  have HV := Lib.hid hv
  have HN := Lib.hid hn
  clear hv hn hc hcm
  go_enter Tryd.func11, Tryd.ntmps11
  go_upto_region 1 with fail
  generalize hW : World.alloc _ _ = w1
  obtain ⟨X, Y, B0, hz1⟩ := alloc2T hW
  have HB0 := Lib.hid B0
  have c0 := cellAt X 0 rfl
  have c1 := cellAt X 1 rfl
  have HV1 := Lib.hid (HV.out.below B0 HV.out.lt)
  have HZ := Lib.hid hz1
  have HY := Lib.hid Y
  clear hW hz1 X Y B0
  go_upto_region 2 with (go_at_call 20; refine (HOPEN.out _ HV1.out).mono ?_; rintro e w2 ⟨v2, rfl, ho2, hb2⟩; obtain ⟨sa, sc, rfl, _, _⟩ := ho2.rd.sliceN n HN.out.symm; have B2 := Lib.hid hb2; have O2 := Lib.hid ho2; clear ho2 hb2)
  have hb3 : Below w1.heap.size w1 (w2.alloc (.cells #[.slice sa n sc, .int .i64 s] 27)) := B2.out.alloc B2.out.size _
  have x3 : (w2.alloc (.cells #[.slice sa n sc, .int .i64 s] 27)).heap[w2.heap.size]? = some (.cells #[.slice sa n sc, .int .i64 s] 27) := heapNew _ _
  have o3 : Own (w2.alloc (.cells #[.slice sa n sc, .int .i64 s] 27)) w1.heap.size (.slice sa n sc) l := O2.out.alloc _
  have hlt : ∀ k, (Value.slice sa n sc).ownBlock = some k → k < w2.heap.size := fun k hk => (O2.out.lt k hk).2
  have hg1 : w1.heap.size ≤ w2.heap.size := B2.out.size
  obtain ⟨q, hq⟩ : ∃ b, b = w2.heap.size := ⟨_, rfl⟩
  rw [← hq] at x3 hlt hg1 ⊢
  generalize hW : w2.alloc _ = w3 at hb3 x3 o3 ⊢
  have y3 := (hb3.block _ (lt_of_heap HY.out)).trans HY.out
  have HX := Lib.hid x3
  have HY3 := Lib.hid y3
  have B3 := Lib.hid hb3
  have O3 := Lib.hid o3
  have HLT := Lib.hid hlt
  have e0 := cellAt x3 0 rfl
  have e1 := cellAt x3 1 rfl
  have ef := freeAt x3
  have hqn : ¬ (w.heap.size + 1 = q) := by have := HZ.out; omega
  have hqn' : ¬ (q = w.heap.size + 1) := by omega
  clear hW hb3 x3 y3 o3 hlt c0 c1 B2 hq
  go_upto_region 5 with fail
  have x4 := heapSet (o := 1) HX.out (.int .i64 (n : Int))
  have y4 := (heapSet_ne (w := w3) 1 (.int .i64 (n : Int)) hqn).trans HY3.out
  have b4 : Below w1.heap.size w1 (w3.setCell ⟨q, 1, none⟩ (.int .i64 (n : Int))) := B3.out.setCell (by show w1.heap.size ≤ q; omega) _
  have o4 := O3.out.ofHeapK (w' := w3.setCell ⟨q, 1, none⟩ (.int .i64 (n : Int))) (fun k hk => heapSet_ne 1 _ (by have := HLT.out k hk; omega))
  generalize hW : World.setCell _ _ _ = w4 at x4 y4 b4 o4 ⊢
  have f0 := cellAt x4 0 rfl
  have f1 := cellAt x4 1 rfl
  have g0 := cellAt y4 0 rfl
  have g1 := cellAt y4 1 rfl
  have gf := freeAt y4
  have HY4 := Lib.hid y4
  have B4 := Lib.hid b4
  have O4 := Lib.hid o4
  clear hW x4 y4 b4 o4 e0 e1 ef
  go_wp2_with fail
  have z5 := heapSet (o := 1) (heapSet (o := 0) HY4.out (.slice sa n sc)) (.int .i64 (n : Int))
  have b5 : Below w.heap.size w ((w4.setCell ⟨w.heap.size + 1, 0, none⟩ (.slice sa n sc)).setCell ⟨w.heap.size + 1, 1, none⟩ (.int .i64 (n : Int))) := ((HB0.out.trans (B4.out.mono HB0.out.size)).setCell (by show w.heap.size ≤ w.heap.size + 1; omega) _).setCell (by show w.heap.size ≤ w.heap.size + 1; omega) _
  have o5 := (O4.out.mono (base' := w.heap.size) HB0.out.size).ofHeapK (w' := (w4.setCell ⟨w.heap.size + 1, 0, none⟩ (.slice sa n sc)).setCell ⟨w.heap.size + 1, 1, none⟩ (.int .i64 (n : Int))) (fun k hk => by
    have h4 := (O4.out.lt k hk).1
    have := HZ.out
    exact (heapSet_ne 1 _ (by omega)).trans (heapSet_ne 0 _ (by omega)))
  generalize hW : World.setCell _ _ _ = wZ at z5 b5 o5 ⊢
  have hl := run_loadVar_mid (P := Tryd.prog) wZ (w.heap.size + 1) 0 27 [.slice sa n sc, .int .i64 n] _ (range_of z5) Tryd.underlying27 rfl tapeSz
  exact bodyPost_ret (v := .tuple #[.agg #[.slice sa n sc, .int .i64 n], .int .i64 0]) (results_ct Tryd.results11 rfl hl) rfl ⟨_, rfl, o5, b5⟩
/-- a tape that is shown -/
def TapeR (w : World) (l : List UInt8) (s c : Int) (e : Ending) (w' : World) : Prop :=
  ∃ v', e = .returned (.tuple #[.agg #[v', .int .i64 s], .int .i64 c]) ∧ Rd w' v' l ∧ Below w.heap.size w w'
theorem TapePost.rd {w : World} {l : List UInt8} {s c : Int} {e : Ending} {w' : World} (h : TapePost w l s c e w') : TapeR w l s c e w' := by
  obtain ⟨v, h1, h2, h3⟩ := h; exact ⟨v, h1, h2.rd, h3⟩
theorem Rd.ofHeapS {w w' : World} {v : Value} {l : List UInt8} (h : Rd w v l) (hh : ∀ k, v.ownBlock = some k → l ≠ [] → w'.heap[k]? = w.heap[k]?) : Rd w' v l := by
  obtain ⟨a, c, rfl, h1, h2, h3, h4⟩ := h
  refine ⟨a, c, rfl, h1, h2, h3, fun hne => ?_⟩
  obtain ⟨b, off, rfl, h5⟩ := h4 hne
  exact ⟨b, off, rfl, fun i hi => (World.cell?_of_block (w := w) (hh b rfl hne)).trans (h5 i hi)⟩
theorem Rd.capN {w : World} {a : Option Addr} {k c : Nat} {l : List UInt8} (h : Rd w (.slice a k c) l) (n : Nat) (hn : l.length = n) : n ≤ c ∧ c ≤ maxLen := by
  subst hn
  obtain ⟨_, _, e, h1, h2, _⟩ := h
  injection e with e1 e2 e3
  subst e3
  exact ⟨h1, h2⟩
theorem Rd.pre3 {w : World} {a : Option Addr} {n c : Nat} {l : List UInt8} (h : Rd w (.slice a n c) l) (m : Nat) (hm : m ≤ l.length) : Rd w (.slice a m m) (l.take m) := by
  have h2 := h.pre m hm
  have hl : (l.take m).length = m := by simp; omega
  obtain ⟨a', c', e, h3, h4, h5, h6⟩ := h2
  rw [hl] at e h3
  injection e with e1 e2 e3
  subst e1 e3
  exact ⟨_, _, by rw [hl], Nat.le_of_eq hl, by omega, fun h => by have := h5 h; omega, h6⟩
set_option maxRecDepth 100000 in
set_option maxHeartbeats 2000000 in
theorem sCrash_ok (v : Value) (l : List UInt8) (s k : Int) (m : Nat) (w : World) (hv : Rd w v l) (h0 : 0 ≤ s) (h1 : s ≤ l.length) (h2 : l.length ≤ 100000) (hk0 : 0 ≤ k) (hk1 : k ≤ 1000000000) (hm : (m : Int) = s + min k ((l.length : Int) - s)) :
    Calls Tryd.prog 17 #[.agg #[v, .int .i64 s], .int .i64 k] w (TapeR w (l.take m) m 0) := by
  obtain ⟨a, c, rfl, hc, hcm⟩ := id hv.slice
  obtain ⟨n, hn⟩ : ∃ n, n = l.length := ⟨_, rfl⟩
  have HOPEN := Lib.hid (fun w h => open_ok (.slice a l.length c) l s w h h0 h1 h2)
  rw [← hn] at hv h1 h2 hc hm HOPEN ⊢
  have hmn : m ≤ n := by omega
  have HV := Lib.hid hv
  have HN := Lib.hid hn
  have HM := Lib.hid hm
  have dk : decide (k < 0) = false := by rw [decide_eq_false_iff_not]; omega
  have HK1 := Lib.hid hk1
  clear hv hn hc hcm hm hk1
  go_enter Tryd.func17, Tryd.ntmps17
  go_upto_region 1 with fail
  generalize hW : World.alloc _ _ = w1
  obtain ⟨X, Y, B0, hz1⟩ := alloc2T hW
  have HB0 := Lib.hid B0
  have c0 := cellAt X 0 rfl
  have c1 := cellAt X 1 rfl
  have HV1 := Lib.hid (HV.out.below B0 HV.out.lt)
  have HZ := Lib.hid hz1
  have HY := Lib.hid Y
  clear hW hz1 X Y B0
  go_upto_region 2 with (go_at_call 20; refine (HOPEN.out _ HV1.out).mono ?_; rintro e w2 ⟨v2, rfl, ho2, hb2⟩; obtain ⟨sa, sc, rfl, _, _⟩ := ho2.rd.sliceN n HN.out.symm; have B2 := Lib.hid hb2; have O2 := Lib.hid ho2; clear ho2 hb2)
  have hb3 : Below w1.heap.size w1 (w2.alloc (.cells #[.slice sa n sc, .int .i64 s] 27)) := B2.out.alloc B2.out.size _
  have x3 : (w2.alloc (.cells #[.slice sa n sc, .int .i64 s] 27)).heap[w2.heap.size]? = some (.cells #[.slice sa n sc, .int .i64 s] 27) := heapNew _ _
  have o3 : Own (w2.alloc (.cells #[.slice sa n sc, .int .i64 s] 27)) w1.heap.size (.slice sa n sc) l := O2.out.alloc _
  have hg1 : w1.heap.size ≤ w2.heap.size := B2.out.size
  obtain ⟨q, hq⟩ : ∃ b, b = w2.heap.size := ⟨_, rfl⟩
  rw [← hq] at x3 hg1 ⊢
  generalize hW : w2.alloc _ = w3 at hb3 x3 o3 ⊢
  have y3 := (hb3.block _ (lt_of_heap HY.out)).trans HY.out
  have HX := Lib.hid x3
  have HY3 := Lib.hid y3
  have B3 := Lib.hid hb3
  have O3 := Lib.hid o3
  have e0 := cellAt x3 0 rfl
  have e1 := cellAt x3 1 rfl
  have hqn : ¬ (w.heap.size + 1 = q) := by have := HZ.out; omega
  have hqn' : ¬ (q = w.heap.size + 1) := by omega
  have g0 := cellAt y3 0 rfl
  have g1 := cellAt y3 1 rfl
  have gf := freeAt y3
  clear hW hb3 x3 y3 o3 c0 c1 B2 hq
  have hmm : (if k < (n : Int) - s then k else (n : Int) - s) = (m : Int) - s := by have := HM.out; split <;> omega
  have HMM := Lib.hid hmm
  clear hmm
  obtain ⟨hsc, hscm⟩ := O3.out.rd.capN n HN.out.symm
  have hcm' : sc ≤ 9223372036854775807 := hscm
  clear hscm
  have HR := Lib.hid (O3.out.rd.pre3 m (by rw [← HN.out]; exact hmn))
  have HLO := Lib.hid (show ∀ k, (Value.slice sa m m).ownBlock = some k → l.take m ≠ [] → w1.heap.size ≤ k from fun k hk _ => (O3.out.lt k (by cases sa with | none => exact absurd hk (by simp [Value.ownBlock]) | some b => exact hk)).1)
  clear O3
  have hn0 : (n : Int) ≤ 100000 := by omega
  have HR2 := Lib.hid (show ∀ b x y, b = w.heap.size + 1 → Rd ((w3.setCell ⟨b, 0, none⟩ x).setCell ⟨b, 1, none⟩ y) (.slice sa m m) (l.take m) from fun b x y hb => by
    refine (HR.out.ofHeapS (fun k hk hne => ?_))
    have h4 := HLO.out k hk hne
    have := HZ.out
    exact (heapSet_ne 1 _ (by omega)).trans (heapSet_ne 0 _ (by omega)))
  by_cases hlt : (n : Int) - s < k
  · obtain rfl : m = n := by have := HM.out; omega
    have hms : s + ((m : Int) - s) = (m : Int) := by omega
    go_wp2_with fail
    have z5 := heapSet (o := 1) (heapSet (o := 0) HY3.out (.slice sa m m)) (.int .i64 (m : Int))
    have b5 : Below w.heap.size w ((w3.setCell ⟨w.heap.size + 1, 0, none⟩ (.slice sa m m)).setCell ⟨w.heap.size + 1, 1, none⟩ (.int .i64 (m : Int))) := ((HB0.out.trans (B3.out.mono HB0.out.size)).setCell (by show w.heap.size ≤ w.heap.size + 1; omega) _).setCell (by show w.heap.size ≤ w.heap.size + 1; omega) _
    have r5 : Rd ((w3.setCell ⟨w.heap.size + 1, 0, none⟩ (.slice sa m m)).setCell ⟨w.heap.size + 1, 1, none⟩ (.int .i64 (m : Int))) (.slice sa m m) (l.take m) := HR2.out _ _ _ rfl
    generalize hW : World.setCell _ _ _ = wZ at z5 b5 r5 ⊢
    have hl := run_loadVar_mid (P := Tryd.prog) wZ (w.heap.size + 1) 0 27 [.slice sa m m, .int .i64 m] _ (range_of z5) Tryd.underlying27 rfl tapeSz
    exact bodyPost_ret (v := .tuple #[.agg #[.slice sa m m, .int .i64 m], .int .i64 0]) (results_ct Tryd.results17 rfl hl) rfl ⟨_, rfl, r5, b5⟩
  · have hms : s + k = (m : Int) := by have := HM.out; omega
    go_wp2_with fail
    have z5 := heapSet (o := 1) (heapSet (o := 0) HY3.out (.slice sa m m)) (.int .i64 (m : Int))
    have b5 : Below w.heap.size w ((w3.setCell ⟨w.heap.size + 1, 0, none⟩ (.slice sa m m)).setCell ⟨w.heap.size + 1, 1, none⟩ (.int .i64 (m : Int))) := ((HB0.out.trans (B3.out.mono HB0.out.size)).setCell (by show w.heap.size ≤ w.heap.size + 1; omega) _).setCell (by show w.heap.size ≤ w.heap.size + 1; omega) _
    have r5 : Rd ((w3.setCell ⟨w.heap.size + 1, 0, none⟩ (.slice sa m m)).setCell ⟨w.heap.size + 1, 1, none⟩ (.int .i64 (m : Int))) (.slice sa m m) (l.take m) := HR2.out _ _ _ rfl
    generalize hW : World.setCell _ _ _ = wZ at z5 b5 r5 ⊢
    have hl := run_loadVar_mid (P := Tryd.prog) wZ (w.heap.size + 1) 0 27 [.slice sa m m, .int .i64 m] _ (range_of z5) Tryd.underlying27 rfl tapeSz
    exact bodyPost_ret (v := .tuple #[.agg #[.slice sa m m, .int .i64 m], .int .i64 0]) (results_ct Tryd.results17 rfl hl) rfl ⟨_, rfl, r5, b5⟩
end Go.Proofs.YtdkbajdnckmckaaDoor
