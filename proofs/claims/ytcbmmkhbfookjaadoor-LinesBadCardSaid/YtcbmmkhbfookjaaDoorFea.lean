/-
  The walk of conclavekeep.feats: acts of raw numbers, one by one.
-/
import Derived.Test.YtcbmmkhbfookjaaDoorAcR
set_option linter.unusedVariables false
set_option linter.unusedSimpArgs false
namespace Go.Con
open Go
theorem actOk_ok {k n a p : Int} {d : List UInt8} (h : ActOk k n a p d) (dv : Value) : (⟨k, n, a, p, dv, d⟩ : Acx).Ok := by
  refine ⟨?_, ?_, ?_⟩
  · unfold ActOk at h; show 1 ≤ k; omega
  · unfold ActOk at h; show k ≤ 9; omega
  · show actCode k n a p d.length = 0
    rcases h with ⟨rfl, h1, h2, rfl, rfl, h3⟩ | ⟨hk, h1, h2, rfl, rfl, rfl⟩ | ⟨hk, rfl, h1, h2, rfl, rfl⟩ | ⟨rfl, rfl, rfl, rfl, rfl⟩ | ⟨rfl, h1, h2, rfl, h3, h4, rfl⟩
    · unfold actCode; simp [slotsOf, slotBad, zeros]; omega
    · rcases hk with rfl | rfl | rfl <;> (unfold actCode; simp [slotsOf, slotBad, zeros]; omega)
    · rcases hk with rfl | rfl | rfl <;> (unfold actCode; simp [slotsOf, slotBad, zeros]; omega)
    · unfold actCode; simp [slotsOf, zeros]
    · unfold actCode; simp [slotsOf, slotBad, zeros]; omega
end Go.Con
namespace Go.Proofs.YtcbmmkhbfookjaaDoor
open Go.RowKit Go.Con
/-- a slice that shows feats -/
def RdFeats (w : World) (v : Value) (l : List FeatX) : Prop :=
  ∃ a c, v = .slice a l.length c ∧ l.length ≤ c ∧ c ≤ maxLen ∧ (l ≠ [] → ∃ b off, a = some ⟨b, off, none⟩ ∧ b < w.heap.size ∧ ∀ i (hi : i < l.length), ∃ dv, w.cell? ⟨b, off + i * 4, none⟩ = some (.int .i64 l[i].kind) ∧ w.cell? ⟨b, off + i * 4 + 1, none⟩ = some (.int .i64 l[i].a) ∧ w.cell? ⟨b, off + i * 4 + 2, none⟩ = some (.int .i64 l[i].b) ∧ w.cell? ⟨b, off + i * 4 + 3, none⟩ = some dv ∧
    Con.Int64 l[i].kind ∧ Con.Int64 l[i].a ∧ Con.Int64 l[i].b ∧ Rd w dv l[i].data)
set_option maxRecDepth 100000 in
set_option maxHeartbeats 4000000 in
theorem feats_any (v : Value) (l : List FeatX) (most : Nat) (w : World) (hv : RdFeats w v l) (hm : most ≤ 1000) :
    Calls Tryd.prog 6 #[v, .int .i64 most] w fun e w' => ∃ v' xs, e = .returned v' ∧ AllX w' w.heap.size v' xs ∧ xs.length = min l.length most ∧ Below w.heap.size w w' := by
  obtain ⟨ea, ec, rfl, hle, hcm, hcells⟩ := hv
  obtain ⟨n, hn⟩ : ∃ n, n = l.length := ⟨_, rfl⟩
  rw [← hn] at hle ⊢
  have hcm2 : ec ≤ 9223372036854775807 := hcm
  have HN := Lib.hid hn
  have HCELLS := Lib.hid hcells
  obtain ⟨m, hmm⟩ : ∃ m, m = min n most := ⟨_, rfl⟩
  have hmn : m ≤ n := by omega
  have hmo : m ≤ most := by omega
  have HM := Lib.hid hmm
  clear hn hcells hmm hcm
  go_enter Tryd.func6, Tryd.ntmps6
  go_upto_region 3 with fail
  have inv0 : Hid (∃ xs, AllX w w.heap.size (.slice none 0 0) xs ∧ xs.length = 0 ∧ Below w.heap.size w w) := Lib.hid ⟨[], AllX.nil _ _, rfl, Below.refl _ _⟩
  go_loopw [5, 6] (fun v i wr => ∃ q : Nat, q ≤ m ∧ i = .int .i64 q ∧ Hid (∃ xs, AllX wr w.heap.size v xs ∧ xs.length = q ∧ Below w.heap.size w wr)) (fun _ i _ => m - (intOf i).toNat)
  case atStart => exact ⟨0, by omega, rfl, inv0⟩
  case round =>
    clear inv0
    obtain ⟨q, hqm, rfl, HI⟩ := hrel
    by_cases h1 : q < m
    · have hd1 : decide ((q : Int) < n) = true := by rw [decide_eq_true_eq]; omega
      have hd1n : decide (q < n) = true := by rw [decide_eq_true_eq]; omega
      have hd2 : decide ((q : Int) < most) = true := by rw [decide_eq_true_eq]; omega
      have hd2n : decide (q < most) = true := by rw [decide_eq_true_eq]; omega
      have hqn : q < n := by omega
      have hql : q < l.length := by rw [← HN.out]; exact hqn
      obtain ⟨eb, eoff, rfl, hebl, hc⟩ := HCELLS.out (by intro h; rw [h] at hql; cases hql)
      obtain ⟨dv, c0, c1, c2, c3, i0, i1, i2, hrd⟩ := hc q hql
      obtain ⟨xs, hall, hxl, hbel⟩ := HI.out
      have ALL := Lib.hid hall
      have BEL := Lib.hid hbel
      have hcr : ∀ o, wr.cell? ⟨eb, o, none⟩ = w.cell? ⟨eb, o, none⟩ := fun o => World.cell?_of_block (w := w) (hbel.block eb hebl)
      obtain ⟨x, hx⟩ : ∃ x, x = l[q] := ⟨_, rfl⟩
      rw [← hx] at c0 c1 c2 i0 i1 i2 hrd
      obtain ⟨da, dc, hdv, -, -⟩ := hrd.slice
      subst hdv
      have ISF := Lib.hid (show IsFeat wr (.agg #[.int .i64 x.kind, .int .i64 x.a, .int .i64 x.b, .slice da x.data.length dc]) x from ⟨_, rfl, i0, i1, i2, hrd.stay hbel⟩)
      have x0 := (hcr _).trans c0
      have x1 := (hcr _).trans c1
      have x2 := (hcr _).trans c2
      have x3 := (hcr _).trans c3
      have HXL := Lib.hid hxl
      have hbs := hbel.size
      clear hcr hx c0 c1 c2 c3 hrd hall hbel hc i0 i1 i2 hxl
      go_upto_region 6 with (go_at_call 11; refine (Act_own x _ _ ISF.out).mono ?_; rintro e w3 ⟨K, N, A, P, bv, d, rfl, g1, g2, g3⟩; obtain ⟨ba, bc, hbv, -, -⟩ := g2.rd.slice; subst hbv; have OKX := Lib.hid (actOk_ok g1 (.slice ba d.length bc)); have OX := Lib.hid g2; have B3 := Lib.hid g3; clear g1 g2 g3)
      generalize hW : World.alloc _ _ = w4
      have T7 := Lib.hid (show w4.heap[w3.heap.size]? = some (.cells #[.int .i64 K, .int .i64 N, .int .i64 A, .int .i64 P, .slice ba d.length bc] 32 (0, 0)) by rw [← hW]; exact heapNew _ _)
      have B4 := Lib.hid (show Below wr.heap.size wr w4 by rw [← hW]; exact B3.out.alloc B3.out.size _)
      have O4 := Lib.hid (show Own w4 w.heap.size (.slice ba d.length bc) d by rw [← hW]; exact (OX.out.alloc _).mono hbs)
      clear hW x0 x1 x2 x3
      have t0 := cellAt T7.out 0 rfl
      have t1 := cellAt T7.out 1 rfl
      have t2 := cellAt T7.out 2 rfl
      have t3 := cellAt T7.out 3 rfl
      have t4 := cellAt T7.out 4 rfl
      have A4 := Lib.hid (ALL.out.stay B4.out)
      have hs4 := B4.out.size
      go_wp2_with (at_builtin; refine apX rfl (.tmp 24) (.tmp 26) rfl w.heap.size _ xs ⟨K, N, A, P, .slice ba d.length bc, d⟩ w4.heap.size rfl (World.ownsRow.alloc A4.out.own _) rfl (heapNew _ _) rfl (by rw [HXL.out]; omega) (by simp; omega) ?_; intro v' w5 ho hg hat; have NEW : Hid (∃ xs, AllX w5 w.heap.size v' xs ∧ xs.length = q + 1 ∧ Below w.heap.size w w5) := Lib.hid ⟨_, (A4.out.stay ((Below.refl _ _).alloc (Nat.le_refl _) _)).grown ho hg (O4.out.alloc _) OKX.out, by rw [List.length_append, HXL.out]; rfl, ((BEL.out.trans (B4.out.mono hbs)).alloc (by omega) _).grown hg (by simp; omega) (fun k hk => (row_lt A4.out.own k hk).1)⟩; clear ho hg hat)
      exact ⟨⟨q + 1, by omega, by go_num, NEW⟩, by simp [intOf]; omega⟩
    · have hq2 : q = m := by omega
      have hex : (decide (q < n) = false ∧ decide ((q : Int) < n) = false) ∨ (decide (q < n) = true ∧ decide ((q : Int) < n) = true ∧ decide (q < most) = false ∧ decide ((q : Int) < most) = false) := by
        have := HM.out
        simp only [decide_eq_true_eq, decide_eq_false_iff_not]
        omega
      obtain ⟨xs, hall, hxl, hbel⟩ := HI.out
      have FIN : Hid (∃ xs, AllX wr w.heap.size _ xs ∧ xs.length = min n most ∧ Below w.heap.size w wr) := Lib.hid ⟨xs, hall, by rw [hxl, hq2]; exact HM.out, hbel⟩
      clear hall hxl hbel hq2 HI
      rcases hex with ⟨he1, he2⟩ | ⟨he1, he2, he3, he4⟩
      all_goals
        go_wp2_with fail
        go_ret
        obtain ⟨xs, f1, f2, f3⟩ := FIN.out
        exact ⟨_, xs, rfl, f1, f2, f3⟩
end Go.Proofs.YtcbmmkhbfookjaaDoor
