/-
  The walk of lines.Show: acts that may be, line by line.
-/
import Derived.Test.YtcbmmkhbfookjaaDoorLnL
import Derived.Test.YtcbmmkhbfookjaaDoorRwV
set_option linter.unusedVariables false
set_option linter.unusedSimpArgs false
namespace Go.Con
open Go
/-- an act in a row -/
structure Acx where
  k : Int
  n : Int
  a : Int
  p : Int
  dv : Value
  d : List UInt8
def Acx.zero : Acx := ⟨0, 0, 0, 0, .slice none 0 0, []⟩
def acxCells (x : Acx) : List Value := [.int .i64 x.k, .int .i64 x.n, .int .i64 x.a, .int .i64 x.p, x.dv]
/-- an act that may be -/
structure Acx.Ok (x : Acx) : Prop where
  k1 : 1 ≤ x.k
  k9 : x.k ≤ 9
  code : actCode x.k x.n x.a x.p x.d.length = 0
def Acx.line (x : Acx) : List UInt8 := lineL x.k [x.k, x.n, x.a, x.p] x.d
/-- the lines of acts -/
def linesX (l : List Acx) : List UInt8 := l.flatMap Acx.line
theorem Acx.Ok.fit {x : Acx} (h : x.Ok) : (0 ≤ x.n ∧ x.n ≤ 1048576) ∧ (0 ≤ x.a ∧ x.a ≤ 1048576) ∧ (0 ≤ x.p ∧ x.p ≤ 1048576) ∧ x.d.length ≤ 2000 := by
  obtain ⟨h1, h9, hc⟩ := h
  obtain ⟨k, n, a, p, dv, d⟩ := x
  dsimp only at *
  have hk : k = 1 ∨ k = 2 ∨ k = 3 ∨ k = 4 ∨ k = 5 ∨ k = 6 ∨ k = 7 ∨ k = 8 ∨ k = 9 := by omega
  rcases hk with rfl | rfl | rfl | rfl | rfl | rfl | rfl | rfl | rfl
  all_goals
    unfold actCode at hc
    split at hc
    · cases hc
    split at hc
    · cases hc
    split at hc
    · cases hc
    rename_i g1 g2 g3
    simp [slotsOf, slotBad, zeros] at g1 g3
    omega
theorem Acx.Ok.ints {x : Acx} (h : x.Ok) : ∀ y ∈ [x.k, x.n, x.a, x.p], -9223372036854775808 ≤ y ∧ y ≤ 9223372036854775807 := by
  have h1 := h.fit
  have h2 := h.k1
  have h3 := h.k9
  intro y hy
  simp at hy
  rcases hy with rfl | rfl | rfl | rfl <;> omega
theorem linesX_take {l : List Acx} {j : Nat} (hj : j < l.length) : linesX (l.take (j + 1)) = linesX (l.take j) ++ (l.getD j Acx.zero).line := by
  unfold linesX
  rw [List.take_add_one, List.getElem?_eq_getElem hj, List.flatMap_append, List.getD_eq_getElem?_getD, List.getElem?_eq_getElem hj]; simp
end Go.Con
namespace Go.Proofs.YtcbmmkhbfookjaaDoor
open Go.RowKit Go.Con
theorem okx_len {x : Acx} (h : x.Ok) : x.line.length ≤ 5000 := by
  have h1 := numsL_len [x.k, x.n, x.a, x.p] h.ints (slotsOf x.k)
  have h2 := (slotsOf_ok x.k).1
  have h3 := h.fit.2.2.2
  have hw : (wordsL.getD x.k.toNat []).length ≤ 6 := by
    have h4 := h.k1
    have h5 := h.k9
    obtain ⟨K, hK⟩ : ∃ K : Nat, x.k = K := ⟨x.k.toNat, by omega⟩
    rw [hK, Int.toNat_natCast]
    have h10 : K = 0 ∨ K = 1 ∨ K = 2 ∨ K = 3 ∨ K = 4 ∨ K = 5 ∨ K = 6 ∨ K = 7 ∨ K = 8 ∨ K = 9 := by omega
    rcases h10 with rfl | rfl | rfl | rfl | rfl | rfl | rfl | rfl | rfl | rfl <;> decide
  unfold Acx.line lineL
  rw [List.length_append, List.length_append, List.length_append]
  have h6 : (if x.k = 1 then 32 :: x.d.flatMap hex2 else []).length ≤ 4001 := by
    split
    · rw [List.length_cons, hex2_len]; omega
    · simp
  simp only [List.length_singleton]
  omega
theorem linesX_len {l : List Acx} (h : ∀ x ∈ l, x.Ok) : (linesX l).length ≤ 5000 * l.length := by
  induction l with
  | nil => simp [linesX]
  | cons x l ih =>
    have h1 := okx_len (h x (List.mem_cons_self ..))
    have h2 := ih (fun y hy => h y (List.mem_cons_of_mem _ hy))
    unfold linesX at h2 ⊢
    rw [List.flatMap_cons, List.length_append, List.length_cons]
    omega
theorem LnV.stay {w w' : World} (h : LnV w) (hb : Below w.heap.size w w') : LnV w' :=
  ⟨fun i hi => (World.cell?_of_block (w := w) (hb.block _ (World.block_lt_of_cell? w _ (h.words i hi)))).trans (h.words i hi), Lib.tabBelow_of_tabIs h.pow w' hb⟩
/-- a row of acts that is shown -/
def RdActs (w : World) (v : Value) (l : List Acx) : Prop := RdRow 5 acxCells Acx.zero w v l ∧ ∀ x ∈ l, Rd w x.dv x.d
theorem RdActs.stay {w w' : World} {v : Value} {l : List Acx} (h : RdActs w v l) (hb : Below w.heap.size w w') : RdActs w' v l := ⟨h.1.stay hb, fun x hx => (h.2 x hx).stay hb⟩
set_option maxRecDepth 100000 in
set_option maxHeartbeats 4000000 in
theorem Show_any (v : Value) (l : List Acx) (w : World) (hv : RdActs w v l) (hok : ∀ x ∈ l, x.Ok) (hl : l.length ≤ 100000) (hw : LnV w) :
    Calls Tryd.prog 7 #[v] w fun e w' => e = .returned (.tuple #[.string ⟨(linesX l).toArray⟩, .int .i64 0, .int .i64 0]) ∧ Below w.heap.size w w' := by
  obtain ⟨ea, ec, rfl, hle, hcm, hcells⟩ := id hv.1
  obtain ⟨n, hn⟩ : ∃ n, n = l.length := ⟨_, rfl⟩
  rw [← hn] at hle hcells hl ⊢
  have hcm2 : ec ≤ 9223372036854775807 := hcm
  have HN := Lib.hid hn
  have HCELLS := Lib.hid hcells
  have HRD := Lib.hid hv.2
  have HOK := Lib.hid hok
  have HV := Lib.hid hw
  have hd0 : decide ((100000 : Int) < n) = false := by rw [decide_eq_false_iff_not]; omega
  have hd0n : decide (100000 < n) = false := by rw [decide_eq_false_iff_not]; omega
  clear hn hcells hv hok hw hcm
  go_enter Tryd.func7, Tryd.ntmps7
  go_upto_region 4 with fail
  generalize hW : World.alloc _ _ = w1
  obtain ⟨b, hb⟩ : ∃ x, x = w.heap.size := ⟨_, rfl⟩
  have B1 := Lib.hid (show Below b w w1 by rw [← hW, hb]; exact (Below.refl _ _).alloc (Nat.le_refl _) _)
  have inv0 : Hid (BldW w1 w1 b (linesX (l.take 0))) := Lib.hid ⟨by
    have h1 := Lib.IsBuilderF.of (Lib.fresh_isBuilder 44 5 w)
    rw [hW, ← hb] at h1
    exact h1, Below.refl _ _⟩
  rw [← hb]
  have HB := Lib.hid hb
  clear hW hb
  go_upto_region 5 with fail
  go_loopw [14] (fun i wr => ∃ j : Nat, j ≤ n ∧ i = .int .i64 j ∧ Hid (BldW w1 wr b (linesX (l.take j)))) (fun i _ => n - (intOf i).toNat)
  case atStart => exact ⟨0, by omega, rfl, inv0⟩
  case round =>
    clear inv0
    obtain ⟨j, hjn, rfl, HI⟩ := hrel
    by_cases hj : j < n
    · have hd1 : decide ((j : Int) < n) = true := by rw [decide_eq_true_eq]; omega
      have hd1n : decide (j < n) = true := by rw [decide_eq_true_eq]; omega
      have hjl : j < l.length := by rw [← HN.out]; exact hj
      obtain ⟨eb, eoff, rfl, hebl, hc⟩ := HCELLS.out (by intro h; rw [h] at hjl; cases hjl)
      obtain ⟨x, hx⟩ : ∃ x, x = l.getD j Acx.zero := ⟨_, rfl⟩
      have hxm : x ∈ l := by rw [hx, List.getD_eq_getElem?_getD, List.getElem?_eq_getElem hjl]; exact List.getElem_mem _
      have BWR := Lib.hid (show Below w.heap.size w wr by rw [← HB.out]; exact B1.out.trans HI.out.below)
      have hcr : ∀ q, q < 5 → wr.cell? ⟨eb, eoff + (5 * j + q), none⟩ = (acxCells x)[q]? := fun q hq => by
        have h2 := hc j (by omega) q hq
        rw [← hx] at h2
        rw [← h2]
        exact World.cell?_of_block (w := w) (BWR.out.block eb hebl)
      have OKX := Lib.hid (HOK.out x hxm)
      have RDX := Lib.hid ((HRD.out x hxm).stay BWR.out)
      have VW := Lib.hid (HV.out.stay BWR.out)
      have ELN := Lib.hid (show linesX (l.take j) ++ x.line = linesX (l.take (j + 1)) by rw [linesX_take hjl, ← hx])
      have LEN := Lib.hid (show (linesX (l.take j)).length + x.line.length ≤ 140737488355328 by
        have h1 := linesX_len (l := l.take j) (fun y hy => HOK.out y (List.mem_of_mem_take hy))
        have h2 := okx_len OKX.out
        rw [List.length_take] at h1
        omega)
      obtain ⟨xk, xn, xa, xp, xdv, xd⟩ := x
      obtain ⟨da, dc, hdv, -, -⟩ := RDX.out.slice
      dsimp only at hdv
      subst hdv
      have x0 : wr.cell? ⟨eb, eoff + j * 5, none⟩ = some (.int .i64 xk) := by rw [show eoff + j * 5 = eoff + (5 * j + 0) by omega]; exact hcr 0 (by decide)
      have x1 : wr.cell? ⟨eb, eoff + j * 5 + 1, none⟩ = some (.int .i64 xn) := by rw [show eoff + j * 5 + 1 = eoff + (5 * j + 1) by omega]; exact hcr 1 (by decide)
      have x2 : wr.cell? ⟨eb, eoff + j * 5 + 2, none⟩ = some (.int .i64 xa) := by rw [show eoff + j * 5 + 2 = eoff + (5 * j + 2) by omega]; exact hcr 2 (by decide)
      have x3 : wr.cell? ⟨eb, eoff + j * 5 + 3, none⟩ = some (.int .i64 xp) := by rw [show eoff + j * 5 + 3 = eoff + (5 * j + 3) by omega]; exact hcr 3 (by decide)
      have x4 : wr.cell? ⟨eb, eoff + j * 5 + 4, none⟩ = some (.slice da xd.length dc) := by rw [show eoff + j * 5 + 4 = eoff + (5 * j + 4) by omega]; exact hcr 4 (by decide)
      obtain ⟨nd, hnd⟩ : ∃ q, q = xd.length := ⟨_, rfl⟩
      rw [← hnd] at x4
      have HND := Lib.hid hnd
      have CHK : Hid (∀ W, Below wr.heap.size wr W → Calls Tryd.prog 12 #[.agg #[.int .i64 xk, .int .i64 xn, .int .i64 xa, .int .i64 xp, .slice da nd dc]] W fun e w' => e = .returned (.int .i64 0) ∧ Below W.heap.size W w') := Lib.hid fun W hW => by
        have h1 := LCheck_any xk xn xa xp _ xd W OKX.out.k1 OKX.out.k9 (RDX.out.stay hW)
        rw [show actCode xk xn xa xp xd.length = 0 from OKX.out.code] at h1
        rw [HND.out]
        exact h1
      have LIN : Hid (∀ W, Below wr.heap.size wr W → Calls Tryd.prog 14 #[.agg #[.int .i64 xk, .int .i64 xn, .int .i64 xa, .int .i64 xp, .slice da nd dc]] W fun e w' => e = .returned (.string ⟨(lineL xk [xk, xn, xa, xp] xd).toArray⟩) ∧ Below W.heap.size W w') := Lib.hid fun W hW => by
        have h1 := line_any xk xn xa xp _ xd W OKX.out.k1 OKX.out.k9 (RDX.out.stay hW) OKX.out.fit.2.2.2 OKX.out.ints (VW.out.stay hW)
        rw [HND.out]
        exact h1
      clear hcr hx hc hxm hnd
      go_upto_region 7 with fail
      generalize hW : World.alloc _ _ = w3
      have T7 := Lib.hid (show w3.heap[wr.heap.size]? = some (.cells #[.int .i64 xk, .int .i64 xn, .int .i64 xa, .int .i64 xp, .slice da nd dc] 32 (0, 0)) by rw [← hW]; exact heapNew _ _)
      have B3 := Lib.hid (show Below wr.heap.size wr w3 by rw [← hW]; exact (Below.refl _ _).alloc (Nat.le_refl _) _)
      obtain ⟨tb, htb⟩ : ∃ q, q = wr.heap.size := ⟨_, rfl⟩
      have T7' := Lib.hid (show w3.heap[tb]? = some (.cells #[.int .i64 xk, .int .i64 xn, .int .i64 xa, .int .i64 xp, .slice da nd dc] 32 (0, 0)) by rw [htb]; exact T7.out)
      rw [← htb]
      clear hW htb T7 x0 x1 x2 x3 x4
      have t0 := cellAt T7'.out 0 rfl
      have t1 := cellAt T7'.out 1 rfl
      have t2 := cellAt T7'.out 2 rfl
      have t3 := cellAt T7'.out 3 rfl
      have t4 := cellAt T7'.out 4 rfl
      go_upto_region 8 with (go_at_call 12; refine (CHK.out _ B3.out).mono ?_; rintro e w4 ⟨rfl, h1⟩; have B4 := Lib.hid (B3.out.trans (h1.mono B3.out.size)); have T8 := Lib.hid ((h1.block tb (lt_of_heap T7'.out)).trans T7'.out); clear h1)
      clear t0 t1 t2 t3 t4
      have t0 := cellAt T8.out 0 rfl
      have t1 := cellAt T8.out 1 rfl
      have t2 := cellAt T8.out 2 rfl
      have t3 := cellAt T8.out 3 rfl
      have t4 := cellAt T8.out 4 rfl
      go_wp2_with (first
        | (go_at_call 14; refine (LIN.out _ B4.out).mono ?_; rintro e w5 ⟨rfl, h1⟩; have B5 := Lib.hid (B4.out.trans (h1.mono B4.out.size)); clear h1)
        | (go_at_call 13; refine (put_any (HI.out.stay B5.out) _ (by exact LEN.out)).mono ?_; rintro e w6 ⟨rfl, h1, -⟩; have NEW : Hid (BldW w1 w6 b (linesX (l.take (j + 1)))) := Lib.hid (by rw [← ELN.out]; exact h1); clear h1))
      exact ⟨⟨j + 1, by omega, by go_num, NEW⟩, by simp [intOf]; omega⟩
    · have hj2 : j = n := by omega
      subst hj2
      have hd1 : decide ((j : Int) < j) = false := by simp
      have hd1n : decide (j < j) = false := by simp
      have WF := Lib.hid (show BldW w1 wr b (linesX l) by
        have h1 := HI.out
        rw [HN.out, List.take_length] at h1
        exact h1)
      clear HI
      go_wp2_with (go_at_call 15; refine (Tryd.Builder_String_any_k b b _ _ WF.out.bld (by have := WF.out.bld.lt; omega)).mono ?_; rintro e w7 ⟨rfl, -, h1, -⟩; have B7 := Lib.hid h1; clear h1)
      have FIN := Lib.hid (show Below w.heap.size w w7 by rw [← HB.out]; exact (B1.out.trans WF.out.below).trans B7.out)
      refine bodyPost_ret (v := .tuple #[.string ⟨(linesX l).toArray⟩, .int .i64 0, .int .i64 0]) ?_ rfl ⟨rfl, FIN.out⟩
      simp [results, Tryd.results7, go_sem]
end Go.Proofs.YtcbmmkhbfookjaaDoor
