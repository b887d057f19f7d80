/-
  The walk of paxos.Check: may an acceptor be?
-/
import Derived.Test.YtdkbajdnckmckaaRwV
set_option linter.unusedVariables false
set_option linter.unusedSimpArgs false
namespace Go.Con
open Go
/-- votes that may be: their slots rise, and none is above the promise -/
def okVs (p : Int × Int) : Int → List Vot → Bool
  | _, [] => true
  | last, v :: l => okV v && decide (last < v.slot) && decide (cmpB v.bal p ≤ 0) && okVs p v.slot l
/-- may an acceptor be? -/
def okA (p : Int × Int) (l : List Vot) : Bool := (decide (p = (0, 0)) || okB p) && okVs p (-1) l
/-- the last slot of votes -/
def lastSlot (l : List Vot) : Int := match l.getLast? with | some v => v.slot | none => -1
theorem lastSlot_snoc (l : List Vot) (v : Vot) : lastSlot (l ++ [v]) = v.slot := by simp [lastSlot]
theorem okVs_append (p : Int × Int) (last : Int) (l m : List Vot) : okVs p last (l ++ m) = (okVs p last l && okVs p ((match l.getLast? with | some v => v.slot | none => last)) m) := by
  induction l generalizing last with
  | nil => rfl
  | cons v l ih =>
    show (okV v && decide (last < v.slot) && decide (cmpB v.bal p ≤ 0) && okVs p v.slot (l ++ m)) = _
    rw [ih]
    have e : (match (v :: l).getLast? with | some v => v.slot | none => last) = (match l.getLast? with | some v => v.slot | none => v.slot) := by
      cases l with
      | nil => rfl
      | cons a b => rw [List.getLast?_cons_cons, List.getLast?_cons]
    rw [e]
    show _ = ((okV v && decide (last < v.slot) && decide (cmpB v.bal p ≤ 0) && okVs p v.slot l) && _)
    simp [Bool.and_assoc]
theorem okVs_snoc (p : Int × Int) (l : List Vot) (v : Vot) : okVs p (-1) (l ++ [v]) = (okVs p (-1) l && (okV v && decide (lastSlot l < v.slot) && decide (cmpB v.bal p ≤ 0))) := by
  rw [okVs_append]
  show (_ && (okV v && decide (_ < v.slot) && decide (cmpB v.bal p ≤ 0) && true)) = _
  rw [Bool.and_true]; rfl
end Go.Con
namespace Go.Proofs.Ytdkbajdnckmckaa
open Go.RowKit Go.Con
/-- an acceptor's value -/
def accV (p : Int × Int) (v : Value) : Value := .agg #[.int .i64 p.1, .int .i64 p.2, v]
theorem vote_to (sl r n k cl sq nm vl : Int) (c : Bool) (w : World) (h : Hid (okV ⟨sl, (r, n), ⟨k, cl, sq, nm, vl⟩⟩ = c)) :
    Calls Try.prog 20 #[.agg #[.int .i64 sl, .int .i64 r, .int .i64 n, .int .i64 k, .int .i64 cl, .int .i64 sq, .int .i64 nm, .int .i64 vl]] w fun e w' => e = .returned (.bool c) ∧ Below w.heap.size w w' := by
  rw [← h.out]; exact vote_any ⟨sl, (r, n), ⟨k, cl, sq, nm, vl⟩⟩ w
theorem cellsV {w : World} {b off i : Nat} {x : Vot} (h : ∀ j, j < 8 → w.cell? ⟨b, off + (8 * i + j), none⟩ = (votCells x)[j]?) :
    w.cell? ⟨b, off + i * 8, none⟩ = some (.int .i64 x.slot) ∧ w.cell? ⟨b, off + i * 8 + 1, none⟩ = some (.int .i64 x.bal.1) ∧ w.cell? ⟨b, off + i * 8 + 2, none⟩ = some (.int .i64 x.bal.2) ∧ w.cell? ⟨b, off + i * 8 + 3, none⟩ = some (.int .i64 x.what.kind) ∧ w.cell? ⟨b, off + i * 8 + 4, none⟩ = some (.int .i64 x.what.client) ∧
    w.cell? ⟨b, off + i * 8 + 5, none⟩ = some (.int .i64 x.what.seq) ∧ w.cell? ⟨b, off + i * 8 + 6, none⟩ = some (.int .i64 x.what.name) ∧ w.cell? ⟨b, off + i * 8 + 7, none⟩ = some (.int .i64 x.what.value) := by
  have e : ∀ j, off + i * 8 + j = off + (8 * i + j) := fun j => by omega
  refine ⟨?_, ?_, ?_, ?_, ?_, ?_, ?_, ?_⟩
  · rw [show off + i * 8 = off + (8 * i + 0) by omega]; exact h 0 (by decide)
  · rw [e]; exact h 1 (by decide)
  · rw [e]; exact h 2 (by decide)
  · rw [e]; exact h 3 (by decide)
  · rw [e]; exact h 4 (by decide)
  · rw [e]; exact h 5 (by decide)
  · rw [e]; exact h 6 (by decide)
  · rw [e]; exact h 7 (by decide)
set_option maxRecDepth 100000 in
set_option maxHeartbeats 2000000 in
theorem accCheck_any (p : Int × Int) (v : Value) (l : List Vot) (w : World) (hv : RdV w v l) :
    Calls Try.prog 12 #[accV p v] w fun e w' => e = .returned (.int .i64 (if okA p l then 0 else 5)) ∧ Below w.heap.size w w' := by
  obtain ⟨pr, pn⟩ := p
  obtain ⟨ea, ec, rfl, hle, hcm, -⟩ := id hv
  obtain ⟨n, hn⟩ : ∃ n, n = l.length := ⟨_, rfl⟩
  rw [← hn] at hv hle ⊢
  have hcm2 : ec ≤ 9223372036854775807 := hcm
  show Calls Try.prog 12 #[.agg #[.int .i64 pr, .int .i64 pn, .slice ea n ec]] w _
  obtain ⟨r, hr⟩ : ∃ r : Int, r = if okA (pr, pn) l then 0 else 5 := ⟨_, rfl⟩
  rw [← hr]
  have HR := Lib.hid hr
  have HV := Lib.hid hv
  have HN := Lib.hid hn
  obtain ⟨b, hb⟩ : ∃ b, b = okB (pr, pn) := ⟨_, rfl⟩
  have HB := Lib.hid hb.symm
  have hbad : (decide ((pr, pn) = ((0, 0) : Int × Int)) || b) = false → r = 5 := by
    intro h; rw [HR.out]; unfold okA; rw [← hb, h]; rfl
  have HBAD := Lib.hid hbad
  clear hr hv hn hb hbad
  -- the promise
  have hp : (pr = 0 ∧ pn = 0) ∨ ((pr == 0) = false ∧ b = true) ∨ (pr = 0 ∧ (pn == 0) = false ∧ b = true) ∨ ((pr == 0) = false ∧ b = false) ∨ (pr = 0 ∧ (pn == 0) = false ∧ b = false) := by
    simp only [beq_eq_false_iff_ne, ne_eq]
    cases b <;> simp <;> omega
  go_enter Try.func12, Try.ntmps12
  rcases hp with ⟨rfl, rfl⟩ | ⟨hp, rfl⟩ | ⟨rfl, hp, rfl⟩ | ⟨hp, rfl⟩ | ⟨rfl, hp, rfl⟩
  · go_upto_region 3 with fail
    generalize hW : World.alloc _ _ = w1
    have hz : w1.heap[w.heap.size]? = some (.cells #[.int .i64 0, .int .i64 0, .slice ea n ec] 39 (0, 0)) := by rw [← hW]; exact heapNew _ _
    have hbw : Below w.heap.size w w1 := by rw [← hW]; exact (Below.refl _ _).alloc (Nat.le_refl _) _
    clear hW
    have HOK : Hid (okA (0, 0) l = okVs (0, 0) (-1) l) := Lib.hid rfl
    have hz1 : Hid (w1.heap[w.heap.size]? = some (.cells #[.int .i64 0, .int .i64 0, .slice ea n ec] 39 (0, 0))) := Lib.hid hz
    have BW := Lib.hid hbw
    have RM : w.heap.size < w1.heap.size := lt_of_heap hz
    have y2 : w1.cell? ⟨w.heap.size, 2, none⟩ = some (.slice ea n ec) := cellAt hz 2 rfl
    clear hz hbw
    go_wp2_with fail
    clear y2
    go_loopw [3, 5, 19] (fun la _ i wr => ∃ j : Nat, j ≤ n ∧ i = .int .i64 j ∧ la = .int .i64 (lastSlot (l.take j)) ∧ Hid (okVs (0, 0) (-1) (l.take j) = true ∧ Below w1.heap.size w1 wr)) (fun _ _ i _ => n - (intOf i).toNat)
    case atStart => exact ⟨0, by omega, rfl, rfl, Lib.hid ⟨rfl, Below.refl _ _⟩⟩
    case round =>
      obtain ⟨j, hjn, rfl, rfl, HI⟩ := hrel
      obtain ⟨la, hla⟩ : ∃ x, x = lastSlot (l.take j) := ⟨_, rfl⟩
      rw [← hla]
      by_cases h1 : j < n
      · have hd1 : decide ((j : Int) < n) = true := by rw [decide_eq_true_eq]; omega
        have hd1n : decide (j < n) = true := by rw [decide_eq_true_eq]; omega
        obtain ⟨eb, eoff, rfl, hel, hec⟩ := HV.out.cells.2.2 j h1
        have hjl : j < l.length := by rw [← HN.out]; exact h1
        obtain ⟨v, hv⟩ : ∃ v, v = l.getD j Vot.zero := ⟨_, rfl⟩
        rw [← hv] at hec
        have htk : l.take (j + 1) = l.take j ++ [v] := by
          rw [List.take_add_one, List.getElem?_eq_getElem hjl, hv, List.getD_eq_getElem?_getD, List.getElem?_eq_getElem hjl]; rfl
        have hsp : ∃ m, l = (l.take j ++ [v]) ++ m := ⟨l.drop (j + 1), by rw [← htk, List.take_append_drop]⟩
        have hkk : okVs (0, 0) (-1) (l.take (j + 1)) = (okV v && decide (la < v.slot) && decide (cmpB v.bal (0, 0) ≤ 0)) := by
          rw [htk, okVs_snoc, HI.out.1, hla, Bool.true_and]
        have hls : lastSlot (l.take (j + 1)) = v.slot := by rw [htk, lastSlot_snoc]
        have hno : (okV v && decide (la < v.slot) && decide (cmpB v.bal (0, 0) ≤ 0)) = false → r = 5 := by
          intro h
          obtain ⟨m, hm⟩ := hsp
          rw [HR.out]
          have : okVs (0, 0) (-1) l = false := by
            rw [hm, okVs_append, ← htk, hkk, h]; rfl
          unfold okA
          rw [this, Bool.and_false]; rfl
        have hecr : ∀ q, q < 8 → wr.cell? ⟨eb, eoff + (8 * j + q), none⟩ = (votCells v)[q]? := fun q hq => by
          rw [← hec q hq]
          exact World.cell?_of_block (w := w) ((BW.out.trans (HI.out.2.mono BW.out.size)).block eb hel)
        obtain ⟨sl, ⟨br, bn⟩, ⟨k, cl, sq, nm, vl⟩⟩ := v
        obtain ⟨x0, x1, x2, x3, x4, x5, x6, x7⟩ := cellsV hecr
        dsimp only at x0 x1 x2 x3 x4 x5 x6 x7 hno hkk hls
        obtain ⟨c1, hc1⟩ : ∃ c, c = okV ⟨sl, (br, bn), ⟨k, cl, sq, nm, vl⟩⟩ := ⟨_, rfl⟩
        obtain ⟨c2, hc2⟩ : ∃ c, c = cmpB (br, bn) (0, 0) := ⟨_, rfl⟩
        rw [← hc1, ← hc2] at hno hkk
        have HC1 := Lib.hid hc1.symm
        have HC2 := Lib.hid hc2.symm
        have HNO := Lib.hid hno
        have HKK := Lib.hid hkk
        have HLS := Lib.hid hls
        have RMr : w.heap.size < wr.heap.size := Nat.lt_of_lt_of_le RM HI.out.2.size
        have hzr := (HI.out.2.block _ RM).trans hz1.out
        have HZR := Lib.hid hzr
        clear hec hecr hv htk hsp hno hkk hls hc1 hc2 hla hzr hjl hel
        have hcase : (c1 = false ∧ r = 5) ∨ (c1 = true ∧ decide (sl ≤ la) = true ∧ r = 5) ∨ (c1 = true ∧ decide (sl ≤ la) = false ∧ decide (0 < c2) = true ∧ r = 5) ∨ (c1 = true ∧ decide (sl ≤ la) = false ∧ decide (0 < c2) = false ∧ okVs (0, 0) (-1) (l.take (j + 1)) = true) := by
          by_cases q1 : c1 = true
          · by_cases q2 : sl ≤ la
            · exact .inr (.inl ⟨q1, by simpa using q2, HNO.out (by rw [show decide (la < sl) = false by rw [decide_eq_false_iff_not]; omega]; simp)⟩)
            · by_cases q3 : 0 < c2
              · exact .inr (.inr (.inl ⟨q1, by simpa using q2, by simpa using q3, HNO.out (by rw [show decide (c2 ≤ 0) = false by rw [decide_eq_false_iff_not]; omega]; simp)⟩))
              · refine .inr (.inr (.inr ⟨q1, by simpa using q2, by simpa using q3, ?_⟩))
                rw [HKK.out, q1]
                simp; omega
          · have q1' : c1 = false := by simpa using q1
            exact .inl ⟨q1', HNO.out (by rw [q1']; rfl)⟩
        rcases hcase with ⟨rfl, rfl⟩ | ⟨rfl, q2, rfl⟩ | ⟨rfl, q2, q3, rfl⟩ | ⟨rfl, q2, q3, q4⟩
        iterate 3
          · go_wp2_with (first
              | (go_at_call 20; refine (vote_to _ _ _ _ _ _ _ _ _ _ (by assumption)).mono ?_; rintro e w2 ⟨rfl, hb2⟩; have B2 := Lib.hid (((Below.refl wr.heap.size wr).alloc (Nat.le_refl _) _).trans (hb2.mono (by simp))); have g5 := (hb2.block wr.heap.size (by simp)).trans (heapNew _ _); have g0 := ((hb2.block w.heap.size (by simp; omega)).trans (heapOld _ _ _ RMr)).trans HZR.out; have u0 := cellAt g5 0 rfl; have u1 := cellAt g5 1 rfl; have u2 := cellAt g5 2 rfl; have p0 := cellAt g0 0 rfl; have p1 := cellAt g0 1 rfl; clear hb2 g5 g0)
              | (go_at_call 21; refine (compare_to _ _ _ _ _ _ (by assumption)).mono ?_; rintro e w3 ⟨rfl, hb3⟩; have B3 := Lib.hid (B2.out.trans (hb3.mono B2.out.size)); clear hb3))
            go_ret
            exact ⟨rfl, (BW.out.trans (HI.out.2.mono BW.out.size)).trans (Below.mono (by first | exact B3.out | exact B2.out) (Nat.le_of_lt RMr))⟩
        · go_wp2_with (first
            | (go_at_call 20; refine (vote_to _ _ _ _ _ _ _ _ _ _ (by assumption)).mono ?_; rintro e w2 ⟨rfl, hb2⟩; have B2 := Lib.hid (((Below.refl wr.heap.size wr).alloc (Nat.le_refl _) _).trans (hb2.mono (by simp))); have g5 := (hb2.block wr.heap.size (by simp)).trans (heapNew _ _); have G5 := Lib.hid g5; have g0 := ((hb2.block w.heap.size (by simp; omega)).trans (heapOld _ _ _ RMr)).trans HZR.out; have u0 := cellAt g5 0 rfl; have u1 := cellAt g5 1 rfl; have u2 := cellAt g5 2 rfl; have p0 := cellAt g0 0 rfl; have p1 := cellAt g0 1 rfl; clear hb2 g5 g0)
            | (go_at_call 21; refine (compare_to _ _ _ _ _ _ (by assumption)).mono ?_; rintro e w3 ⟨rfl, hb3⟩; have B3 := Lib.hid (B2.out.trans (hb3.mono B2.out.size)); have t0 := cellAt ((hb3.block _ (lt_of_heap G5.out)).trans G5.out) 0 rfl; clear hb3))
          go_roundw
          case rel => exact ⟨j + 1, by omega, by go_num, by rw [HLS.out], Lib.hid ⟨q4, HI.out.2.trans (B3.out.mono HI.out.2.size)⟩⟩
          case measure => simp [intOf]; omega
      · have hjn2 : j = n := by omega
        have hd1 : decide ((j : Int) < n) = false := by rw [decide_eq_false_iff_not]; omega
        have hd1n : decide (j < n) = false := by rw [decide_eq_false_iff_not]; omega
        have hr0 : r = 0 := by
          rw [HR.out]
          have h := HI.out.1
          rw [show l.take j = l by rw [hjn2, HN.out, List.take_length]] at h
          rw [HOK.out, h]; rfl
        subst hr0
        clear hjn2 hla
        go_wp2_with fail
        go_ret
        exact ⟨rfl, BW.out.trans (HI.out.2.mono BW.out.size)⟩
  · have HOK : Hid (okA (pr, pn) l = okVs (pr, pn) (-1) l) := Lib.hid (by unfold okA; rw [HB.out, Bool.or_true, Bool.true_and])
    go_upto_region 3 with (go_at_call 22; refine (ballot_to _ _ _ _ (by assumption)).mono ?_; rintro e w1 ⟨rfl, hb1⟩; have hz := (hb1.block w.heap.size (by simp)).trans (heapNew _ _); have hbw := ((Below.refl w.heap.size w).alloc (Nat.le_refl _) (.cells #[.int .i64 pr, .int .i64 pn, .slice ea n ec] 39)).trans (hb1.mono (by simp)); clear hb1)
    clear hp
    have hz1 : Hid (w1.heap[w.heap.size]? = some (.cells #[.int .i64 pr, .int .i64 pn, .slice ea n ec] 39 (0, 0))) := Lib.hid hz
    have BW := Lib.hid hbw
    have RM : w.heap.size < w1.heap.size := lt_of_heap hz
    have y2 : w1.cell? ⟨w.heap.size, 2, none⟩ = some (.slice ea n ec) := cellAt hz 2 rfl
    clear hz hbw
    go_wp2_with fail
    clear y2
    go_loopw [3, 5, 19] (fun la _ i wr => ∃ j : Nat, j ≤ n ∧ i = .int .i64 j ∧ la = .int .i64 (lastSlot (l.take j)) ∧ Hid (okVs (pr, pn) (-1) (l.take j) = true ∧ Below w1.heap.size w1 wr)) (fun _ _ i _ => n - (intOf i).toNat)
    case atStart => exact ⟨0, by omega, rfl, rfl, Lib.hid ⟨rfl, Below.refl _ _⟩⟩
    case round =>
      obtain ⟨j, hjn, rfl, rfl, HI⟩ := hrel
      obtain ⟨la, hla⟩ : ∃ x, x = lastSlot (l.take j) := ⟨_, rfl⟩
      rw [← hla]
      by_cases h1 : j < n
      · have hd1 : decide ((j : Int) < n) = true := by rw [decide_eq_true_eq]; omega
        have hd1n : decide (j < n) = true := by rw [decide_eq_true_eq]; omega
        obtain ⟨eb, eoff, rfl, hel, hec⟩ := HV.out.cells.2.2 j h1
        have hjl : j < l.length := by rw [← HN.out]; exact h1
        obtain ⟨v, hv⟩ : ∃ v, v = l.getD j Vot.zero := ⟨_, rfl⟩
        rw [← hv] at hec
        have htk : l.take (j + 1) = l.take j ++ [v] := by
          rw [List.take_add_one, List.getElem?_eq_getElem hjl, hv, List.getD_eq_getElem?_getD, List.getElem?_eq_getElem hjl]; rfl
        have hsp : ∃ m, l = (l.take j ++ [v]) ++ m := ⟨l.drop (j + 1), by rw [← htk, List.take_append_drop]⟩
        have hkk : okVs (pr, pn) (-1) (l.take (j + 1)) = (okV v && decide (la < v.slot) && decide (cmpB v.bal (pr, pn) ≤ 0)) := by
          rw [htk, okVs_snoc, HI.out.1, hla, Bool.true_and]
        have hls : lastSlot (l.take (j + 1)) = v.slot := by rw [htk, lastSlot_snoc]
        have hno : (okV v && decide (la < v.slot) && decide (cmpB v.bal (pr, pn) ≤ 0)) = false → r = 5 := by
          intro h
          obtain ⟨m, hm⟩ := hsp
          rw [HR.out]
          have : okVs (pr, pn) (-1) l = false := by
            rw [hm, okVs_append, ← htk, hkk, h]; rfl
          unfold okA
          rw [this, Bool.and_false]; rfl
        have hecr : ∀ q, q < 8 → wr.cell? ⟨eb, eoff + (8 * j + q), none⟩ = (votCells v)[q]? := fun q hq => by
          rw [← hec q hq]
          exact World.cell?_of_block (w := w) ((BW.out.trans (HI.out.2.mono BW.out.size)).block eb hel)
        obtain ⟨sl, ⟨br, bn⟩, ⟨k, cl, sq, nm, vl⟩⟩ := v
        obtain ⟨x0, x1, x2, x3, x4, x5, x6, x7⟩ := cellsV hecr
        dsimp only at x0 x1 x2 x3 x4 x5 x6 x7 hno hkk hls
        obtain ⟨c1, hc1⟩ : ∃ c, c = okV ⟨sl, (br, bn), ⟨k, cl, sq, nm, vl⟩⟩ := ⟨_, rfl⟩
        obtain ⟨c2, hc2⟩ : ∃ c, c = cmpB (br, bn) (pr, pn) := ⟨_, rfl⟩
        rw [← hc1, ← hc2] at hno hkk
        have HC1 := Lib.hid hc1.symm
        have HC2 := Lib.hid hc2.symm
        have HNO := Lib.hid hno
        have HKK := Lib.hid hkk
        have HLS := Lib.hid hls
        have RMr : w.heap.size < wr.heap.size := Nat.lt_of_lt_of_le RM HI.out.2.size
        have hzr := (HI.out.2.block _ RM).trans hz1.out
        have HZR := Lib.hid hzr
        clear hec hecr hv htk hsp hno hkk hls hc1 hc2 hla hzr hjl hel
        have hcase : (c1 = false ∧ r = 5) ∨ (c1 = true ∧ decide (sl ≤ la) = true ∧ r = 5) ∨ (c1 = true ∧ decide (sl ≤ la) = false ∧ decide (0 < c2) = true ∧ r = 5) ∨ (c1 = true ∧ decide (sl ≤ la) = false ∧ decide (0 < c2) = false ∧ okVs (pr, pn) (-1) (l.take (j + 1)) = true) := by
          by_cases q1 : c1 = true
          · by_cases q2 : sl ≤ la
            · exact .inr (.inl ⟨q1, by simpa using q2, HNO.out (by rw [show decide (la < sl) = false by rw [decide_eq_false_iff_not]; omega]; simp)⟩)
            · by_cases q3 : 0 < c2
              · exact .inr (.inr (.inl ⟨q1, by simpa using q2, by simpa using q3, HNO.out (by rw [show decide (c2 ≤ 0) = false by rw [decide_eq_false_iff_not]; omega]; simp)⟩))
              · refine .inr (.inr (.inr ⟨q1, by simpa using q2, by simpa using q3, ?_⟩))
                rw [HKK.out, q1]
                simp; omega
          · have q1' : c1 = false := by simpa using q1
            exact .inl ⟨q1', HNO.out (by rw [q1']; rfl)⟩
        rcases hcase with ⟨rfl, rfl⟩ | ⟨rfl, q2, rfl⟩ | ⟨rfl, q2, q3, rfl⟩ | ⟨rfl, q2, q3, q4⟩
        iterate 3
          · go_wp2_with (first
              | (go_at_call 20; refine (vote_to _ _ _ _ _ _ _ _ _ _ (by assumption)).mono ?_; rintro e w2 ⟨rfl, hb2⟩; have B2 := Lib.hid (((Below.refl wr.heap.size wr).alloc (Nat.le_refl _) _).trans (hb2.mono (by simp))); have g5 := (hb2.block wr.heap.size (by simp)).trans (heapNew _ _); have g0 := ((hb2.block w.heap.size (by simp; omega)).trans (heapOld _ _ _ RMr)).trans HZR.out; have u0 := cellAt g5 0 rfl; have u1 := cellAt g5 1 rfl; have u2 := cellAt g5 2 rfl; have p0 := cellAt g0 0 rfl; have p1 := cellAt g0 1 rfl; clear hb2 g5 g0)
              | (go_at_call 21; refine (compare_to _ _ _ _ _ _ (by assumption)).mono ?_; rintro e w3 ⟨rfl, hb3⟩; have B3 := Lib.hid (B2.out.trans (hb3.mono B2.out.size)); clear hb3))
            go_ret
            exact ⟨rfl, (BW.out.trans (HI.out.2.mono BW.out.size)).trans (Below.mono (by first | exact B3.out | exact B2.out) (Nat.le_of_lt RMr))⟩
        · go_wp2_with (first
            | (go_at_call 20; refine (vote_to _ _ _ _ _ _ _ _ _ _ (by assumption)).mono ?_; rintro e w2 ⟨rfl, hb2⟩; have B2 := Lib.hid (((Below.refl wr.heap.size wr).alloc (Nat.le_refl _) _).trans (hb2.mono (by simp))); have g5 := (hb2.block wr.heap.size (by simp)).trans (heapNew _ _); have G5 := Lib.hid g5; have g0 := ((hb2.block w.heap.size (by simp; omega)).trans (heapOld _ _ _ RMr)).trans HZR.out; have u0 := cellAt g5 0 rfl; have u1 := cellAt g5 1 rfl; have u2 := cellAt g5 2 rfl; have p0 := cellAt g0 0 rfl; have p1 := cellAt g0 1 rfl; clear hb2 g5 g0)
            | (go_at_call 21; refine (compare_to _ _ _ _ _ _ (by assumption)).mono ?_; rintro e w3 ⟨rfl, hb3⟩; have B3 := Lib.hid (B2.out.trans (hb3.mono B2.out.size)); have t0 := cellAt ((hb3.block _ (lt_of_heap G5.out)).trans G5.out) 0 rfl; clear hb3))
          go_roundw
          case rel => exact ⟨j + 1, by omega, by go_num, by rw [HLS.out], Lib.hid ⟨q4, HI.out.2.trans (B3.out.mono HI.out.2.size)⟩⟩
          case measure => simp [intOf]; omega
      · have hjn2 : j = n := by omega
        have hd1 : decide ((j : Int) < n) = false := by rw [decide_eq_false_iff_not]; omega
        have hd1n : decide (j < n) = false := by rw [decide_eq_false_iff_not]; omega
        have hr0 : r = 0 := by
          rw [HR.out]
          have h := HI.out.1
          rw [show l.take j = l by rw [hjn2, HN.out, List.take_length]] at h
          rw [HOK.out, h]; rfl
        subst hr0
        clear hjn2 hla
        go_wp2_with fail
        go_ret
        exact ⟨rfl, BW.out.trans (HI.out.2.mono BW.out.size)⟩
  · have HOK : Hid (okA (0, pn) l = okVs (0, pn) (-1) l) := Lib.hid (by unfold okA; rw [HB.out, Bool.or_true, Bool.true_and])
    go_upto_region 3 with (go_at_call 22; refine (ballot_to _ _ _ _ (by assumption)).mono ?_; rintro e w1 ⟨rfl, hb1⟩; have hz := (hb1.block w.heap.size (by simp)).trans (heapNew _ _); have hbw := ((Below.refl w.heap.size w).alloc (Nat.le_refl _) (.cells #[.int .i64 0, .int .i64 pn, .slice ea n ec] 39)).trans (hb1.mono (by simp)); clear hb1)
    clear hp
    have hz1 : Hid (w1.heap[w.heap.size]? = some (.cells #[.int .i64 0, .int .i64 pn, .slice ea n ec] 39 (0, 0))) := Lib.hid hz
    have BW := Lib.hid hbw
    have RM : w.heap.size < w1.heap.size := lt_of_heap hz
    have y2 : w1.cell? ⟨w.heap.size, 2, none⟩ = some (.slice ea n ec) := cellAt hz 2 rfl
    clear hz hbw
    go_wp2_with fail
    clear y2
    go_loopw [3, 5, 19] (fun la _ i wr => ∃ j : Nat, j ≤ n ∧ i = .int .i64 j ∧ la = .int .i64 (lastSlot (l.take j)) ∧ Hid (okVs (0, pn) (-1) (l.take j) = true ∧ Below w1.heap.size w1 wr)) (fun _ _ i _ => n - (intOf i).toNat)
    case atStart => exact ⟨0, by omega, rfl, rfl, Lib.hid ⟨rfl, Below.refl _ _⟩⟩
    case round =>
      obtain ⟨j, hjn, rfl, rfl, HI⟩ := hrel
      obtain ⟨la, hla⟩ : ∃ x, x = lastSlot (l.take j) := ⟨_, rfl⟩
      rw [← hla]
      by_cases h1 : j < n
      · have hd1 : decide ((j : Int) < n) = true := by rw [decide_eq_true_eq]; omega
        have hd1n : decide (j < n) = true := by rw [decide_eq_true_eq]; omega
        obtain ⟨eb, eoff, rfl, hel, hec⟩ := HV.out.cells.2.2 j h1
        have hjl : j < l.length := by rw [← HN.out]; exact h1
        obtain ⟨v, hv⟩ : ∃ v, v = l.getD j Vot.zero := ⟨_, rfl⟩
        rw [← hv] at hec
        have htk : l.take (j + 1) = l.take j ++ [v] := by
          rw [List.take_add_one, List.getElem?_eq_getElem hjl, hv, List.getD_eq_getElem?_getD, List.getElem?_eq_getElem hjl]; rfl
        have hsp : ∃ m, l = (l.take j ++ [v]) ++ m := ⟨l.drop (j + 1), by rw [← htk, List.take_append_drop]⟩
        have hkk : okVs (0, pn) (-1) (l.take (j + 1)) = (okV v && decide (la < v.slot) && decide (cmpB v.bal (0, pn) ≤ 0)) := by
          rw [htk, okVs_snoc, HI.out.1, hla, Bool.true_and]
        have hls : lastSlot (l.take (j + 1)) = v.slot := by rw [htk, lastSlot_snoc]
        have hno : (okV v && decide (la < v.slot) && decide (cmpB v.bal (0, pn) ≤ 0)) = false → r = 5 := by
          intro h
          obtain ⟨m, hm⟩ := hsp
          rw [HR.out]
          have : okVs (0, pn) (-1) l = false := by
            rw [hm, okVs_append, ← htk, hkk, h]; rfl
          unfold okA
          rw [this, Bool.and_false]; rfl
        have hecr : ∀ q, q < 8 → wr.cell? ⟨eb, eoff + (8 * j + q), none⟩ = (votCells v)[q]? := fun q hq => by
          rw [← hec q hq]
          exact World.cell?_of_block (w := w) ((BW.out.trans (HI.out.2.mono BW.out.size)).block eb hel)
        obtain ⟨sl, ⟨br, bn⟩, ⟨k, cl, sq, nm, vl⟩⟩ := v
        obtain ⟨x0, x1, x2, x3, x4, x5, x6, x7⟩ := cellsV hecr
        dsimp only at x0 x1 x2 x3 x4 x5 x6 x7 hno hkk hls
        obtain ⟨c1, hc1⟩ : ∃ c, c = okV ⟨sl, (br, bn), ⟨k, cl, sq, nm, vl⟩⟩ := ⟨_, rfl⟩
        obtain ⟨c2, hc2⟩ : ∃ c, c = cmpB (br, bn) (0, pn) := ⟨_, rfl⟩
        rw [← hc1, ← hc2] at hno hkk
        have HC1 := Lib.hid hc1.symm
        have HC2 := Lib.hid hc2.symm
        have HNO := Lib.hid hno
        have HKK := Lib.hid hkk
        have HLS := Lib.hid hls
        have RMr : w.heap.size < wr.heap.size := Nat.lt_of_lt_of_le RM HI.out.2.size
        have hzr := (HI.out.2.block _ RM).trans hz1.out
        have HZR := Lib.hid hzr
        clear hec hecr hv htk hsp hno hkk hls hc1 hc2 hla hzr hjl hel
        have hcase : (c1 = false ∧ r = 5) ∨ (c1 = true ∧ decide (sl ≤ la) = true ∧ r = 5) ∨ (c1 = true ∧ decide (sl ≤ la) = false ∧ decide (0 < c2) = true ∧ r = 5) ∨ (c1 = true ∧ decide (sl ≤ la) = false ∧ decide (0 < c2) = false ∧ okVs (0, pn) (-1) (l.take (j + 1)) = true) := by
          by_cases q1 : c1 = true
          · by_cases q2 : sl ≤ la
            · exact .inr (.inl ⟨q1, by simpa using q2, HNO.out (by rw [show decide (la < sl) = false by rw [decide_eq_false_iff_not]; omega]; simp)⟩)
            · by_cases q3 : 0 < c2
              · exact .inr (.inr (.inl ⟨q1, by simpa using q2, by simpa using q3, HNO.out (by rw [show decide (c2 ≤ 0) = false by rw [decide_eq_false_iff_not]; omega]; simp)⟩))
              · refine .inr (.inr (.inr ⟨q1, by simpa using q2, by simpa using q3, ?_⟩))
                rw [HKK.out, q1]
                simp; omega
          · have q1' : c1 = false := by simpa using q1
            exact .inl ⟨q1', HNO.out (by rw [q1']; rfl)⟩
        rcases hcase with ⟨rfl, rfl⟩ | ⟨rfl, q2, rfl⟩ | ⟨rfl, q2, q3, rfl⟩ | ⟨rfl, q2, q3, q4⟩
        iterate 3
          · go_wp2_with (first
              | (go_at_call 20; refine (vote_to _ _ _ _ _ _ _ _ _ _ (by assumption)).mono ?_; rintro e w2 ⟨rfl, hb2⟩; have B2 := Lib.hid (((Below.refl wr.heap.size wr).alloc (Nat.le_refl _) _).trans (hb2.mono (by simp))); have g5 := (hb2.block wr.heap.size (by simp)).trans (heapNew _ _); have g0 := ((hb2.block w.heap.size (by simp; omega)).trans (heapOld _ _ _ RMr)).trans HZR.out; have u0 := cellAt g5 0 rfl; have u1 := cellAt g5 1 rfl; have u2 := cellAt g5 2 rfl; have p0 := cellAt g0 0 rfl; have p1 := cellAt g0 1 rfl; clear hb2 g5 g0)
              | (go_at_call 21; refine (compare_to _ _ _ _ _ _ (by assumption)).mono ?_; rintro e w3 ⟨rfl, hb3⟩; have B3 := Lib.hid (B2.out.trans (hb3.mono B2.out.size)); clear hb3))
            go_ret
            exact ⟨rfl, (BW.out.trans (HI.out.2.mono BW.out.size)).trans (Below.mono (by first | exact B3.out | exact B2.out) (Nat.le_of_lt RMr))⟩
        · go_wp2_with (first
            | (go_at_call 20; refine (vote_to _ _ _ _ _ _ _ _ _ _ (by assumption)).mono ?_; rintro e w2 ⟨rfl, hb2⟩; have B2 := Lib.hid (((Below.refl wr.heap.size wr).alloc (Nat.le_refl _) _).trans (hb2.mono (by simp))); have g5 := (hb2.block wr.heap.size (by simp)).trans (heapNew _ _); have G5 := Lib.hid g5; have g0 := ((hb2.block w.heap.size (by simp; omega)).trans (heapOld _ _ _ RMr)).trans HZR.out; have u0 := cellAt g5 0 rfl; have u1 := cellAt g5 1 rfl; have u2 := cellAt g5 2 rfl; have p0 := cellAt g0 0 rfl; have p1 := cellAt g0 1 rfl; clear hb2 g5 g0)
            | (go_at_call 21; refine (compare_to _ _ _ _ _ _ (by assumption)).mono ?_; rintro e w3 ⟨rfl, hb3⟩; have B3 := Lib.hid (B2.out.trans (hb3.mono B2.out.size)); have t0 := cellAt ((hb3.block _ (lt_of_heap G5.out)).trans G5.out) 0 rfl; clear hb3))
          go_roundw
          case rel => exact ⟨j + 1, by omega, by go_num, by rw [HLS.out], Lib.hid ⟨q4, HI.out.2.trans (B3.out.mono HI.out.2.size)⟩⟩
          case measure => simp [intOf]; omega
      · have hjn2 : j = n := by omega
        have hd1 : decide ((j : Int) < n) = false := by rw [decide_eq_false_iff_not]; omega
        have hd1n : decide (j < n) = false := by rw [decide_eq_false_iff_not]; omega
        have hr0 : r = 0 := by
          rw [HR.out]
          have h := HI.out.1
          rw [show l.take j = l by rw [hjn2, HN.out, List.take_length]] at h
          rw [HOK.out, h]; rfl
        subst hr0
        clear hjn2 hla
        go_wp2_with fail
        go_ret
        exact ⟨rfl, BW.out.trans (HI.out.2.mono BW.out.size)⟩
  · have hr5 : r = 5 := HBAD.out (by
      rw [Bool.or_false, decide_eq_false_iff_not]
      intro h; injection h with e1 e2; simp [e1, e2] at hp)
    subst hr5
    go_wp2_with (go_at_call 22; refine (ballot_to _ _ _ _ (by assumption)).mono ?_; rintro e w1 ⟨rfl, hb1⟩; have B1 := Lib.hid (((Below.refl w.heap.size w).alloc (Nat.le_refl _) (.cells #[.int .i64 pr, .int .i64 pn, .slice ea n ec] 39)).trans (hb1.mono (by simp))); clear hb1)
    go_ret
    exact ⟨rfl, B1.out⟩
  · have hr5 : r = 5 := HBAD.out (by
      rw [Bool.or_false, decide_eq_false_iff_not]
      intro h; injection h with e1 e2; simp [e1, e2] at hp)
    subst hr5
    go_wp2_with (go_at_call 22; refine (ballot_to _ _ _ _ (by assumption)).mono ?_; rintro e w1 ⟨rfl, hb1⟩; have B1 := Lib.hid (((Below.refl w.heap.size w).alloc (Nat.le_refl _) (.cells #[.int .i64 0, .int .i64 pn, .slice ea n ec] 39)).trans (hb1.mono (by simp))); clear hb1)
    go_ret
    exact ⟨rfl, B1.out⟩
end Go.Proofs.Ytdkbajdnckmckaa
