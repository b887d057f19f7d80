/-
  What the walk of StableKeeps keeps in its first loop, and the plain law of it.
-/
import Derived.Test.YtdkbajdnckmckaaDoorMg12
set_option linter.unusedVariables false
set_option linter.unusedSimpArgs false
namespace Go.Proofs.YtdkbajdnckmckaaDoor
open Go.RowKit Go.Con
structure KpIn (w wr : World) (tb ab q : Nat) (T U : List UInt8) (a0 : Apr) (l : List Acr) (x : Acr) (tv lv : Value) : Prop where
  below : Below w.heap.size w wr
  tbx : wr.heap[tb]? = some (.cells #[tv, .int .i64 (T.length : Nat)] 27 (0, 0))
  abx : wr.heap[ab]? = some (.cells #[.int .i64 x.a.p.1, .int .i64 x.a.p.2, .slice x.ad x.n x.c] 45 (0, 0))
  trd : Rd wr tv (T ++ U)
  tne : T ++ U ≠ [] → ∀ k, tv.ownBlock = some k → k ≠ tb ∧ k ≠ ab ∧ some k ≠ lv.ownBlock
  own : OwnA wr w.heap.size lv l
  lne : ∀ k, lv.ownBlock = some k → k ≠ tb ∧ k ≠ ab
  each : ∀ y ∈ l, y.a.ok = true ∧ y.a.p.1 ≤ 9 + (q : Int) ∧ Votes wr (.slice y.ad y.n y.c) y.a.l ∧ (y.a.l ≠ [] → ∀ k, (Value.slice y.ad y.n y.c).ownBlock = some k → k ≠ tb ∧ k ≠ ab ∧ some k ≠ lv.ownBlock)
  tap : ∃ L, Tap a0 U L x.a ∧ l.map (·.a) = L ++ [x.a]
  last : x ∈ l
  few : l.length = q + 1
  len : U.length = 14 * q
  lo : w.heap.size ≤ tb ∧ tb < ab
theorem rdLt {w : World} {v : Value} {l : List UInt8} (h : Rd w v l) (hl : l ≠ []) : ∀ k, v.ownBlock = some k → k < w.heap.size := by
  obtain ⟨a, c, rfl, h1, h2, h3, h4⟩ := h
  obtain ⟨b, off, rfl, hc⟩ := h4 hl
  intro k hk
  injection hk with hk
  subst hk
  exact World.block_lt_of_cell? w _ (hc 0 (List.length_pos_iff.2 hl))
theorem KpIn.stay {w wr w' : World} {tb ab q : Nat} {T U : List UInt8} {a0 : Apr} {l : List Acr} {x : Acr} {tv lv : Value} (h : KpIn w wr tb ab q T U a0 l x tv lv) (hb : Below wr.heap.size wr w') : KpIn w w' tb ab q T U a0 l x tv lv :=
  ⟨bel_trans h.below hb, (hb.block _ (lt_of_heap h.tbx)).trans h.tbx, (hb.block _ (lt_of_heap h.abx)).trans h.abx, h.trd.stay hb, h.tne, row_ofHeap h.own (fun k hk => hb.block k (row_lt h.own k hk).2), h.lne,
    fun y hy => ⟨(h.each y hy).1, (h.each y hy).2.1, (h.each y hy).2.2.1.stay hb, (h.each y hy).2.2.2⟩, h.tap, h.last, h.few, h.len, h.lo⟩
abbrev kpW (wA : World) (tb ab : Nat) (p1 p2 s : Int) (vs tv : Value) : World := ((((wA.setCell ⟨ab, 0, none⟩ (.int .i64 p1)).setCell ⟨ab, 1, none⟩ (.int .i64 p2)).setCell ⟨ab, 2, none⟩ vs).setCell ⟨tb, 0, none⟩ tv).setCell ⟨tb, 1, none⟩ (.int .i64 s)
theorem kpW_ne {wA : World} {tb ab : Nat} {p1 p2 s : Int} {vs tv : Value} (k : Nat) (h1 : k ≠ tb) (h2 : k ≠ ab) : (kpW wA tb ab p1 p2 s vs tv).heap[k]? = wA.heap[k]? :=
  (heapSet_ne 1 _ h1).trans ((heapSet_ne 0 _ h1).trans ((heapSet_ne 2 _ h2).trans ((heapSet_ne 1 _ h2).trans (heapSet_ne 0 _ h2))))
theorem KpIn.mid {w wr wA : World} {tb ab q : Nat} {T U : List UInt8} {a0 : Apr} {l : List Acr} {x : Acr} {tv lv : Value} (h : KpIn w wr tb ab q T U a0 l x tv lv) (B : Below wr.heap.size wr wA) (p1 p2 s : Int) (vs tv' : Value) (o : Obj) :
    OwnA ((kpW wA tb ab p1 p2 s vs tv').alloc o) w.heap.size lv l :=
  row_ofHeap h.own (fun k hk => (heapOld _ _ _ (by have h1 := (row_lt h.own k hk).2; have := B.size; simp; omega)).trans ((kpW_ne k (h.lne k hk).1 (h.lne k hk).2).trans (B.block k (row_lt h.own k hk).2)))
theorem KpIn.next {w wr wA w' : World} {tb ab q : Nat} {T U : List UInt8} {a0 : Apr} {l : List Acr} {x c : Acr} {tv lv tv' lv' : Value} {r : Int} {o : Obj} (h : KpIn w wr tb ab q T U a0 l x tv lv) (B : Below wr.heap.size wr wA)
    (hap : proA x.a (10 + (q : Int), r) = some c.a) (hb : okB (10 + (q : Int), r) = true)
    (ht : Own wA wr.heap.size tv' ((T ++ U) ++ Tp.frame (Tp.proB (10 + (q : Int)) r))) (hv : OwnV wA wr.heap.size (.slice c.ad c.n c.c) c.a.l)
    (hown : OwnA w' w.heap.size lv' (l ++ [c])) (hg : ((kpW wA tb ab c.a.p.1 c.a.p.2 (T.length : Nat) (.slice c.ad c.n c.c) tv').alloc o).grownBy w' lv.ownBlock)
    (hat : lv'.ownBlock = lv.ownBlock ∨ lv'.ownBlock = some ((kpW wA tb ab c.a.p.1 c.a.p.2 (T.length : Nat) (.slice c.ad c.n c.c) tv').alloc o).heap.size) :
    KpIn w w' tb ab (q + 1) T (U ++ Tp.frame (Tp.proB (10 + (q : Int)) r)) a0 (l ++ [c]) c tv' lv' := by
  obtain ⟨wC, hC⟩ : ∃ wC, wC = kpW wA tb ab c.a.p.1 c.a.p.2 (T.length : Nat) (.slice c.ad c.n c.c) tv' := ⟨_, rfl⟩
  have hmid := h.mid B c.a.p.1 c.a.p.2 (T.length : Nat) (.slice c.ad c.n c.c) tv' o
  have eC : ∀ k, k ≠ tb → k ≠ ab → wC.heap[k]? = wA.heap[k]? := fun k h1 h2 => by rw [hC]; exact kpW_ne k h1 h2
  have hCs : wC.heap.size = wA.heap.size := by rw [hC]; simp
  have hbt := lt_of_heap h.tbx
  have hba := lt_of_heap h.abx
  have hAs := B.size
  have hne1 : tb ≠ ab := by have := h.lo; omega
  have tb0 : wA.heap[tb]? = _ := (B.block _ hbt).trans h.tbx
  have ab0 : wA.heap[ab]? = _ := (B.block _ hba).trans h.abx
  have abC : wC.heap[ab]? = some (.cells #[.int .i64 c.a.p.1, .int .i64 c.a.p.2, .slice c.ad c.n c.c] 45 (0, 0)) := by
    rw [hC]
    exact (heapSet_ne 1 _ (Ne.symm hne1)).trans ((heapSet_ne 0 _ (Ne.symm hne1)).trans (heapSet (o := 2) (heapSet (o := 1) (heapSet (o := 0) ab0 _) _) _))
  have tbC : wC.heap[tb]? = some (.cells #[tv', .int .i64 (T.length : Nat)] 27 (0, 0)) := by
    rw [hC]
    exact heapSet (o := 1) (heapSet (o := 0) ((heapSet_ne 2 _ hne1).trans ((heapSet_ne 1 _ hne1).trans ((heapSet_ne 0 _ hne1).trans tb0))) _) _
  have hlow : w.heap.size ≤ ab := by have := h.lo; omega
  have bC : Below w.heap.size w wC := by
    rw [hC]; exact (((((bel_trans h.below B).setCell hlow _).setCell hlow _).setCell hlow _).setCell h.lo.1 _).setCell h.lo.1 _
  rw [← hC] at hg hat hmid
  have hlv : ∀ k, lv.ownBlock = some k → k < wr.heap.size := fun k hk => (row_lt h.own k hk).2
  -- what is neither a variable's block nor the row's stays
  have eG : ∀ k, k < wA.heap.size → k ≠ tb → k ≠ ab → some k ≠ lv.ownBlock → w'.heap[k]? = wA.heap[k]? := fun k hk h1 h2 h3 =>
    (hg.block k (by simp; omega) h3).trans ((heapOld _ _ _ (by omega)).trans (eC k h1 h2))
  have hnew : ∀ k, wr.heap.size ≤ k → k ≠ tb ∧ k ≠ ab ∧ some k ≠ lv.ownBlock := fun k hk => ⟨by omega, by omega, fun e => by have := hlv k e.symm; omega⟩
  have hnl : ∀ k, k < wA.heap.size → some k ≠ lv.ownBlock → some k ≠ lv'.ownBlock := fun k hk h1 => by
    rcases hat with e | e
    · rw [e]; exact h1
    · rw [e]; intro e2; injection e2 with e2; have : k = wC.heap.size + 1 := by simpa using e2
      omega
  have htl := ht.lt
  have hvl := row_lt hv
  refine ⟨(bC.alloc (by have := h.below.size; omega) _).grown hg (by have := h.below.size; simp; omega) (fun k hk => (row_lt h.own k hk).1),
    (hg.block _ (by simp; omega) (fun e => (h.lne tb e.symm).1 rfl)).trans ((heapOld _ _ _ (by omega)).trans tbC),
    (hg.block _ (by simp; omega) (fun e => (h.lne ab e.symm).2 rfl)).trans ((heapOld _ _ _ (by omega)).trans abC),
    ?_, fun _ k hk => ?_, hown, fun k hk => ?_, fun y hy => ?_, ?_, by simp, by have := h.few; simp; omega, by have := h.len; rw [List.length_append, frame_len, proB_len]; omega, h.lo⟩
  · rw [← List.append_assoc]
    exact ht.rd.ofHeapS (fun k hk _ => eG k (htl k hk).2 (hnew k (htl k hk).1).1 (hnew k (htl k hk).1).2.1 (hnew k (htl k hk).1).2.2)
  · exact ⟨(hnew k (htl k hk).1).1, (hnew k (htl k hk).1).2.1, hnl k (htl k hk).2 (hnew k (htl k hk).1).2.2⟩
  · rcases hat with e | e
    · rw [e] at hk; exact h.lne k hk
    · rw [e] at hk; injection hk with hk
      have : k = wC.heap.size + 1 := by simpa using hk.symm
      exact ⟨by omega, by omega⟩
  · rcases List.mem_append.1 hy with hy | hy
    · obtain ⟨e1, e2, e3, e4⟩ := h.each y hy
      have e3' : Votes wA (.slice y.ad y.n y.c) y.a.l := e3.stay B
      refine ⟨e1, by omega, votesHeap e3' (fun hl k hk hkl => eG k hkl (e4 hl k hk).1 (e4 hl k hk).2.1 (e4 hl k hk).2.2), fun hl k hk => ⟨(e4 hl k hk).1, (e4 hl k hk).2.1, hnl k (votesLt e3' hl k hk) (e4 hl k hk).2.2⟩⟩
    · rw [List.mem_singleton] at hy
      subst hy
      have hxok := (h.each x h.last).1
      have hp : y.a.p = (10 + (q : Int), r) := by
        unfold proA at hap
        split at hap
        · injection hap with hap; rw [← hap]
        · cases hap
      refine ⟨proA_ok hxok hap, by rw [hp]; show 10 + (q : Int) ≤ 9 + ((q + 1 : Nat) : Int); omega, votesHeap hv.votes (fun _ k hk hkl => eG k hkl (hnew k (hvl k hk).1).1 (hnew k (hvl k hk).1).2.1 (hnew k (hvl k hk).1).2.2), fun _ k hk => ⟨(hnew k (hvl k hk).1).1, (hnew k (hvl k hk).1).2.1, hnl k (hvl k hk).2 (hnew k (hvl k hk).1).2.2⟩⟩
  · obtain ⟨L, h1, h2⟩ := h.tap
    refine ⟨L ++ [x.a], Tap.add h1 (by rw [proB_len]; omega) ?_, by rw [List.map_append, h2]; rfl⟩
    rw [show Tp.proB (10 + (q : Int)) r = Tp.proB (10 + (q : Int), r).1 (10 + (q : Int), r).2 from rfl, applyB_pro _ hb]
    exact hap
/-- what is recovered behind a crash, and behind a promise more -/
theorem keeps_all {T U : List UInt8} {a0 a : Apr} {L0 L : List Apr} {q : Nat} {mk : Int} {ls : List Apr} (h0 : Tap Apr.zero T L0 a0) (h1 : Tap a0 U L a) (hls : ls = L ++ [a]) (hT : T.length ≤ 760) (hU : U.length ≤ 140) (hp : ∀ c ∈ ls, c.p.1 ≤ 19) (hmk : 0 ≤ mk) (hm2 : mk < 160) :
    ∃ (G H : List UInt8) (n : Nat) (c d : Apr), c ∈ ls ∧ n ≤ 900 ∧ G.length = n ∧ H.length = n + 14 ∧ d.p = (100, 0) ∧
      (∃ k : Nat, k ≤ 900 ∧ ((T ++ U).take k).length = k ∧
        (∀ v w, Rd w v (T ++ U) → Calls Tryd.prog 17 #[.agg #[v, .int .i64 (T.length : Nat)], .int .i64 mk] w (TapeR w ((T ++ U).take k) k 0)) ∧
        (∀ v w, Rd w v ((T ++ U).take k) → Kn w → Calls Tryd.prog 18 #[.agg #[v, .int .i64 k]] w (TapePost w G n 0))) ∧
      (∀ v w, Rd w v G → Kn w → Calls Tryd.prog 14 #[.agg #[v, .int .i64 n]] w fun e w' => Below w.heap.size w w' ∧ ∃ a1 n1 c1, e = .returned (.tuple #[.agg #[.int .i64 c.p.1, .int .i64 c.p.2, .slice a1 n1 c1], .int .i64 n, .int .i64 0]) ∧ OwnV w' w.heap.size (.slice a1 n1 c1) c.l) ∧
      (∀ v w, Rd w v G → Kn w → Calls Tryd.prog 9 #[.agg #[v, .int .i64 n], .agg #[.int .i64 100, .int .i64 0]] w (TapePost w H n 0)) ∧
      (∀ v w, Rd w v H → Kn w → Calls Tryd.prog 14 #[.agg #[v, .int .i64 n]] w fun e w' => Below w.heap.size w w' ∧ ∃ m a1 n1 c1, e = .returned (.tuple #[.agg #[.int .i64 100, .int .i64 0, .slice a1 n1 c1], .int .i64 m, .int .i64 0])) := by
  have hlU : (T ++ U).length = T.length + U.length := List.length_append
  obtain ⟨k, hk⟩ : ∃ k : Nat, (k : Int) = (T.length : Int) + min mk (((T ++ U).length : Int) - T.length) := ⟨((T.length : Int) + min mk (((T ++ U).length : Int) - T.length)).toNat, by omega⟩
  have hkl : T.length ≤ k ∧ k ≤ (T ++ U).length := by omega
  have hlk : ((T ++ U).take k).length = k := by rw [List.length_take]; omega
  have ek : (T ++ U).take k = T ++ U.take (k - T.length) := by rw [List.take_append, List.take_of_length_le (by omega)]
  have hR := rcvAll_app T.length Apr.zero T (U.take (k - T.length)) (Nat.le_refl _) (by rw [h0.full])
  rw [h0.full, ← ek] at hR
  have hin := h1.torn (k - T.length) (by omega)
  obtain ⟨R, hRR⟩ : ∃ R, R = rcvAll Apr.zero ((T ++ U).take k) := ⟨_, rfl⟩
  have hcin : R.1 ∈ ls := by rw [hRR, hR, hls]; exact hin
  have hle : R.2 ≤ k := by have := rcvAll_le _ Apr.zero ((T ++ U).take k) (Nat.le_refl _); rw [← hRR] at this; omega
  have hid := rcvAll_idem _ Apr.zero ((T ++ U).take k) (Nat.le_refl _)
  rw [← hRR] at hid
  obtain ⟨G, hG⟩ : ∃ G, G = ((T ++ U).take k).take R.2 := ⟨_, rfl⟩
  rw [← hG] at hid
  have hGl : G.length = R.2 := by rw [hG, List.length_take]; omega
  have hb : okB ((100 : Int), (0 : Int)) = true := by decide
  have hq := hp R.1 hcin
  have hcm : ¬ cmpB ((100 : Int), (0 : Int)) R.1.p < 0 := by
    have e : cmpI 100 R.1.p.1 = 1 := by unfold cmpI; split <;> (try split) <;> omega
    unfold cmpB
    simp only [e]
    simp
  have hpro : proA R.1 (100, 0) = some ⟨(100, 0), R.1.l⟩ := by rw [proA, if_pos ⟨hb, hcm⟩]
  have hst := rstep_frame (a := R.1) (c := ⟨(100, 0), R.1.l⟩) (b := Tp.proB 100 0) [] (by rw [proB_len]; omega) ((applyB_pro R.1 (b := (100, 0)) hb).trans hpro)
  rw [List.append_nil] at hst
  have h2 : rcvAll Apr.zero (G ++ Tp.frame (Tp.proB 100 0)) = (⟨(100, 0), R.1.l⟩, G.length + 14) := by
    rw [rcvAll_app G.length Apr.zero G _ (Nat.le_refl _) (by rw [hid, hGl]), hid, rcvAll_some hst, List.drop_of_length_le (by rw [frame_len]; omega), rcvAll_none (rstep_nil _), proB_len]
    rfl
  refine ⟨G, G ++ Tp.frame (Tp.proB 100 0), R.2, R.1, ⟨(100, 0), R.1.l⟩, hcin, by omega, hGl, by rw [List.length_append, frame_len, proB_len, hGl], rfl, ⟨k, by omega, hlk, fun v w hv => ?_, fun v w hv hkn => ?_⟩, fun v w hv hkn => ?_, fun v w hv hkn => ?_, fun v w hv hkn => ?_⟩
  · exact sCrash_ok v (T ++ U) (T.length : Nat) mk k w hv (Int.natCast_nonneg _) (by omega) (by omega) hmk (by omega) hk
  · have h := repair_any v ((T ++ U).take k) k (R.2 : Nat) w hv (Int.natCast_nonneg _) (by omega) (by omega) hkn (by rw [← hRR]; omega)
    rw [← hRR, ← hG] at h
    exact h
  · have h := recover_any v G R.2 w hv (Int.natCast_nonneg _) (by omega) (by omega) hkn
    unfold RecPost at h
    rw [hid] at h
    exact h
  · have h := sPromise_ok v G R.2 100 0 w hv (Int.natCast_nonneg _) (by omega) (by omega) hb hkn
    exact h
  · have hll : (G ++ Tp.frame (Tp.proB 100 0)).length = G.length + 14 := by rw [List.length_append, frame_len, proB_len]
    have h := recover_any v (G ++ Tp.frame (Tp.proB 100 0)) R.2 w hv (Int.natCast_nonneg _) (by omega) (by omega) hkn
    unfold RecPost at h
    rw [h2] at h
    refine h.mono ?_
    rintro e w' ⟨hb, a1, n1, c1, rfl, -⟩
    exact ⟨hb, _, _, _, _, rfl⟩
/-- behind the first loop: the acceptors, and the tape's variable -/
structure KpE (w w' : World) (tb : Nat) (l : List Acr) (lv : Value) : Prop where
  below : Below w.heap.size w w'
  row : RdA w' lv l
  rne : ∀ k, lv.ownBlock = some k → k ≠ tb
  each : ∀ y ∈ l, Votes w' (.slice y.ad y.n y.c) y.a.l ∧ (y.a.l ≠ [] → ∀ k, (Value.slice y.ad y.n y.c).ownBlock = some k → k ≠ tb)
  lo : w.heap.size ≤ tb
theorem KpIn.kpE {w wr : World} {tb ab q : Nat} {T U : List UInt8} {a0 : Apr} {l : List Acr} {x : Acr} {tv lv : Value} (h : KpIn w wr tb ab q T U a0 l x tv lv) : KpE w wr tb l lv :=
  ⟨h.below, h.own.row, fun k hk => (h.lne k hk).1, fun y hy => ⟨(h.each y hy).2.2.1, fun hl k hk => ((h.each y hy).2.2.2 hl k hk).1⟩, h.lo.1⟩
theorem KpE.stay {w wr w' : World} {tb : Nat} {l : List Acr} {lv : Value} (h : KpE w wr tb l lv) (hb : Below wr.heap.size wr w') : KpE w w' tb l lv :=
  ⟨bel_trans h.below hb, RdRow.stay h.row hb, h.rne, fun y hy => ⟨(h.each y hy).1.stay hb, (h.each y hy).2⟩, h.lo⟩
theorem KpE.set {w wr : World} {tb : Nat} {l : List Acr} {lv : Value} (h : KpE w wr tb l lv) (v0 v1 : Value) : KpE w ((wr.setCell ⟨tb, 0, none⟩ v0).setCell ⟨tb, 1, none⟩ v1) tb l lv := by
  have e : ∀ k, k ≠ tb → ((wr.setCell ⟨tb, 0, none⟩ v0).setCell ⟨tb, 1, none⟩ v1).heap[k]? = wr.heap[k]? := fun k hk => (heapSet_ne 1 _ hk).trans (heapSet_ne 0 _ hk)
  exact ⟨(h.below.setCell h.lo _).setCell h.lo _, RdRow.heap h.row (fun k hk _ => e k (h.rne k hk)), h.rne, fun y hy => ⟨votesHeap (h.each y hy).1 (fun hl k hk _ => e k ((h.each y hy).2 hl k hk)), (h.each y hy).2⟩, h.lo⟩
end Go.Proofs.YtdkbajdnckmckaaDoor
