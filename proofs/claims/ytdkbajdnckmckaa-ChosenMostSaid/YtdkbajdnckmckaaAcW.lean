/-
  The walk of paxos.Accept.
-/
import Derived.Test.YtdkbajdnckmckaaAcP
set_option linter.unusedVariables false
set_option linter.unusedSimpArgs false
namespace Go.Proofs.Ytdkbajdnckmckaa
open Go.RowKit Go.Con
theorem search_to (v : Value) (l : List Vot) (y0 y1 y2 y3 y4 y5 y6 y7 : Int) (w : World) (hv : RdV w v l) (hsort : ∀ a b, a < b → b < l.length → (l.getD a Vot.zero).slot < (l.getD b Vot.zero).slot) (hl : l.length ≤ 100000) :
    Calls Try.prog 24 #[v, .agg #[.int .i64 y0, .int .i64 y1, .int .i64 y2, .int .i64 y3, .int .i64 y4, .int .i64 y5, .int .i64 y6, .int .i64 y7], .func (.func 25) #[] #[]] w fun e w' => ∃ (i : Nat) (b : Bool), slotAt l y0 i ∧ b = decide (i < l.length ∧ (l.getD i Vot.zero).slot = y0) ∧ e = .returned (.tuple #[.int .i64 i, .bool b]) ∧ Below w.heap.size w w' :=
  (search_any v l ⟨y0, (y1, y2), ⟨y3, y4, y5, y6, y7⟩⟩ w hv hsort hl).mono fun e w' ⟨i, h1, h2, h3⟩ => ⟨i, _, h1, rfl, h2, h3⟩
set_option maxRecDepth 100000 in
set_option maxHeartbeats 4000000 in
theorem Accept_any (p : Int × Int) (v : Value) (l : List Vot) (y : Vot) (w : World) (hv : Votes w v l) (hok : okA p l = true) (hy : okV y = true) (hl : l.length ≤ 1000) :
    Calls Try.prog 15 #[accV p v, votV y] w fun e w' => Below w.heap.size w w' ∧ ((cmpB y.bal p < 0 ∧ e = .returned (.tuple #[accV (0, 0) (.slice none 0 0), .int .i64 7])) ∨ (¬ cmpB y.bal p < 0 ∧ ∃ v1, e = .returned (.tuple #[accV y.bal v1, .int .i64 0]) ∧ OwnV w' w.heap.size v1 (putV y l))) := by
  obtain ⟨pr, pn⟩ := p
  obtain ⟨y0, ⟨y1, y2⟩, ⟨y3, y4, y5, y6, y7⟩⟩ := y
  obtain ⟨ea, ec, rfl, hle, hcm, -⟩ := id hv.1
  show Calls Try.prog 15 #[.agg #[.int .i64 pr, .int .i64 pn, .slice ea l.length ec], .agg #[.int .i64 y0, .int .i64 y1, .int .i64 y2, .int .i64 y3, .int .i64 y4, .int .i64 y5, .int .i64 y6, .int .i64 y7]] w _
  obtain ⟨n, hn⟩ : ∃ n, n = l.length := ⟨_, rfl⟩
  rw [← hn] at hv hle hl ⊢
  have HV := Lib.hid hv
  have HN := Lib.hid hn
  have HOK := Lib.hid (show (if okA (pr, pn) l then (0 : Int) else 5) = 0 by rw [hok]; rfl)
  have HY := Lib.hid hy
  have HSORT := Lib.hid (show ∀ a b, a < b → b < l.length → (l.getD a Vot.zero).slot < (l.getD b Vot.zero).slot from (okVs_rise l (-1) (by
    unfold okA at hok
    simp only [Bool.and_eq_true] at hok
    exact hok.2)).2)
  obtain ⟨P, hP⟩ : ∃ P, P = putV ⟨y0, (y1, y2), ⟨y3, y4, y5, y6, y7⟩⟩ l := ⟨_, rfl⟩
  rw [← hP]
  have HP := Lib.hid hP
  obtain ⟨c, hc⟩ : ∃ c, c = cmpB (y1, y2) (pr, pn) := ⟨_, rfl⟩
  dsimp only
  rw [← hc]
  have HC := Lib.hid hc.symm
  clear hv hn hok hy hc hP
  have hne1 : ¬ (w.heap.size + 1 + 1 = w.heap.size) := by omega
  have hne2 : ¬ (w.heap.size = w.heap.size + 1 + 1) := by omega
  go_enter Try.func15, Try.ntmps15
  go_upto_region 1 with fail
  generalize hW : World.alloc _ _ = w0
  have G := Lib.hid (alloc3Q hW)
  have a0 := cellAt G.out.1 0 rfl
  have a1 := cellAt G.out.1 1 rfl
  have a2 := cellAt G.out.1 2 rfl
  clear hW
  go_upto_region 4 with (go_at_call 12; refine (accCheck_to _ _ _ _ l _ ((HV.out.stay G.out.2.2.2.1).1) HOK).mono ?_; rintro e w1 ⟨rfl, hb1⟩; have B1 := Lib.hid hb1; clear hb1)
  clear a0 a1 a2
  have g3 := (B1.out.block _ (lt_of_heap G.out.2.1)).trans G.out.2.1
  have b0 := cellAt g3 0 rfl
  have b1 := cellAt g3 1 rfl
  have b2 := cellAt g3 2 rfl
  have b3 := cellAt g3 3 rfl
  have b4 := cellAt g3 4 rfl
  have b5 := cellAt g3 5 rfl
  have b6 := cellAt g3 6 rfl
  have b7 := cellAt g3 7 rfl
  clear g3
  go_upto_region 6 with (go_at_call 20; refine (vote_to _ _ _ _ _ _ _ _ _ _ HY).mono ?_; rintro e w2 ⟨rfl, hb2⟩; have B2 := Lib.hid (B1.out.trans (hb2.mono B1.out.size)); clear hb2)
  clear b0 b1 b2 b3 b4 b5 b6 b7
  have g2 := (B2.out.block _ (lt_of_heap G.out.1)).trans G.out.1
  have g3 := (B2.out.block _ (lt_of_heap G.out.2.1)).trans G.out.2.1
  have g4 := (B2.out.block _ (lt_of_heap G.out.2.2.1)).trans G.out.2.2.1
  have G2 := Lib.hid g2
  have G3 := Lib.hid g3
  have G4 := Lib.hid g4
  have BW2 := Lib.hid (G.out.2.2.2.1.trans (B2.out.mono G.out.2.2.2.1.size))
  have a0 := cellAt g2 0 rfl
  have a1 := cellAt g2 1 rfl
  have b1 := cellAt g3 1 rfl
  have b2 := cellAt g3 2 rfl
  clear g2 g3 g4
  by_cases hc0 : c < 0
  · have hcd : decide (c < 0) = true := by rw [decide_eq_true_eq]; exact hc0
    go_wp2_with (go_at_call 21; refine (compare_to _ _ _ _ _ _ HC).mono ?_; rintro e w3 ⟨rfl, hb3⟩; have B3 := Lib.hid (BW2.out.trans (hb3.mono BW2.out.size)); have g4 := (hb3.block _ (lt_of_heap G4.out)).trans G4.out; have Z4 := Lib.hid g4; have z0 := cellAt g4 0 rfl; have z1 := cellAt g4 1 rfl; have z2 := cellAt g4 2 rfl; have zf := freeAt g4; clear hb3 g4)
    generalize hW : World.setCell _ _ _ = w5
    have z5 : w5.heap[w.heap.size + 1 + 1]? = some (.cells #[.int .i64 0, .int .i64 0, .slice none 0 0] 39 (0, 0)) := by
      rw [← hW]; exact heapSet (heapSet (heapSet Z4.out _) _) _
    have hle2 : w.heap.size ≤ w.heap.size + 1 + 1 := by omega
    have b5 : Below w.heap.size w w5 := by rw [← hW]; exact ((B3.out.setCell hle2 _).setCell hle2 _).setCell hle2 _
    clear hW z0 z1 z2 zf
    have e0 : w5.cell? ⟨w.heap.size + 1 + 1, 0, none⟩ = some (.int .i64 0) := cellAt z5 0 rfl
    have e1 : w5.cell? ⟨w.heap.size + 1 + 1, 1, none⟩ = some (.int .i64 0) := cellAt z5 1 rfl
    have e2 : w5.cell? ⟨w.heap.size + 1 + 1, 2, none⟩ = some (.slice none 0 0) := cellAt z5 2 rfl
    refine bodyPost_ret (v := .tuple #[.agg #[.int .i64 0, .int .i64 0, .slice none 0 0], .int .i64 7]) ?_ rfl ⟨b5, .inl rfl⟩
    simp [results, Try.results15, go_sem, e0, e1, e2]
  · have hcd : decide (c < 0) = false := by rw [decide_eq_false_iff_not]; exact hc0
    go_upto_region 8 with (go_at_call 21; refine (compare_to _ _ _ _ _ _ HC).mono ?_; rintro e w3 ⟨rfl, hb3⟩; have B23 := Lib.hid hb3; clear hb3)
    clear a0 a1 b1 b2
    have B3 := Lib.hid (BW2.out.trans (B23.out.mono BW2.out.size))
    have Z2 := Lib.hid ((B23.out.block _ (lt_of_heap G2.out)).trans G2.out)
    have Z3 := Lib.hid ((B23.out.block _ (lt_of_heap G3.out)).trans G3.out)
    have Z4 := Lib.hid ((B23.out.block _ (lt_of_heap G4.out)).trans G4.out)
    have s2 : w3.cell? ⟨w.heap.size, 2, none⟩ = some (.slice ea n ec) := cellAt Z2.out 2 rfl
    go_upto_region 9 with (go_at_call 23; refine (clnV_any _ l _ ((HV.out.stay B3.out).1) HV.out.2 (by rw [← HN.out]; omega)).mono ?_; rintro e w5 ⟨v1, rfl, ho5, hb5⟩; have O5 := Lib.hid ho5; have B5 := Lib.hid hb5; clear ho5 hb5)
    clear s2
    obtain ⟨sa, sc, rfl, -⟩ := id O5.out.row
    have Y3 := Lib.hid ((B5.out.block _ (lt_of_heap Z3.out)).trans Z3.out)
    have b0 : w5.cell? ⟨w.heap.size + 1, 0, none⟩ = some (.int .i64 y0) := cellAt Y3.out 0 rfl
    have b1 : w5.cell? ⟨w.heap.size + 1, 1, none⟩ = some (.int .i64 y1) := cellAt Y3.out 1 rfl
    have b2 : w5.cell? ⟨w.heap.size + 1, 2, none⟩ = some (.int .i64 y2) := cellAt Y3.out 2 rfl
    have b3 : w5.cell? ⟨w.heap.size + 1, 3, none⟩ = some (.int .i64 y3) := cellAt Y3.out 3 rfl
    have b4 : w5.cell? ⟨w.heap.size + 1, 4, none⟩ = some (.int .i64 y4) := cellAt Y3.out 4 rfl
    have b5 : w5.cell? ⟨w.heap.size + 1, 5, none⟩ = some (.int .i64 y5) := cellAt Y3.out 5 rfl
    have b6 : w5.cell? ⟨w.heap.size + 1, 6, none⟩ = some (.int .i64 y6) := cellAt Y3.out 6 rfl
    have b7 : w5.cell? ⟨w.heap.size + 1, 7, none⟩ = some (.int .i64 y7) := cellAt Y3.out 7 rfl
    go_upto_region 10 with (go_at_call 24; refine (search_to _ l _ _ _ _ _ _ _ _ _ O5.out.row HSORT.out (by rw [← HN.out]; omega)).mono ?_; rintro e w6 ⟨i, fo, hat, hfo, rfl, hb6⟩; have AT := Lib.hid hat; have FO := Lib.hid hfo; have B6 := Lib.hid hb6; clear hat hfo hb6)
    clear b0 b1 b2 b3 b4 b5 b6 b7
    rw [← HN.out] at FO O5 ⊢
    have O6 := Lib.hid (ownV_move O5.out (Nat.le_refl _) (fun k _ hk2 => B6.out.block k hk2))
    have Y36 := Lib.hid ((B6.out.block _ (lt_of_heap Y3.out)).trans Y3.out)
    have Y46 := Lib.hid ((B6.out.block _ (Nat.lt_of_lt_of_le (lt_of_heap Z4.out) B5.out.size)).trans ((B5.out.block _ (lt_of_heap Z4.out)).trans Z4.out))
    have BW6 := Lib.hid (B3.out.trans ((B5.out.trans (B6.out.mono B5.out.size)).mono B3.out.size))
    have h43 : w.heap.size + 1 + 1 < w3.heap.size := lt_of_heap Z4.out
    have h35 := B5.out.size
    have h56 := B6.out.size
    have b0 : w6.cell? ⟨w.heap.size + 1, 0, none⟩ = some (.int .i64 y0) := cellAt Y36.out 0 rfl
    have b1 : w6.cell? ⟨w.heap.size + 1, 1, none⟩ = some (.int .i64 y1) := cellAt Y36.out 1 rfl
    have b2 : w6.cell? ⟨w.heap.size + 1, 2, none⟩ = some (.int .i64 y2) := cellAt Y36.out 2 rfl
    have b3 : w6.cell? ⟨w.heap.size + 1, 3, none⟩ = some (.int .i64 y3) := cellAt Y36.out 3 rfl
    have b4 : w6.cell? ⟨w.heap.size + 1, 4, none⟩ = some (.int .i64 y4) := cellAt Y36.out 4 rfl
    have b5 : w6.cell? ⟨w.heap.size + 1, 5, none⟩ = some (.int .i64 y5) := cellAt Y36.out 5 rfl
    have b6 : w6.cell? ⟨w.heap.size + 1, 6, none⟩ = some (.int .i64 y6) := cellAt Y36.out 6 rfl
    have b7 : w6.cell? ⟨w.heap.size + 1, 7, none⟩ = some (.int .i64 y7) := cellAt Y36.out 7 rfl
    cases fo
    · have hnf : ¬ (i < l.length ∧ (l.getD i Vot.zero).slot = y0) := by
        have h := FO.out.symm
        rw [decide_eq_false_iff_not] at h
        rw [← HN.out]; exact h
      have hPi : l.take i ++ ⟨y0, (y1, y2), ⟨y3, y4, y5, y6, y7⟩⟩ :: l.drop i = P := by
        rw [HP.out]; exact putV_new AT.out.1 AT.out.2.1 AT.out.2.2 HSORT.out hnf
      have PI := Lib.hid hPi
      clear hnf hPi
      have hlo := Lib.hid (row_lt O6.out)
      go_upto_region 13 with (go_at_call 27; refine (insV_any w3.heap.size _ l i ⟨y0, (y1, y2), ⟨y3, y4, y5, y6, y7⟩⟩ w6.heap.size _ (World.ownsRow.alloc O6.out _) AT.out.1 (heapNew _ _) (fun h => by have := (hlo.out _ h).2; omega) (by rw [← HN.out]; omega) (by simp; omega)).mono ?_; rintro e w8 ⟨v8, rfl, ho8, hg8⟩; have O8 := Lib.hid (show OwnV w8 w3.heap.size v8 P by rw [← PI.out]; exact ho8); have G8 := Lib.hid hg8; clear ho8 hg8)
      clear b0 b1 b2 b3 b4 b5 b6 b7
      have hk8 : ∀ k, k < w3.heap.size → w8.heap[k]? = w6.heap[k]? := fun k hk => (G8.out.block k (by simp; omega) (fun e => by have := (hlo.out k e.symm).1; omega)).trans (heapOld w6 _ _ (by omega))
      have BW8 := Lib.hid (show Below w.heap.size w w8 from (BW6.out.alloc BW6.out.size _).grown G8.out (by simp; omega) (fun k hk => by have := (hlo.out k hk).1; omega))
      have HK8 := Lib.hid hk8
      clear hk8
      have R3 := Lib.hid (show w8.heap[w.heap.size + 1]? = _ from (HK8.out _ (by omega)).trans Y36.out)
      have R4 := Lib.hid (show w8.heap[w.heap.size + 1 + 1]? = _ from (HK8.out _ (by omega)).trans Y46.out)
      have c1 : w8.cell? ⟨w.heap.size + 1, 1, none⟩ = some (.int .i64 y1) := cellAt R3.out 1 rfl
      have c2 : w8.cell? ⟨w.heap.size + 1, 2, none⟩ = some (.int .i64 y2) := cellAt R3.out 2 rfl
      have d0 : w8.cell? ⟨w.heap.size + 1 + 1, 0, none⟩ = some (.int .i64 0) := cellAt R4.out 0 rfl
      have d1 : w8.cell? ⟨w.heap.size + 1 + 1, 1, none⟩ = some (.int .i64 0) := cellAt R4.out 1 rfl
      have d2 : w8.cell? ⟨w.heap.size + 1 + 1, 2, none⟩ = some (.slice none 0 0) := cellAt R4.out 2 rfl
      have df := freeAt R4.out
      obtain ⟨za, zc, hzv, -⟩ := id O8.out.row
      subst hzv
      go_wp2_with fail
      generalize hW : World.setCell _ _ _ = wY
      have zY : wY.heap[w.heap.size + 1 + 1]? = some (.cells #[.int .i64 y1, .int .i64 y2, .slice za P.length zc] 39 (0, 0)) := by
        rw [← hW]; exact heapSet (heapSet (heapSet R4.out _) _) _
      have hle2 : w.heap.size ≤ w.heap.size + 1 + 1 := by omega
      have bY : Below w.heap.size w wY := by rw [← hW]; exact ((BW8.out.setCell hle2 _).setCell hle2 _).setCell hle2 _
      have hq : ∀ k, k ≠ w.heap.size + 1 + 1 → wY.heap[k]? = w8.heap[k]? := fun k hk => by
        rw [← hW, heapSet_ne _ _ hk, heapSet_ne _ _ hk, heapSet_ne _ _ hk]
      have oY : OwnV wY w.heap.size (.slice za P.length zc) P := ownV_move O8.out (by omega) (fun k hk hk2 => hq k (by omega))
      clear hW c1 c2 d0 d1 d2 df hq
      have e0 : wY.cell? ⟨w.heap.size + 1 + 1, 0, none⟩ = some (.int .i64 y1) := cellAt zY 0 rfl
      have e1 : wY.cell? ⟨w.heap.size + 1 + 1, 1, none⟩ = some (.int .i64 y2) := cellAt zY 1 rfl
      have e2 : wY.cell? ⟨w.heap.size + 1 + 1, 2, none⟩ = some (.slice za P.length zc) := cellAt zY 2 rfl
      refine bodyPost_ret (v := .tuple #[.agg #[.int .i64 y1, .int .i64 y2, .slice za P.length zc], .int .i64 0]) ?_ rfl ⟨bY, .inr ⟨_, rfl, oY⟩⟩
      simp [results, Try.results15, go_sem, e0, e1, e2]
    · have hfd := FO.out.symm
      rw [decide_eq_true_eq] at hfd
      obtain ⟨hin, hsl⟩ := hfd
      have hil : i < l.length := by rw [← HN.out]; exact hin
      have hPi : l.take i ++ ⟨y0, (y1, y2), ⟨y3, y4, y5, y6, y7⟩⟩ :: l.drop (i + 1) = P := by
        rw [HP.out]; exact putV_old hil AT.out.2.1 AT.out.2.2 HSORT.out hsl
      have PI := Lib.hid hPi
      obtain ⟨g, hg, hgb, cur, hgh⟩ : ∃ g, sa = some ⟨g, 0, none⟩ ∧ w3.heap.size ≤ g ∧ ∃ cur, w6.heap[g]? = some (.cells cur 32 (0, 0)) := by
        obtain ⟨-, h2⟩ := O6.out
        rcases h2 with ⟨h3, hn0⟩ | ⟨g', cap, cur, h3, hbg, hg, -⟩
        · have h2 := HN.out; omega
        · injection h3 with e1
          exact ⟨g', e1, hbg, cur, hg⟩
      subst hg
      obtain ⟨eb, eoff, he, -, hec⟩ := O6.out.row.cells.2.2 i hin
      have he2 := Option.some.inj he
      injection he2 with e1 e2
      subst e1 e2
      obtain ⟨ov, hov⟩ : ∃ v, v = l.getD i Vot.zero := ⟨_, rfl⟩
      rw [← hov] at hec
      obtain ⟨x0, x1, x2, x3, x4, x5, x6, x7⟩ := cellsV hec
      simp only [Nat.zero_add] at x0 x1 x2 x3 x4 x5 x6 x7
      have xf := freeAt hgh
      have SET := Lib.hid (ownV_set O6.out i hil ⟨y0, (y1, y2), ⟨y3, y4, y5, y6, y7⟩⟩)
      clear hov hec hsl hPi he hgh
      go_upto_region 13 with fail
      generalize hW : World.setCell _ _ _ = w8
      have O8 := Lib.hid (show OwnV w8 w3.heap.size (.slice (some ⟨g, 0, none⟩) n sc) P by rw [← hW, ← PI.out]; exact SET.out)
      have HK8 := Lib.hid (show ∀ k, k < w3.heap.size → w8.heap[k]? = w6.heap[k]? from fun k hk => by
        have hne : k ≠ g := by omega
        rw [← hW, heapSet_ne _ _ hne, heapSet_ne _ _ hne, heapSet_ne _ _ hne, heapSet_ne _ _ hne, heapSet_ne _ _ hne, heapSet_ne _ _ hne, heapSet_ne _ _ hne, heapSet_ne _ _ hne])
      have BW8 := Lib.hid (show Below w.heap.size w w8 by
        have hle : w.heap.size ≤ g := by omega
        rw [← hW]
        exact (((((((BW6.out.setCell hle _).setCell hle _).setCell hle _).setCell hle _).setCell hle _).setCell hle _).setCell hle _).setCell hle _)
      clear hW b0 b1 b2 b3 b4 b5 b6 b7 x0 x1 x2 x3 x4 x5 x6 x7 xf SET
      have R3 := Lib.hid (show w8.heap[w.heap.size + 1]? = _ from (HK8.out _ (by omega)).trans Y36.out)
      have R4 := Lib.hid (show w8.heap[w.heap.size + 1 + 1]? = _ from (HK8.out _ (by omega)).trans Y46.out)
      have c1 : w8.cell? ⟨w.heap.size + 1, 1, none⟩ = some (.int .i64 y1) := cellAt R3.out 1 rfl
      have c2 : w8.cell? ⟨w.heap.size + 1, 2, none⟩ = some (.int .i64 y2) := cellAt R3.out 2 rfl
      have d0 : w8.cell? ⟨w.heap.size + 1 + 1, 0, none⟩ = some (.int .i64 0) := cellAt R4.out 0 rfl
      have d1 : w8.cell? ⟨w.heap.size + 1 + 1, 1, none⟩ = some (.int .i64 0) := cellAt R4.out 1 rfl
      have d2 : w8.cell? ⟨w.heap.size + 1 + 1, 2, none⟩ = some (.slice none 0 0) := cellAt R4.out 2 rfl
      have df := freeAt R4.out
      obtain ⟨za, zc, hzv, -⟩ := id O8.out.row
      injection hzv with hz1 hz2 hz3
      rw [hz2] at O8 ⊢
      clear hz1 hz3
      go_wp2_with fail
      generalize hW : World.setCell _ _ _ = wY
      have zY : wY.heap[w.heap.size + 1 + 1]? = some (.cells #[.int .i64 y1, .int .i64 y2, .slice (some ⟨g, 0, none⟩) P.length sc] 39 (0, 0)) := by
        rw [← hW]; exact heapSet (heapSet (heapSet R4.out _) _) _
      have hle2 : w.heap.size ≤ w.heap.size + 1 + 1 := by omega
      have bY : Below w.heap.size w wY := by rw [← hW]; exact ((BW8.out.setCell hle2 _).setCell hle2 _).setCell hle2 _
      have hq : ∀ k, k ≠ w.heap.size + 1 + 1 → wY.heap[k]? = w8.heap[k]? := fun k hk => by
        rw [← hW, heapSet_ne _ _ hk, heapSet_ne _ _ hk, heapSet_ne _ _ hk]
      have oY : OwnV wY w.heap.size (.slice (some ⟨g, 0, none⟩) P.length sc) P := ownV_move O8.out (by omega) (fun k hk hk2 => hq k (by omega))
      clear hW c1 c2 d0 d1 d2 df hq
      have e0 : wY.cell? ⟨w.heap.size + 1 + 1, 0, none⟩ = some (.int .i64 y1) := cellAt zY 0 rfl
      have e1 : wY.cell? ⟨w.heap.size + 1 + 1, 1, none⟩ = some (.int .i64 y2) := cellAt zY 1 rfl
      have e2 : wY.cell? ⟨w.heap.size + 1 + 1, 2, none⟩ = some (.slice (some ⟨g, 0, none⟩) P.length sc) := cellAt zY 2 rfl
      refine bodyPost_ret (v := .tuple #[.agg #[.int .i64 y1, .int .i64 y2, .slice (some ⟨g, 0, none⟩) P.length sc], .int .i64 0]) ?_ rfl ⟨bY, .inr ⟨_, rfl, oY⟩⟩
      simp [results, Try.results15, go_sem, e0, e1, e2]
end Go.Proofs.Ytdkbajdnckmckaa
