/-
  The walk of paxos.Promise.
-/
import Derived.Test.YtdkbajdnckmckaaClV
set_option linter.unusedVariables false
set_option linter.unusedSimpArgs false
namespace Go.Con
open Go
theorem cmpI_flip {a b : Int} : cmpI a b < 0 ↔ a < b := by
  rcases cmpI_cases a b with ⟨h, hr⟩ | ⟨h, hr⟩ | ⟨h, hr⟩ <;> rw [hr] <;> omega
theorem cmpB_low {a b : Int × Int} : cmpB a b < 0 ↔ a.1 < b.1 ∨ (a.1 = b.1 ∧ a.2 < b.2) := by
  unfold cmpB
  rcases cmpI_cases a.1 b.1 with ⟨h, hr⟩ | ⟨h, hr⟩ | ⟨h, hr⟩
  · rw [hr, if_pos (by decide)]; omega
  · rw [hr, if_neg (by decide), cmpI_flip]; omega
  · rw [hr, if_pos (by decide)]; omega
theorem cmpB_most {a b : Int × Int} : cmpB a b ≤ 0 ↔ a.1 < b.1 ∨ (a.1 = b.1 ∧ a.2 ≤ b.2) := by
  have hI : ∀ x y : Int, cmpI x y ≤ 0 ↔ x ≤ y := fun x y => by
    rcases cmpI_cases x y with ⟨h, hr⟩ | ⟨h, hr⟩ | ⟨h, hr⟩ <;> rw [hr] <;> omega
  unfold cmpB
  rcases cmpI_cases a.1 b.1 with ⟨h, hr⟩ | ⟨h, hr⟩ | ⟨h, hr⟩
  · rw [hr, if_pos (by decide)]; omega
  · rw [hr, if_neg (by decide), hI]; omega
  · rw [hr, if_pos (by decide)]; omega
/-- what is allowed under a promise is so under a higher one -/
theorem okVs_higher {p b : Int × Int} (h : ¬ cmpB b p < 0) : ∀ (l : List Vot) (last : Int), okVs p last l = true → okVs b last l = true
  | [], _, _ => rfl
  | v :: l, last, hl => by
    show (okV v && decide (last < v.slot) && decide (cmpB v.bal b ≤ 0) && okVs b v.slot l) = true
    have hl' : (okV v && decide (last < v.slot) && decide (cmpB v.bal p ≤ 0) && okVs p v.slot l) = true := hl
    simp only [Bool.and_eq_true, decide_eq_true_eq] at hl' ⊢
    refine ⟨⟨hl'.1.1, ?_⟩, okVs_higher h l v.slot hl'.2⟩
    have h2 := hl'.1.2
    rw [cmpB_most] at h2 ⊢
    rw [cmpB_low] at h
    omega
theorem okA_higher {p b : Int × Int} {l : List Vot} (h : okA p l = true) (hb : okB b = true) (hc : ¬ cmpB b p < 0) : okA b l = true := by
  unfold okA at h ⊢
  simp only [Bool.and_eq_true] at h ⊢
  exact ⟨by rw [hb, Bool.or_true], okVs_higher hc l _ h.2⟩
end Go.Con
namespace Go.Proofs.Ytdkbajdnckmckaa
open Go.RowKit Go.Con
/-- votes of an acceptor: shown, and nil or not -/
def Votes (w : World) (v : Value) (l : List Vot) : Prop := RdV w v l ∧ (v = .slice none 0 0 ∨ ∃ a n c, v = .slice (some a) n c)
theorem Votes.stay {w w' : World} {v : Value} {l : List Vot} (h : Votes w v l) (hb : Below w.heap.size w w') : Votes w' v l := ⟨RdRow.stay h.1 hb, h.2⟩
theorem OwnV.votes {w : World} {base : Nat} {v : Value} {l : List Vot} (h : OwnV w base v l) : Votes w v l := by
  refine ⟨h.row, ?_⟩
  obtain ⟨-, h2⟩ := h
  rcases h2 with ⟨rfl, -⟩ | ⟨g, cap, cur, rfl, -⟩
  · exact .inl rfl
  · exact .inr ⟨_, _, _, rfl⟩
theorem accCheck_to (r n c : Int) (v : Value) (l : List Vot) (w : World) (hv : RdV w v l) (h : Hid ((if okA (r, n) l then (0 : Int) else 5) = c)) :
    Calls Try.prog 12 #[.agg #[.int .i64 r, .int .i64 n, v]] w fun e w' => e = .returned (.int .i64 c) ∧ Below w.heap.size w w' := by
  rw [← h.out]; exact accCheck_any (r, n) v l w hv
theorem ownV_move {w w' : World} {base base' : Nat} {v : Value} {l : List Vot} (h : OwnV w base v l) (hb : base' ≤ base) (hh : ∀ k, base ≤ k → k < w.heap.size → w'.heap[k]? = w.heap[k]?) : OwnV w' base' v l :=
  row_mono (row_ofHeap h (fun k hk => hh k (row_lt h k hk).1 (row_lt h k hk).2)) hb
theorem alloc3Q {w w0 : World} {A B C : Obj} (h : ((w.alloc A).alloc B).alloc C = w0) : w0.heap[w.heap.size]? = some A ∧ w0.heap[w.heap.size + 1]? = some B ∧ w0.heap[w.heap.size + 1 + 1]? = some C ∧ Below w.heap.size w w0 ∧ w0.heap.size = w.heap.size + 3 := alloc3P h
set_option maxRecDepth 100000 in
set_option maxHeartbeats 4000000 in
theorem Promise_any (p b : Int × Int) (v : Value) (l : List Vot) (w : World) (hv : Votes w v l) (hok : okA p l = true) (hb : okB b = true) (hl : l.length ≤ 1000) :
    Calls Try.prog 14 #[accV p v, .agg #[.int .i64 b.1, .int .i64 b.2]] w fun e w' => Below w.heap.size w w' ∧ ((cmpB b p < 0 ∧ e = .returned (.tuple #[accV (0, 0) (.slice none 0 0), .slice none 0 0, .int .i64 7])) ∨ (¬ cmpB b p < 0 ∧ ∃ v1 v2, e = .returned (.tuple #[accV b v1, v2, .int .i64 0]) ∧ OwnV w' w.heap.size v1 l ∧ OwnV w' w.heap.size v2 l)) := by
  obtain ⟨pr, pn⟩ := p
  obtain ⟨br, bn⟩ := b
  obtain ⟨ea, ec, rfl, hle, hcm, -⟩ := id hv.1
  show Calls Try.prog 14 #[.agg #[.int .i64 pr, .int .i64 pn, .slice ea l.length ec], .agg #[.int .i64 br, .int .i64 bn]] w _
  obtain ⟨n, hn⟩ : ∃ n, n = l.length := ⟨_, rfl⟩
  rw [← hn] at hv hle hl ⊢
  have HV := Lib.hid hv
  have HN := Lib.hid hn
  have HOK := Lib.hid (show (if okA (pr, pn) l then (0 : Int) else 5) = 0 by rw [hok]; rfl)
  have HB := Lib.hid hb
  obtain ⟨c, hc⟩ : ∃ c, c = cmpB (br, bn) (pr, pn) := ⟨_, rfl⟩
  rw [← hc]
  have HC := Lib.hid hc.symm
  clear hv hn hok hb hc
  go_enter Try.func14, Try.ntmps14
  go_upto_region 1 with fail
  generalize hW : World.alloc _ _ = w0
  have G := Lib.hid (alloc3Q hW)
  have a0 := cellAt G.out.1 0 rfl
  have a1 := cellAt G.out.1 1 rfl
  have a2 := cellAt G.out.1 2 rfl
  clear hW
  go_upto_region 4 with (go_at_call 12; refine (accCheck_to _ _ _ _ l _ ((HV.out.stay G.out.2.2.2.1).1) HOK).mono ?_; rintro e w1 ⟨rfl, hb1⟩; have B1 := Lib.hid hb1; have g3 := (hb1.block _ (lt_of_heap G.out.2.1)).trans G.out.2.1; have b0 := cellAt g3 0 rfl; have b1 := cellAt g3 1 rfl; clear hb1 g3)
  clear a0 a1 a2
  go_upto_region 6 with (go_at_call 22; refine (ballot_to _ _ _ _ HB).mono ?_; rintro e w2 ⟨rfl, hb2⟩; have B2 := Lib.hid (B1.out.trans (hb2.mono B1.out.size)); clear hb2)
  clear b0 b1
  have g2 := (B2.out.block _ (lt_of_heap G.out.1)).trans G.out.1
  have g3 := (B2.out.block _ (lt_of_heap G.out.2.1)).trans G.out.2.1
  have g4 := (B2.out.block _ (lt_of_heap G.out.2.2.1)).trans G.out.2.2.1
  have G2 := Lib.hid g2
  have G3 := Lib.hid g3
  have G4 := Lib.hid g4
  have BW2 := Lib.hid (G.out.2.2.2.1.trans (B2.out.mono G.out.2.2.2.1.size))
  have a0 := cellAt g2 0 rfl
  have a1 := cellAt g2 1 rfl
  have b0 := cellAt g3 0 rfl
  have b1 := cellAt g3 1 rfl
  clear g2 g3 g4
  by_cases hc0 : c < 0
  · have hcd : decide (c < 0) = true := by rw [decide_eq_true_eq]; exact hc0
    go_wp2_with (go_at_call 21; refine (compare_to _ _ _ _ _ _ HC).mono ?_; rintro e w3 ⟨rfl, hb3⟩; have B3 := Lib.hid (BW2.out.trans (hb3.mono BW2.out.size)); have g4 := (hb3.block _ (lt_of_heap G4.out)).trans G4.out; have Z4 := Lib.hid g4; have z0 := cellAt g4 0 rfl; have z1 := cellAt g4 1 rfl; have z2 := cellAt g4 2 rfl; have zf := freeAt g4; clear hb3 g4)
    generalize hW : World.setCell _ _ _ = w5
    have z5 : w5.heap[w.heap.size + 1 + 1]? = some (.cells #[.int .i64 0, .int .i64 0, .slice none 0 0] 39 (0, 0)) := by
      rw [← hW]; exact heapSet (heapSet (heapSet Z4.out _) _) _
    have hle2 : w.heap.size ≤ w.heap.size + 1 + 1 := by omega
    have b5 : Below w.heap.size w w5 := by rw [← hW]; exact ((B3.out.setCell hle2 _).setCell hle2 _).setCell hle2 _
    clear hW z0 z1 z2 zf
    have e0 : w5.cell? ⟨w.heap.size + 1 + 1, 0, none⟩ = some (.int .i64 0) := cellAt z5 0 rfl
    have e1 : w5.cell? ⟨w.heap.size + 1 + 1, 1, none⟩ = some (.int .i64 0) := cellAt z5 1 rfl
    have e2 : w5.cell? ⟨w.heap.size + 1 + 1, 2, none⟩ = some (.slice none 0 0) := cellAt z5 2 rfl
    refine bodyPost_ret (v := .tuple #[.agg #[.int .i64 0, .int .i64 0, .slice none 0 0], .slice none 0 0, .int .i64 7]) ?_ rfl ⟨b5, .inl rfl⟩
    simp [results, Try.results14, go_sem, e0, e1, e2]
  · have hcd : decide (c < 0) = false := by rw [decide_eq_false_iff_not]; exact hc0
    go_wp2_with (go_at_call 21; refine (compare_to _ _ _ _ _ _ HC).mono ?_; rintro e w3 ⟨rfl, hb3⟩; have B3 := Lib.hid (BW2.out.trans (hb3.mono BW2.out.size)); have g4 := (hb3.block _ (lt_of_heap G4.out)).trans G4.out; have Z4 := Lib.hid g4; have g3 := (hb3.block _ (lt_of_heap G3.out)).trans G3.out; have Z3 := Lib.hid g3; have g2 := (hb3.block _ (lt_of_heap G2.out)).trans G2.out; have Z2 := Lib.hid g2; clear hb3 g4 g3 g2)
    have s0 : w3.cell? ⟨w.heap.size, 2, none⟩ = some (.slice ea n ec) := cellAt Z2.out 2 rfl
    have s1 : w3.cell? ⟨w.heap.size + 1, 0, none⟩ = some (.int .i64 br) := cellAt Z3.out 0 rfl
    have s2 : w3.cell? ⟨w.heap.size + 1, 1, none⟩ = some (.int .i64 bn) := cellAt Z3.out 1 rfl
    have hne1 : ¬ (w.heap.size + 1 + 1 = w.heap.size) := by omega
    have hne2 : ¬ (w.heap.size = w.heap.size + 1 + 1) := by omega
    have hne3 : w.heap.size ≠ w.heap.size + 2 := by omega
    have S0 := Lib.hid s0
    have S1 := Lib.hid s1
    have S2 := Lib.hid s2
    go_region_held3 (fun w' => w'.cell? ⟨w.heap.size, 2, none⟩ = some (.slice ea n ec) ∧ w'.cell? ⟨w.heap.size + 1, 0, none⟩ = some (.int .i64 br) ∧ w'.cell? ⟨w.heap.size + 1, 1, none⟩ = some (.int .i64 bn)) (first | exact SS2 | exact SS | go_keep) (first
      | (have o1 := O1; clear o1; go_at_call 23; refine (clnV_any _ l _ ((HV.out.stay (B3.out.trans (B5.out.mono B3.out.size))).1) HV.out.2 (by rw [← HN.out]; omega)).mono ?_; rintro e w6 ⟨v2, rfl, ho6, hb6⟩; have O2 := Lib.hid ho6; obtain ⟨ta, tc, rfl, -⟩ := id ho6.row; have B65 := Lib.hid hb6; have B6 := Lib.hid (B5.out.trans (hb6.mono B5.out.size)); have SS2 : w6.cell? ⟨w.heap.size, 2, none⟩ = some (.slice ea n ec) ∧ w6.cell? ⟨w.heap.size + 1, 0, none⟩ = some (.int .i64 br) ∧ w6.cell? ⟨w.heap.size + 1, 1, none⟩ = some (.int .i64 bn) := ⟨(World.cell?_of_block (w := w3) (B6.out.block _ (lt_of_heap Z2.out))).trans S0.out, (World.cell?_of_block (w := w3) (B6.out.block _ (lt_of_heap Z3.out))).trans S1.out, (World.cell?_of_block (w := w3) (B6.out.block _ (lt_of_heap Z3.out))).trans S2.out⟩; have y4 := (B6.out.block _ (lt_of_heap Z4.out)).trans Z4.out; have Y4 := Lib.hid y4; have z0 : w6.cell? ⟨w.heap.size + 1 + 1, 0, none⟩ = some (.int .i64 0) := cellAt y4 0 rfl; have z1 : w6.cell? ⟨w.heap.size + 1 + 1, 1, none⟩ = some (.int .i64 0) := cellAt y4 1 rfl; have z2 : w6.cell? ⟨w.heap.size + 1 + 1, 2, none⟩ = some (.slice none 0 0) := cellAt y4 2 rfl; have zf := freeAt y4; clear ho6 hb6 y4)
      | (go_at_call 23; refine (clnV_any _ l _ ((HV.out.stay B3.out.drew).1) HV.out.2 (by rw [← HN.out]; omega)).mono ?_; rintro e w5 ⟨v1, rfl, ho5, hb5⟩; have O1 := Lib.hid ho5; obtain ⟨sa, sc, rfl, -⟩ := id ho5.row; have B5 := Lib.hid (show Below w3.heap.size w3 w5 from (Below.refl w3.heap.size w3).drew.trans hb5); have SS : w5.cell? ⟨w.heap.size, 2, none⟩ = some (.slice ea n ec) ∧ w5.cell? ⟨w.heap.size + 1, 0, none⟩ = some (.int .i64 br) ∧ w5.cell? ⟨w.heap.size + 1, 1, none⟩ = some (.int .i64 bn) := ⟨(World.cell?_of_block (w := w3) (B5.out.block _ (lt_of_heap Z2.out))).trans S0.out, (World.cell?_of_block (w := w3) (B5.out.block _ (lt_of_heap Z3.out))).trans S1.out, (World.cell?_of_block (w := w3) (B5.out.block _ (lt_of_heap Z3.out))).trans S2.out⟩; clear ho5 hb5))
    all_goals go_wp2_with fail
    generalize hW : World.setCell _ _ _ = w7
    have z7 : w7.heap[w.heap.size + 1 + 1]? = some (.cells #[.int .i64 br, .int .i64 bn, .slice sa l.length sc] 39 (0, 0)) := by
      rw [← hW]; exact heapSet (heapSet (heapSet Y4.out _) _) _
    have hle2 : w.heap.size ≤ w.heap.size + 1 + 1 := by omega
    have b7 : Below w.heap.size w w7 := by rw [← hW]; exact (((B3.out.trans (B6.out.mono B3.out.size)).setCell hle2 _).setCell hle2 _).setCell hle2 _
    have h43 : w.heap.size + 1 + 1 < w3.heap.size := lt_of_heap Z4.out
    have h56 := B65.out.size
    have h35 := B5.out.size
    have hq : ∀ k, k ≠ w.heap.size + 1 + 1 → w7.heap[k]? = w6.heap[k]? := fun k hk => by
      rw [← hW, heapSet_ne _ _ hk, heapSet_ne _ _ hk, heapSet_ne _ _ hk]
    have o1 : OwnV w7 w.heap.size (.slice sa l.length sc) l := ownV_move O1.out (Nat.le_trans (by omega) (Nat.le_refl w3.heap.size)) (fun k hk hk2 => by
      have hk' : w3.heap.size ≤ k := hk
      rw [hq k (by omega)]; exact B65.out.block k hk2)
    have o2 : OwnV w7 w.heap.size (.slice ta l.length tc) l := ownV_move O2.out (by omega) (fun k hk hk2 => hq k (by omega))
    clear hW z0 z1 z2 zf hq SS SS2 s0 s1 s2
    have e0 : w7.cell? ⟨w.heap.size + 1 + 1, 0, none⟩ = some (.int .i64 br) := cellAt z7 0 rfl
    have e1 : w7.cell? ⟨w.heap.size + 1 + 1, 1, none⟩ = some (.int .i64 bn) := cellAt z7 1 rfl
    have e2 : w7.cell? ⟨w.heap.size + 1 + 1, 2, none⟩ = some (.slice sa l.length sc) := cellAt z7 2 rfl
    refine bodyPost_ret (v := .tuple #[.agg #[.int .i64 br, .int .i64 bn, .slice sa l.length sc], .slice ta l.length tc, .int .i64 0]) ?_ rfl ⟨b7, .inr ⟨_, _, rfl, o1, o2⟩⟩
    simp [results, Try.results14, go_sem, e0, e1, e2]
end Go.Proofs.Ytdkbajdnckmckaa
