/-
  The walk of conclavekeep.ChosenMost: it takes more than half to choose.
-/
import Derived.Test.YtdkbajdnckmckaaCho
import Derived.Test.YtdkbajdnckmckaaPick
set_option linter.unusedVariables false
set_option linter.unusedSimpArgs false
namespace Go.Proofs.Ytdkbajdnckmckaa
open Go.RowKit Go.Con
/-- the acceptor that has voted -/
def voteA (s : Int) : Apr := ⟨(2, 1), [⟨3, (2, 1), ⟨2, 0, s, 0, 0⟩⟩]⟩
def mostA (s : Int) (k i : Nat) : Apr := if i < k then voteA s else Apr.zero
structure MInv (w wr : World) (vb q : Nat) (s : Int) (k : Nat) (acs : List Acr) (lv : Value) : Prop where
  below : Below w.heap.size w wr
  vot : wr.heap[vb]? = some (.cells #[.int .i64 3, .int .i64 2, .int .i64 1, .int .i64 2, .int .i64 0, .int .i64 s, .int .i64 0, .int .i64 0] 32 (0, 0))
  all : AllA wr (vb + 1) lv acs
  are : acs.map (·.a) = (List.range q).map (mostA s k)
  lo : w.heap.size ≤ vb
theorem MInv.next {w wr wB w' : World} {vb q : Nat} {s : Int} {k : Nat} {acs : List Acr} {lv lv' : Value} {c : Acr} {o : Obj} (h : MInv w wr vb q s k acs lv) (B : Below wr.heap.size wr wB) (hc : c.a = mostA s k q) (hok : c.a.ok = true)
    (hv : Votes wB (.slice c.ad c.n c.c) c.a.l) (hvl : c.a.l ≠ [] → ∀ j, (Value.slice c.ad c.n c.c).ownBlock = some j → wr.heap.size ≤ j)
    (hown : OwnA w' (vb + 1) lv' (acs ++ [c])) (hg : (wB.alloc o).grownBy w' lv.ownBlock) (hat : lv'.ownBlock = lv.ownBlock ∨ lv'.ownBlock = some (wB.alloc o).heap.size) : MInv w w' vb (q + 1) s k (acs ++ [c]) lv' := by
  have hal := row_lt h.all.own
  have hvb := lt_of_heap h.vot
  have hBs := B.size
  have BC : Below wr.heap.size wr (wB.alloc o) := B.alloc hBs _
  have hacc : AccAt (wB.alloc o) (vb + 1) lv.ownBlock c := ⟨hok, hv.stay ((Below.refl _ _).alloc (Nat.le_refl _) _), fun hl j hj => ⟨by have := hvl hl j hj; omega, fun e => by have h1 := hvl hl j hj; have h2 := (hal j e.symm).2; omega⟩⟩
  refine ⟨(h.below.trans (BC.mono h.below.size)).grown hg (by have := h.below.size; simp; omega) (fun j hj => by have := (hal j hj).1; have := h.lo; omega), (hg.block _ (by simp; omega) (fun e => by have := (hal vb e.symm).1; omega)).trans ((heapOld _ _ _ (by omega)).trans ((B.block _ hvb).trans h.vot)),
    (h.all.stay BC).grown hown hg hat hacc, ?_, h.lo⟩
  rw [List.map_append, h.are, List.range_succ, List.map_append]
  simp [hc]
theorem voteA_ok {s : Int} (h0 : 0 ≤ s) (h1 : s < 100) : okV ⟨3, (2, 1), ⟨2, 0, s, 0, 0⟩⟩ = true := by
  have hcc : checkC ⟨2, 0, s, 0, 0⟩ = 0 := by
    unfold checkC
    rw [if_neg (show ¬ ((2 : Int) = 0) by decide), if_pos (show (1 : Int) ≤ 2 ∧ (2 : Int) ≤ 3 by decide)]
    have hr : inRange ⟨2, 0, s, 0, 0⟩ = true := by unfold inRange; rw [decide_eq_true_eq]; simp; omega
    rw [if_neg (by rw [hr]; decide), if_neg (show ¬ ((2 : Int) ≠ 1 ∧ (0 : Int) ≠ 0) by decide)]
  unfold okV
  rw [hcc]
  simp [okB]
/-- the votes that are told -/
theorem slot_most (s : Int) (k t : Nat) (acs : List Acr) (slot : Int) (n : Nat) (h : acs.map (·.a) = (List.range n).map (mostA s k)) (hk : k ≤ n) : slotV slot acs = if slot = 3 then List.replicate k ⟨3, (2, 1), ⟨2, 0, s, 0, 0⟩⟩ else [] := by
  have e : slotV slot acs = (acs.map (·.a)).flatMap fun a => a.l.filter fun y => decide (y.slot = slot) := by
    unfold slotV
    rw [List.flatMap_map]
  rw [e, h]
  have g : ∀ m, ((List.range m).map (mostA s k)).flatMap (fun a => a.l.filter fun y => decide (y.slot = slot)) = if slot = 3 then List.replicate (min m k) ⟨3, (2, 1), ⟨2, 0, s, 0, 0⟩⟩ else [] := by
    intro m
    induction m with
    | zero => simp
    | succ m ih =>
      rw [List.range_succ, List.map_append, List.flatMap_append, ih]
      by_cases hm : m < k
      · have e1 : min (m + 1) k = min m k + 1 := by omega
        have e2 : mostA s k m = voteA s := by rw [mostA, if_pos hm]
        by_cases hs : slot = 3
        · subst hs
          rw [if_pos rfl, if_pos rfl, e1, List.replicate_succ']
          simp [e2, voteA]
        · rw [if_neg hs, if_neg hs]
          have : ¬ (3 : Int) = slot := fun e => hs e.symm
          simp [e2, voteA, this]
      · have e1 : min (m + 1) k = min m k := by omega
        have e2 : mostA s k m = Apr.zero := by rw [mostA, if_neg hm]
        rw [e1]
        simp [e2, Apr.zero]
  rw [g n, show min n k = k by omega]
set_option maxRecDepth 100000 in
set_option maxHeartbeats 4000000 in
theorem walk_ChosenMost (u0 : Value) (x0 : Int) (u1 : Value) (x1 : Int) (u2 : Value) (x2 : Int) (w : World) (h0 : IsInt u0 x0) (h1 : IsInt u1 x1) (h2 : IsInt u2 x2) :
    Calls Try.prog 7 #[u0, u1, u2] w fun e w' => e = .returned (.bool true) ∧ Below w.heap.size w w' := by
  obtain ⟨rfl, a1, a2⟩ := h0
  obtain ⟨rfl, b1, b2⟩ := h1
  obtain ⟨rfl, c1, c2⟩ := h2
  obtain ⟨nn, hnn⟩ : ∃ n : Nat, 1 + pick x0 5 = (n : Int) := ⟨(1 + pick x0 5).toNat, by have := pick_nonneg x0 5 (by omega); omega⟩
  have hn1 : 1 ≤ nn := by have := pick_nonneg x0 5 (by omega); omega
  have hn5 : nn ≤ 5 := by have := pick_lt x0 5 (by omega); omega
  obtain ⟨kk, hkk⟩ : ∃ k : Nat, pick x1 ((nn : Int) + 1) = (k : Int) := ⟨(pick x1 ((nn : Int) + 1)).toNat, by have := pick_nonneg x1 ((nn : Int) + 1) (by omega); omega⟩
  have hkn : kk ≤ nn := by have := pick_lt x1 ((nn : Int) + 1) (by omega); omega
  obtain ⟨s, hs⟩ : ∃ s, pick x2 100 = s := ⟨_, rfl⟩
  have hs0 : 0 ≤ s := by rw [← hs]; exact pick_nonneg x2 100 (by omega)
  have hs1 : s < 100 := by rw [← hs]; exact pick_lt x2 100 (by omega)
  have P0 := Lib.hid (fun w => picked_any x0 5 w a1 a2 (by decide))
  have P1 := Lib.hid (fun w => picked_any x1 ((nn : Int) + 1) w b1 b2 (by omega))
  have P2 := Lib.hid (fun w => picked_any x2 100 w c1 c2 (by decide))
  have HNN := Lib.hid hnn
  rw [hkk] at P1
  rw [hs] at P2
  have OKY := Lib.hid (voteA_ok hs0 hs1)
  have hw1 : IntKind.i64.wrap ((nn : Int) + 1) = (nn : Int) + 1 := IntWalk.i64_in _ (by omega)
  have hw0 : IntKind.i64.wrap (1 + pick x0 5) = 1 + pick x0 5 := by rw [hnn]; exact IntWalk.i64_in _ (by omega)
  clear hkk hs hnn
  go_enter Try.func7, Try.ntmps7
  go_upto_region 2 with (go_at_call 10; refine (P0.out _).mono ?_; rintro e _ ⟨rfl, rfl⟩)
  rw [HNN.out]
  clear hw0 HNN P0
  go_upto_region 3 with (go_at_call 10; refine (P1.out _).mono ?_; rintro e _ ⟨rfl, rfl⟩)
  go_upto_region 4 with (go_at_call 10; refine (P2.out _).mono ?_; rintro e _ ⟨rfl, rfl⟩)
  generalize hW : World.alloc _ _ = w1
  have inv0 : Hid (MInv w w1 w.heap.size 0 s kk [] (.slice none 0 0)) := Lib.hid ⟨by rw [← hW]; exact (Below.refl _ _).alloc (Nat.le_refl _) _, by rw [← hW]; exact heapNew _ _, ⟨World.ownsRow_nil _ _ _ _, fun x hx => by cases hx⟩, rfl, Nat.le_refl _⟩
  obtain ⟨vb, hvb⟩ : ∃ b, b = w.heap.size := ⟨_, rfl⟩
  rw [← hvb] at inv0 ⊢
  have hvlo : w.heap.size ≤ vb := by omega
  clear hW P1 P2 hvb
  go_wp2_with fail
  go_loopw [10, 11, 12, 13, 14] (fun lv i _ _ _ wr => ∃ q : Nat, q ≤ nn ∧ i = .int .i64 q ∧ Hid (∃ acs, MInv w wr vb q s kk acs lv)) (fun _ i _ _ _ _ => nn - (intOf i).toNat)
  case atStart => exact ⟨0, by omega, rfl, Lib.hid ⟨_, inv0.out⟩⟩
  case round =>
    clear inv0
    obtain ⟨q, hqn, rfl, HI⟩ := hrel
    obtain ⟨acs, hinv⟩ := HI.out
    obtain ⟨la, lc, hlv, -⟩ := id hinv.all.own.row
    subst hlv
    have hlen : acs.length = q := by have := congrArg List.length hinv.are; simpa using this
    rw [hlen] at hinv ⊢
    have HLEN := Lib.hid hlen
    have INV := Lib.hid hinv
    clear hinv HI hlen
    by_cases hq : q < nn
    · have hd1 : decide ((q : Int) < nn) = true := by rw [decide_eq_true_eq]; omega
      have hd1n : decide (q < nn) = true := by rw [decide_eq_true_eq]; omega
      go_upto_region 9 with fail
      generalize hW : World.alloc _ _ = w2
      have hx2 : w2.heap[wr.heap.size]? = some (.cells #[.int .i64 0, .int .i64 0, .slice none 0 0] 39 (0, 0)) := by rw [← hW]; exact heapNew _ _
      have b2 : Below wr.heap.size wr w2 := by rw [← hW]; exact (Below.refl _ _).alloc (Nat.le_refl _) _
      obtain ⟨ab, hab⟩ : ∃ b, b = wr.heap.size := ⟨_, rfl⟩
      rw [← hab] at hx2 ⊢
      have hvw := lt_of_heap INV.out.vot
      have hab1 : wr.heap.size ≤ ab := by omega
      have hva : vb < ab := by omega
      have HX2 := Lib.hid hx2
      have HB2 := Lib.hid b2
      have hv2 := (b2.block _ hvw).trans INV.out.vot
      have HV2 := Lib.hid hv2
      have hla2 := lt_of_heap hx2
      clear hW hx2 b2 hab hv2
      by_cases hk : q < kk
      · have hd2 : decide ((q : Int) < kk) = true := by rw [decide_eq_true_eq]; omega
        have hd2n : decide (q < kk) = true := by rw [decide_eq_true_eq]; omega
        have e0 := cellAt HX2.out 0 rfl
        have e1 := cellAt HX2.out 1 rfl
        have e2 := cellAt HX2.out 2 rfl
        have t0 := cellAt HV2.out 0 rfl
        have t1 := cellAt HV2.out 1 rfl
        have t2 := cellAt HV2.out 2 rfl
        have t3 := cellAt HV2.out 3 rfl
        have t4 := cellAt HV2.out 4 rfl
        have t5 := cellAt HV2.out 5 rfl
        have t6 := cellAt HV2.out 6 rfl
        have t7 := cellAt HV2.out 7 rfl
        have HACC := Lib.hid (Accept_high 0 0 3 2 1 2 0 s 0 0 (.slice none 0 0) [] w2 (votes_nil _) (by decide) OKY.out (by simp) (Lib.hid (by decide)))
        go_upto_region 11 with (go_at_call 15; refine HACC.out.mono ?_; rintro e w3 ⟨sa, sc, sn, hsn, rfl, ho3, hb3⟩; have hsn1 : sn = 1 := hsn; subst hsn1; have B3 := Lib.hid hb3; have O3 := Lib.hid (show OwnV w3 w2.heap.size (.slice sa 1 sc) [⟨3, (2, 1), ⟨2, 0, s, 0, 0⟩⟩] from ho3); clear ho3 hb3 hsn)
        generalize hW : World.alloc _ _ = w4
        have hx4 : w4.heap[w3.heap.size]? = some (.cells #[.int .i64 2, .int .i64 1, .slice sa 1 sc] 39 (0, 0)) := by rw [← hW]; exact heapNew _ _
        have b34 : Below w3.heap.size w3 w4 := by rw [← hW]; exact (Below.refl _ _).alloc (Nat.le_refl _) _
        have b24 := B3.out.trans (b34.mono B3.out.size)
        have O4 := Lib.hid (ownV_move O3.out (Nat.le_refl _) (fun k _ hk => b34.block k hk))
        have z4 := (b24.block _ hla2).trans HX2.out
        have b4 : Below wr.heap.size wr w4 := HB2.out.trans (b24.mono HB2.out.size)
        have hs4 := B3.out.size
        obtain ⟨nb, hnb⟩ : ∃ b, b = w3.heap.size := ⟨_, rfl⟩
        rw [← hnb] at hx4 ⊢
        have hnab : ¬ (nb = ab) := by omega
        have n0 := cellAt hx4 0 rfl
        have n1 := cellAt hx4 1 rfl
        have n2 := cellAt hx4 2 rfl
        have y0 := cellAt z4 0 rfl
        have y1 := cellAt z4 1 rfl
        have y2 := cellAt z4 2 rfl
        have yf := freeAt z4
        have HZ4 := Lib.hid z4
        have HB4 := Lib.hid b4
        clear hW hx4 b34 b24 z4 b4 hnb e0 e1 e2 t0 t1 t2 t3 t4 t5 t6 t7 O3 B3 HACC
        go_upto_region 14 with fail
        have z5 := heapSet (o := 2) (heapSet (o := 1) (heapSet (o := 0) HZ4.out (.int .i64 2)) (.int .i64 1)) (.slice sa 1 sc)
        have b5 := ((HB4.out.setCell (p := ⟨ab, 0, none⟩) hab1 (.int .i64 2)).setCell (p := ⟨ab, 1, none⟩) hab1 (.int .i64 1)).setCell (p := ⟨ab, 2, none⟩) hab1 (.slice sa 1 sc)
        have o5 : OwnV _ w2.heap.size (.slice sa 1 sc) [⟨3, (2, 1), ⟨2, 0, s, 0, 0⟩⟩] := ownV_move O4.out (Nat.le_refl _) (fun k hk0 hk => (heapSet_ne 2 (.slice sa 1 sc) (show k ≠ ab by omega)).trans ((heapSet_ne 1 (.int .i64 1) (show k ≠ ab by omega)).trans (heapSet_ne 0 (.int .i64 2) (show k ≠ ab by omega))))
        generalize hW : World.setCell _ _ _ = w5 at z5 b5 o5 ⊢
        have q0 := cellAt z5 0 rfl
        have q1 := cellAt z5 1 rfl
        have q2 := cellAt z5 2 rfl
        have HB5 := Lib.hid b5
        have HO5 := Lib.hid o5
        have hs2 := HB2.out.size
        have MIDO := Lib.hid (fun o => (INV.out.all.stay (b5.alloc b5.size o)).own)
        have hs5 := b5.size
        have hsw := INV.out.below.size
        clear hW z5 b5 o5 n0 n1 n2 y0 y1 y2 yf
        go_upto_region 7 with (at_builtin; refine apA rfl (.tmp 49) (.tmp 51) rfl (vb + 1) _ acs ⟨voteA s, sa, 1, sc⟩ w5.heap.size rfl (MIDO.out _) (by simp [go_sem]) (heapNew _ _) (by have := HLEN.out; omega) (by simp; omega) ?_; intro v9 w9 ho9 hg9 hat9; have O9 := Lib.hid ho9; have G9 := Lib.hid hg9; have A9 := Lib.hid hat9; clear ho9 hg9 hat9)
        have NEW := Lib.hid (INV.out.next (c := ⟨voteA s, sa, 1, sc⟩) HB5.out (by show voteA s = mostA s kk q; rw [mostA, if_pos hk]) (by show okA (2, 1) (putV ⟨3, (2, 1), ⟨2, 0, s, 0, 0⟩⟩ []) = true; exact okA_put (p := (0, 0)) (by decide) OKY.out (show ¬ cmpB (2, 1) (0, 0) < 0 by decide)) HO5.out.votes (fun _ j hj => by have := (row_lt HO5.out j hj).1; omega) O9.out G9.out A9.out)
        clear q0 q1 q2
        go_wp2_with fail
        go_roundw
        case rel => exact ⟨q + 1, by omega, by go_num, Lib.hid ⟨_, NEW.out⟩⟩
        case measure => simp [intOf]; omega
      · have hd2 : decide ((q : Int) < kk) = false := by rw [decide_eq_false_iff_not]; omega
        have hd2n : decide (q < kk) = false := by rw [decide_eq_false_iff_not]; omega
        have q0 := cellAt HX2.out 0 rfl
        have q1 := cellAt HX2.out 1 rfl
        have q2 := cellAt HX2.out 2 rfl
        have MIDO := Lib.hid (fun o => (INV.out.all.stay (HB2.out.alloc HB2.out.size o)).own)
        have hs5 := HB2.out.size
        go_upto_region 7 with (at_builtin; refine apA rfl (.tmp 49) (.tmp 51) rfl (vb + 1) _ acs ⟨Apr.zero, none, 0, 0⟩ w2.heap.size rfl (MIDO.out _) (by simp [go_sem]) (heapNew _ _) (by have := HLEN.out; omega) (by simp; omega) ?_; intro v9 w9 ho9 hg9 hat9; have O9 := Lib.hid ho9; have G9 := Lib.hid hg9; have A9 := Lib.hid hat9; clear ho9 hg9 hat9)
        have NEW := Lib.hid (INV.out.next (c := ⟨Apr.zero, none, 0, 0⟩) HB2.out (by show Apr.zero = mostA s kk q; rw [mostA, if_neg hk]) (by decide) (votes_nil _) (fun h => absurd rfl h) O9.out G9.out A9.out)
        clear q0 q1 q2
        go_wp2_with fail
        go_roundw
        case rel => exact ⟨q + 1, by omega, by go_num, Lib.hid ⟨_, NEW.out⟩⟩
        case measure => simp [intOf]; omega
    · have hd1 : decide ((q : Int) < nn) = false := by rw [decide_eq_false_iff_not]; omega
      have hd1n : decide (q < nn) = false := by rw [decide_eq_false_iff_not]; omega
      obtain rfl : q = nn := by omega
      have hal := INV.out.all
      have hare := INV.out.are
      have hlen := HLEN.out
      have hcount : ∀ y, (slotV 3 acs).count y = if y = ⟨3, (2, 1), ⟨2, 0, s, 0, 0⟩⟩ then kk else 0 := fun y => by
        rw [slot_most s kk 0 acs 3 q hare hkn, if_pos rfl, List.count_replicate]
        by_cases hy : y = ⟨3, (2, 1), ⟨2, 0, s, 0, 0⟩⟩
        · rw [if_pos hy, if_pos (by rw [hy]; exact beq_self_eq_true _)]
        · rw [if_neg hy, if_neg (by simpa using fun e => hy e.symm)]
      have hcount4 : ∀ y, (slotV 4 acs).count y = 0 := fun y => by rw [slot_most s kk 0 acs 4 q hare hkn, if_neg (by decide)]; rfl
      have H4 := Lib.hid (show ∀ W, Below wr.heap.size wr W → Calls Try.prog 18 #[.slice la q lc, .int .i64 4] W fun e w' => e = .returned (.tuple #[.agg #[.int .i64 0, .int .i64 0, .int .i64 0, .int .i64 0, .int .i64 0], .int .i64 9]) ∧ Below W.heap.size W w' from fun W hW =>
        (Chosen_ok acs _ 4 W (RdRow.stay hal.own.row hW) (fun x hx => (hal.each x hx).vs.stay hW) (fun x hx => (hal.each x hx).ok) (by decide) (by decide) (by omega) (by omega)).mono fun e w' ⟨h1, h2⟩ => by
          refine ⟨?_, h1⟩
          rcases h2 with ⟨y, h3, -⟩ | ⟨-, h3⟩
          · rw [hcount4 y] at h3; omega
          · exact h3)
      have HX := Lib.hid (show ∀ W, Below w.heap.size w W → True from fun _ _ => trivial)
      have HVB := Lib.hid INV.out.vot
      have hvl := lt_of_heap INV.out.vot
      have BW := Lib.hid INV.out.below
      by_cases hmore : q < 2 * kk
      · have H3 := Lib.hid (show Calls Try.prog 18 #[.slice la q lc, .int .i64 3] wr fun e w' => e = .returned (.tuple #[.agg #[.int .i64 2, .int .i64 0, .int .i64 s, .int .i64 0, .int .i64 0], .int .i64 0]) ∧ Below wr.heap.size wr w' from
          (Chosen_ok acs _ 3 wr hal.own.row (fun x hx => (hal.each x hx).vs) (fun x hx => (hal.each x hx).ok) (by decide) (by decide) (by omega) (by omega)).mono fun e w' ⟨h1, h2⟩ => by
            refine ⟨?_, h1⟩
            rcases h2 with ⟨y, h3, h4⟩ | ⟨h3, -⟩
            · rw [hcount y] at h3
              by_cases hy : y = ⟨3, (2, 1), ⟨2, 0, s, 0, 0⟩⟩
              · rw [h4, hy]; rfl
              · rw [if_neg hy] at h3; omega
            · exact absurd (by rw [hcount, if_pos rfl, hlen]; exact hmore) (h3 ⟨3, (2, 1), ⟨2, 0, s, 0, 0⟩⟩))
        have hwk : IntKind.i64.wrap (2 * (kk : Int)) = 2 * (kk : Int) := IntWalk.i64_in _ (by omega)
        have hd5 : decide ((q : Int) < 2 * (kk : Int)) = true := by rw [decide_eq_true_eq]; omega
        have hd5n : decide (q < 2 * kk) = true := by rw [decide_eq_true_eq]; exact hmore
        clear hal hare hcount hcount4 INV HX hlen
        go_upto_region 16 with (go_at_call 18; refine H3.out.mono ?_; rintro e w3 ⟨rfl, hb3⟩; have B3 := Lib.hid hb3; clear hb3)
        generalize hW : World.alloc _ _ = w4
        have hx4 : w4.heap[w3.heap.size]? = some (.cells #[.int .i64 2, .int .i64 0, .int .i64 s, .int .i64 0, .int .i64 0] 30 (0, 0)) := by rw [← hW]; exact heapNew _ _
        have b4 : Below wr.heap.size wr w4 := by rw [← hW]; exact B3.out.alloc B3.out.size _
        obtain ⟨cb, hcb⟩ : ∃ b, b = w3.heap.size := ⟨_, rfl⟩
        rw [← hcb] at hx4 ⊢
        have HX4 := Lib.hid hx4
        have B4 := Lib.hid b4
        clear hW hx4 b4 hcb B3 H3
        go_upto_region 17 with (go_at_call 18; refine (H4.out _ B4.out).mono ?_; rintro e w5 ⟨rfl, hb5⟩; have B5 := Lib.hid hb5; clear hb5)
        generalize hW : World.alloc _ _ = w6
        have b6 : Below w4.heap.size w4 w6 := by rw [← hW]; exact B5.out.alloc B5.out.size _
        have bb6 := B4.out.trans (b6.mono B4.out.size)
        have hv6 := (bb6.block _ hvl).trans HVB.out
        have hc6 := (b6.block _ (lt_of_heap HX4.out)).trans HX4.out
        have WIN := Lib.hid (BW.out.trans (bb6.mono BW.out.size))
        have t3 := cellAt hv6 3 rfl
        have t4 := cellAt hv6 4 rfl
        have t5 := cellAt hv6 5 rfl
        have t6 := cellAt hv6 6 rfl
        have t7 := cellAt hv6 7 rfl
        have g0 := cellAt hc6 0 rfl
        have g1 := cellAt hc6 1 rfl
        have g2 := cellAt hc6 2 rfl
        have g3 := cellAt hc6 3 rfl
        have g4 := cellAt hc6 4 rfl
        clear hW b6 bb6 hv6 hc6 B5 H4
        go_wp2_with fail
        go_ret
        exact ⟨rfl, WIN.out⟩
      · have H3 := Lib.hid (show Calls Try.prog 18 #[.slice la q lc, .int .i64 3] wr fun e w' => e = .returned (.tuple #[.agg #[.int .i64 0, .int .i64 0, .int .i64 0, .int .i64 0, .int .i64 0], .int .i64 9]) ∧ Below wr.heap.size wr w' from
          (Chosen_ok acs _ 3 wr hal.own.row (fun x hx => (hal.each x hx).vs) (fun x hx => (hal.each x hx).ok) (by decide) (by decide) (by omega) (by omega)).mono fun e w' ⟨h1, h2⟩ => by
            refine ⟨?_, h1⟩
            rcases h2 with ⟨y, h3, h4⟩ | ⟨-, h3⟩
            · rw [hcount y] at h3
              by_cases hy : y = ⟨3, (2, 1), ⟨2, 0, s, 0, 0⟩⟩
              · rw [if_pos hy] at h3; omega
              · rw [if_neg hy] at h3; omega
            · exact h3)
        have hwk : IntKind.i64.wrap (2 * (kk : Int)) = 2 * (kk : Int) := IntWalk.i64_in _ (by omega)
        have hd5 : decide ((q : Int) < 2 * (kk : Int)) = false := by rw [decide_eq_false_iff_not]; omega
        have hd5n : decide (q < 2 * kk) = false := by rw [decide_eq_false_iff_not]; exact hmore
        clear hal hare hcount hcount4 INV HX hlen
        go_upto_region 16 with (go_at_call 18; refine H3.out.mono ?_; rintro e w3 ⟨rfl, hb3⟩; have B3 := Lib.hid hb3; clear hb3)
        generalize hW : World.alloc _ _ = w4
        have B4 := Lib.hid (show Below wr.heap.size wr w4 by rw [← hW]; exact B3.out.alloc B3.out.size _)
        clear hW B3 H3
        go_upto_region 17 with (go_at_call 18; refine (H4.out _ B4.out).mono ?_; rintro e w5 ⟨rfl, hb5⟩; have B5 := Lib.hid hb5; clear hb5)
        generalize hW : World.alloc _ _ = w6
        have b6 : Below w4.heap.size w4 w6 := by rw [← hW]; exact B5.out.alloc B5.out.size _
        have WIN := Lib.hid (BW.out.trans ((B4.out.trans (b6.mono B4.out.size)).mono BW.out.size))
        clear hW b6 B5 H4
        go_wp2_with fail
        go_ret
        exact ⟨rfl, WIN.out⟩
end Go.Proofs.Ytdkbajdnckmckaa
