/-
  The walks of slices.Clone of votes, and of the search of a slot among votes.
-/
import Derived.Test.YtdkbajdnckmckaaAcc
import Derived.Lib.SliceRun
import Derived.Shelf.Abstract
set_option linter.unusedVariables false
set_option linter.unusedSimpArgs false
namespace Go.Proofs.Ytdkbajdnckmckaa
open Go.RowKit Go.Con
/-- votes, or none at all -/
theorem clnV_nil (w : World) : Calls Try.prog 23 #[.slice none 0 0] w fun e w' => e = .returned (.slice none 0 0) ∧ w' = w := by
  have hnl := fun (w : World) => Lib.run_eql_slice_nil (P := Try.prog) w 23 32 none 0 0 0 0 Try.underlying23
  go_enter Try.func23, Try.ntmps23
  go_wp2_with fail
  go_ret
  exact ⟨rfl, rfl⟩
theorem clnV_some (a : Addr) (n c : Nat) (l : List Vot) (w : World) (hv : RdV w (.slice (some a) n c) l) (hl : l.length ≤ 100000) :
    Calls Try.prog 23 #[.slice (some a) n c] w fun e w' => ∃ v', e = .returned v' ∧ OwnV w' w.heap.size v' l ∧ Below w.heap.size w w' := by
  have hnl := fun (w : World) => Lib.run_eql_slice_nil (P := Try.prog) w 23 32 (some a) n c 0 0 Try.underlying23
  have HV := Lib.hid hv
  clear hv
  go_enter Try.func23, Try.ntmps23
  go_wp2_with (at_builtin; refine apV rfl (.tmp 5) (.tmp 6) rfl w.heap.size (.slice (some ⟨w.heap.size, 0, none⟩) 0 0) [] l (some a) n c rfl ⟨rfl, .inr ⟨w.heap.size, 0, #[], rfl, Nat.le_refl _, heapNew _ _, Nat.le_refl _, by decide, rfl, rfl⟩⟩ rfl (RdRow.stay HV.out ((Below.refl _ _).alloc (Nat.le_refl _) _)) (fun h => by cases h) (by simp; omega) (by simp) ?_; intro v2 w2 ho2 hg2 _; have O2 := Lib.hid ho2; have G2 := Lib.hid hg2; clear ho2 hg2)
  go_ret
  refine ⟨_, rfl, by have h := O2.out; rwa [List.nil_append] at h, ((Below.refl _ _).alloc (Nat.le_refl _) _).grown G2.out (by simp) (fun k hk => by injection hk with hk; subst hk; exact Nat.le_refl _)⟩
/-- Clone of votes: a row of its own (nil of nil) -/
theorem clnV_any (v : Value) (l : List Vot) (w : World) (hv : RdV w v l) (hn : v = .slice none 0 0 ∨ ∃ a n c, v = .slice (some a) n c) (hl : l.length ≤ 100000) :
    Calls Try.prog 23 #[v] w fun e w' => ∃ v', e = .returned v' ∧ OwnV w' w.heap.size v' l ∧ Below w.heap.size w w' := by
  rcases hn with rfl | ⟨a, n, c, rfl⟩
  · have hl0 : l = [] := by
      obtain ⟨a, c, h, -⟩ := hv
      injection h with h1 h2 h3
      exact List.eq_nil_of_length_eq_zero h2.symm
    subst hl0
    exact (clnV_nil w).mono fun e w' ⟨h1, h2⟩ => ⟨_, h1, World.ownsRow_nil _ _ _ _, by rw [h2]; exact Below.refl _ _⟩
  · exact clnV_some a n c l w hv hl
theorem cmp_toV (a b c : Int) (w : World) (h : Hid (cmpI a b = c)) :
    Calls Try.prog 26 #[.int .i64 a, .int .i64 b] w fun e w' => e = .returned (.int .i64 c) ∧ w = w' :=
  (cmp_to a b c w h).mono fun e w' ⟨h1, h2⟩ => ⟨h1, h2.symm⟩
set_option maxRecDepth 100000 in
set_option maxHeartbeats 1000000 in
theorem slotCmp_to (x0 x1 x2 x3 x4 x5 x6 x7 y0 y1 y2 y3 y4 y5 y6 y7 c : Int) (w : World) (h : Hid (cmpI x0 y0 = c)) :
    Calls Try.prog 25 #[.agg #[.int .i64 x0, .int .i64 x1, .int .i64 x2, .int .i64 x3, .int .i64 x4, .int .i64 x5, .int .i64 x6, .int .i64 x7], .agg #[.int .i64 y0, .int .i64 y1, .int .i64 y2, .int .i64 y3, .int .i64 y4, .int .i64 y5, .int .i64 y6, .int .i64 y7]] w fun e w' => e = .returned (.int .i64 c) ∧ Below w.heap.size w w' := by
  go_enter Try.func25, Try.ntmps25
  go_wp2_with (go_at_call 26; refine (cmp_toV _ _ _ _ (by assumption)).mono ?_; rintro e _ ⟨rfl, rfl⟩)
  go_ret
  exact ⟨rfl, ((Below.refl _ _).alloc (Nat.le_refl _) _).alloc (by simp) _⟩
/-- where a slot is to be found among votes whose slots rise -/
def slotAt (l : List Vot) (s : Int) (i : Nat) : Prop := i ≤ l.length ∧ (∀ q, q < i → (l.getD q Vot.zero).slot < s) ∧ (∀ q, i ≤ q → q < l.length → s ≤ (l.getD q Vot.zero).slot)
set_option maxRecDepth 100000 in
set_option maxHeartbeats 4000000 in
theorem search_any (v : Value) (l : List Vot) (y : Vot) (w : World) (hv : RdV w v l) (hsort : ∀ a b, a < b → b < l.length → (l.getD a Vot.zero).slot < (l.getD b Vot.zero).slot) (hl : l.length ≤ 100000) :
    Calls Try.prog 24 #[v, votV y, .func (.func 25) #[] #[]] w fun e w' => ∃ i : Nat, slotAt l y.slot i ∧ e = .returned (.tuple #[.int .i64 i, .bool (decide (i < l.length ∧ (l.getD i Vot.zero).slot = y.slot))]) ∧ Below w.heap.size w w' := by
  obtain ⟨sl, ⟨br, bn⟩, ⟨ck, ccl, csq, cnm, cvl⟩⟩ := y
  dsimp only
  obtain ⟨ea, ec, rfl, hle, hcm, -⟩ := id hv
  obtain ⟨n, hn⟩ : ∃ n, n = l.length := ⟨_, rfl⟩
  rw [← hn] at hv hle hsort hl ⊢
  show Calls Try.prog 24 #[.slice ea n ec, .agg #[.int .i64 sl, .int .i64 br, .int .i64 bn, .int .i64 ck, .int .i64 ccl, .int .i64 csq, .int .i64 cnm, .int .i64 cvl], .func (.func 25) #[] #[]] w _
  have hcm2 : ec ≤ 9223372036854775807 := hcm
  have HV := Lib.hid hv
  have HN := Lib.hid hn
  have HSORT := Lib.hid hsort
  clear hv hn hsort
  go_enter Try.func24, Try.ntmps24
  go_wp2_with fail
  generalize hW : World.alloc _ _ = w1
  have hz1 : Hid (w1.heap[w.heap.size]? = some (.cells #[.int .i64 sl, .int .i64 br, .int .i64 bn, .int .i64 ck, .int .i64 ccl, .int .i64 csq, .int .i64 cnm, .int .i64 cvl] 32 (0, 0))) := Lib.hid (by rw [← hW]; exact heapNew _ _)
  have BW := Lib.hid (show Below w.heap.size w w1 by rw [← hW]; exact (Below.refl _ _).alloc (Nat.le_refl _) _)
  have RM : w.heap.size < w1.heap.size := lt_of_heap hz1.out
  clear hW
  go_loopw [9, 10] (fun a b wr => ∃ lo hi : Nat, a = .int .i64 lo ∧ b = .int .i64 hi ∧ lo ≤ hi ∧ hi ≤ n ∧ Hid ((∀ q, q < lo → (l.getD q Vot.zero).slot < sl) ∧ (∀ q, hi ≤ q → q < n → sl ≤ (l.getD q Vot.zero).slot) ∧ Below w1.heap.size w1 wr)) (fun a b _ => (intOf b).toNat - (intOf a).toNat)
  case atStart => exact ⟨0, n, rfl, rfl, Nat.zero_le _, Nat.le_refl _, Lib.hid ⟨fun q hq => absurd hq (by omega), fun q h1 h2 => by omega, Below.refl _ _⟩⟩
  case round =>
    obtain ⟨lo, hi, rfl, rfl, hlh, hin, HI⟩ := hrel
    have hzr := Lib.hid ((HI.out.2.2.block _ RM).trans hz1.out)
    have BR := Lib.hid (BW.out.trans (HI.out.2.2.mono BW.out.size))
    by_cases hlt : lo < hi
    · obtain ⟨k, hk⟩ : ∃ k, k = (lo + hi) / 2 := ⟨_, rfl⟩
      have hkI : ((lo : Int) + (hi : Int)) / 2 = (k : Int) := by omega
      have hk1 : lo ≤ k := by omega
      have hk2 : k < hi := by omega
      clear hk
      obtain ⟨eb, eoff, rfl, hel, hec⟩ := HV.out.cells.2.2 k (by omega)
      obtain ⟨y, hy⟩ : ∃ y, y = l.getD k Vot.zero := ⟨_, rfl⟩
      rw [← hy] at hec
      have HY := Lib.hid hy
      have hecr : ∀ q, q < 8 → wr.cell? ⟨eb, eoff + (8 * k + q), none⟩ = (votCells y)[q]? := fun q hq => by
        rw [← hec q hq]; exact World.cell?_of_block (w := w) (BR.out.block eb hel)
      obtain ⟨vs, ⟨v1, v2⟩, ⟨v3, v4, v5, v6, v7⟩⟩ := y
      obtain ⟨x0, x1, x2, x3, x4, x5, x6, x7⟩ := cellsV hecr
      dsimp only at x0 x1 x2 x3 x4 x5 x6 x7
      have y0 : wr.cell? ⟨w.heap.size, 0, none⟩ = some (.int .i64 sl) := cellAt hzr.out 0 rfl
      have y1 : wr.cell? ⟨w.heap.size, 1, none⟩ = some (.int .i64 br) := cellAt hzr.out 1 rfl
      have y2 : wr.cell? ⟨w.heap.size, 2, none⟩ = some (.int .i64 bn) := cellAt hzr.out 2 rfl
      have y3 : wr.cell? ⟨w.heap.size, 3, none⟩ = some (.int .i64 ck) := cellAt hzr.out 3 rfl
      have y4 : wr.cell? ⟨w.heap.size, 4, none⟩ = some (.int .i64 ccl) := cellAt hzr.out 4 rfl
      have y5 : wr.cell? ⟨w.heap.size, 5, none⟩ = some (.int .i64 csq) := cellAt hzr.out 5 rfl
      have y6 : wr.cell? ⟨w.heap.size, 6, none⟩ = some (.int .i64 cnm) := cellAt hzr.out 6 rfl
      have y7 : wr.cell? ⟨w.heap.size, 7, none⟩ = some (.int .i64 cvl) := cellAt hzr.out 7 rfl
      have hmn : k < n := by omega
      have hk0 : (0 : Int) ≤ (k : Int) := by omega
      have hkn : (k : Int) < (n : Int) := by omega
      have hkn2 : (k : Int) ≤ (n : Int) := by omega
      clear hec hecr hy
      have hcc := cmpI_cases vs sl
      have X0 := Lib.hid x0
      have Y0 := Lib.hid y0
      have X1 := Lib.hid x1
      have Y1 := Lib.hid y1
      have X2 := Lib.hid x2
      have Y2 := Lib.hid y2
      have X3 := Lib.hid x3
      have Y3 := Lib.hid y3
      have X4 := Lib.hid x4
      have Y4 := Lib.hid y4
      have X5 := Lib.hid x5
      have Y5 := Lib.hid y5
      have X6 := Lib.hid x6
      have Y6 := Lib.hid y6
      have X7 := Lib.hid x7
      have Y7 := Lib.hid y7
      rcases hcc with ⟨hvs, hc⟩ | ⟨hvs, hc⟩ | ⟨hvs, hc⟩
      · have HC := Lib.hid hc
        have HVS := Lib.hid hvs
        clear hc hvs
        go_upto_region 5 with fail
        go_region_held3 (fun w' => w'.cell? ⟨eb, eoff + k * 8, none⟩ = some (.int .i64 vs) ∧ w'.cell? ⟨eb, eoff + k * 8 + 1, none⟩ = some (.int .i64 v1) ∧ w'.cell? ⟨eb, eoff + k * 8 + 2, none⟩ = some (.int .i64 v2) ∧ w'.cell? ⟨eb, eoff + k * 8 + 3, none⟩ = some (.int .i64 v3) ∧ w'.cell? ⟨eb, eoff + k * 8 + 4, none⟩ = some (.int .i64 v4) ∧ w'.cell? ⟨eb, eoff + k * 8 + 5, none⟩ = some (.int .i64 v5) ∧ w'.cell? ⟨eb, eoff + k * 8 + 6, none⟩ = some (.int .i64 v6) ∧ w'.cell? ⟨eb, eoff + k * 8 + 7, none⟩ = some (.int .i64 v7) ∧ w'.cell? ⟨w.heap.size, 0, none⟩ = some (.int .i64 sl) ∧ w'.cell? ⟨w.heap.size, 1, none⟩ = some (.int .i64 br) ∧ w'.cell? ⟨w.heap.size, 2, none⟩ = some (.int .i64 bn) ∧ w'.cell? ⟨w.heap.size, 3, none⟩ = some (.int .i64 ck) ∧ w'.cell? ⟨w.heap.size, 4, none⟩ = some (.int .i64 ccl) ∧ w'.cell? ⟨w.heap.size, 5, none⟩ = some (.int .i64 csq) ∧ w'.cell? ⟨w.heap.size, 6, none⟩ = some (.int .i64 cnm) ∧ w'.cell? ⟨w.heap.size, 7, none⟩ = some (.int .i64 cvl)) (first | exact S5 | go_keep) (first
          | (first | go_at_call 25 | go_at_fn 25); refine (slotCmp_to _ _ _ _ _ _ _ _ _ _ _ _ _ _ _ _ _ _ HC).mono ?_; rintro e w2 ⟨rfl, hb2⟩; have c5 : ∀ p : Addr, p.block < wr.heap.size → w2.cell? p = wr.cell? p := fun p hp => World.cell?_of_block (w := wr) (hb2.block p.block hp); have B2 := Lib.hid (show Below wr.heap.size wr w2 from (Below.refl wr.heap.size wr).drew.trans hb2); have S5 : w2.cell? ⟨eb, eoff + k * 8, none⟩ = some (.int .i64 vs) ∧ w2.cell? ⟨eb, eoff + k * 8 + 1, none⟩ = some (.int .i64 v1) ∧ w2.cell? ⟨eb, eoff + k * 8 + 2, none⟩ = some (.int .i64 v2) ∧ w2.cell? ⟨eb, eoff + k * 8 + 3, none⟩ = some (.int .i64 v3) ∧ w2.cell? ⟨eb, eoff + k * 8 + 4, none⟩ = some (.int .i64 v4) ∧ w2.cell? ⟨eb, eoff + k * 8 + 5, none⟩ = some (.int .i64 v5) ∧ w2.cell? ⟨eb, eoff + k * 8 + 6, none⟩ = some (.int .i64 v6) ∧ w2.cell? ⟨eb, eoff + k * 8 + 7, none⟩ = some (.int .i64 v7) ∧ w2.cell? ⟨w.heap.size, 0, none⟩ = some (.int .i64 sl) ∧ w2.cell? ⟨w.heap.size, 1, none⟩ = some (.int .i64 br) ∧ w2.cell? ⟨w.heap.size, 2, none⟩ = some (.int .i64 bn) ∧ w2.cell? ⟨w.heap.size, 3, none⟩ = some (.int .i64 ck) ∧ w2.cell? ⟨w.heap.size, 4, none⟩ = some (.int .i64 ccl) ∧ w2.cell? ⟨w.heap.size, 5, none⟩ = some (.int .i64 csq) ∧ w2.cell? ⟨w.heap.size, 6, none⟩ = some (.int .i64 cnm) ∧ w2.cell? ⟨w.heap.size, 7, none⟩ = some (.int .i64 cvl) := ⟨(c5 _ (Nat.lt_of_lt_of_le hel BR.out.size)).trans X0.out, (c5 _ (Nat.lt_of_lt_of_le hel BR.out.size)).trans X1.out, (c5 _ (Nat.lt_of_lt_of_le hel BR.out.size)).trans X2.out, (c5 _ (Nat.lt_of_lt_of_le hel BR.out.size)).trans X3.out, (c5 _ (Nat.lt_of_lt_of_le hel BR.out.size)).trans X4.out, (c5 _ (Nat.lt_of_lt_of_le hel BR.out.size)).trans X5.out, (c5 _ (Nat.lt_of_lt_of_le hel BR.out.size)).trans X6.out, (c5 _ (Nat.lt_of_lt_of_le hel BR.out.size)).trans X7.out, (c5 _ (lt_of_heap hzr.out)).trans Y0.out, (c5 _ (lt_of_heap hzr.out)).trans Y1.out, (c5 _ (lt_of_heap hzr.out)).trans Y2.out, (c5 _ (lt_of_heap hzr.out)).trans Y3.out, (c5 _ (lt_of_heap hzr.out)).trans Y4.out, (c5 _ (lt_of_heap hzr.out)).trans Y5.out, (c5 _ (lt_of_heap hzr.out)).trans Y6.out, (c5 _ (lt_of_heap hzr.out)).trans Y7.out⟩; clear hb2 c5)
        go_wp2_with fail
        have INV : Hid ((∀ q, q < k + 1 → (l.getD q Vot.zero).slot < sl) ∧ (∀ q, hi ≤ q → q < n → sl ≤ (l.getD q Vot.zero).slot) ∧ Below w1.heap.size w1 w2) := Lib.hid ⟨fun q hq => by
          rcases Nat.lt_or_ge q k with h | h
          · have h2 := HSORT.out q k h hmn
            have h3 := congrArg Vot.slot HY.out
            have h4 := HVS.out
            dsimp only at h3
            omega
          · have h3 := congrArg Vot.slot HY.out
            have h4 := HVS.out
            rw [show q = k by omega]
            dsimp only at h3
            omega, HI.out.2.1, HI.out.2.2.trans (B2.out.mono HI.out.2.2.size)⟩
        go_roundw
        case rel => exact ⟨k + 1, hi, by go_num, rfl, by omega, hin, INV⟩
        case measure => simp [intOf]; omega
      · have HC := Lib.hid hc
        have HVS := Lib.hid hvs
        clear hc hvs
        go_upto_region 5 with fail
        go_region_held3 (fun w' => w'.cell? ⟨eb, eoff + k * 8, none⟩ = some (.int .i64 vs) ∧ w'.cell? ⟨eb, eoff + k * 8 + 1, none⟩ = some (.int .i64 v1) ∧ w'.cell? ⟨eb, eoff + k * 8 + 2, none⟩ = some (.int .i64 v2) ∧ w'.cell? ⟨eb, eoff + k * 8 + 3, none⟩ = some (.int .i64 v3) ∧ w'.cell? ⟨eb, eoff + k * 8 + 4, none⟩ = some (.int .i64 v4) ∧ w'.cell? ⟨eb, eoff + k * 8 + 5, none⟩ = some (.int .i64 v5) ∧ w'.cell? ⟨eb, eoff + k * 8 + 6, none⟩ = some (.int .i64 v6) ∧ w'.cell? ⟨eb, eoff + k * 8 + 7, none⟩ = some (.int .i64 v7) ∧ w'.cell? ⟨w.heap.size, 0, none⟩ = some (.int .i64 sl) ∧ w'.cell? ⟨w.heap.size, 1, none⟩ = some (.int .i64 br) ∧ w'.cell? ⟨w.heap.size, 2, none⟩ = some (.int .i64 bn) ∧ w'.cell? ⟨w.heap.size, 3, none⟩ = some (.int .i64 ck) ∧ w'.cell? ⟨w.heap.size, 4, none⟩ = some (.int .i64 ccl) ∧ w'.cell? ⟨w.heap.size, 5, none⟩ = some (.int .i64 csq) ∧ w'.cell? ⟨w.heap.size, 6, none⟩ = some (.int .i64 cnm) ∧ w'.cell? ⟨w.heap.size, 7, none⟩ = some (.int .i64 cvl)) (first | exact S5 | go_keep) (first
          | (first | go_at_call 25 | go_at_fn 25); refine (slotCmp_to _ _ _ _ _ _ _ _ _ _ _ _ _ _ _ _ _ _ HC).mono ?_; rintro e w2 ⟨rfl, hb2⟩; have c5 : ∀ p : Addr, p.block < wr.heap.size → w2.cell? p = wr.cell? p := fun p hp => World.cell?_of_block (w := wr) (hb2.block p.block hp); have B2 := Lib.hid (show Below wr.heap.size wr w2 from (Below.refl wr.heap.size wr).drew.trans hb2); have S5 : w2.cell? ⟨eb, eoff + k * 8, none⟩ = some (.int .i64 vs) ∧ w2.cell? ⟨eb, eoff + k * 8 + 1, none⟩ = some (.int .i64 v1) ∧ w2.cell? ⟨eb, eoff + k * 8 + 2, none⟩ = some (.int .i64 v2) ∧ w2.cell? ⟨eb, eoff + k * 8 + 3, none⟩ = some (.int .i64 v3) ∧ w2.cell? ⟨eb, eoff + k * 8 + 4, none⟩ = some (.int .i64 v4) ∧ w2.cell? ⟨eb, eoff + k * 8 + 5, none⟩ = some (.int .i64 v5) ∧ w2.cell? ⟨eb, eoff + k * 8 + 6, none⟩ = some (.int .i64 v6) ∧ w2.cell? ⟨eb, eoff + k * 8 + 7, none⟩ = some (.int .i64 v7) ∧ w2.cell? ⟨w.heap.size, 0, none⟩ = some (.int .i64 sl) ∧ w2.cell? ⟨w.heap.size, 1, none⟩ = some (.int .i64 br) ∧ w2.cell? ⟨w.heap.size, 2, none⟩ = some (.int .i64 bn) ∧ w2.cell? ⟨w.heap.size, 3, none⟩ = some (.int .i64 ck) ∧ w2.cell? ⟨w.heap.size, 4, none⟩ = some (.int .i64 ccl) ∧ w2.cell? ⟨w.heap.size, 5, none⟩ = some (.int .i64 csq) ∧ w2.cell? ⟨w.heap.size, 6, none⟩ = some (.int .i64 cnm) ∧ w2.cell? ⟨w.heap.size, 7, none⟩ = some (.int .i64 cvl) := ⟨(c5 _ (Nat.lt_of_lt_of_le hel BR.out.size)).trans X0.out, (c5 _ (Nat.lt_of_lt_of_le hel BR.out.size)).trans X1.out, (c5 _ (Nat.lt_of_lt_of_le hel BR.out.size)).trans X2.out, (c5 _ (Nat.lt_of_lt_of_le hel BR.out.size)).trans X3.out, (c5 _ (Nat.lt_of_lt_of_le hel BR.out.size)).trans X4.out, (c5 _ (Nat.lt_of_lt_of_le hel BR.out.size)).trans X5.out, (c5 _ (Nat.lt_of_lt_of_le hel BR.out.size)).trans X6.out, (c5 _ (Nat.lt_of_lt_of_le hel BR.out.size)).trans X7.out, (c5 _ (lt_of_heap hzr.out)).trans Y0.out, (c5 _ (lt_of_heap hzr.out)).trans Y1.out, (c5 _ (lt_of_heap hzr.out)).trans Y2.out, (c5 _ (lt_of_heap hzr.out)).trans Y3.out, (c5 _ (lt_of_heap hzr.out)).trans Y4.out, (c5 _ (lt_of_heap hzr.out)).trans Y5.out, (c5 _ (lt_of_heap hzr.out)).trans Y6.out, (c5 _ (lt_of_heap hzr.out)).trans Y7.out⟩; clear hb2 c5)
        go_wp2_with fail
        have INV : Hid ((∀ q, q < lo → (l.getD q Vot.zero).slot < sl) ∧ (∀ q, k ≤ q → q < n → sl ≤ (l.getD q Vot.zero).slot) ∧ Below w1.heap.size w1 w2) := Lib.hid ⟨HI.out.1, fun q hq hqn => by
          have h3 := congrArg Vot.slot HY.out
          have h4 := HVS.out
          dsimp only at h3
          rcases Nat.lt_or_ge k q with h | h
          · have h2 := HSORT.out k q h hqn
            omega
          · rw [show q = k by omega]
            omega, HI.out.2.2.trans (B2.out.mono HI.out.2.2.size)⟩
        go_roundw
        case rel => exact ⟨lo, k, rfl, by go_num, by omega, by omega, INV⟩
        case measure => simp [intOf]; omega
      · have HC := Lib.hid hc
        have HVS := Lib.hid hvs
        clear hc hvs
        go_upto_region 5 with fail
        go_region_held3 (fun w' => w'.cell? ⟨eb, eoff + k * 8, none⟩ = some (.int .i64 vs) ∧ w'.cell? ⟨eb, eoff + k * 8 + 1, none⟩ = some (.int .i64 v1) ∧ w'.cell? ⟨eb, eoff + k * 8 + 2, none⟩ = some (.int .i64 v2) ∧ w'.cell? ⟨eb, eoff + k * 8 + 3, none⟩ = some (.int .i64 v3) ∧ w'.cell? ⟨eb, eoff + k * 8 + 4, none⟩ = some (.int .i64 v4) ∧ w'.cell? ⟨eb, eoff + k * 8 + 5, none⟩ = some (.int .i64 v5) ∧ w'.cell? ⟨eb, eoff + k * 8 + 6, none⟩ = some (.int .i64 v6) ∧ w'.cell? ⟨eb, eoff + k * 8 + 7, none⟩ = some (.int .i64 v7) ∧ w'.cell? ⟨w.heap.size, 0, none⟩ = some (.int .i64 sl) ∧ w'.cell? ⟨w.heap.size, 1, none⟩ = some (.int .i64 br) ∧ w'.cell? ⟨w.heap.size, 2, none⟩ = some (.int .i64 bn) ∧ w'.cell? ⟨w.heap.size, 3, none⟩ = some (.int .i64 ck) ∧ w'.cell? ⟨w.heap.size, 4, none⟩ = some (.int .i64 ccl) ∧ w'.cell? ⟨w.heap.size, 5, none⟩ = some (.int .i64 csq) ∧ w'.cell? ⟨w.heap.size, 6, none⟩ = some (.int .i64 cnm) ∧ w'.cell? ⟨w.heap.size, 7, none⟩ = some (.int .i64 cvl)) (first | exact S5 | go_keep) (first
          | (first | go_at_call 25 | go_at_fn 25); refine (slotCmp_to _ _ _ _ _ _ _ _ _ _ _ _ _ _ _ _ _ _ HC).mono ?_; rintro e w2 ⟨rfl, hb2⟩; have c5 : ∀ p : Addr, p.block < wr.heap.size → w2.cell? p = wr.cell? p := fun p hp => World.cell?_of_block (w := wr) (hb2.block p.block hp); have B2 := Lib.hid (show Below wr.heap.size wr w2 from (Below.refl wr.heap.size wr).drew.trans hb2); have S5 : w2.cell? ⟨eb, eoff + k * 8, none⟩ = some (.int .i64 vs) ∧ w2.cell? ⟨eb, eoff + k * 8 + 1, none⟩ = some (.int .i64 v1) ∧ w2.cell? ⟨eb, eoff + k * 8 + 2, none⟩ = some (.int .i64 v2) ∧ w2.cell? ⟨eb, eoff + k * 8 + 3, none⟩ = some (.int .i64 v3) ∧ w2.cell? ⟨eb, eoff + k * 8 + 4, none⟩ = some (.int .i64 v4) ∧ w2.cell? ⟨eb, eoff + k * 8 + 5, none⟩ = some (.int .i64 v5) ∧ w2.cell? ⟨eb, eoff + k * 8 + 6, none⟩ = some (.int .i64 v6) ∧ w2.cell? ⟨eb, eoff + k * 8 + 7, none⟩ = some (.int .i64 v7) ∧ w2.cell? ⟨w.heap.size, 0, none⟩ = some (.int .i64 sl) ∧ w2.cell? ⟨w.heap.size, 1, none⟩ = some (.int .i64 br) ∧ w2.cell? ⟨w.heap.size, 2, none⟩ = some (.int .i64 bn) ∧ w2.cell? ⟨w.heap.size, 3, none⟩ = some (.int .i64 ck) ∧ w2.cell? ⟨w.heap.size, 4, none⟩ = some (.int .i64 ccl) ∧ w2.cell? ⟨w.heap.size, 5, none⟩ = some (.int .i64 csq) ∧ w2.cell? ⟨w.heap.size, 6, none⟩ = some (.int .i64 cnm) ∧ w2.cell? ⟨w.heap.size, 7, none⟩ = some (.int .i64 cvl) := ⟨(c5 _ (Nat.lt_of_lt_of_le hel BR.out.size)).trans X0.out, (c5 _ (Nat.lt_of_lt_of_le hel BR.out.size)).trans X1.out, (c5 _ (Nat.lt_of_lt_of_le hel BR.out.size)).trans X2.out, (c5 _ (Nat.lt_of_lt_of_le hel BR.out.size)).trans X3.out, (c5 _ (Nat.lt_of_lt_of_le hel BR.out.size)).trans X4.out, (c5 _ (Nat.lt_of_lt_of_le hel BR.out.size)).trans X5.out, (c5 _ (Nat.lt_of_lt_of_le hel BR.out.size)).trans X6.out, (c5 _ (Nat.lt_of_lt_of_le hel BR.out.size)).trans X7.out, (c5 _ (lt_of_heap hzr.out)).trans Y0.out, (c5 _ (lt_of_heap hzr.out)).trans Y1.out, (c5 _ (lt_of_heap hzr.out)).trans Y2.out, (c5 _ (lt_of_heap hzr.out)).trans Y3.out, (c5 _ (lt_of_heap hzr.out)).trans Y4.out, (c5 _ (lt_of_heap hzr.out)).trans Y5.out, (c5 _ (lt_of_heap hzr.out)).trans Y6.out, (c5 _ (lt_of_heap hzr.out)).trans Y7.out⟩; clear hb2 c5)
        go_wp2_with fail
        have INV : Hid ((∀ q, q < lo → (l.getD q Vot.zero).slot < sl) ∧ (∀ q, k ≤ q → q < n → sl ≤ (l.getD q Vot.zero).slot) ∧ Below w1.heap.size w1 w2) := Lib.hid ⟨HI.out.1, fun q hq hqn => by
          have h3 := congrArg Vot.slot HY.out
          have h4 := HVS.out
          dsimp only at h3
          rcases Nat.lt_or_ge k q with h | h
          · have h2 := HSORT.out k q h hqn
            omega
          · rw [show q = k by omega]
            omega, HI.out.2.2.trans (B2.out.mono HI.out.2.2.size)⟩
        go_roundw
        case rel => exact ⟨lo, k, rfl, by go_num, by omega, by omega, INV⟩
        case measure => simp [intOf]; omega
    · have hlh2 : lo = hi := by omega
      subst hlh2
      clear hlh hlt
      by_cases hln : lo < n
      · have hdl : decide ((lo : Int) < n) = true := by rw [decide_eq_true_eq]; omega
        have hdln : decide (lo < n) = true := by rw [decide_eq_true_eq]; omega
        obtain ⟨eb, eoff, rfl, hel, hec⟩ := HV.out.cells.2.2 lo hln
        obtain ⟨y, hy⟩ : ∃ y, y = l.getD lo Vot.zero := ⟨_, rfl⟩
        rw [← hy] at hec
        have HY := Lib.hid hy
        have hecr : ∀ q, q < 8 → wr.cell? ⟨eb, eoff + (8 * lo + q), none⟩ = (votCells y)[q]? := fun q hq => by
          rw [← hec q hq]; exact World.cell?_of_block (w := w) (BR.out.block eb hel)
        obtain ⟨vs, ⟨v1, v2⟩, ⟨v3, v4, v5, v6, v7⟩⟩ := y
        obtain ⟨x0, x1, x2, x3, x4, x5, x6, x7⟩ := cellsV hecr
        dsimp only at x0 x1 x2 x3 x4 x5 x6 x7
        have hsv : sl ≤ vs := by
          have h3 := congrArg Vot.slot hy
          dsimp only at h3
          have h4 := HI.out.2.1 lo (Nat.le_refl _) hln
          omega
        have y0 : wr.cell? ⟨w.heap.size, 0, none⟩ = some (.int .i64 sl) := cellAt hzr.out 0 rfl
        have y1 : wr.cell? ⟨w.heap.size, 1, none⟩ = some (.int .i64 br) := cellAt hzr.out 1 rfl
        have y2 : wr.cell? ⟨w.heap.size, 2, none⟩ = some (.int .i64 bn) := cellAt hzr.out 2 rfl
        have y3 : wr.cell? ⟨w.heap.size, 3, none⟩ = some (.int .i64 ck) := cellAt hzr.out 3 rfl
        have y4 : wr.cell? ⟨w.heap.size, 4, none⟩ = some (.int .i64 ccl) := cellAt hzr.out 4 rfl
        have y5 : wr.cell? ⟨w.heap.size, 5, none⟩ = some (.int .i64 csq) := cellAt hzr.out 5 rfl
        have y6 : wr.cell? ⟨w.heap.size, 6, none⟩ = some (.int .i64 cnm) := cellAt hzr.out 6 rfl
        have y7 : wr.cell? ⟨w.heap.size, 7, none⟩ = some (.int .i64 cvl) := cellAt hzr.out 7 rfl
        have X0 := Lib.hid x0
        have Y0 := Lib.hid y0
        have X1 := Lib.hid x1
        have Y1 := Lib.hid y1
        have X2 := Lib.hid x2
        have Y2 := Lib.hid y2
        have X3 := Lib.hid x3
        have Y3 := Lib.hid y3
        have X4 := Lib.hid x4
        have Y4 := Lib.hid y4
        have X5 := Lib.hid x5
        have Y5 := Lib.hid y5
        have X6 := Lib.hid x6
        have Y6 := Lib.hid y6
        have X7 := Lib.hid x7
        have Y7 := Lib.hid y7
        clear hec hecr hy
        have hcc : (vs = sl ∧ cmpI vs sl = 0 ∧ ((0 : Int) == 0) = true) ∨ (vs ≠ sl ∧ cmpI vs sl = 1 ∧ ((1 : Int) == 0) = false) := by
          rcases cmpI_cases vs sl with ⟨h1, h2⟩ | ⟨h1, h2⟩ | ⟨h1, h2⟩
          · omega
          · exact .inl ⟨h1, h2, rfl⟩
          · exact .inr ⟨by omega, h2, rfl⟩
        rcases hcc with ⟨hvs, hc, he0⟩ | ⟨hvs, hc, he0⟩
        · have HC := Lib.hid hc
          have HVS := Lib.hid hvs
          clear hc hvs hsv
          go_wp2_with fail
          go_region_held3 (fun w' => w'.cell? ⟨eb, eoff + lo * 8, none⟩ = some (.int .i64 vs) ∧ w'.cell? ⟨eb, eoff + lo * 8 + 1, none⟩ = some (.int .i64 v1) ∧ w'.cell? ⟨eb, eoff + lo * 8 + 2, none⟩ = some (.int .i64 v2) ∧ w'.cell? ⟨eb, eoff + lo * 8 + 3, none⟩ = some (.int .i64 v3) ∧ w'.cell? ⟨eb, eoff + lo * 8 + 4, none⟩ = some (.int .i64 v4) ∧ w'.cell? ⟨eb, eoff + lo * 8 + 5, none⟩ = some (.int .i64 v5) ∧ w'.cell? ⟨eb, eoff + lo * 8 + 6, none⟩ = some (.int .i64 v6) ∧ w'.cell? ⟨eb, eoff + lo * 8 + 7, none⟩ = some (.int .i64 v7) ∧ w'.cell? ⟨w.heap.size, 0, none⟩ = some (.int .i64 sl) ∧ w'.cell? ⟨w.heap.size, 1, none⟩ = some (.int .i64 br) ∧ w'.cell? ⟨w.heap.size, 2, none⟩ = some (.int .i64 bn) ∧ w'.cell? ⟨w.heap.size, 3, none⟩ = some (.int .i64 ck) ∧ w'.cell? ⟨w.heap.size, 4, none⟩ = some (.int .i64 ccl) ∧ w'.cell? ⟨w.heap.size, 5, none⟩ = some (.int .i64 csq) ∧ w'.cell? ⟨w.heap.size, 6, none⟩ = some (.int .i64 cnm) ∧ w'.cell? ⟨w.heap.size, 7, none⟩ = some (.int .i64 cvl)) (first | exact S5 | go_keep) (first
            | (first | go_at_call 25 | go_at_fn 25); refine (slotCmp_to _ _ _ _ _ _ _ _ _ _ _ _ _ _ _ _ _ _ HC).mono ?_; rintro e w2 ⟨rfl, hb2⟩; have c5 : ∀ p : Addr, p.block < wr.heap.size → w2.cell? p = wr.cell? p := fun p hp => World.cell?_of_block (w := wr) (hb2.block p.block hp); have B2 := Lib.hid (show Below wr.heap.size wr w2 from (Below.refl wr.heap.size wr).drew.trans hb2); have S5 : w2.cell? ⟨eb, eoff + lo * 8, none⟩ = some (.int .i64 vs) ∧ w2.cell? ⟨eb, eoff + lo * 8 + 1, none⟩ = some (.int .i64 v1) ∧ w2.cell? ⟨eb, eoff + lo * 8 + 2, none⟩ = some (.int .i64 v2) ∧ w2.cell? ⟨eb, eoff + lo * 8 + 3, none⟩ = some (.int .i64 v3) ∧ w2.cell? ⟨eb, eoff + lo * 8 + 4, none⟩ = some (.int .i64 v4) ∧ w2.cell? ⟨eb, eoff + lo * 8 + 5, none⟩ = some (.int .i64 v5) ∧ w2.cell? ⟨eb, eoff + lo * 8 + 6, none⟩ = some (.int .i64 v6) ∧ w2.cell? ⟨eb, eoff + lo * 8 + 7, none⟩ = some (.int .i64 v7) ∧ w2.cell? ⟨w.heap.size, 0, none⟩ = some (.int .i64 sl) ∧ w2.cell? ⟨w.heap.size, 1, none⟩ = some (.int .i64 br) ∧ w2.cell? ⟨w.heap.size, 2, none⟩ = some (.int .i64 bn) ∧ w2.cell? ⟨w.heap.size, 3, none⟩ = some (.int .i64 ck) ∧ w2.cell? ⟨w.heap.size, 4, none⟩ = some (.int .i64 ccl) ∧ w2.cell? ⟨w.heap.size, 5, none⟩ = some (.int .i64 csq) ∧ w2.cell? ⟨w.heap.size, 6, none⟩ = some (.int .i64 cnm) ∧ w2.cell? ⟨w.heap.size, 7, none⟩ = some (.int .i64 cvl) := ⟨(c5 _ (Nat.lt_of_lt_of_le hel BR.out.size)).trans X0.out, (c5 _ (Nat.lt_of_lt_of_le hel BR.out.size)).trans X1.out, (c5 _ (Nat.lt_of_lt_of_le hel BR.out.size)).trans X2.out, (c5 _ (Nat.lt_of_lt_of_le hel BR.out.size)).trans X3.out, (c5 _ (Nat.lt_of_lt_of_le hel BR.out.size)).trans X4.out, (c5 _ (Nat.lt_of_lt_of_le hel BR.out.size)).trans X5.out, (c5 _ (Nat.lt_of_lt_of_le hel BR.out.size)).trans X6.out, (c5 _ (Nat.lt_of_lt_of_le hel BR.out.size)).trans X7.out, (c5 _ (lt_of_heap hzr.out)).trans Y0.out, (c5 _ (lt_of_heap hzr.out)).trans Y1.out, (c5 _ (lt_of_heap hzr.out)).trans Y2.out, (c5 _ (lt_of_heap hzr.out)).trans Y3.out, (c5 _ (lt_of_heap hzr.out)).trans Y4.out, (c5 _ (lt_of_heap hzr.out)).trans Y5.out, (c5 _ (lt_of_heap hzr.out)).trans Y6.out, (c5 _ (lt_of_heap hzr.out)).trans Y7.out⟩; clear hb2 c5)
          go_wp2_with fail
          go_ret2
          exact ⟨lo, ⟨by rw [← HN.out]; exact hin, HI.out.1, by rw [← HN.out]; exact HI.out.2.1⟩, by
            have h3 := congrArg Vot.slot HY.out
            have h4 := HVS.out
            dsimp only at h3
            rw [decide_eq_true (show lo < n ∧ (l.getD lo Vot.zero).slot = sl from ⟨hln, by omega⟩)]; rfl, BR.out.trans (B2.out.mono BR.out.size)⟩
        · have HC := Lib.hid hc
          have HVS := Lib.hid hvs
          clear hc hvs hsv
          go_wp2_with fail
          go_region_held3 (fun w' => w'.cell? ⟨eb, eoff + lo * 8, none⟩ = some (.int .i64 vs) ∧ w'.cell? ⟨eb, eoff + lo * 8 + 1, none⟩ = some (.int .i64 v1) ∧ w'.cell? ⟨eb, eoff + lo * 8 + 2, none⟩ = some (.int .i64 v2) ∧ w'.cell? ⟨eb, eoff + lo * 8 + 3, none⟩ = some (.int .i64 v3) ∧ w'.cell? ⟨eb, eoff + lo * 8 + 4, none⟩ = some (.int .i64 v4) ∧ w'.cell? ⟨eb, eoff + lo * 8 + 5, none⟩ = some (.int .i64 v5) ∧ w'.cell? ⟨eb, eoff + lo * 8 + 6, none⟩ = some (.int .i64 v6) ∧ w'.cell? ⟨eb, eoff + lo * 8 + 7, none⟩ = some (.int .i64 v7) ∧ w'.cell? ⟨w.heap.size, 0, none⟩ = some (.int .i64 sl) ∧ w'.cell? ⟨w.heap.size, 1, none⟩ = some (.int .i64 br) ∧ w'.cell? ⟨w.heap.size, 2, none⟩ = some (.int .i64 bn) ∧ w'.cell? ⟨w.heap.size, 3, none⟩ = some (.int .i64 ck) ∧ w'.cell? ⟨w.heap.size, 4, none⟩ = some (.int .i64 ccl) ∧ w'.cell? ⟨w.heap.size, 5, none⟩ = some (.int .i64 csq) ∧ w'.cell? ⟨w.heap.size, 6, none⟩ = some (.int .i64 cnm) ∧ w'.cell? ⟨w.heap.size, 7, none⟩ = some (.int .i64 cvl)) (first | exact S5 | go_keep) (first
            | (first | go_at_call 25 | go_at_fn 25); refine (slotCmp_to _ _ _ _ _ _ _ _ _ _ _ _ _ _ _ _ _ _ HC).mono ?_; rintro e w2 ⟨rfl, hb2⟩; have c5 : ∀ p : Addr, p.block < wr.heap.size → w2.cell? p = wr.cell? p := fun p hp => World.cell?_of_block (w := wr) (hb2.block p.block hp); have B2 := Lib.hid (show Below wr.heap.size wr w2 from (Below.refl wr.heap.size wr).drew.trans hb2); have S5 : w2.cell? ⟨eb, eoff + lo * 8, none⟩ = some (.int .i64 vs) ∧ w2.cell? ⟨eb, eoff + lo * 8 + 1, none⟩ = some (.int .i64 v1) ∧ w2.cell? ⟨eb, eoff + lo * 8 + 2, none⟩ = some (.int .i64 v2) ∧ w2.cell? ⟨eb, eoff + lo * 8 + 3, none⟩ = some (.int .i64 v3) ∧ w2.cell? ⟨eb, eoff + lo * 8 + 4, none⟩ = some (.int .i64 v4) ∧ w2.cell? ⟨eb, eoff + lo * 8 + 5, none⟩ = some (.int .i64 v5) ∧ w2.cell? ⟨eb, eoff + lo * 8 + 6, none⟩ = some (.int .i64 v6) ∧ w2.cell? ⟨eb, eoff + lo * 8 + 7, none⟩ = some (.int .i64 v7) ∧ w2.cell? ⟨w.heap.size, 0, none⟩ = some (.int .i64 sl) ∧ w2.cell? ⟨w.heap.size, 1, none⟩ = some (.int .i64 br) ∧ w2.cell? ⟨w.heap.size, 2, none⟩ = some (.int .i64 bn) ∧ w2.cell? ⟨w.heap.size, 3, none⟩ = some (.int .i64 ck) ∧ w2.cell? ⟨w.heap.size, 4, none⟩ = some (.int .i64 ccl) ∧ w2.cell? ⟨w.heap.size, 5, none⟩ = some (.int .i64 csq) ∧ w2.cell? ⟨w.heap.size, 6, none⟩ = some (.int .i64 cnm) ∧ w2.cell? ⟨w.heap.size, 7, none⟩ = some (.int .i64 cvl) := ⟨(c5 _ (Nat.lt_of_lt_of_le hel BR.out.size)).trans X0.out, (c5 _ (Nat.lt_of_lt_of_le hel BR.out.size)).trans X1.out, (c5 _ (Nat.lt_of_lt_of_le hel BR.out.size)).trans X2.out, (c5 _ (Nat.lt_of_lt_of_le hel BR.out.size)).trans X3.out, (c5 _ (Nat.lt_of_lt_of_le hel BR.out.size)).trans X4.out, (c5 _ (Nat.lt_of_lt_of_le hel BR.out.size)).trans X5.out, (c5 _ (Nat.lt_of_lt_of_le hel BR.out.size)).trans X6.out, (c5 _ (Nat.lt_of_lt_of_le hel BR.out.size)).trans X7.out, (c5 _ (lt_of_heap hzr.out)).trans Y0.out, (c5 _ (lt_of_heap hzr.out)).trans Y1.out, (c5 _ (lt_of_heap hzr.out)).trans Y2.out, (c5 _ (lt_of_heap hzr.out)).trans Y3.out, (c5 _ (lt_of_heap hzr.out)).trans Y4.out, (c5 _ (lt_of_heap hzr.out)).trans Y5.out, (c5 _ (lt_of_heap hzr.out)).trans Y6.out, (c5 _ (lt_of_heap hzr.out)).trans Y7.out⟩; clear hb2 c5)
          go_wp2_with fail
          go_ret2
          exact ⟨lo, ⟨by rw [← HN.out]; exact hin, HI.out.1, by rw [← HN.out]; exact HI.out.2.1⟩, by
            have h3 := congrArg Vot.slot HY.out
            have h4 := HVS.out
            dsimp only at h3
            rw [decide_eq_false (show ¬ (lo < n ∧ (l.getD lo Vot.zero).slot = sl) from fun h => by omega)]; rfl, BR.out.trans (B2.out.mono BR.out.size)⟩
      · have hdl : decide ((lo : Int) < n) = false := by rw [decide_eq_false_iff_not]; omega
        have hdln : decide (lo < n) = false := by rw [decide_eq_false_iff_not]; omega
        go_wp2_with fail
        refine wp_region_quiet_lit (by kernel_rfl) (by kernel_rfl) ?_
        repeat (go_big_quiet_step (fail))
        refine wpQuiet_nil ?_
        intro w9 hw9
        obtain ⟨nq, rfl⟩ := hw9
        go_wp2_with fail
        go_ret2
        exact ⟨lo, ⟨by rw [← HN.out]; exact hin, HI.out.1, by rw [← HN.out]; exact HI.out.2.1⟩, by
          rw [decide_eq_false (show ¬ (lo < n ∧ (l.getD lo Vot.zero).slot = sl) from fun h => hln h.1)]; rfl, below_drewN BR.out nq⟩
end Go.Proofs.Ytdkbajdnckmckaa
