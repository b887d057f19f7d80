/-
  The walk of conclavekeep.voted: an acceptor behind some plies.
-/
import Derived.Test.YtdkbajdnckmckaaAcW
import Derived.Test.YtdkbajdnckmckaaFrY
import Derived.Test.YtdkbajdnckmckaaPick
set_option linter.unusedVariables false
set_option linter.unusedSimpArgs false
namespace Go.Con
open Go
theorem okVs_iff {p : Int × Int} : ∀ (l : List Vot) (last : Int), okVs p last l = true ↔ (∀ v ∈ l, okV v = true ∧ cmpB v.bal p ≤ 0 ∧ last < v.slot) ∧ l.Pairwise (fun a b => a.slot < b.slot)
  | [], last => by simp [okVs]
  | v :: l, last => by
    have e : okVs p last (v :: l) = (okV v && decide (last < v.slot) && decide (cmpB v.bal p ≤ 0) && okVs p v.slot l) := rfl
    rw [e, Bool.and_eq_true, okVs_iff l v.slot, List.pairwise_cons]
    simp only [Bool.and_eq_true, decide_eq_true_eq, List.mem_cons, forall_eq_or_imp]
    constructor
    · rintro ⟨⟨⟨h1, h2⟩, h3⟩, h4, h5⟩
      exact ⟨⟨⟨h1, h3, h2⟩, fun u hu => ⟨(h4 u hu).1, (h4 u hu).2.1, by have := (h4 u hu).2.2; omega⟩⟩, fun u hu => (h4 u hu).2.2, h5⟩
    · rintro ⟨⟨⟨h1, h3, h2⟩, h4⟩, h6, h5⟩
      exact ⟨⟨⟨h1, h2⟩, h3⟩, fun u hu => ⟨(h4 u hu).1, (h4 u hu).2.1, h6 u hu⟩, h5⟩
theorem okV_parts {v : Vot} (h : okV v = true) : 0 ≤ v.slot ∧ v.slot < 40 ∧ okB v.bal = true ∧ checkC v.what = 0 := by
  unfold okV at h
  simp only [Bool.and_eq_true, decide_eq_true_eq] at h
  exact ⟨h.1, h.2.1, h.2.2.1, h.2.2.2⟩
theorem okA_iff {p : Int × Int} {l : List Vot} : okA p l = true ↔ (p = (0, 0) ∨ okB p = true) ∧ (∀ v ∈ l, okV v = true ∧ cmpB v.bal p ≤ 0) ∧ l.Pairwise (fun a b => a.slot < b.slot) := by
  unfold okA
  rw [Bool.and_eq_true, okVs_iff, Bool.or_eq_true, decide_eq_true_eq]
  constructor
  · rintro ⟨h1, h2, h3⟩
    exact ⟨h1, fun v hv => ⟨(h2 v hv).1, (h2 v hv).2.1⟩, h3⟩
  · rintro ⟨h1, h2, h3⟩
    exact ⟨h1, fun v hv => ⟨(h2 v hv).1, (h2 v hv).2, by have := (okV_parts (h2 v hv).1).1; omega⟩, h3⟩
theorem mem_putV {y v : Vot} {l : List Vot} : v ∈ putV y l ↔ v = y ∨ (v ∈ l ∧ v.slot ≠ y.slot) := by
  unfold putV
  simp only [List.mem_append, List.mem_cons, List.mem_filter, decide_eq_true_eq]
  constructor
  · rintro (⟨h1, h2⟩ | h | ⟨h1, h2⟩)
    · exact .inr ⟨h1, by omega⟩
    · exact .inl h
    · exact .inr ⟨h1, by omega⟩
  · rintro (h | ⟨h1, h2⟩)
    · exact .inr (.inl h)
    · rcases Int.lt_or_gt_of_ne h2 with h | h
      · exact .inl ⟨h1, h⟩
      · exact .inr (.inr ⟨h1, h⟩)
theorem okA_put {p : Int × Int} {l : List Vot} {y : Vot} (h : okA p l = true) (hy : okV y = true) (hc : ¬ cmpB y.bal p < 0) : okA y.bal (putV y l) = true := by
  rw [okA_iff] at h ⊢
  obtain ⟨h1, h2, h3⟩ := h
  refine ⟨.inr (okV_parts hy).2.2.1, fun v hv => ?_, ?_⟩
  · rcases mem_putV.1 hv with rfl | ⟨hv, -⟩
    · exact ⟨hy, by rw [cmpB_most]; omega⟩
    · refine ⟨(h2 v hv).1, ?_⟩
      have h4 := (h2 v hv).2
      rw [cmpB_most] at h4 ⊢
      rw [cmpB_low] at hc
      omega
  · unfold putV
    rw [List.pairwise_append, List.pairwise_cons]
    refine ⟨h3.filter _, ⟨fun u hu => ?_, h3.filter _⟩, fun a ha b hb => ?_⟩
    · simp only [List.mem_filter, decide_eq_true_eq] at hu; exact hu.2
    · simp only [List.mem_filter, decide_eq_true_eq] at ha
      rcases List.mem_cons.1 hb with rfl | hb
      · exact ha.2
      · simp only [List.mem_filter, decide_eq_true_eq] at hb; omega
theorem filter_lt_gt (l : List Vot) (s : Int) : (l.filter fun v => decide (v.slot < s)).length + (l.filter fun v => decide (s < v.slot)).length ≤ l.length := by
  induction l with
  | nil => simp
  | cons v l ih =>
    by_cases h1 : v.slot < s
    · have h2 : ¬ s < v.slot := by omega
      simp [List.filter_cons, h1, h2]; omega
    · by_cases h2 : s < v.slot
      · simp [List.filter_cons, h1, h2]; omega
      · simp [List.filter_cons, h1, h2]; omega
theorem putV_length (y : Vot) (l : List Vot) : (putV y l).length ≤ l.length + 1 := by
  have h := filter_lt_gt l y.slot
  unfold putV
  rw [List.length_append, List.length_cons]
  omega
end Go.Con
namespace Go.Proofs.Ytdkbajdnckmckaa
open Go.RowKit Go.Con
theorem picked_toP (n m q : Int) (w : World) (h1 : -9223372036854775808 ≤ n) (h2 : n ≤ 9223372036854775807) (h3 : 0 < m) (hq : Hid (pick n m = q)) :
    Calls Try.prog 10 #[.int .i64 n, .int .i64 m] w fun e w' => e = .returned (.int .i64 q) ∧ w = w' :=
  (picked_any n m w h1 h2 h3).mono fun e w' ⟨he, hw⟩ => ⟨by rw [he, hq.out], hw⟩
/-- what voted's loop keeps -/
structure VodInv (w wr : World) (q : Nat) (p : Int × Int) (vs : Value) (L : List Vot) : Prop where
  out : wr.heap[w.heap.size]? = some (.cells #[.int .i64 0, .int .i64 0, .slice none 0 0] 39 (0, 0))
  acc : wr.heap[w.heap.size + 1]? = some (.cells #[.int .i64 p.1, .int .i64 p.2, vs] 39 (0, 0))
  own : OwnV wr (w.heap.size + 2) vs L
  ok : okA p L = true
  few : p.1 ≤ 9
  len : L.length ≤ q
  below : Below w.heap.size w wr
/-- what voted gives -/
def VodPost (w : World) (e : Ending) (w' : World) : Prop := ∃ p vs L, e = .returned (.tuple #[accV p vs, .bool true]) ∧ OwnV w' w.heap.size vs L ∧ okA p L = true ∧ p.1 ≤ 9 ∧ L.length ≤ 30 ∧ Below w.heap.size w w'
theorem Promise_to (pr pn br bn : Int) (v : Value) (l : List Vot) (w : World) (hv : Votes w v l) (hok : okA (pr, pn) l = true) (hb : okB (br, bn) = true) (hl : l.length ≤ 1000) :
    Calls Try.prog 14 #[.agg #[.int .i64 pr, .int .i64 pn, v], .agg #[.int .i64 br, .int .i64 bn]] w fun e w' => Below w.heap.size w w' ∧ ((cmpB (br, bn) (pr, pn) < 0 ∧ e = .returned (.tuple #[.agg #[.int .i64 0, .int .i64 0, .slice none 0 0], .slice none 0 0, .int .i64 7])) ∨ (¬ cmpB (br, bn) (pr, pn) < 0 ∧ ∃ v1 v2, e = .returned (.tuple #[.agg #[.int .i64 br, .int .i64 bn, v1], v2, .int .i64 0]) ∧ OwnV w' w.heap.size v1 l ∧ OwnV w' w.heap.size v2 l)) :=
  Promise_any (pr, pn) (br, bn) v l w hv hok hb hl
theorem Accept_to (pr pn y0 y1 y2 y3 y4 y5 y6 y7 : Int) (v : Value) (l : List Vot) (w : World) (hv : Votes w v l) (hok : okA (pr, pn) l = true) (hy : okV ⟨y0, (y1, y2), ⟨y3, y4, y5, y6, y7⟩⟩ = true) (hl : l.length ≤ 1000) :
    Calls Try.prog 15 #[.agg #[.int .i64 pr, .int .i64 pn, v], .agg #[.int .i64 y0, .int .i64 y1, .int .i64 y2, .int .i64 y3, .int .i64 y4, .int .i64 y5, .int .i64 y6, .int .i64 y7]] w fun e w' => Below w.heap.size w w' ∧ ((cmpB (y1, y2) (pr, pn) < 0 ∧ e = .returned (.tuple #[.agg #[.int .i64 0, .int .i64 0, .slice none 0 0], .int .i64 7])) ∨ (¬ cmpB (y1, y2) (pr, pn) < 0 ∧ ∃ v1, e = .returned (.tuple #[.agg #[.int .i64 y1, .int .i64 y2, v1], .int .i64 0]) ∧ OwnV w' w.heap.size v1 (putV ⟨y0, (y1, y2), ⟨y3, y4, y5, y6, y7⟩⟩ l))) :=
  Accept_any (pr, pn) v l ⟨y0, (y1, y2), ⟨y3, y4, y5, y6, y7⟩⟩ w hv hok hy hl
theorem Promise_low (pr pn br bn : Int) (v : Value) (l : List Vot) (w : World) (hv : Votes w v l) (hok : okA (pr, pn) l = true) (hb : okB (br, bn) = true) (hl : l.length ≤ 1000) (h : Hid (cmpB (br, bn) (pr, pn) < 0)) :
    Calls Try.prog 14 #[.agg #[.int .i64 pr, .int .i64 pn, v], .agg #[.int .i64 br, .int .i64 bn]] w fun e w' => e = .returned (.tuple #[.agg #[.int .i64 0, .int .i64 0, .slice none 0 0], .slice none 0 0, .int .i64 7]) ∧ Below w.heap.size w w' :=
  (Promise_to pr pn br bn v l w hv hok hb hl).mono fun e w' ⟨h1, h2⟩ => by
    rcases h2 with ⟨-, h3⟩ | ⟨h3, -⟩
    · exact ⟨h3, h1⟩
    · exact absurd h.out h3
theorem Promise_high (pr pn br bn : Int) (v : Value) (l : List Vot) (w : World) (hv : Votes w v l) (hok : okA (pr, pn) l = true) (hb : okB (br, bn) = true) (hl : l.length ≤ 1000) (h : Hid (0 ≤ cmpB (br, bn) (pr, pn))) :
    Calls Try.prog 14 #[.agg #[.int .i64 pr, .int .i64 pn, v], .agg #[.int .i64 br, .int .i64 bn]] w fun e w' => ∃ a1 c1 a2 c2, e = .returned (.tuple #[.agg #[.int .i64 br, .int .i64 bn, .slice a1 l.length c1], .slice a2 l.length c2, .int .i64 0]) ∧ OwnV w' w.heap.size (.slice a1 l.length c1) l ∧ OwnV w' w.heap.size (.slice a2 l.length c2) l ∧ Below w.heap.size w w' :=
  (Promise_to pr pn br bn v l w hv hok hb hl).mono fun e w' ⟨h1, h2⟩ => by
    rcases h2 with ⟨h3, -⟩ | ⟨-, v1, v2, h3, h4, h5⟩
    · exact absurd h3 (Int.not_lt.2 h.out)
    · obtain ⟨a1, c1, rfl, -⟩ := id h4.row
      obtain ⟨a2, c2, rfl, -⟩ := id h5.row
      exact ⟨a1, c1, a2, c2, h3, h4, h5, h1⟩
theorem Accept_low (pr pn y0 y1 y2 y3 y4 y5 y6 y7 : Int) (v : Value) (l : List Vot) (w : World) (hv : Votes w v l) (hok : okA (pr, pn) l = true) (hy : okV ⟨y0, (y1, y2), ⟨y3, y4, y5, y6, y7⟩⟩ = true) (hl : l.length ≤ 1000) (h : Hid (cmpB (y1, y2) (pr, pn) < 0)) :
    Calls Try.prog 15 #[.agg #[.int .i64 pr, .int .i64 pn, v], .agg #[.int .i64 y0, .int .i64 y1, .int .i64 y2, .int .i64 y3, .int .i64 y4, .int .i64 y5, .int .i64 y6, .int .i64 y7]] w fun e w' => e = .returned (.tuple #[.agg #[.int .i64 0, .int .i64 0, .slice none 0 0], .int .i64 7]) ∧ Below w.heap.size w w' :=
  (Accept_to pr pn y0 y1 y2 y3 y4 y5 y6 y7 v l w hv hok hy hl).mono fun e w' ⟨h1, h2⟩ => by
    rcases h2 with ⟨-, h3⟩ | ⟨h3, -⟩
    · exact ⟨h3, h1⟩
    · exact absurd h.out h3
theorem Accept_high (pr pn y0 y1 y2 y3 y4 y5 y6 y7 : Int) (v : Value) (l : List Vot) (w : World) (hv : Votes w v l) (hok : okA (pr, pn) l = true) (hy : okV ⟨y0, (y1, y2), ⟨y3, y4, y5, y6, y7⟩⟩ = true) (hl : l.length ≤ 1000) (h : Hid (0 ≤ cmpB (y1, y2) (pr, pn))) :
    Calls Try.prog 15 #[.agg #[.int .i64 pr, .int .i64 pn, v], .agg #[.int .i64 y0, .int .i64 y1, .int .i64 y2, .int .i64 y3, .int .i64 y4, .int .i64 y5, .int .i64 y6, .int .i64 y7]] w fun e w' => ∃ a1 c1 n1, n1 = (putV ⟨y0, (y1, y2), ⟨y3, y4, y5, y6, y7⟩⟩ l).length ∧ e = .returned (.tuple #[.agg #[.int .i64 y1, .int .i64 y2, .slice a1 n1 c1], .int .i64 0]) ∧ OwnV w' w.heap.size (.slice a1 n1 c1) (putV ⟨y0, (y1, y2), ⟨y3, y4, y5, y6, y7⟩⟩ l) ∧ Below w.heap.size w w' :=
  (Accept_to pr pn y0 y1 y2 y3 y4 y5 y6 y7 v l w hv hok hy hl).mono fun e w' ⟨h1, h2⟩ => by
    rcases h2 with ⟨h3, -⟩ | ⟨-, v1, h3, h4⟩
    · exact absurd h3 (Int.not_lt.2 h.out)
    · obtain ⟨a1, c1, rfl, -⟩ := id h4.row
      exact ⟨a1, c1, _, rfl, h3, h4, h1⟩
theorem VodInv.keep {w wr w4 : World} {q : Nat} {p : Int × Int} {vs : Value} {L : List Vot} (h : VodInv w wr q p vs L) (B : Below wr.heap.size wr w4) : VodInv w w4 (q + 1) p vs L := by
  have h1 := lt_of_heap h.acc
  exact ⟨(B.block _ (by omega)).trans h.out, (B.block _ h1).trans h.acc, ownV_move h.own (Nat.le_refl _) (fun k _ hk => B.block k hk), h.ok, h.few, by have := h.len; omega, h.below.trans (B.mono h.below.size)⟩
theorem VodInv.turn {w wr w4 : World} {q : Nat} {p b : Int × Int} {vs v1 : Value} {L L1 : List Vot} (h : VodInv w wr q p vs L) (B : Below wr.heap.size wr w4) (ho : OwnV w4 wr.heap.size v1 L1) (hok : okA b L1 = true) (hf : b.1 ≤ 9) (hl : L1.length ≤ q + 1) :
    VodInv w (((w4.setCell ⟨w.heap.size + 1, 0, none⟩ (.int .i64 b.1)).setCell ⟨w.heap.size + 1, 1, none⟩ (.int .i64 b.2)).setCell ⟨w.heap.size + 1, 2, none⟩ v1) (q + 1) b v1 L1 := by
  have h1 := lt_of_heap h.acc
  have hs := B.size
  have hle : w.heap.size ≤ w.heap.size + 1 := by omega
  have hq : ∀ k, k ≠ w.heap.size + 1 → (((w4.setCell ⟨w.heap.size + 1, 0, none⟩ (.int .i64 b.1)).setCell ⟨w.heap.size + 1, 1, none⟩ (.int .i64 b.2)).setCell ⟨w.heap.size + 1, 2, none⟩ v1).heap[k]? = w4.heap[k]? := fun k hk => by
    rw [heapSet_ne _ _ hk, heapSet_ne _ _ hk, heapSet_ne _ _ hk]
  refine ⟨?_, heapSet (heapSet (heapSet ((B.block _ h1).trans h.acc) _) _) _, ?_, hok, hf, hl, ?_⟩
  · rw [hq _ (by omega)]; exact (B.block _ (by omega)).trans h.out
  · exact ownV_move ho (by omega) (fun k hk _ => hq k (by omega))
  · exact (((h.below.trans (B.mono h.below.size)).setCell hle _).setCell hle _).setCell hle _
end Go.Proofs.Ytdkbajdnckmckaa
