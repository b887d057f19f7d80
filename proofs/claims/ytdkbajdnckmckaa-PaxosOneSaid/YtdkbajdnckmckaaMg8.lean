/-
  Texts put together: FrW, FrY, Vod, StP, StV.
-/
import Derived.Test.YtdkbajdnckmckaaMg4
import Derived.Test.YtdkbajdnckmckaaMg7
import Derived.Deep.Slices
import Derived.Deep.Fields
import Derived.Test.YtdkbajdnckmckaaMg6
set_option linter.unusedVariables false
set_option linter.unusedSimpArgs false
namespace Go.Proofs.Ytdkbajdnckmckaa
open Go.ChangeShapes Go.WideShapes Go.ChangeAt Go.RowKit Go.Con Go.Deep

/-- each field is one int, one behind the other -/
def intFields (fs : Array Field) : Bool := (List.range fs.size).all fun i => match fs[i]? with | some f => f.offset == i && f.type == 3 | none => false
section
variable {H : Type} {enc : TypeId × Value → H} {W : World} {base b0 : Nat} {sp : Nat → Bool}

theorem trod_ints {t : TypeId} {fs : Array Field} {fuel : Nat} {cs : List Value} {x : DataW H × List MemPlace} (hs : Try.prog.underlying t = some (.struct fs)) (hall : intFields fs = true)
    (h : DataW.trod enc Try.prog W base sp true fuel t cs = some x) : cs.length = Try.prog.cellsOf t ∧ ∀ i, i < fs.size → ∃ n, cs[i]? = some (.int .i64 n) ∧ Int64 n := by
  obtain ⟨xs, n, _, _, hl, hlen, hf⟩ := DataW.trod_struct hs h
  refine ⟨hl, fun i hi => ?_⟩
  have ha := List.all_eq_true.1 hall i (List.mem_range.2 hi)
  have hfi : fs[i]? = some fs[i] := Array.getElem?_eq_getElem hi
  simp only [hfi, Bool.and_eq_true, beq_iff_eq] at ha
  have h1 := hf i _ hfi
  have hc1 : Try.prog.cellsOf 3 = 1 := by kernel_rfl
  rw [ha.1, ha.2, hc1, List.getElem?_eq_getElem (by omega)] at h1
  obtain ⟨z, hz, _, hw⟩ := DataW.trod_int Try.underlying3 h1
  refine ⟨z, ?_, bounds_i64 hw⟩
  have h2 := congrArg (fun l : List Value => l[0]?) hz
  simpa [List.getElem?_take, List.getElem?_drop] using h2

def IsWish (v : Value) (x : Cmd) : Prop := v = cmdV x ∧ WishOk x
/-- the cells of a wish -/
def wishCells (x : Cmd) : List Value := [.int .i64 x.kind, .int .i64 x.client, .int .i64 x.seq, .int .i64 x.name, .int .i64 x.value]
/-- A slice of wishes that came in. -/
def RdWishes (w : World) (v : Value) (l : List Cmd) : Prop :=
  ∃ a c, v = .slice a l.length c ∧ l.length ≤ c ∧ c ≤ maxLen ∧ (∀ x ∈ l, WishOk x) ∧ (l ≠ [] → ∃ b off, a = some ⟨b, off, none⟩ ∧ ∀ i, i < l.length → ∀ j, j < 5 → w.cell? ⟨b, off + (5 * i + j), none⟩ = (wishCells (l.getD i Cmd.zero))[j]?)
end
end Go.Proofs.Ytdkbajdnckmckaa

set_option linter.unusedVariables false
set_option linter.unusedSimpArgs false
namespace Go.Proofs.Ytdkbajdnckmckaa
open Go.ChangeShapes Go.WideShapes Go.ChangeAt Go.RowKit Go.Con Go.Deep
section
variable {H : Type} {enc : TypeId × Value → H} {W : World} {base b0 : Nat} {sp : Nat → Bool}
set_option maxRecDepth 100000 in
theorem open_plies {v : Value} {d : DataW H} {p : List MemPlace} (hv : Value.okWide Try.prog W .any b0 22 v) (h : DataW.Trod enc Try.prog W base (fun _ => true) true 22 v d p) : ∃ l, RdWishes W v l := by
  obtain ⟨a, len, cap, rfl⟩ := okWide_slice Try.underlying22 hv
  obtain ⟨fuel, hf⟩ := h
  rcases open_slice Try.underlying22 hf with ⟨hcs, _⟩ | ⟨x, l, c, m, n, D, Pl, hcs, hb, hl, hm, hmm, hx, hi⟩
  · simp [Value.cells] at hcs
    obtain ⟨rfl, rfl, rfl⟩ := hcs
    exact ⟨[], none, 0, rfl, Nat.le_refl _, Nat.zero_le _, (fun x h => by cases h), fun h => absurd rfl h⟩
  · simp [Value.cells] at hcs
    obtain ⟨rfl, rfl, rfl⟩ := hcs
    have hc5 : Try.prog.cellsOf 26 = 5 := by kernel_rfl
    simp only [if_true] at hmm
    subst hmm
    have he : ∀ i, i < len → ∃ y : Cmd, WishOk y ∧ ∀ j, j < 5 → W.cell? (x.add (i * 5 + j)) = (wishCells y)[j]? := by
      intro i hlt
      obtain ⟨cs', hc, ht⟩ := hi i (by omega)
      obtain ⟨hl5, hz⟩ := trod_ints Try.underlying26 (by kernel_rfl) ht
      obtain ⟨_, hcl, hat⟩ := World.cells?_some hc
      obtain ⟨n0, e0, b0⟩ := hz 0 (by decide)
      obtain ⟨n1, e1, b1⟩ := hz 1 (by decide)
      obtain ⟨n2, e2, b2⟩ := hz 2 (by decide)
      obtain ⟨n3, e3, b3⟩ := hz 3 (by decide)
      obtain ⟨n4, e4, b4⟩ := hz 4 (by decide)
      refine ⟨⟨n0, n1, n2, n3, n4⟩, ⟨b0, b1, b2, b3, b4⟩, fun j hj => ?_⟩
      have h1 := hat j (by omega)
      rw [hc5] at h1
      rw [← Go.Deep.add_add, h1]
      have h5 : j = 0 ∨ j = 1 ∨ j = 2 ∨ j = 3 ∨ j = 4 := by omega
      rcases h5 with rfl | rfl | rfl | rfl | rfl
      · exact e0
      · exact e1
      · exact e2
      · exact e3
      · exact e4
    obtain ⟨g, hg⟩ : ∃ g : Nat → Cmd, ∀ i, i < len → WishOk (g i) ∧ ∀ j, j < 5 → W.cell? (x.add (i * 5 + j)) = (wishCells (g i))[j]? := by
      refine ⟨fun i => if h : i < len then (he i h).choose else Cmd.zero, fun i h => ?_⟩
      have e : (if h : i < len then (he i h).choose else Cmd.zero) = (he i h).choose := dif_pos h
      show WishOk (if h : i < len then (he i h).choose else Cmd.zero) ∧ _
      dsimp only
      rw [e]
      exact (he i h).choose_spec
    have hlen : ((List.range len).map g).length = len := by simp
    refine ⟨(List.range len).map g, some x, _, by rw [hlen], by rw [hlen]; exact hl, hm, ?_, fun hne => ?_⟩
    · intro y hy
      obtain ⟨i, hi, rfl⟩ := List.mem_map.1 hy
      exact (hg i (List.mem_range.1 hi)).1
    · have hpos : 0 < len := by rw [← hlen]; exact List.length_pos_iff.2 hne
      obtain ⟨b, off, spot⟩ := x
      have hspot : spot = none := by
        have h0 : W.cell? (Addr.add ⟨b, off, spot⟩ (0 * 5 + 0)) = some (.int .i64 (g 0).kind) := (hg 0 hpos).2 0 (by omega)
        simpa [Addr.add] using World.cell?_spot h0
      subst hspot
      refine ⟨b, off, rfl, fun i hi j hj => ?_⟩
      rw [hlen] at hi
      have h1 := (hg i hi).2 j hj
      have e : ((List.range len).map g).getD i Cmd.zero = g i := by simp [hi]
      rw [e, ← h1]
      have e2 : Addr.add ⟨b, off, none⟩ (i * 5 + j) = ⟨b, off + (5 * i + j), none⟩ := by
        unfold Addr.add
        split
        · rename_i h0; simp only [Addr.mk.injEq, and_true, true_and]; omega
        · rw [Nat.mul_comm]
      rw [e2]
end
end Go.Proofs.Ytdkbajdnckmckaa

set_option linter.unusedVariables false
set_option linter.unusedSimpArgs false
namespace Go.Con
open Go
theorem okVs_iff {p : Int × Int} : ∀ (l : List Vot) (last : Int), okVs p last l = true ↔ (∀ v ∈ l, okV v = true ∧ cmpB v.bal p ≤ 0 ∧ last < v.slot) ∧ l.Pairwise (fun a b => a.slot < b.slot)
  | [], last => by simp [okVs]
  | v :: l, last => by
    have e : okVs p last (v :: l) = (okV v && decide (last < v.slot) && decide (cmpB v.bal p ≤ 0) && okVs p v.slot l) := rfl
    rw [e, Bool.and_eq_true, okVs_iff l v.slot, List.pairwise_cons]
    simp only [Bool.and_eq_true, decide_eq_true_eq, List.mem_cons, forall_eq_or_imp]
    constructor
    · rintro ⟨⟨⟨h1, h2⟩, h3⟩, h4, h5⟩
      exact ⟨⟨⟨h1, h3, h2⟩, fun u hu => ⟨(h4 u hu).1, (h4 u hu).2.1, by have := (h4 u hu).2.2; omega⟩⟩, fun u hu => (h4 u hu).2.2, h5⟩
    · rintro ⟨⟨⟨h1, h3, h2⟩, h4⟩, h6, h5⟩
      exact ⟨⟨⟨h1, h2⟩, h3⟩, fun u hu => ⟨(h4 u hu).1, (h4 u hu).2.1, h6 u hu⟩, h5⟩
theorem okV_parts {v : Vot} (h : okV v = true) : 0 ≤ v.slot ∧ v.slot < 40 ∧ okB v.bal = true ∧ checkC v.what = 0 := by
  unfold okV at h
  simp only [Bool.and_eq_true, decide_eq_true_eq] at h
  exact ⟨h.1, h.2.1, h.2.2.1, h.2.2.2⟩
theorem okA_iff {p : Int × Int} {l : List Vot} : okA p l = true ↔ (p = (0, 0) ∨ okB p = true) ∧ (∀ v ∈ l, okV v = true ∧ cmpB v.bal p ≤ 0) ∧ l.Pairwise (fun a b => a.slot < b.slot) := by
  unfold okA
  rw [Bool.and_eq_true, okVs_iff, Bool.or_eq_true, decide_eq_true_eq]
  constructor
  · rintro ⟨h1, h2, h3⟩
    exact ⟨h1, fun v hv => ⟨(h2 v hv).1, (h2 v hv).2.1⟩, h3⟩
  · rintro ⟨h1, h2, h3⟩
    exact ⟨h1, fun v hv => ⟨(h2 v hv).1, (h2 v hv).2, by have := (okV_parts (h2 v hv).1).1; omega⟩, h3⟩
theorem mem_putV {y v : Vot} {l : List Vot} : v ∈ putV y l ↔ v = y ∨ (v ∈ l ∧ v.slot ≠ y.slot) := by
  unfold putV
  simp only [List.mem_append, List.mem_cons, List.mem_filter, decide_eq_true_eq]
  constructor
  · rintro (⟨h1, h2⟩ | h | ⟨h1, h2⟩)
    · exact .inr ⟨h1, by omega⟩
    · exact .inl h
    · exact .inr ⟨h1, by omega⟩
  · rintro (h | ⟨h1, h2⟩)
    · exact .inr (.inl h)
    · rcases Int.lt_or_gt_of_ne h2 with h | h
      · exact .inl ⟨h1, h⟩
      · exact .inr (.inr ⟨h1, h⟩)
theorem okA_put {p : Int × Int} {l : List Vot} {y : Vot} (h : okA p l = true) (hy : okV y = true) (hc : ¬ cmpB y.bal p < 0) : okA y.bal (putV y l) = true := by
  rw [okA_iff] at h ⊢
  obtain ⟨h1, h2, h3⟩ := h
  refine ⟨.inr (okV_parts hy).2.2.1, fun v hv => ?_, ?_⟩
  · rcases mem_putV.1 hv with rfl | ⟨hv, -⟩
    · exact ⟨hy, by rw [cmpB_most]; omega⟩
    · refine ⟨(h2 v hv).1, ?_⟩
      have h4 := (h2 v hv).2
      rw [cmpB_most] at h4 ⊢
      rw [cmpB_low] at hc
      omega
  · unfold putV
    rw [List.pairwise_append, List.pairwise_cons]
    refine ⟨h3.filter _, ⟨fun u hu => ?_, h3.filter _⟩, fun a ha b hb => ?_⟩
    · simp only [List.mem_filter, decide_eq_true_eq] at hu; exact hu.2
    · simp only [List.mem_filter, decide_eq_true_eq] at ha
      rcases List.mem_cons.1 hb with rfl | hb
      · exact ha.2
      · simp only [List.mem_filter, decide_eq_true_eq] at hb; omega
theorem filter_lt_gt (l : List Vot) (s : Int) : (l.filter fun v => decide (v.slot < s)).length + (l.filter fun v => decide (s < v.slot)).length ≤ l.length := by
  induction l with
  | nil => simp
  | cons v l ih =>
    by_cases h1 : v.slot < s
    · have h2 : ¬ s < v.slot := by omega
      simp [List.filter_cons, h1, h2]; omega
    · by_cases h2 : s < v.slot
      · simp [List.filter_cons, h1, h2]; omega
      · simp [List.filter_cons, h1, h2]; omega
theorem putV_length (y : Vot) (l : List Vot) : (putV y l).length ≤ l.length + 1 := by
  have h := filter_lt_gt l y.slot
  unfold putV
  rw [List.length_append, List.length_cons]
  omega
end Go.Con
namespace Go.Proofs.Ytdkbajdnckmckaa
open Go.RowKit Go.Con
theorem picked_toP (n m q : Int) (w : World) (h1 : -9223372036854775808 ≤ n) (h2 : n ≤ 9223372036854775807) (h3 : 0 < m) (hq : Hid (pick n m = q)) :
    Calls Try.prog 10 #[.int .i64 n, .int .i64 m] w fun e w' => e = .returned (.int .i64 q) ∧ w = w' :=
  (picked_any n m w h1 h2 h3).mono fun e w' ⟨he, hw⟩ => ⟨by rw [he, hq.out], hw⟩
/-- what voted's loop keeps -/
structure VodInv (w wr : World) (q : Nat) (p : Int × Int) (vs : Value) (L : List Vot) : Prop where
  out : wr.heap[w.heap.size]? = some (.cells #[.int .i64 0, .int .i64 0, .slice none 0 0] 39 (0, 0))
  acc : wr.heap[w.heap.size + 1]? = some (.cells #[.int .i64 p.1, .int .i64 p.2, vs] 39 (0, 0))
  own : OwnV wr (w.heap.size + 2) vs L
  ok : okA p L = true
  few : p.1 ≤ 9
  len : L.length ≤ q
  below : Below w.heap.size w wr
/-- what voted gives -/
def VodPost (w : World) (e : Ending) (w' : World) : Prop := ∃ p vs L, e = .returned (.tuple #[accV p vs, .bool true]) ∧ OwnV w' w.heap.size vs L ∧ okA p L = true ∧ p.1 ≤ 9 ∧ L.length ≤ 30 ∧ Below w.heap.size w w'
theorem Promise_to (pr pn br bn : Int) (v : Value) (l : List Vot) (w : World) (hv : Votes w v l) (hok : okA (pr, pn) l = true) (hb : okB (br, bn) = true) (hl : l.length ≤ 1000) :
    Calls Try.prog 14 #[.agg #[.int .i64 pr, .int .i64 pn, v], .agg #[.int .i64 br, .int .i64 bn]] w fun e w' => Below w.heap.size w w' ∧ ((cmpB (br, bn) (pr, pn) < 0 ∧ e = .returned (.tuple #[.agg #[.int .i64 0, .int .i64 0, .slice none 0 0], .slice none 0 0, .int .i64 7])) ∨ (¬ cmpB (br, bn) (pr, pn) < 0 ∧ ∃ v1 v2, e = .returned (.tuple #[.agg #[.int .i64 br, .int .i64 bn, v1], v2, .int .i64 0]) ∧ OwnV w' w.heap.size v1 l ∧ OwnV w' w.heap.size v2 l)) :=
  Promise_any (pr, pn) (br, bn) v l w hv hok hb hl
theorem Accept_to (pr pn y0 y1 y2 y3 y4 y5 y6 y7 : Int) (v : Value) (l : List Vot) (w : World) (hv : Votes w v l) (hok : okA (pr, pn) l = true) (hy : okV ⟨y0, (y1, y2), ⟨y3, y4, y5, y6, y7⟩⟩ = true) (hl : l.length ≤ 1000) :
    Calls Try.prog 15 #[.agg #[.int .i64 pr, .int .i64 pn, v], .agg #[.int .i64 y0, .int .i64 y1, .int .i64 y2, .int .i64 y3, .int .i64 y4, .int .i64 y5, .int .i64 y6, .int .i64 y7]] w fun e w' => Below w.heap.size w w' ∧ ((cmpB (y1, y2) (pr, pn) < 0 ∧ e = .returned (.tuple #[.agg #[.int .i64 0, .int .i64 0, .slice none 0 0], .int .i64 7])) ∨ (¬ cmpB (y1, y2) (pr, pn) < 0 ∧ ∃ v1, e = .returned (.tuple #[.agg #[.int .i64 y1, .int .i64 y2, v1], .int .i64 0]) ∧ OwnV w' w.heap.size v1 (putV ⟨y0, (y1, y2), ⟨y3, y4, y5, y6, y7⟩⟩ l))) :=
  Accept_any (pr, pn) v l ⟨y0, (y1, y2), ⟨y3, y4, y5, y6, y7⟩⟩ w hv hok hy hl
theorem Promise_low (pr pn br bn : Int) (v : Value) (l : List Vot) (w : World) (hv : Votes w v l) (hok : okA (pr, pn) l = true) (hb : okB (br, bn) = true) (hl : l.length ≤ 1000) (h : Hid (cmpB (br, bn) (pr, pn) < 0)) :
    Calls Try.prog 14 #[.agg #[.int .i64 pr, .int .i64 pn, v], .agg #[.int .i64 br, .int .i64 bn]] w fun e w' => e = .returned (.tuple #[.agg #[.int .i64 0, .int .i64 0, .slice none 0 0], .slice none 0 0, .int .i64 7]) ∧ Below w.heap.size w w' :=
  (Promise_to pr pn br bn v l w hv hok hb hl).mono fun e w' ⟨h1, h2⟩ => by
    rcases h2 with ⟨-, h3⟩ | ⟨h3, -⟩
    · exact ⟨h3, h1⟩
    · exact absurd h.out h3
theorem Promise_high (pr pn br bn : Int) (v : Value) (l : List Vot) (w : World) (hv : Votes w v l) (hok : okA (pr, pn) l = true) (hb : okB (br, bn) = true) (hl : l.length ≤ 1000) (h : Hid (0 ≤ cmpB (br, bn) (pr, pn))) :
    Calls Try.prog 14 #[.agg #[.int .i64 pr, .int .i64 pn, v], .agg #[.int .i64 br, .int .i64 bn]] w fun e w' => ∃ a1 c1 a2 c2, e = .returned (.tuple #[.agg #[.int .i64 br, .int .i64 bn, .slice a1 l.length c1], .slice a2 l.length c2, .int .i64 0]) ∧ OwnV w' w.heap.size (.slice a1 l.length c1) l ∧ OwnV w' w.heap.size (.slice a2 l.length c2) l ∧ Below w.heap.size w w' :=
  (Promise_to pr pn br bn v l w hv hok hb hl).mono fun e w' ⟨h1, h2⟩ => by
    rcases h2 with ⟨h3, -⟩ | ⟨-, v1, v2, h3, h4, h5⟩
    · exact absurd h3 (Int.not_lt.2 h.out)
    · obtain ⟨a1, c1, rfl, -⟩ := id h4.row
      obtain ⟨a2, c2, rfl, -⟩ := id h5.row
      exact ⟨a1, c1, a2, c2, h3, h4, h5, h1⟩
theorem Accept_low (pr pn y0 y1 y2 y3 y4 y5 y6 y7 : Int) (v : Value) (l : List Vot) (w : World) (hv : Votes w v l) (hok : okA (pr, pn) l = true) (hy : okV ⟨y0, (y1, y2), ⟨y3, y4, y5, y6, y7⟩⟩ = true) (hl : l.length ≤ 1000) (h : Hid (cmpB (y1, y2) (pr, pn) < 0)) :
    Calls Try.prog 15 #[.agg #[.int .i64 pr, .int .i64 pn, v], .agg #[.int .i64 y0, .int .i64 y1, .int .i64 y2, .int .i64 y3, .int .i64 y4, .int .i64 y5, .int .i64 y6, .int .i64 y7]] w fun e w' => e = .returned (.tuple #[.agg #[.int .i64 0, .int .i64 0, .slice none 0 0], .int .i64 7]) ∧ Below w.heap.size w w' :=
  (Accept_to pr pn y0 y1 y2 y3 y4 y5 y6 y7 v l w hv hok hy hl).mono fun e w' ⟨h1, h2⟩ => by
    rcases h2 with ⟨-, h3⟩ | ⟨h3, -⟩
    · exact ⟨h3, h1⟩
    · exact absurd h.out h3
theorem Accept_high (pr pn y0 y1 y2 y3 y4 y5 y6 y7 : Int) (v : Value) (l : List Vot) (w : World) (hv : Votes w v l) (hok : okA (pr, pn) l = true) (hy : okV ⟨y0, (y1, y2), ⟨y3, y4, y5, y6, y7⟩⟩ = true) (hl : l.length ≤ 1000) (h : Hid (0 ≤ cmpB (y1, y2) (pr, pn))) :
    Calls Try.prog 15 #[.agg #[.int .i64 pr, .int .i64 pn, v], .agg #[.int .i64 y0, .int .i64 y1, .int .i64 y2, .int .i64 y3, .int .i64 y4, .int .i64 y5, .int .i64 y6, .int .i64 y7]] w fun e w' => ∃ a1 c1 n1, n1 = (putV ⟨y0, (y1, y2), ⟨y3, y4, y5, y6, y7⟩⟩ l).length ∧ e = .returned (.tuple #[.agg #[.int .i64 y1, .int .i64 y2, .slice a1 n1 c1], .int .i64 0]) ∧ OwnV w' w.heap.size (.slice a1 n1 c1) (putV ⟨y0, (y1, y2), ⟨y3, y4, y5, y6, y7⟩⟩ l) ∧ Below w.heap.size w w' :=
  (Accept_to pr pn y0 y1 y2 y3 y4 y5 y6 y7 v l w hv hok hy hl).mono fun e w' ⟨h1, h2⟩ => by
    rcases h2 with ⟨h3, -⟩ | ⟨-, v1, h3, h4⟩
    · exact absurd h3 (Int.not_lt.2 h.out)
    · obtain ⟨a1, c1, rfl, -⟩ := id h4.row
      exact ⟨a1, c1, _, rfl, h3, h4, h1⟩
theorem VodInv.keep {w wr w4 : World} {q : Nat} {p : Int × Int} {vs : Value} {L : List Vot} (h : VodInv w wr q p vs L) (B : Below wr.heap.size wr w4) : VodInv w w4 (q + 1) p vs L := by
  have h1 := lt_of_heap h.acc
  exact ⟨(B.block _ (by omega)).trans h.out, (B.block _ h1).trans h.acc, ownV_move h.own (Nat.le_refl _) (fun k _ hk => B.block k hk), h.ok, h.few, by have := h.len; omega, h.below.trans (B.mono h.below.size)⟩
theorem VodInv.turn {w wr w4 : World} {q : Nat} {p b : Int × Int} {vs v1 : Value} {L L1 : List Vot} (h : VodInv w wr q p vs L) (B : Below wr.heap.size wr w4) (ho : OwnV w4 wr.heap.size v1 L1) (hok : okA b L1 = true) (hf : b.1 ≤ 9) (hl : L1.length ≤ q + 1) :
    VodInv w (((w4.setCell ⟨w.heap.size + 1, 0, none⟩ (.int .i64 b.1)).setCell ⟨w.heap.size + 1, 1, none⟩ (.int .i64 b.2)).setCell ⟨w.heap.size + 1, 2, none⟩ v1) (q + 1) b v1 L1 := by
  have h1 := lt_of_heap h.acc
  have hs := B.size
  have hle : w.heap.size ≤ w.heap.size + 1 := by omega
  have hq : ∀ k, k ≠ w.heap.size + 1 → (((w4.setCell ⟨w.heap.size + 1, 0, none⟩ (.int .i64 b.1)).setCell ⟨w.heap.size + 1, 1, none⟩ (.int .i64 b.2)).setCell ⟨w.heap.size + 1, 2, none⟩ v1).heap[k]? = w4.heap[k]? := fun k hk => by
    rw [heapSet_ne _ _ hk, heapSet_ne _ _ hk, heapSet_ne _ _ hk]
  refine ⟨?_, heapSet (heapSet (heapSet ((B.block _ h1).trans h.acc) _) _) _, ?_, hok, hf, hl, ?_⟩
  · rw [hq _ (by omega)]; exact (B.block _ (by omega)).trans h.out
  · exact ownV_move ho (by omega) (fun k hk _ => hq k (by omega))
  · exact (((h.below.trans (B.mono h.below.size)).setCell hle _).setCell hle _).setCell hle _
end Go.Proofs.Ytdkbajdnckmckaa

set_option linter.unusedVariables false
set_option linter.unusedSimpArgs false
namespace Go.Proofs.Ytdkbajdnckmckaa
open Go.RowKit Go.Con
theorem alloc3T {w w0 : World} {A B C : Obj} (h : ((w.alloc A).alloc B).alloc C = w0) : w0.heap[w.heap.size]? = some A ∧ w0.heap[w.heap.size + 1]? = some B ∧ w0.heap[w.heap.size + 1 + 1]? = some C ∧ Below w.heap.size w w0 := by
  subst h
  have e : ((w.alloc A).alloc B).heap.size = w.heap.size + 1 + 1 := by simp
  refine ⟨(heapOld _ _ _ (by simp; omega)).trans (heapNew0 w A B), (heapOld _ _ _ (by simp)).trans (heapNew1 w A B), ?_, (((Below.refl _ _).alloc (Nat.le_refl _) _).alloc (by simp) _).alloc (by simp; omega) _⟩
  rw [← e]; exact heapNew _ _
/-- new integers -/
theorem newInts (W : World) (zs : List Int) (n : Nat) (hn : n = zs.length) (hm : n ≤ maxLen) (hb : ∀ i, i < zs.length → -9223372036854775808 ≤ zs.getD i 0 ∧ zs.getD i 0 ≤ 9223372036854775807) :
    RdInts (W.alloc (.cells (zs.map (Value.int .i64)).toArray 3)) (.slice (some ⟨W.heap.size, 0, none⟩) n n) zs := by
  subst hn
  refine ⟨_, _, rfl, Nat.le_refl _, hm, hb, fun _ => ⟨_, _, rfl, fun i hi => ?_⟩⟩
  rw [Nat.zero_add]
  refine cellAt (heapNew W _) i ?_
  simp [hi]
theorem two_ge (r q : Int) (hr : 0 ≤ r) (hq : 0 ≤ q) : ∀ i, i < [r, q].length → 0 ≤ [r, q].getD i 0 := by
  intro i hi
  have hc : i = 0 ∨ i = 1 := by simp at hi; omega
  rcases hc with rfl | rfl <;> simp <;> omega
theorem two_bd (r q : Int) (hr : 0 ≤ r ∧ r ≤ 65536) (hq : 0 ≤ q ∧ q ≤ 65536) : ∀ i, i < [r, q].length → -9223372036854775808 ≤ [r, q].getD i 0 ∧ [r, q].getD i 0 ≤ 9223372036854775807 := by
  intro i hi
  have hc : i = 0 ∨ i = 1 := by simp at hi; omega
  rcases hc with rfl | rfl <;> simp <;> omega
theorem lt_alloc {w : World} {o : Obj} {k : Nat} (h : k < w.heap.size) : k < (w.alloc o).heap.size := by simp; omega
/-- the cells that a promise reads -/
abbrev SP (w : World) (tb bb : Nat) (v : Value) (s r q : Int) : Prop := w.cell? ⟨tb, 0, none⟩ = some v ∧ w.cell? ⟨tb, 1, none⟩ = some (.int .i64 s) ∧ w.cell? ⟨bb, 0, none⟩ = some (.int .i64 r) ∧ w.cell? ⟨bb, 1, none⟩ = some (.int .i64 q)
theorem SP.stay {w w' : World} {tb bb : Nat} {v : Value} {s r q : Int} (h : SP w tb bb v s r q) (h1 : tb < w.heap.size) (h2 : bb < w.heap.size) (hb : Below w.heap.size w w') : SP w' tb bb v s r q :=
  ⟨(hb.cell (p := ⟨tb, 0, none⟩) h1).trans h.1, (hb.cell (p := ⟨tb, 1, none⟩) h1).trans h.2.1, (hb.cell (p := ⟨bb, 0, none⟩) h2).trans h.2.2.1, (hb.cell (p := ⟨bb, 1, none⟩) h2).trans h.2.2.2⟩
theorem SP.set {w : World} {tb bb rb : Nat} {v v0 v1 : Value} {s r q : Int} (h1 : tb ≠ rb) (h2 : bb ≠ rb) (h : SP w tb bb v s r q) : SP ((w.setCell ⟨rb, 0, none⟩ v0).setCell ⟨rb, 1, none⟩ v1) tb bb v s r q := by
  have e : ∀ b, b ≠ rb → ((w.setCell ⟨rb, 0, none⟩ v0).setCell ⟨rb, 1, none⟩ v1).heap[b]? = w.heap[b]? := fun b hne => (heapSet_ne 1 v1 hne).trans (heapSet_ne 0 v0 hne)
  exact ⟨(World.cell?_of_block (w := w) (e tb h1)).trans h.1, (World.cell?_of_block (w := w) (e tb h1)).trans h.2.1, (World.cell?_of_block (w := w) (e bb h2)).trans h.2.2.1, (World.cell?_of_block (w := w) (e bb h2)).trans h.2.2.2⟩
theorem SP.alloc {w : World} {tb bb : Nat} {v : Value} {s r q : Int} (h : SP w tb bb v s r q) (h1 : tb < w.heap.size) (h2 : bb < w.heap.size) (o : Obj) : SP (w.alloc o) tb bb v s r q := h.stay h1 h2 ((Below.refl _ _).alloc (Nat.le_refl _) o)
theorem SP.drew {w : World} {tb bb : Nat} {v : Value} {s r q : Int} (h : SP w tb bb v s r q) : SP w.drew tb bb v s r q := h
/-- a promise's body -/
def Tp.proB (r n : Int) : List UInt8 := 1 :: flatB [r, n]
theorem proB_len (r n : Int) : (Tp.proB r n).length = 9 := by rw [Tp.proB, List.length_cons, flatB_len]; rfl
theorem votes_nil (w : World) : Votes w (.slice none 0 0) [] := ⟨⟨none, 0, rfl, Nat.le_refl _, Nat.zero_le _, fun h => absurd rfl h⟩, .inl rfl⟩
theorem cmpB_zero {r n : Int} (h : okB (r, n) = true) : 0 ≤ cmpB (r, n) (0, 0) := by
  have : 1 ≤ r := by simp [okB] at h; omega
  have e : cmpI r 0 = 1 := by unfold cmpI; split <;> (try split) <;> omega
  unfold cmpB
  simp only [e]
  simp
end Go.Proofs.Ytdkbajdnckmckaa

set_option linter.unusedVariables false
set_option linter.unusedSimpArgs false
namespace Go.Proofs.Ytdkbajdnckmckaa
open Go.RowKit Go.Con
/-- a vote's body -/
def Tp.voB (y0 y1 y2 y3 y4 y5 y6 y7 : Int) : List UInt8 := (2 :: flatB [y0, y1, y2]) ++ encC ⟨y3, y4, y5, y6, y7⟩
theorem encC_len (c : Cmd) : (encC c).length = 20 := encK_length c 5
theorem voB_len (y0 y1 y2 y3 y4 y5 y6 y7 : Int) : (Tp.voB y0 y1 y2 y3 y4 y5 y6 y7).length = 33 := by rw [Tp.voB, List.length_append, List.length_cons, flatB_len, encC_len]; rfl
theorem three_ge (x r q : Int) (hx : 0 ≤ x) (hr : 0 ≤ r) (hq : 0 ≤ q) : ∀ i, i < [x, r, q].length → 0 ≤ [x, r, q].getD i 0 := by
  intro i hi
  have hc : i = 0 ∨ i = 1 ∨ i = 2 := by simp at hi; omega
  rcases hc with rfl | rfl | rfl <;> simp <;> omega
theorem three_bd (x r q : Int) (hx : 0 ≤ x ∧ x ≤ 65536) (hr : 0 ≤ r ∧ r ≤ 65536) (hq : 0 ≤ q ∧ q ≤ 65536) : ∀ i, i < [x, r, q].length → -9223372036854775808 ≤ [x, r, q].getD i 0 ∧ [x, r, q].getD i 0 ≤ 9223372036854775807 := by
  intro i hi
  have hc : i = 0 ∨ i = 1 ∨ i = 2 := by simp at hi; omega
  rcases hc with rfl | rfl | rfl <;> simp <;> omega
abbrev SV (w : World) (tb bb : Nat) (v : Value) (s x r q : Int) : Prop := w.cell? ⟨tb, 0, none⟩ = some v ∧ w.cell? ⟨tb, 1, none⟩ = some (.int .i64 s) ∧ w.cell? ⟨bb, 0, none⟩ = some (.int .i64 x) ∧ w.cell? ⟨bb, 1, none⟩ = some (.int .i64 r) ∧ w.cell? ⟨bb, 2, none⟩ = some (.int .i64 q)
theorem SV.stay {w w' : World} {tb bb : Nat} {v : Value} {s x r q : Int} (h : SV w tb bb v s x r q) (h1 : tb < w.heap.size) (h2 : bb < w.heap.size) (hb : Below w.heap.size w w') : SV w' tb bb v s x r q :=
  ⟨(hb.cell (p := ⟨tb, 0, none⟩) h1).trans h.1, (hb.cell (p := ⟨tb, 1, none⟩) h1).trans h.2.1, (hb.cell (p := ⟨bb, 0, none⟩) h2).trans h.2.2.1, (hb.cell (p := ⟨bb, 1, none⟩) h2).trans h.2.2.2.1, (hb.cell (p := ⟨bb, 2, none⟩) h2).trans h.2.2.2.2⟩
theorem SV.set {w : World} {tb bb rb : Nat} {v v0 v1 : Value} {s x r q : Int} (h1 : tb ≠ rb) (h2 : bb ≠ rb) (h : SV w tb bb v s x r q) : SV ((w.setCell ⟨rb, 0, none⟩ v0).setCell ⟨rb, 1, none⟩ v1) tb bb v s x r q := by
  have e : ∀ b, b ≠ rb → ((w.setCell ⟨rb, 0, none⟩ v0).setCell ⟨rb, 1, none⟩ v1).heap[b]? = w.heap[b]? := fun b hne => (heapSet_ne 1 v1 hne).trans (heapSet_ne 0 v0 hne)
  exact ⟨(World.cell?_of_block (w := w) (e tb h1)).trans h.1, (World.cell?_of_block (w := w) (e tb h1)).trans h.2.1, (World.cell?_of_block (w := w) (e bb h2)).trans h.2.2.1, (World.cell?_of_block (w := w) (e bb h2)).trans h.2.2.2.1, (World.cell?_of_block (w := w) (e bb h2)).trans h.2.2.2.2⟩
theorem SV.alloc {w : World} {tb bb : Nat} {v : Value} {s x r q : Int} (h : SV w tb bb v s x r q) (h1 : tb < w.heap.size) (h2 : bb < w.heap.size) (o : Obj) : SV (w.alloc o) tb bb v s x r q := h.stay h1 h2 ((Below.refl _ _).alloc (Nat.le_refl _) o)
theorem SV.drew {w : World} {tb bb : Nat} {v : Value} {s x r q : Int} (h : SV w tb bb v s x r q) : SV w.drew tb bb v s x r q := h
end Go.Proofs.Ytdkbajdnckmckaa
