/-
  Slices of bytes: what such a slice shows, one that the call itself owns, appending to it, and what stays of both while other blocks are written.
-/
import Derived.Test.YtcbmmkhbfookjaaDoorRows
import Derived.Test.YtcbmmkhbfookjaaDoorWld
import Derived.WalkKit
import Derived.Laws.AppendOwnNone
set_option linter.unusedVariables false
set_option linter.unusedSimpArgs false
namespace Go.Proofs.YtcbmmkhbfookjaaDoor
open Go.RowKit Go.Con


/-- The slice value v shows the bytes l. -/
def Rd (w : World) (v : Value) (l : List UInt8) : Prop :=
  ∃ a c, v = .slice a l.length c ∧ l.length ≤ c ∧ c ≤ maxLen ∧ (a = none → c = 0) ∧ (l ≠ [] → ∃ b off, a = some ⟨b, off, none⟩ ∧ ∀ i, i < l.length → w.cell? ⟨b, off + i, none⟩ = some (u8v (l.getD i 0)))

/-- The slice value v is a row of the call's own, which holds the bytes l. -/
def Own (w : World) (base : Nat) (v : Value) (l : List UInt8) : Prop := w.ownsRow base 5 1 v l.length (l.map u8v)

theorem Tryd.info8 : (Tryd.prog.info? 5).map (fun i => (i.zero, i.size, i.bytes)) = some (some (.int .u8 0), 1, 1) := by kernel_rfl

theorem one8 (l : List UInt8) : ∀ u ∈ l.map u8v, u.oneCell' = true := by
  intro u hu
  obtain ⟨b, _, rfl⟩ := List.mem_map.1 hu
  rfl

theorem map_getD (l : List UInt8) (j : Nat) (u : Value) (h : (l.map u8v)[j]? = some u) : j < l.length ∧ u = u8v (l.getD j 0) := by
  rw [List.getElem?_map] at h
  obtain ⟨b, hb, rfl⟩ := Option.map_eq_some_iff.1 h
  obtain ⟨hj, rfl⟩ := List.getElem?_eq_some_iff.1 hb
  exact ⟨hj, by simp [hj]⟩

theorem Rd.cells {w : World} {a : Option Addr} {n c : Nat} {l : List UInt8} (h : Rd w (.slice a n c) l) (ad : Addr) (ha : a = some ad) : ∀ j u, (l.map u8v)[j]? = some u → w.cell? (ad.add j) = some u := by
  obtain ⟨a', c', he, _, _, _, hc⟩ := h
  injection he with h1 h2 h3
  subst h1
  intro j u hju
  obtain ⟨hj, rfl⟩ := map_getD l j u hju
  obtain ⟨b, off, hb, hcell⟩ := hc (by intro h0; subst h0; simp at hj)
  rw [ha] at hb
  injection hb with hb
  subst hb
  have := hcell j hj
  unfold Addr.add
  split
  · rename_i h0; subst h0; simpa using this
  · exact this

theorem Rd.none_nil {w : World} {n c : Nat} {l : List UInt8} (h : Rd w (.slice none n c) l) : l = [] ∧ n = 0 ∧ c = 0 := by
  obtain ⟨a', c', he, _, _, h0, hc⟩ := h
  injection he with h1 h2 h3
  subst h1 h2 h3
  have hl : l = [] := by
    by_cases hl : l = []
    · exact hl
    · obtain ⟨_, _, h1, _⟩ := hc hl
      cases h1
  subst hl
  exact ⟨rfl, rfl, h0 rfl⟩

theorem Rd.nil (w : World) : Rd w (.slice none 0 0) [] := ⟨none, 0, rfl, Nat.le_refl _, Nat.zero_le _, fun _ => rfl, fun h => absurd rfl h⟩

/-- What is owned is shown. -/
theorem Own.rd {w : World} {base : Nat} {v : Value} {l : List UInt8} (h : Own w base v l) : Rd w v l := by
  obtain ⟨hl, h2⟩ := h
  rcases h2 with ⟨rfl, hn⟩ | ⟨g, cap, cur, rfl, hb, hg, hnc, hcm, hcs, htake⟩
  · have : l = [] := List.eq_nil_of_length_eq_zero hn
    subst this
    exact Rd.nil w
  · refine ⟨some ⟨g, 0, none⟩, cap, rfl, hnc, hcm, (fun h => by cases h), fun _ => ⟨g, 0, rfl, fun i hi => ?_⟩⟩
    have : (cur.toList.take (l.length * 1))[i]? = some (u8v (l.getD i 0)) := by rw [htake]; simp [hi]
    rw [List.getElem?_take] at this
    split at this
    · rw [Nat.zero_add]
      refine cellAt hg i (by simpa using this)
    · cases this

/-- Its shape. -/
theorem Own.shape {w : World} {base : Nat} {v : Value} {l : List UInt8} (h : Own w base v l) (hl : l ≠ []) : ∃ g cap, v = .slice (some ⟨g, 0, none⟩) l.length cap ∧ base ≤ g ∧ g < w.heap.size ∧ l.length ≤ cap ∧ cap ≤ maxLen := by
  obtain ⟨_, h2⟩ := h
  rcases h2 with ⟨rfl, hn⟩ | ⟨g, cap, cur, rfl, hb, hg, hnc, hcm, hcs, htake⟩
  · exact absurd (List.eq_nil_of_length_eq_zero hn) hl
  · exact ⟨g, cap, rfl, hb, lt_of_heap hg, hnc, hcm⟩

theorem Own.nil (w : World) (base : Nat) : Own w base (.slice none 0 0) [] := World.ownsRow_nil w base _ _
theorem Own.mono {w : World} {base base' : Nat} {v : Value} {l : List UInt8} (h : Own w base v l) (hb : base' ≤ base) : Own w base' v l := by
  obtain ⟨h1, h2⟩ := h
  refine ⟨h1, ?_⟩
  rcases h2 with h2 | ⟨g, cap, cur, hv, hg, r⟩
  · exact .inl h2
  · exact .inr ⟨g, cap, cur, hv, by omega, r⟩
theorem Own.alloc {w : World} {base : Nat} {v : Value} {l : List UInt8} (h : Own w base v l) (o : Obj) : Own (w.alloc o) base v l := World.ownsRow.alloc h o
theorem Own.kept {w w' : World} {base : Nat} {v : Value} {l : List UInt8} {row : Option Nat} (h : Own w base v l) (hg : w.grownBy w' row) (hne : ∀ k, row = some k → v.ownBlock ≠ some k) : Own w' base v l := by
  refine World.ownsRow.kept h hg ?_
  cases hv : v.ownBlock with
  | none => exact .inl rfl
  | some k =>
    refine .inr fun e => ?_
    exact hne k e.symm hv
/-- Owned below B, it stays while the world is turned from B on alone. -/
theorem Own.below {w w' : World} {base B : Nat} {v : Value} {l : List UInt8} (h : Own w base v l) (hb : Below B w w') (hB : ∀ k, v.ownBlock = some k → k < B) : Own w' base v l := by
  obtain ⟨h1, h2⟩ := h
  refine ⟨h1, ?_⟩
  rcases h2 with h2 | ⟨g, cap, cur, rfl, hg, hh, r⟩
  · exact .inl h2
  · exact .inr ⟨g, cap, cur, rfl, hg, by rw [hb.block g (hB g rfl)]; exact hh, r⟩
theorem Own.lt {w : World} {base : Nat} {v : Value} {l : List UInt8} (h : Own w base v l) : ∀ k, v.ownBlock = some k → base ≤ k ∧ k < w.heap.size := World.ownsRow.lt h

/-- What is shown out of blocks that are there stays while nothing below is turned. -/
theorem Rd.below {w w' : World} {B : Nat} {v : Value} {l : List UInt8} (h : Rd w v l) (hb : Below B w w') (hB : ∀ k, v.ownBlock = some k → l ≠ [] → k < B) : Rd w' v l := by
  obtain ⟨a, c, rfl, h1, h2, h0, h3⟩ := h
  refine ⟨a, c, rfl, h1, h2, h0, fun hl => ?_⟩
  obtain ⟨b, off, rfl, hc⟩ := h3 hl
  exact ⟨b, off, rfl, fun i hi => by rw [hb.cell (p := ⟨b, off + i, none⟩) (hB b rfl hl)]; exact hc i hi⟩
theorem Rd.lt {w : World} {v : Value} {l : List UInt8} (h : Rd w v l) : ∀ k, v.ownBlock = some k → l ≠ [] → k < w.heap.size := by
  obtain ⟨a, c, rfl, h1, h2, h0, h3⟩ := h
  intro k hk hl
  obtain ⟨b, off, rfl, hc⟩ := h3 hl
  simp [Value.ownBlock] at hk
  subst hk
  have : 0 < l.length := List.length_pos_iff.2 hl
  exact World.block_lt_of_cell? w _ (hc 0 this)
theorem Rd.kept {w w' : World} {v : Value} {l : List UInt8} {row : Option Nat} (h : Rd w v l) (hg : w.grownBy w' row) (hne : ∀ k, row = some k → v.ownBlock ≠ some k) : Rd w' v l := by
  obtain ⟨a, c, rfl, h1, h2, h0, h3⟩ := h
  refine ⟨a, c, rfl, h1, h2, h0, fun hl => ?_⟩
  obtain ⟨b, off, rfl, hc⟩ := h3 hl
  exact ⟨b, off, rfl, fun i hi => hg.cell (hc i hi) (fun e => hne b e.symm rfl)⟩
theorem Rd.stay {w w' : World} {v : Value} {l : List UInt8} (h : Rd w v l) (hb : Below w.heap.size w w') : Rd w' v l := h.below hb h.lt
theorem Rd.alloc {w : World} {v : Value} {l : List UInt8} (h : Rd w v l) (o : Obj) : Rd (w.alloc o) v l := h.stay ((Below.refl _ _).alloc (Nat.le_refl _) o)
theorem Rd.drewN {w : World} {v : Value} {l : List UInt8} (h : Rd w v l) (n : Nat) : Rd (w.drewN n) v l := h
theorem Own.drewN {w : World} {base : Nat} {v : Value} {l : List UInt8} (h : Own w base v l) (n : Nat) : Own (w.drewN n) base v l := h
theorem Rd.slice {w : World} {v : Value} {l : List UInt8} (h : Rd w v l) : ∃ a c, v = .slice a l.length c ∧ l.length ≤ c ∧ c ≤ maxLen := by
  obtain ⟨a, c, rfl, h1, h2, _⟩ := h
  exact ⟨a, c, rfl, h1, h2⟩
/-- A cut of what is shown. -/
theorem Rd.cut {w : World} {a : Option Addr} {n c : Nat} {l : List UInt8} (h : Rd w (.slice a n c) l) (lo hi : Nat) (h1 : lo ≤ hi) (h2 : hi ≤ n) : Rd w (.slice (if c = lo then a else a.map (·.add (lo * 1))) (hi - lo) (c - lo)) ((l.take hi).drop lo) := by
  obtain ⟨a', c', he, hlc, hcm, h0, hcell⟩ := h
  injection he with e1 e2 e3
  subst e1 e2 e3
  have hlen : ((l.take hi).drop lo).length = hi - lo := by simp; omega
  refine ⟨_, c - lo, by rw [hlen], by omega, by omega, ?_, ?_⟩
  · intro hn
    split at hn
    · have := h0 hn; omega
    · rw [Option.map_eq_none_iff] at hn; have := h0 hn; omega
  · intro hne
    have hpos : 0 < hi - lo := by rw [← hlen]; exact List.length_pos_iff.2 hne
    obtain ⟨b, off, rfl, hc⟩ := hcell (by intro h; subst h; simp at h2; omega)
    refine ⟨b, off + lo, ?_, ?_⟩
    · rw [if_neg (by omega)]
      simp only [Option.map_some, Addr.add, Nat.mul_one]
      split
      · rename_i h; subst h; rfl
      · rfl
    · intro i hi'
      rw [hlen] at hi'
      have := hc (lo + i) (by omega)
      rw [show off + lo + i = off + (lo + i) by omega, this]
      simp [List.getElem?_drop, List.getElem?_take, show lo + i < hi by omega]

/-- Where what was appended to lies: where it lay, or in a new block. -/
theorem append_where (w : World) (base : Nat) (ty : TypeId) (i : TypeInfo) (hi : Tryd.prog.info? 5 = some i) (hz : i.zero = some (.int .u8 0)) (hsize : i.size = 1) (hby : i.bytes = 1)
    (v : Value) (l : List UInt8) (hown : Own w base v l) (ad : Addr) (m c : Nat) (news : List Value) (hl : news.length = m * 1) (hnews : ∀ j u, news[j]? = some u → w.cell? (ad.add j) = some u) (h1 : ∀ u ∈ news, u.oneCell' = true)
    (hbytes : l.length + m ≤ 140737488355328) :
    ∃ v' w', (Builtin.append_ #[30, 30] ty #[v, .slice (some ad) m c]).run Tryd.prog w = .ok v' w' ∧ (v'.ownBlock = v.ownBlock ∨ v'.ownBlock = some w.heap.size) := by
  have ht : Tryd.prog.underlying 30 = some (.slice 5) := Tryd.underlying30
  obtain ⟨hxl, h2⟩ := hown
  rcases h2 with ⟨rfl, hn⟩ | ⟨g, cap, cur, rfl, hbg, hg, hnc, hcm, hcs, htake⟩
  · by_cases hm : m = 0
    · subst hm
      refine ⟨.slice none 0 0, w, ?_, .inl rfl⟩
      simp [Builtin.append_, run_underlying ht, sizeOf, typeInfo, hi, Builtin.lenOf, Builtin.firstCells, loadCells, loadCellsFrom]
    · have hr := run_append_nil (P := Tryd.prog) w 30 ty 5 i (.int .u8 0) ht hi hz ad m c news (by rw [hsize]; exact hl) hnews (by omega) (by omega) (by rw [hby]; omega)
      exact ⟨_, _, hr, .inr rfl⟩
  · by_cases hroom : l.length + m ≤ cap
    · have hr := run_append_room (P := Tryd.prog) w 30 ty 5 i ht hi g l.length cap cur hg ad m c news (by rw [hsize]; exact hl) hnews h1 hroom (by rw [hsize, hl, hcs]; omega)
      exact ⟨_, _, hr, .inl rfl⟩
    · have holds : ∀ j u, (l.map u8v)[j]? = some u → w.cell? ((⟨g, 0, none⟩ : Addr).add j) = some u := World.ownsRow.cells (base := base) (e := 5) (size := 1) (n := l.length) ⟨hxl, .inr ⟨g, cap, cur, rfl, hbg, hg, hnc, hcm, hcs, htake⟩⟩ (g := g) rfl
      have hr := run_append_grow (P := Tryd.prog) w 30 ty 5 i (.int .u8 0) ht hi hz ⟨g, 0, none⟩ l.length cap (l.map u8v) (by rw [hsize]; exact hxl) holds ad m c news (by rw [hsize]; exact hl) hnews (by omega) (by omega) (growslice_fits (by omega) (by rw [hby]; omega))
      exact ⟨_, _, hr, .inr rfl⟩

section
variable {ops : Array Oper} {rest : List Oper} {o : Oper} {a : Act} {Q : Exit → Act → World → Prop} {w : World}
/-- append(own, shown...), and where it lies then. -/
theorem apBw (hgd : o.guard = none) (s x : Operand) (ho : o.op = .call { callee := .builtin .append, args := #[s, x], argTypes := #[30, 30] })
    (base : Nat) (v src : Value) (l m : List UInt8) (hs : a.eval s = v) (hown : Own w base v l) (hx : a.eval x = src) (hsrc : Rd w src m) (hlen : l.length + m.length ≤ 140737488355328) (hbase : base ≤ w.heap.size)
    (h : ∀ v' w', Own w' base v' (l ++ m) → w.grownBy w' v.ownBlock → (v'.ownBlock = v.ownBlock ∨ v'.ownBlock = some w.heap.size) → wpList Tryd.prog ops Q rest (a.put o.dst v') w') : wpList Tryd.prog ops Q (o :: rest) a w := by
  obtain ⟨i0, hi, hz0, hz1, hz2⟩ := info_parts Tryd.info8
  obtain ⟨ao, c, hv, _⟩ := hsrc.slice
  subst hv
  cases ao with
  | none =>
    obtain ⟨hm, hm0, hc0⟩ := hsrc.none_nil
    subst hm
    rw [hc0] at hx
    refine wpList_append_own_none hgd s x 30 ho base 5 i0 1 Tryd.underlying30 hi v l.length _ hs hown hx ?_
    refine h v w (by simpa using hown) ⟨rfl, rfl, rfl, Nat.le_refl _, fun _ _ _ => rfl⟩ (.inl rfl)
  | some ad =>
    refine wpList_plain hgd fun K hK => ?_
    obtain ⟨v', w', hr, h2, h3, h4⟩ := run_append_own (P := Tryd.prog) w base 30 o.type 5 i0 (.int .u8 0) 1 1 Tryd.underlying30 hi hz0 hz1 hz2 rfl (by decide) v l.length _ hown ad m.length c (m.map u8v) (by simp) (hsrc.cells ad rfl) (one8 m) (by unfold maxLen; omega) (by omega) hbase
    obtain ⟨v2, w2, hr2, hw⟩ := append_where w base o.type i0 hi hz0 hz1 hz2 v l hown ad m.length c (m.map u8v) (by simp) (hsrc.cells ad rfl) (one8 m) (by omega)
    have e := hr.symm.trans hr2
    injection e with e1 e2
    subst e1 e2
    unfold Oper.wp execOp
    simp only [ho, resolve, invoke, builtin, Sem.run_bind, Sem.run_pure, Result.andThen_ok, List.map_toArray, List.map_cons, List.map_nil, hs, hx, hr]
    refine hK _ _ (h v' w' ?_ h3 hw)
    unfold Own
    rw [List.length_append, List.map_append]
    exact h2
/-- append(own, shown...). -/
theorem apB (hgd : o.guard = none) (s x : Operand) (ho : o.op = .call { callee := .builtin .append, args := #[s, x], argTypes := #[30, 30] })
    (base : Nat) (v src : Value) (l m : List UInt8) (hs : a.eval s = v) (hown : Own w base v l) (hx : a.eval x = src) (hsrc : Rd w src m) (hlen : l.length + m.length ≤ 140737488355328) (hbase : base ≤ w.heap.size)
    (h : ∀ v' w', Own w' base v' (l ++ m) → w.grownBy w' v.ownBlock → wpList Tryd.prog ops Q rest (a.put o.dst v') w') : wpList Tryd.prog ops Q (o :: rest) a w := by
  obtain ⟨i0, hi, hz0, hz1, hz2⟩ := info_parts Tryd.info8
  obtain ⟨ao, c, hv, _⟩ := hsrc.slice
  subst hv
  cases ao with
  | none =>
    obtain ⟨hm, hm0, hc0⟩ := hsrc.none_nil
    subst hm
    rw [hc0] at hx
    refine wpList_append_own_none hgd s x 30 ho base 5 i0 1 Tryd.underlying30 hi v l.length _ hs hown hx ?_
    refine h v w (by simpa using hown) ⟨rfl, rfl, rfl, Nat.le_refl _, fun _ _ _ => rfl⟩
  | some ad =>
    refine wpList_append_own _ hgd s x 30 ho base 5 i0 (.int .u8 0) 1 1 Tryd.underlying30 hi hz0 hz1 hz2 rfl (by decide) v l.length _ hs hown ad m.length c (m.map u8v) hx (by simp) (hsrc.cells ad rfl) (one8 m) (by unfold maxLen; omega) (by omega) hbase ?_
    intro v' w' hown' hg _
    refine h v' w' ?_ hg
    unfold Own
    rw [List.length_append, List.map_append]
    exact hown'
end
/-- A new block of bytes, written out. -/
theorem Rd.newRow (w : World) (l : List UInt8) (n : Nat) (hn : n = l.length) (hl : l.length ≤ maxLen) : Rd (w.alloc (.cells (l.map u8v).toArray 5)) (.slice (some ⟨w.heap.size, 0, none⟩) n n) l := by
  subst hn
  refine ⟨_, _, rfl, Nat.le_refl _, hl, (fun h => by cases h), fun _ => ⟨_, _, rfl, fun i hi => ?_⟩⟩
  refine cellAt (heapNew w _) _ ?_
  simp [hi]
/-- Its first bytes. -/
theorem Rd.pre {w : World} {a : Option Addr} {n c : Nat} {l : List UInt8} (h : Rd w (.slice a n c) l) (m : Nat) (hm : m ≤ l.length) : Rd w (.slice a m c) (l.take m) := by
  obtain ⟨a', c', he, hlc, hcm, h0, hcell⟩ := h
  injection he with e1 e2 e3
  subst e1 e2 e3
  have hlen : (l.take m).length = m := by simp; omega
  refine ⟨a, c, by rw [hlen], by omega, hcm, h0, fun hne => ?_⟩
  have hpos : 0 < m := by rw [← hlen]; exact List.length_pos_iff.2 hne
  obtain ⟨b, off, rfl, hc⟩ := hcell (by intro h; subst h; simp at hm; omega)
  refine ⟨b, off, rfl, fun i hi => ?_⟩
  rw [hlen] at hi
  rw [hc i (by omega)]
  simp [List.getElem?_take, hi]
/-- A new block of four bytes. -/
theorem newB4 (W : World) (x0 x1 x2 x3 : Int) (b0 b1 b2 b3 : UInt8) (h0 : x0 = b0.toNat) (h1 : x1 = b1.toNat) (h2 : x2 = b2.toNat) (h3 : x3 = b3.toNat) :
    Rd (W.alloc (.cells #[.int .u8 x0, .int .u8 x1, .int .u8 x2, .int .u8 x3] 5)) (.slice (some ⟨W.heap.size, 0, none⟩) 4 4) [b0, b1, b2, b3] := by
  subst h0 h1 h2 h3; exact Rd.newRow W [b0, b1, b2, b3] 4 rfl (by simp [maxLen])
/-- A row made without length. -/
theorem Own.made (w : World) (base : Nat) (cur : Array Value) (cap : Nat) (hb : base ≤ w.heap.size) (hm : cap ≤ maxLen) (hs : cur.size = cap) :
    Own (w.alloc (.cells cur 5)) base (.slice (some ⟨w.heap.size, 0, none⟩) 0 cap) [] :=
  World.ownsRow_made w cur cap hb hm (by omega)
/-- A new block of bytes that bears a mark. -/
theorem Rd.newMark (w : World) (l : List UInt8) (n : Nat) (f : Nat × Nat) (hn : n = l.length) (hl : l.length ≤ maxLen) : Rd (w.alloc (.cells (l.map u8v).toArray 5 f)) (.slice (some ⟨w.heap.size, 0, none⟩) n n) l := by
  subst hn
  refine ⟨_, _, rfl, Nat.le_refl _, hl, (fun h => by cases h), fun _ => ⟨_, _, rfl, fun i hi => ?_⟩⟩
  refine cellAt (heapNew w _) _ ?_
  simp [hi]
/-- A new block of one byte. -/
theorem newB (W : World) (x : Int) (b : UInt8) (hx : x = b.toNat) : Rd (W.alloc (.cells #[.int .u8 x] 5)) (.slice (some ⟨W.heap.size, 0, none⟩) 1 1) [b] := by
  subst hx; exact Rd.newRow W [b] 1 rfl (by simp [maxLen])
theorem Rd.keptS {w w' : World} {B : Nat} {S : Nat → Prop} {v : Value} {l : List UInt8} (h : Rd w v l) (hb : Kept B S w w') (hB : ∀ k, v.ownBlock = some k → l ≠ [] → k < B ∧ ¬ S k) : Rd w' v l := by
  obtain ⟨a, c, rfl, h1, h2, h0, h3⟩ := h
  refine ⟨a, c, rfl, h1, h2, h0, fun hl => ?_⟩
  obtain ⟨b, off, rfl, hc⟩ := h3 hl
  obtain ⟨q1, q2⟩ := hB b rfl hl
  exact ⟨b, off, rfl, fun i hi => by rw [hb.cell (p := ⟨b, off + i, none⟩) q1 q2]; exact hc i hi⟩
end Go.Proofs.YtcbmmkhbfookjaaDoor
