/-
  Texts put together: Byt, ShaT, ShaS2, By2, ShaM.
-/
import Derived.Test.YtpkfbmafbkgcmaaDoorRows
import Derived.Test.YtpkfbmafbkgcmaaDoorMg1
import Derived.WalkKit
import Derived.Laws.AppendOwnNone
import Derived.WalkSpells
import Derived.WalkLawsBesides
import Derived.BigQuiet
import Derived.Deep.QuietTactic
import Derived.LoopTactic
import Derived.Lib.Hide
import Derived.Lib.BufferRead
import Derived.Laws.CopyOwn
set_option linter.unusedVariables false
set_option linter.unusedSimpArgs false
namespace Go.Proofs.YtpkfbmafbkgcmaaDoor
open Go.RowKit Go.Con


/-- The slice value v shows the bytes l. -/
def Rd (w : World) (v : Value) (l : List UInt8) : Prop :=
  ∃ a c, v = .slice a l.length c ∧ l.length ≤ c ∧ c ≤ maxLen ∧ (a = none → c = 0) ∧ (l ≠ [] → ∃ b off, a = some ⟨b, off, none⟩ ∧ ∀ i, i < l.length → w.cell? ⟨b, off + i, none⟩ = some (u8v (l.getD i 0)))

/-- The slice value v is a row of the call's own, which holds the bytes l. -/
def Own (w : World) (base : Nat) (v : Value) (l : List UInt8) : Prop := w.ownsRow base 5 1 v l.length (l.map u8v)

theorem Tryd.info8 : (Tryd.prog.info? 5).map (fun i => (i.zero, i.size, i.bytes)) = some (some (.int .u8 0), 1, 1) := by kernel_rfl

theorem one8 (l : List UInt8) : ∀ u ∈ l.map u8v, u.oneCell' = true := by
  intro u hu
  obtain ⟨b, _, rfl⟩ := List.mem_map.1 hu
  rfl

theorem map_getD (l : List UInt8) (j : Nat) (u : Value) (h : (l.map u8v)[j]? = some u) : j < l.length ∧ u = u8v (l.getD j 0) := by
  rw [List.getElem?_map] at h
  obtain ⟨b, hb, rfl⟩ := Option.map_eq_some_iff.1 h
  obtain ⟨hj, rfl⟩ := List.getElem?_eq_some_iff.1 hb
  exact ⟨hj, by simp [hj]⟩

theorem Rd.cells {w : World} {a : Option Addr} {n c : Nat} {l : List UInt8} (h : Rd w (.slice a n c) l) (ad : Addr) (ha : a = some ad) : ∀ j u, (l.map u8v)[j]? = some u → w.cell? (ad.add j) = some u := by
  obtain ⟨a', c', he, _, _, _, hc⟩ := h
  injection he with h1 h2 h3
  subst h1
  intro j u hju
  obtain ⟨hj, rfl⟩ := map_getD l j u hju
  obtain ⟨b, off, hb, hcell⟩ := hc (by intro h0; subst h0; simp at hj)
  rw [ha] at hb
  injection hb with hb
  subst hb
  have := hcell j hj
  unfold Addr.add
  split
  · rename_i h0; subst h0; simpa using this
  · exact this

theorem Rd.none_nil {w : World} {n c : Nat} {l : List UInt8} (h : Rd w (.slice none n c) l) : l = [] ∧ n = 0 ∧ c = 0 := by
  obtain ⟨a', c', he, _, _, h0, hc⟩ := h
  injection he with h1 h2 h3
  subst h1 h2 h3
  have hl : l = [] := by
    by_cases hl : l = []
    · exact hl
    · obtain ⟨_, _, h1, _⟩ := hc hl
      cases h1
  subst hl
  exact ⟨rfl, rfl, h0 rfl⟩

theorem Rd.nil (w : World) : Rd w (.slice none 0 0) [] := ⟨none, 0, rfl, Nat.le_refl _, Nat.zero_le _, fun _ => rfl, fun h => absurd rfl h⟩

/-- What is owned is shown. -/
theorem Own.rd {w : World} {base : Nat} {v : Value} {l : List UInt8} (h : Own w base v l) : Rd w v l := by
  obtain ⟨hl, h2⟩ := h
  rcases h2 with ⟨rfl, hn⟩ | ⟨g, cap, cur, rfl, hb, hg, hnc, hcm, hcs, htake⟩
  · have : l = [] := List.eq_nil_of_length_eq_zero hn
    subst this
    exact Rd.nil w
  · refine ⟨some ⟨g, 0, none⟩, cap, rfl, hnc, hcm, (fun h => by cases h), fun _ => ⟨g, 0, rfl, fun i hi => ?_⟩⟩
    have : (cur.toList.take (l.length * 1))[i]? = some (u8v (l.getD i 0)) := by rw [htake]; simp [hi]
    rw [List.getElem?_take] at this
    split at this
    · rw [Nat.zero_add]
      refine cellAt hg i (by simpa using this)
    · cases this

/-- Its shape. -/
theorem Own.shape {w : World} {base : Nat} {v : Value} {l : List UInt8} (h : Own w base v l) (hl : l ≠ []) : ∃ g cap, v = .slice (some ⟨g, 0, none⟩) l.length cap ∧ base ≤ g ∧ g < w.heap.size ∧ l.length ≤ cap ∧ cap ≤ maxLen := by
  obtain ⟨_, h2⟩ := h
  rcases h2 with ⟨rfl, hn⟩ | ⟨g, cap, cur, rfl, hb, hg, hnc, hcm, hcs, htake⟩
  · exact absurd (List.eq_nil_of_length_eq_zero hn) hl
  · exact ⟨g, cap, rfl, hb, lt_of_heap hg, hnc, hcm⟩

theorem Own.nil (w : World) (base : Nat) : Own w base (.slice none 0 0) [] := World.ownsRow_nil w base _ _
theorem Own.mono {w : World} {base base' : Nat} {v : Value} {l : List UInt8} (h : Own w base v l) (hb : base' ≤ base) : Own w base' v l := by
  obtain ⟨h1, h2⟩ := h
  refine ⟨h1, ?_⟩
  rcases h2 with h2 | ⟨g, cap, cur, hv, hg, r⟩
  · exact .inl h2
  · exact .inr ⟨g, cap, cur, hv, by omega, r⟩
theorem Own.alloc {w : World} {base : Nat} {v : Value} {l : List UInt8} (h : Own w base v l) (o : Obj) : Own (w.alloc o) base v l := World.ownsRow.alloc h o
theorem Own.kept {w w' : World} {base : Nat} {v : Value} {l : List UInt8} {row : Option Nat} (h : Own w base v l) (hg : w.grownBy w' row) (hne : ∀ k, row = some k → v.ownBlock ≠ some k) : Own w' base v l := by
  refine World.ownsRow.kept h hg ?_
  cases hv : v.ownBlock with
  | none => exact .inl rfl
  | some k =>
    refine .inr fun e => ?_
    exact hne k e.symm hv
/-- Owned below B, it stays while the world is turned from B on alone. -/
theorem Own.below {w w' : World} {base B : Nat} {v : Value} {l : List UInt8} (h : Own w base v l) (hb : Below B w w') (hB : ∀ k, v.ownBlock = some k → k < B) : Own w' base v l := by
  obtain ⟨h1, h2⟩ := h
  refine ⟨h1, ?_⟩
  rcases h2 with h2 | ⟨g, cap, cur, rfl, hg, hh, r⟩
  · exact .inl h2
  · exact .inr ⟨g, cap, cur, rfl, hg, by rw [hb.block g (hB g rfl)]; exact hh, r⟩
theorem Own.lt {w : World} {base : Nat} {v : Value} {l : List UInt8} (h : Own w base v l) : ∀ k, v.ownBlock = some k → base ≤ k ∧ k < w.heap.size := World.ownsRow.lt h

/-- What is shown out of blocks that are there stays while nothing below is turned. -/
theorem Rd.below {w w' : World} {B : Nat} {v : Value} {l : List UInt8} (h : Rd w v l) (hb : Below B w w') (hB : ∀ k, v.ownBlock = some k → l ≠ [] → k < B) : Rd w' v l := by
  obtain ⟨a, c, rfl, h1, h2, h0, h3⟩ := h
  refine ⟨a, c, rfl, h1, h2, h0, fun hl => ?_⟩
  obtain ⟨b, off, rfl, hc⟩ := h3 hl
  exact ⟨b, off, rfl, fun i hi => by rw [hb.cell (p := ⟨b, off + i, none⟩) (hB b rfl hl)]; exact hc i hi⟩
theorem Rd.lt {w : World} {v : Value} {l : List UInt8} (h : Rd w v l) : ∀ k, v.ownBlock = some k → l ≠ [] → k < w.heap.size := by
  obtain ⟨a, c, rfl, h1, h2, h0, h3⟩ := h
  intro k hk hl
  obtain ⟨b, off, rfl, hc⟩ := h3 hl
  simp [Value.ownBlock] at hk
  subst hk
  have : 0 < l.length := List.length_pos_iff.2 hl
  exact World.block_lt_of_cell? w _ (hc 0 this)
theorem Rd.kept {w w' : World} {v : Value} {l : List UInt8} {row : Option Nat} (h : Rd w v l) (hg : w.grownBy w' row) (hne : ∀ k, row = some k → v.ownBlock ≠ some k) : Rd w' v l := by
  obtain ⟨a, c, rfl, h1, h2, h0, h3⟩ := h
  refine ⟨a, c, rfl, h1, h2, h0, fun hl => ?_⟩
  obtain ⟨b, off, rfl, hc⟩ := h3 hl
  exact ⟨b, off, rfl, fun i hi => hg.cell (hc i hi) (fun e => hne b e.symm rfl)⟩
theorem Rd.stay {w w' : World} {v : Value} {l : List UInt8} (h : Rd w v l) (hb : Below w.heap.size w w') : Rd w' v l := h.below hb h.lt
theorem Rd.alloc {w : World} {v : Value} {l : List UInt8} (h : Rd w v l) (o : Obj) : Rd (w.alloc o) v l := h.stay ((Below.refl _ _).alloc (Nat.le_refl _) o)
theorem Rd.drewN {w : World} {v : Value} {l : List UInt8} (h : Rd w v l) (n : Nat) : Rd (w.drewN n) v l := h
theorem Own.drewN {w : World} {base : Nat} {v : Value} {l : List UInt8} (h : Own w base v l) (n : Nat) : Own (w.drewN n) base v l := h
theorem Rd.slice {w : World} {v : Value} {l : List UInt8} (h : Rd w v l) : ∃ a c, v = .slice a l.length c ∧ l.length ≤ c ∧ c ≤ maxLen := by
  obtain ⟨a, c, rfl, h1, h2, _⟩ := h
  exact ⟨a, c, rfl, h1, h2⟩
/-- A cut of what is shown. -/
theorem Rd.cut {w : World} {a : Option Addr} {n c : Nat} {l : List UInt8} (h : Rd w (.slice a n c) l) (lo hi : Nat) (h1 : lo ≤ hi) (h2 : hi ≤ n) : Rd w (.slice (if c = lo then a else a.map (·.add (lo * 1))) (hi - lo) (c - lo)) ((l.take hi).drop lo) := by
  obtain ⟨a', c', he, hlc, hcm, h0, hcell⟩ := h
  injection he with e1 e2 e3
  subst e1 e2 e3
  have hlen : ((l.take hi).drop lo).length = hi - lo := by simp; omega
  refine ⟨_, c - lo, by rw [hlen], by omega, by omega, ?_, ?_⟩
  · intro hn
    split at hn
    · have := h0 hn; omega
    · rw [Option.map_eq_none_iff] at hn; have := h0 hn; omega
  · intro hne
    have hpos : 0 < hi - lo := by rw [← hlen]; exact List.length_pos_iff.2 hne
    obtain ⟨b, off, rfl, hc⟩ := hcell (by intro h; subst h; simp at h2; omega)
    refine ⟨b, off + lo, ?_, ?_⟩
    · rw [if_neg (by omega)]
      simp only [Option.map_some, Addr.add, Nat.mul_one]
      split
      · rename_i h; subst h; rfl
      · rfl
    · intro i hi'
      rw [hlen] at hi'
      have := hc (lo + i) (by omega)
      rw [show off + lo + i = off + (lo + i) by omega, this]
      simp [List.getElem?_drop, List.getElem?_take, show lo + i < hi by omega]

/-- Where what was appended to lies: where it lay, or in a new block. -/
theorem append_where (w : World) (base : Nat) (ty : TypeId) (i : TypeInfo) (hi : Tryd.prog.info? 5 = some i) (hz : i.zero = some (.int .u8 0)) (hsize : i.size = 1) (hby : i.bytes = 1)
    (v : Value) (l : List UInt8) (hown : Own w base v l) (ad : Addr) (m c : Nat) (news : List Value) (hl : news.length = m * 1) (hnews : ∀ j u, news[j]? = some u → w.cell? (ad.add j) = some u) (h1 : ∀ u ∈ news, u.oneCell' = true)
    (hbytes : l.length + m ≤ 140737488355328) :
    ∃ v' w', (Builtin.append_ #[31, 31] ty #[v, .slice (some ad) m c]).run Tryd.prog w = .ok v' w' ∧ (v'.ownBlock = v.ownBlock ∨ v'.ownBlock = some w.heap.size) := by
  have ht : Tryd.prog.underlying 31 = some (.slice 5) := Tryd.underlying31
  obtain ⟨hxl, h2⟩ := hown
  rcases h2 with ⟨rfl, hn⟩ | ⟨g, cap, cur, rfl, hbg, hg, hnc, hcm, hcs, htake⟩
  · by_cases hm : m = 0
    · subst hm
      refine ⟨.slice none 0 0, w, ?_, .inl rfl⟩
      simp [Builtin.append_, run_underlying ht, sizeOf, typeInfo, hi, Builtin.lenOf, Builtin.firstCells, loadCells, loadCellsFrom]
    · have hr := run_append_nil (P := Tryd.prog) w 31 ty 5 i (.int .u8 0) ht hi hz ad m c news (by rw [hsize]; exact hl) hnews (by omega) (by omega) (by rw [hby]; omega)
      exact ⟨_, _, hr, .inr rfl⟩
  · by_cases hroom : l.length + m ≤ cap
    · have hr := run_append_room (P := Tryd.prog) w 31 ty 5 i ht hi g l.length cap cur hg ad m c news (by rw [hsize]; exact hl) hnews h1 hroom (by rw [hsize, hl, hcs]; omega)
      exact ⟨_, _, hr, .inl rfl⟩
    · have holds : ∀ j u, (l.map u8v)[j]? = some u → w.cell? ((⟨g, 0, none⟩ : Addr).add j) = some u := World.ownsRow.cells (base := base) (e := 5) (size := 1) (n := l.length) ⟨hxl, .inr ⟨g, cap, cur, rfl, hbg, hg, hnc, hcm, hcs, htake⟩⟩ (g := g) rfl
      have hr := run_append_grow (P := Tryd.prog) w 31 ty 5 i (.int .u8 0) ht hi hz ⟨g, 0, none⟩ l.length cap (l.map u8v) (by rw [hsize]; exact hxl) holds ad m c news (by rw [hsize]; exact hl) hnews (by omega) (by omega) (growslice_fits (by omega) (by rw [hby]; omega))
      exact ⟨_, _, hr, .inr rfl⟩

section
variable {ops : Array Oper} {rest : List Oper} {o : Oper} {a : Act} {Q : Exit → Act → World → Prop} {w : World}
/-- append(own, shown...), and where it lies then. -/
theorem apBw (hgd : o.guard = none) (s x : Operand) (ho : o.op = .call { callee := .builtin .append, args := #[s, x], argTypes := #[31, 31] })
    (base : Nat) (v src : Value) (l m : List UInt8) (hs : a.eval s = v) (hown : Own w base v l) (hx : a.eval x = src) (hsrc : Rd w src m) (hlen : l.length + m.length ≤ 140737488355328) (hbase : base ≤ w.heap.size)
    (h : ∀ v' w', Own w' base v' (l ++ m) → w.grownBy w' v.ownBlock → (v'.ownBlock = v.ownBlock ∨ v'.ownBlock = some w.heap.size) → wpList Tryd.prog ops Q rest (a.put o.dst v') w') : wpList Tryd.prog ops Q (o :: rest) a w := by
  obtain ⟨i0, hi, hz0, hz1, hz2⟩ := info_parts Tryd.info8
  obtain ⟨ao, c, hv, _⟩ := hsrc.slice
  subst hv
  cases ao with
  | none =>
    obtain ⟨hm, hm0, hc0⟩ := hsrc.none_nil
    subst hm
    rw [hc0] at hx
    refine wpList_append_own_none hgd s x 31 ho base 5 i0 1 Tryd.underlying31 hi v l.length _ hs hown hx ?_
    refine h v w (by simpa using hown) ⟨rfl, rfl, rfl, Nat.le_refl _, fun _ _ _ => rfl⟩ (.inl rfl)
  | some ad =>
    refine wpList_plain hgd fun K hK => ?_
    obtain ⟨v', w', hr, h2, h3, h4⟩ := run_append_own (P := Tryd.prog) w base 31 o.type 5 i0 (.int .u8 0) 1 1 Tryd.underlying31 hi hz0 hz1 hz2 rfl (by decide) v l.length _ hown ad m.length c (m.map u8v) (by simp) (hsrc.cells ad rfl) (one8 m) (by unfold maxLen; omega) (by omega) hbase
    obtain ⟨v2, w2, hr2, hw⟩ := append_where w base o.type i0 hi hz0 hz1 hz2 v l hown ad m.length c (m.map u8v) (by simp) (hsrc.cells ad rfl) (one8 m) (by omega)
    have e := hr.symm.trans hr2
    injection e with e1 e2
    subst e1 e2
    unfold Oper.wp execOp
    simp only [ho, resolve, invoke, builtin, Sem.run_bind, Sem.run_pure, Result.andThen_ok, List.map_toArray, List.map_cons, List.map_nil, hs, hx, hr]
    refine hK _ _ (h v' w' ?_ h3 hw)
    unfold Own
    rw [List.length_append, List.map_append]
    exact h2
/-- append(own, shown...). -/
theorem apB (hgd : o.guard = none) (s x : Operand) (ho : o.op = .call { callee := .builtin .append, args := #[s, x], argTypes := #[31, 31] })
    (base : Nat) (v src : Value) (l m : List UInt8) (hs : a.eval s = v) (hown : Own w base v l) (hx : a.eval x = src) (hsrc : Rd w src m) (hlen : l.length + m.length ≤ 140737488355328) (hbase : base ≤ w.heap.size)
    (h : ∀ v' w', Own w' base v' (l ++ m) → w.grownBy w' v.ownBlock → wpList Tryd.prog ops Q rest (a.put o.dst v') w') : wpList Tryd.prog ops Q (o :: rest) a w := by
  obtain ⟨i0, hi, hz0, hz1, hz2⟩ := info_parts Tryd.info8
  obtain ⟨ao, c, hv, _⟩ := hsrc.slice
  subst hv
  cases ao with
  | none =>
    obtain ⟨hm, hm0, hc0⟩ := hsrc.none_nil
    subst hm
    rw [hc0] at hx
    refine wpList_append_own_none hgd s x 31 ho base 5 i0 1 Tryd.underlying31 hi v l.length _ hs hown hx ?_
    refine h v w (by simpa using hown) ⟨rfl, rfl, rfl, Nat.le_refl _, fun _ _ _ => rfl⟩
  | some ad =>
    refine wpList_append_own _ hgd s x 31 ho base 5 i0 (.int .u8 0) 1 1 Tryd.underlying31 hi hz0 hz1 hz2 rfl (by decide) v l.length _ hs hown ad m.length c (m.map u8v) hx (by simp) (hsrc.cells ad rfl) (one8 m) (by unfold maxLen; omega) (by omega) hbase ?_
    intro v' w' hown' hg _
    refine h v' w' ?_ hg
    unfold Own
    rw [List.length_append, List.map_append]
    exact hown'
end
/-- A new block of bytes, written out. -/
theorem Rd.newRow (w : World) (l : List UInt8) (n : Nat) (hn : n = l.length) (hl : l.length ≤ maxLen) : Rd (w.alloc (.cells (l.map u8v).toArray 5)) (.slice (some ⟨w.heap.size, 0, none⟩) n n) l := by
  subst hn
  refine ⟨_, _, rfl, Nat.le_refl _, hl, (fun h => by cases h), fun _ => ⟨_, _, rfl, fun i hi => ?_⟩⟩
  refine cellAt (heapNew w _) _ ?_
  simp [hi]
/-- Its first bytes. -/
theorem Rd.pre {w : World} {a : Option Addr} {n c : Nat} {l : List UInt8} (h : Rd w (.slice a n c) l) (m : Nat) (hm : m ≤ l.length) : Rd w (.slice a m c) (l.take m) := by
  obtain ⟨a', c', he, hlc, hcm, h0, hcell⟩ := h
  injection he with e1 e2 e3
  subst e1 e2 e3
  have hlen : (l.take m).length = m := by simp; omega
  refine ⟨a, c, by rw [hlen], by omega, hcm, h0, fun hne => ?_⟩
  have hpos : 0 < m := by rw [← hlen]; exact List.length_pos_iff.2 hne
  obtain ⟨b, off, rfl, hc⟩ := hcell (by intro h; subst h; simp at hm; omega)
  refine ⟨b, off, rfl, fun i hi => ?_⟩
  rw [hlen] at hi
  rw [hc i (by omega)]
  simp [List.getElem?_take, hi]
/-- A new block of four bytes. -/
theorem newB4 (W : World) (x0 x1 x2 x3 : Int) (b0 b1 b2 b3 : UInt8) (h0 : x0 = b0.toNat) (h1 : x1 = b1.toNat) (h2 : x2 = b2.toNat) (h3 : x3 = b3.toNat) :
    Rd (W.alloc (.cells #[.int .u8 x0, .int .u8 x1, .int .u8 x2, .int .u8 x3] 5)) (.slice (some ⟨W.heap.size, 0, none⟩) 4 4) [b0, b1, b2, b3] := by
  subst h0 h1 h2 h3; exact Rd.newRow W [b0, b1, b2, b3] 4 rfl (by simp [maxLen])
/-- A row made without length. -/
theorem Own.made (w : World) (base : Nat) (cur : Array Value) (cap : Nat) (hb : base ≤ w.heap.size) (hm : cap ≤ maxLen) (hs : cur.size = cap) :
    Own (w.alloc (.cells cur 5)) base (.slice (some ⟨w.heap.size, 0, none⟩) 0 cap) [] :=
  World.ownsRow_made w cur cap hb hm (by omega)
/-- A new block of bytes that bears a mark. -/
theorem Rd.newMark (w : World) (l : List UInt8) (n : Nat) (f : Nat × Nat) (hn : n = l.length) (hl : l.length ≤ maxLen) : Rd (w.alloc (.cells (l.map u8v).toArray 5 f)) (.slice (some ⟨w.heap.size, 0, none⟩) n n) l := by
  subst hn
  refine ⟨_, _, rfl, Nat.le_refl _, hl, (fun h => by cases h), fun _ => ⟨_, _, rfl, fun i hi => ?_⟩⟩
  refine cellAt (heapNew w _) _ ?_
  simp [hi]
/-- A new block of one byte. -/
theorem newB (W : World) (x : Int) (b : UInt8) (hx : x = b.toNat) : Rd (W.alloc (.cells #[.int .u8 x] 5)) (.slice (some ⟨W.heap.size, 0, none⟩) 1 1) [b] := by
  subst hx; exact Rd.newRow W [b] 1 rfl (by simp [maxLen])
theorem Rd.keptS {w w' : World} {B : Nat} {S : Nat → Prop} {v : Value} {l : List UInt8} (h : Rd w v l) (hb : Kept B S w w') (hB : ∀ k, v.ownBlock = some k → l ≠ [] → k < B ∧ ¬ S k) : Rd w' v l := by
  obtain ⟨a, c, rfl, h1, h2, h0, h3⟩ := h
  refine ⟨a, c, rfl, h1, h2, h0, fun hl => ?_⟩
  obtain ⟨b, off, rfl, hc⟩ := h3 hl
  obtain ⟨q1, q2⟩ := hB b rfl hl
  exact ⟨b, off, rfl, fun i hi => by rw [hb.cell (p := ⟨b, off + i, none⟩) q1 q2]; exact hc i hi⟩
end Go.Proofs.YtpkfbmafbkgcmaaDoor

set_option linter.unusedVariables false
set_option linter.unusedSimpArgs false
namespace Go.Proofs.YtpkfbmafbkgcmaaDoor
open Go.RowKit Go.Con

/-- The words of the table lie where the program has them. -/
def Kn (w : World) : Prop := ∀ i, i < 64 → w.cell? ⟨1, i, none⟩ = some (.int .u32 (Sha.kn.getD i 0).toNat)
theorem Kn.lt {w : World} (h : Kn w) : 1 < w.heap.size := World.block_lt_of_cell? w _ (h 0 (by decide))
theorem Kn.below {w w' : World} (h : Kn w) {B : Nat} (hb : Below B w w') (hB : 1 < B) : Kn w' := fun i hi => (hb.cell (p := ⟨1, i, none⟩) hB).trans (h i hi)
theorem Kn.stay {w w' : World} (h : Kn w) (hb : Below w.heap.size w w') : Kn w' := h.below hb h.lt

set_option maxRecDepth 100000 in
set_option maxHeartbeats 1000000 in
theorem sum_any (v : Value) (l : List UInt8) (w : World) (hv : Rd w v l) (hl : l.length ≤ 1099511627776) (hk : Kn w) :
    Calls Tryd.prog 34 #[v] w fun e w' => ∃ v', e = .returned v' ∧ Own w' w.heap.size v' (Sha.sum l) ∧ Below w.heap.size w w' := by
  obtain ⟨a, c, rfl, hlc, hcm⟩ := hv.slice
  have HV := Lib.hid hv
  have HK := Lib.hid hk
  clear hv hk
  go_enter Tryd.func34, Tryd.ntmps34
  have hl0 : ([] : List UInt8).length + l.length ≤ 140737488355328 := by rw [List.length_nil]; omega
  have hl1 : ([] ++ l : List UInt8).length + [(128 : UInt8)].length ≤ 140737488355328 := by rw [List.nil_append]; simp; omega
  have n1 : ∀ W : World, Rd (W.alloc (.cells #[.int .u8 128] 5)) (.slice (some ⟨W.heap.size, 0, none⟩) 1 1) [128] := fun W => newB W 128 128 rfl
  have N1 := Lib.hid n1
  clear n1
  go_wp2_with (first
    | (at_builtin; refine apB rfl (.const (.slice none 0 0)) (.tmp 10) rfl (w.heap.size + 1) (.slice none 0 0) _ [] l rfl (Own.nil _ _) rfl (HV.out.alloc _) hl0 (by exact Nat.le_of_eq (by simp)) ?_; intro v1 w1 hown1 hg1; have HO1 := Lib.hid hown1; have HG1 := Lib.hid hg1; clear hown1 hg1)
    | (at_builtin; refine apB rfl (.tmp 11) (.tmp 12) rfl (w.heap.size + 1) v1 _ ([] ++ l) [128] rfl (HO1.out.alloc _) rfl (N1.out _) hl1 (by have := HG1.out.size; simp at this ⊢; omega) ?_; intro v2 w2 hown2 hg2; have HO2 := Lib.hid hown2; have HG2 := Lib.hid hg2; clear hown2 hg2))
  have hz : Sha.zeros l.length < 64 := Nat.mod_lt _ (by decide)
  have hzm : (l.length + 1 + Sha.zeros l.length) % 64 = 56 := by unfold Sha.zeros; omega
  have hd2 : w2.heap[w.heap.size]? = some (.cells #[.int .u32 1779033703, .int .u32 3144134277, .int .u32 1013904242, .int .u32 2773480762, .int .u32 1359893119, .int .u32 2600822924, .int .u32 528734635, .int .u32 1541459225] 82 (0, 0)) := by
    have h1 := HG1.out
    have h2 := HG2.out
    rw [h2.block _ (by have := h1.size; simp at this ⊢; omega) (fun e => by have := (HO1.out.lt _ e.symm).1; omega), heapOld _ _ _ (by have := h1.size; simp at this; omega), h1.block _ (by simp) (fun e => by simp [Value.ownBlock] at e), heapNew]
  have hb2 : Below w.heap.size w w2 := by
    have h1 := HG1.out
    have h2 := HG2.out
    refine ((((Below.refl _ _).alloc (Nat.le_refl _) _).grown h1 (by simp) (fun k hk => by simp [Value.ownBlock] at hk)).alloc (by have := h1.size; simp at this; omega) _).grown h2 (by have := h1.size; simp at this ⊢; omega) (fun k hk => by have := (HO1.out.lt k hk).1; omega)
  have hs2 : w.heap.size + 1 ≤ w2.heap.size := by have := HG1.out.size; have := HG2.out.size; simp at *; omega
  obtain ⟨g2, cap2, rfl, hg2, hg2', hc2, hcm2⟩ := HO2.out.shape (by simp)
  have hO2 : Own w2 (w.heap.size + 1) (.slice (some ⟨g2, 0, none⟩) (l.length + 1) cap2) (l ++ [128]) := by
    have := HO2.out; simpa using this
  have Hd2 := Lib.hid hd2
  have Hb2 := Lib.hid hb2
  have HO2' := Lib.hid hO2
  have Hzm := Lib.hid hzm
  have hlen2 : ([] ++ l ++ [128] : List UInt8).length = l.length + 1 := by simp
  rw [hlen2]
  clear hd2 hb2 hO2 hzm hlen2 HO1 HG1 HO2 HG2 hl0 hl1
  have n0 : ∀ W : World, Rd (W.alloc (.cells #[.int .u8 0] 5)) (.slice (some ⟨W.heap.size, 0, none⟩) 1 1) [0] := fun W => newB W 0 0 rfl
  have N0 := Lib.hid n0
  clear n0
  go_loopw [4] (fun v wr => ∃ z g cap n : Nat, z ≤ Sha.zeros l.length ∧ v = .slice (some ⟨g, 0, none⟩) n cap ∧ Hid (n = l.length + 1 + z) ∧ Own wr (w.heap.size + 1) v (l ++ [128] ++ List.replicate z 0) ∧ Below (w.heap.size + 1) w2 wr)
    (fun v _ => l.length + 65 - lenV v)
  case atStart => exact ⟨0, g2, cap2, l.length + 1, Nat.zero_le _, rfl, rfl, by have := HO2'.out; simpa using this, Below.refl _ _⟩
  case round =>
    obtain ⟨z, g, cap, n, hzz, rfl, Hn, hO, hB⟩ := hrel
    have HO := Lib.hid hO
    have HB := Lib.hid hB
    clear hO hB
    by_cases hlt : z < Sha.zeros l.length
    · have h56 : (((n : Int) % 64) != 56) = true := by
        rw [bne_iff_ne]; have := Hn.out; have := Hzm.out; omega
      go_wp2_with (at_builtin; refine apB rfl (.tmp 18) (.tmp 19) rfl (w.heap.size + 1) _ _ _ [0] rfl (HO.out.alloc _) rfl (N0.out _) (by have := Hn.out; simp; omega) (by have := HB.out.size; simp; omega) ?_; intro v3 w3 hown3 hg3; have HO3 := Lib.hid hown3; have HG3 := Lib.hid hg3; clear hown3 hg3)
      obtain ⟨g3, cap3, rfl, hg3, hg3', hc3, hcm3⟩ := HO3.out.shape (by simp)
      go_roundw
      case rel =>
        refine ⟨z + 1, g3, cap3, _, by omega, rfl, ?_, ?_, ?_⟩
        · show _ = _; simp <;> omega
        · have := HO3.out
          rw [List.replicate_succ']
          simpa using this
        · exact (HB.out.alloc (by have := HB.out.size; omega) _).grown HG3.out (by have := HB.out.size; simp; omega) (fun k hk => (HO.out.lt k hk).1)
      case measure => have := Hn.out; simp [lenV]; omega
    · have hzz' : z = Sha.zeros l.length := by omega
      have Hzz := Lib.hid hzz'
      have h56 : (((n : Int) % 64) != 56) = false := by
        rw [bne_eq_false_iff_eq]; have := Hn.out; have := Hzm.out; omega
      clear hzz'
      obtain ⟨w3, hw3⟩ : ∃ w3 : World, w3 = wr := ⟨_, rfl⟩
      rw [← hw3]
      rw [← hw3] at HO HB
      clear hw3
      have hn64 : n ≤ 1099511627900 := by have := Hn.out; omega
      go_wp2
      have hP0 : l ++ [128] ++ List.replicate z 0 = l ++ [128] ++ List.replicate (Sha.zeros l.length) 0 := by rw [Hzz.out]
      have hOa : Own w3 (w.heap.size + 1) (.slice (some ⟨g, 0, none⟩) n cap) (l ++ [128] ++ List.replicate (Sha.zeros l.length) 0 ++ Sha.len8 (8 * l.length) 0) := by
        have := HO.out; rw [hP0] at this; simpa [Sha.len8] using this
      have HOa := Lib.hid hOa
      have hw3s : w.heap.size + 1 ≤ w3.heap.size := by have := HB.out.size; omega
      clear hOa hP0
      go_loopw [5, 4] (fun i v wr => ∃ k g cap n : Nat, ∃ q : Int, k ≤ 8 ∧ i = .int .i64 q ∧ Hid (q = 56 - 8 * k) ∧ v = .slice (some ⟨g, 0, none⟩) n cap ∧ n ≤ 1099511627900 + k ∧ Own wr (w.heap.size + 1) v (l ++ [128] ++ List.replicate (Sha.zeros l.length) 0 ++ Sha.len8 (8 * l.length) k) ∧ Below (w.heap.size + 1) w3 wr)
        (fun i v _ => (intOf i + 8).toNat)
      case atStart => exact ⟨0, g, cap, n, 56, by omega, rfl, rfl, rfl, by omega, HOa.out, Below.refl _ _⟩
      case round =>
        obtain ⟨k, g, cap, n, q, hk, rfl, Hq, rfl, hn, hO, hB⟩ := hrel
        have HO4 := Lib.hid hO
        have HB4 := Lib.hid hB
        clear hO hB
        by_cases hq : 0 ≤ q
        · have hq2 : q ≤ 56 := by have := Hq.out; omega
          have hx : (8 * (l.length : Int) / 2 ^ q.toNat % 256 : Int) = ((UInt8.ofNat (8 * l.length / 2 ^ (56 - 8 * k))).toNat : Int) := by
            rw [UInt8.toNat_ofNat', show q.toNat = 56 - 8 * k by have := Hq.out; omega]
            simp
          have HX := Lib.hid hx
          clear hx
          go_wp2_with (at_builtin; refine apB rfl (.tmp 25) (.tmp 32) rfl (w.heap.size + 1) _ _ _ [UInt8.ofNat (8 * l.length / 2 ^ (56 - 8 * k))] rfl (HO4.out.alloc _) rfl (newB _ _ _ HX.out) (by simp [Sha.len8_length]; omega) (by have := HB4.out.size; simp; omega) ?_; intro v5 w5 hown5 hg5; have HO5 := Lib.hid hown5; have HG5 := Lib.hid hg5; clear hown5 hg5)
          obtain ⟨g5, cap5, rfl, hg5, hg5', hc5, hcm5⟩ := HO5.out.shape (by simp)
          have hn5 : (l ++ [128] ++ List.replicate (Sha.zeros l.length) 0 ++ Sha.len8 (8 * l.length) k ++ [UInt8.ofNat (8 * l.length / 2 ^ (56 - 8 * k))]).length = l.length + Sha.zeros l.length + k + 2 := by simp [Sha.len8_length]; omega
          rw [hn5]
          go_roundw
          case rel =>
            refine ⟨k + 1, g5, cap5, _, q - 8, by have := Hq.out; omega, rfl, ?_, rfl, by omega, ?_, ?_⟩
            · show _ = _; have := Hq.out; omega
            · have := HO5.out
              rw [hn5] at this
              rw [Sha.len8_succ]
              simpa using this
            · exact (HB4.out.alloc (by have := HB4.out.size; omega) _).grown HG5.out (by have := HB4.out.size; simp; omega) (fun k hk => (HO4.out.lt k hk).1)
          case measure => simp [intOf]; omega
        · have hk8 : k = 8 := by have := Hq.out; omega
          have hOp : Own wr (w.heap.size + 1) (.slice (some ⟨g, 0, none⟩) n cap) (Sha.padded l) := by
            have := HO4.out; rw [hk8] at this; exact this
          obtain ⟨w4, hw4⟩ : ∃ w4 : World, w4 = wr := ⟨_, rfl⟩
          rw [← hw4]
          rw [← hw4] at HB4 hOp
          clear hw4 hk8 HO4
          have hB4 : Below (w.heap.size + 1) w2 w4 := HB.out.trans HB4.out
          have hnP : n = (Sha.padded l).length := by
            obtain ⟨_, _, he, _⟩ := hOp.rd
            injection he
          have hd4 : w4.heap[w.heap.size]? = some (.cells #[u32v Sha.d0.a, u32v Sha.d0.b, u32v Sha.d0.c, u32v Sha.d0.d, u32v Sha.d0.e, u32v Sha.d0.f, u32v Sha.d0.g, u32v Sha.d0.h] 82 (0, 0)) := (hB4.block _ (by omega)).trans Hd2.out
          have hb4 : Below w.heap.size w w4 := Hb2.out.trans (hB4.mono (by omega))
          have hgd : w.heap.size < g ∧ g < w4.heap.size := by
            have := hOp.lt g rfl; omega
          have Hrd := Lib.hid hOp.rd
          have Hd4 := Lib.hid hd4
          have Hb4 := Lib.hid hb4
          have HnP := Lib.hid hnP
          have hw4s : w.heap.size + 1 ≤ w4.heap.size := by have := hB4.size; omega
          clear hOp hnP hd4 hb4 hB4
          go_wp2
          have hPl := Sha.padded_length l
          have HPl := Lib.hid hPl
          have hnn : n ≤ 1099511627910 := by have := HPl.out.2.2; have := HnP.out; omega
          clear hPl
          go_loopw [4] (fun v wr => ∃ k off c n : Nat, v = .slice (some ⟨g, off, none⟩) n c ∧ n ≤ 1099511627910 ∧ Hid (n + 64 * k = (Sha.padded l).length) ∧ Rd wr v ((Sha.padded l).drop (64 * k)) ∧
              wr.heap[w.heap.size]? = some (.cells #[u32v (Sha.blocks (Sha.padded l) k).a, u32v (Sha.blocks (Sha.padded l) k).b, u32v (Sha.blocks (Sha.padded l) k).c, u32v (Sha.blocks (Sha.padded l) k).d, u32v (Sha.blocks (Sha.padded l) k).e, u32v (Sha.blocks (Sha.padded l) k).f, u32v (Sha.blocks (Sha.padded l) k).g, u32v (Sha.blocks (Sha.padded l) k).h] 82 (0, 0)) ∧ Below w.heap.size w wr ∧ w4.heap.size ≤ wr.heap.size)
            (fun v _ => lenV v)
          case atStart => exact ⟨0, 0, cap, n, rfl, hnn, by show _ = _; rw [HnP.out]; omega, Hrd.out, Hd4.out, Hb4.out, Nat.le_refl _⟩
          case round =>
            obtain ⟨k, off, c4, n4, rfl, hn4, Hnk, hrd, hdd, hbb, hss⟩ := hrel
            by_cases hpos : 0 < n4
            · have h64 : 64 ≤ n4 := by have := Hnk.out; have := HPl.out.1; omega
              have hc4 : n4 ≤ c4 := by obtain ⟨_, _, he, hle, _⟩ := hrd; injection he with e1 e2 e3; omega
              have hDl : ((Sha.padded l).drop (64 * k)).length = n4 := by obtain ⟨_, _, he, _⟩ := hrd; injection he with e1 e2 e3; exact e2.symm
              have hcell : ∀ i, i < 64 → wr.cell? ⟨g, off + i, none⟩ = some (.int .u8 ((((Sha.padded l).drop (64 * k)).take 64).getD i 0).toNat) := by
                intro i hi
                obtain ⟨_, _, he, _, _, _, hcc⟩ := hrd
                obtain ⟨b, o, hbo, hcc⟩ := hcc (by intro h; rw [h] at hDl; simp at hDl; omega)
                injection he with e1 e2 e3
                rw [← e1] at hbo
                injection hbo with hbo
                injection hbo with q1 q2
                subst q1 q2
                have := hcc i (by omega)
                rw [this]
                simp [u8v, List.getElem?_take, hi]
              have hkn : Kn wr := HK.out.stay hbb
              have Hcell := Lib.hid hcell
              have Hkn := Lib.hid hkn
              have Hrd6 := Lib.hid hrd
              have Hdd := Lib.hid hdd
              have Hbb := Lib.hid hbb
              have HDl := Lib.hid hDl
              clear hcell hkn hrd hdd hbb hDl
              have hgne : 1 ≠ w.heap.size := by have := HK.out.lt; omega
              by_cases hc64 : c4 = 64
              all_goals
                go_wp2_with (go_at_call 46; refine (block_any w.heap.size g off _ _ (((Sha.padded l).drop (64 * k)).take 64) _ Hdd.out Hkn.out hgne Hcell.out).mono ?_; rintro e w6 ⟨rfl, hk6, hd6⟩; have HK6 := Lib.hid hk6; have HD6 := Lib.hid hd6; clear hk6 hd6)
                go_roundw
                case rel =>
                  have hcut := (Hrd6.out.keptS HK6.out (fun k hk _ => by simp [Value.ownBlock] at hk; subst hk; exact ⟨by omega, by omega⟩)).cut 64 n4 h64 (Nat.le_refl _)
                  refine ⟨k + 1, _, _, _, rfl, by omega, ?_, ?_, ?_, ?_, ?_⟩
                  · show _ = _; have := Hnk.out; omega
                  · rw [List.take_of_length_le (by rw [HDl.out]; omega), List.drop_drop] at hcut
                    simpa [hc64, Addr.add, Nat.mul_add] using hcut
                  · exact HD6.out
                  · exact Hbb.out.trans ((HK6.out.mono (B' := w.heap.size) (S' := fun _ => False) (by omega) (fun k hk h => by omega)).below (fun _ _ h => h))
                  · have := HK6.out.size; omega
                case measure => simp [lenV]; omega
            · have hn0 : n4 = 0 := by omega
              have hk64 : (Sha.padded l).length / 64 = k := by have := Hnk.out; omega
              have hlen4 : decide ((n4 : Int) > 0) = false := by rw [hn0]; decide
              have Hn0 := Lib.hid hn0
              have Hk64 := Lib.hid hk64
              have Hrd := Lib.hid hrd
              have Hdd := Lib.hid hdd
              have Hbb := Lib.hid hbb
              unfold u32v at hdd
              have q0 := cellAt hdd 0 rfl
              have q1 := cellAt hdd 1 rfl
              have q2 := cellAt hdd 2 rfl
              have q3 := cellAt hdd 3 rfl
              have q4 := cellAt hdd 4 rfl
              have q5 := cellAt hdd 5 rfl
              have q6 := cellAt hdd 6 rfl
              have q7 := cellAt hdd 7 rfl
              clear hn0 hk64 hrd hdd hbb
              obtain ⟨w7, hw7⟩ : ∃ w7 : World, w7 = wr := ⟨_, rfl⟩
              rw [← hw7]
              rw [← hw7] at Hbb Hdd hss q0 q1 q2 q3 q4 q5 q6 q7
              clear hw7
              obtain ⟨D, hD⟩ : ∃ D, D = Sha.blocks (Sha.padded l) k := ⟨_, rfl⟩
              rw [← hD] at q0 q1 q2 q3 q4 q5 q6 q7
              have HD := Lib.hid hD
              clear hD
              have hlt7 : w.heap.size < w7.heap.size := by omega
              have hne7 : ¬ w.heap.size = w7.heap.size := by omega
              have hmk : ∀ W : World, (Instr.makeSlice 31 (.int .i64 0) (.int .i64 32)).run Tryd.prog W = .ok (.slice (some ⟨W.heap.size, 0, none⟩) 0 32) (W.alloc (.cells (Array.replicate 32 (.int .u8 0)) 5)) := fun _ => by kernel_rfl
              go_wp2
              have hO0 : Own (w7.alloc (.cells (Array.replicate 32 (.int .u8 0)) 5)) w.heap.size (.slice (some ⟨w7.heap.size, 0, none⟩) 0 32) [] := Own.made w7 _ _ _ (by omega) (by decide) (by simp)
              have hb0 : Below w.heap.size w (w7.alloc (.cells (Array.replicate 32 (.int .u8 0)) 5)) := Hbb.out.alloc (by omega) _
              generalize w7.alloc (.cells (Array.replicate 32 (.int .u8 0)) 5) = w8 at hO0 hb0 ⊢
              generalize w7.heap.size = g7 at hO0 ⊢
              have HO8 := Lib.hid hO0
              have Hb8 := Lib.hid hb0
              have hix := index8 D
              have Hix := Lib.hid hix
              clear hO0 hb0 hix hmk q0 q1 q2 q3 q4 q5 q6 q7
              go_loopw [44, 6] (fun i v wr => ∃ k g cap n : Nat, k ≤ 8 ∧ i = .int .i64 k ∧ v = .slice (some ⟨g, 0, none⟩) n cap ∧ Own wr w.heap.size v (Sha.out D k) ∧ Below w.heap.size w wr)
                (fun i _ _ => 8 - (intOf i).toNat)
              case atStart => exact ⟨0, g7, 32, 0, by omega, rfl, rfl, HO8.out, Hb8.out⟩
              case round =>
                obtain ⟨k, g, cap, n, hk, rfl, rfl, hO, hB⟩ := hrel
                have HO9 := Lib.hid hO
                have HB9 := Lib.hid hB
                clear hO hB
                by_cases hlt8 : k < 8
                · have hixk := Hix.out k hlt8
                  obtain ⟨x, hx⟩ : ∃ x, x = D.toList.getD k 0 := ⟨_, rfl⟩
                  rw [← hx] at hixk
                  have HXk := Lib.hid hx
                  clear hx
                  have hn4 : ∀ W : World, Rd (W.alloc (.cells #[.int .u8 ((x.toNat : Int) / 16777216 % 256), .int .u8 ((x.toNat : Int) / 65536 % 256), .int .u8 ((x.toNat : Int) / 256 % 256), .int .u8 ((x.toNat : Int) % 256)] 5)) (.slice (some ⟨W.heap.size, 0, none⟩) 4 4) (Sha.bytes4 x) := fun W =>
                    newB4 W _ _ _ _ _ _ _ _ (by rw [UInt8.toNat_ofNat']; simp) (by rw [UInt8.toNat_ofNat']; simp) (by rw [UInt8.toNat_ofNat']; simp) (by rw [UInt8.toNat_ofNat']; simp)
                  have HN4 := Lib.hid hn4
                  clear hn4
                  have hol := Sha.out_length D k hk
                  go_wp2_with (at_builtin; refine apB rfl (.tmp 47) (.tmp 59) rfl w.heap.size _ _ _ (Sha.bytes4 x) rfl (HO9.out.alloc _) rfl (HN4.out _) (by rw [hol, Sha.bytes4_length]; omega) (by have := HB9.out.size; simp; omega) ?_; intro v9 w9 hown9 hg9; have HO10 := Lib.hid hown9; have HG10 := Lib.hid hg9; clear hown9 hg9)
                  obtain ⟨g9, cap9, rfl, hg9, hg9', hc9, hcm9⟩ := HO10.out.shape (by intro h; have := congrArg List.length h; rw [List.length_append, Sha.bytes4_length] at this; simp at this)
                  go_roundw
                  case rel =>
                    refine ⟨k + 1, g9, cap9, _, by omega, by go_num, rfl, ?_, ?_⟩
                    · have h := HO10.out
                      rw [HXk.out, ← Sha.out_succ D k hlt8] at h
                      rw [HXk.out, ← Sha.out_succ D k hlt8]
                      exact h
                    · exact (HB9.out.alloc (by have := HB9.out.size; omega) _).grown HG10.out (by have := HB9.out.size; simp; omega) (fun k hk => (HO9.out.lt k hk).1)
                  case measure => simp [intOf]; omega
                · have hk8 : k = 8 := by omega
                  have Hk8 := Lib.hid hk8
                  clear hk8
                  go_wp2
                  go_ret
                  refine ⟨_, rfl, ?_, HB9.out⟩
                  have h := HO9.out
                  rw [Hk8.out] at h
                  have h2 : Sha.out D 8 = Sha.sum l := by rw [HD.out, ← Hk64.out]; rfl
                  rw [h2] at h
                  exact h
end Go.Proofs.YtpkfbmafbkgcmaaDoor

set_option linter.unusedVariables false
set_option linter.unusedSimpArgs false
namespace Go.Con.Sha
/-- a key as it is padded: longer ones by their digest -/
def padKey (key : List UInt8) (x : UInt8) : List UInt8 :=
  let k := if 64 < key.length then sum key else key
  (k ++ List.replicate (64 - k.length) 0).map (· ^^^ x)
theorem padKey_length (key : List UInt8) (x : UInt8) : (padKey key x).length = 64 := by
  unfold padKey
  have : (if 64 < key.length then sum key else key).length ≤ 64 := by
    split
    · rw [sum_length]; decide
    · omega
  simp; omega
def mac (key b : List UInt8) : List UInt8 := sum (padKey key 92 ++ sum (padKey key 54 ++ b))
theorem mac_length (key b : List UInt8) : (mac key b).length = 32 := rfl
/-- the i-th piece that is drawn -/
def piece (key info : List UInt8) : Nat → List UInt8
  | 0 => []
  | i + 1 => mac key (piece key info i ++ info ++ [UInt8.ofNat (i + 1)])
def pieces (key info : List UInt8) : Nat → List UInt8
  | 0 => []
  | i + 1 => pieces key info i ++ piece key info (i + 1)
theorem piece_length (key info : List UInt8) (i : Nat) : (piece key info (i + 1)).length = 32 := rfl
theorem pieces_length (key info : List UInt8) (i : Nat) : (pieces key info i).length = 32 * i := by
  induction i with
  | zero => rfl
  | succ i ih => rw [pieces, List.length_append, ih, piece_length]; omega
/-- so many pieces are drawn for n bytes -/
def need (n : Nat) : Nat := (n + 31) / 32
def draw (secret salt info : List UInt8) (n : Nat) : List UInt8 := (pieces (mac salt secret) info (need n)).take n
theorem draw_length (secret salt info : List UInt8) (n : Nat) : (draw secret salt info n).length = n := by
  rw [draw, List.length_take, pieces_length, need]; omega
theorem pieces_pre (key info : List UInt8) (i j : Nat) (h : i ≤ j) : (pieces key info j).take (32 * i) = pieces key info i := by
  induction j with
  | zero => obtain rfl : i = 0 := by omega
            rfl
  | succ j ih =>
    by_cases hj : i = j + 1
    · subst hj; rw [List.take_of_length_le (by rw [pieces_length]; omega)]
    · rw [pieces, List.take_append_of_le_length (by rw [pieces_length]; omega), ih (by omega)]
theorem draw_pre (secret salt info : List UInt8) (n m : Nat) (h : m ≤ n) : (draw secret salt info n).take m = draw secret salt info m := by
  unfold draw
  rw [List.take_take, Nat.min_eq_left h, ← pieces_pre _ info (need m) (need n) (by unfold need; omega), List.take_take, Nat.min_eq_left (by unfold need; omega)]
end Go.Con.Sha

set_option linter.unusedVariables false
set_option linter.unusedSimpArgs false
namespace Go.Con
/-- a number from 0 to many - 1 -/
def pick (n m : Int) : Int := (if n < 0 then -(n + 1) else n) % m
theorem pick_nonneg (n m : Int) (h : 0 < m) : 0 ≤ pick n m := Int.emod_nonneg _ (by omega)
theorem pick_lt (n m : Int) (h : 0 < m) : pick n m < m := Int.emod_lt_of_pos _ h
/-- just so many bytes -/
def fill (l : List UInt8) (n : Nat) : List UInt8 := l.take n ++ List.replicate (n - l.length) 0
theorem fill_length (l : List UInt8) (n : Nat) : (fill l n).length = n := by simp [fill]; omega
end Go.Con
namespace Go.Proofs.YtpkfbmafbkgcmaaDoor
open Go.RowKit Go.Con

theorem ret_int {k : IntKind} {a b : Int} (h : a = b) : Ending.returned (.int k a) = .returned (.int k b) := by rw [h]

/-- A call that gives a row of its own with these bytes, and turns nothing that was there. -/
def FreshB (w : World) (R : List UInt8) (e : Ending) (w' : World) : Prop := ∃ v', e = .returned v' ∧ Own w' w.heap.size v' R ∧ Below w.heap.size w w'

/-- A call that gives a row of its own with these bytes and a number, and turns nothing that was there. -/
def FreshBE (w : World) (R : List UInt8) (c : Int) (e : Ending) (w' : World) : Prop := ∃ v', e = .returned (.tuple #[v', .int .i64 c]) ∧ Own w' w.heap.size v' R ∧ Below w.heap.size w w'
/-- Its shape, the length named. -/
theorem Rd.sliceN {w : World} {v : Value} {l : List UInt8} (h : Rd w v l) (n : Nat) (hn : l.length = n) : ∃ a c, v = .slice a n c ∧ n ≤ c ∧ c ≤ maxLen := by
  subst hn; exact h.slice
section
variable {ops : Array Oper} {rest : List Oper} {o : Oper} {a : Act} {Q : Exit → Act → World → Prop}
/-- make([]byte, n). -/
theorem makeB (w : World) (hg : o.guard = none) (l c : Operand) (hop : o.op = Op.makeSlice 31 l c) (n : Nat) (L C : Int) (hl : a.eval l = .int .i64 L) (hc : a.eval c = .int .i64 C) (hL : L = (n : Int)) (hC : C = (n : Int)) (hn : n ≤ 281474976710656)
    (hK : ∀ w', Own w' w.heap.size (.slice (some ⟨w.heap.size, 0, none⟩) n n) (List.replicate n 0) → Below w.heap.size w w' → wpList Tryd.prog ops Q rest (a.put o.dst (.slice (some ⟨w.heap.size, 0, none⟩) n n)) w') : wpList Tryd.prog ops Q (o :: rest) a w := by
  obtain ⟨i0, hi, hz0, hz1, hz2⟩ := info_parts Tryd.info8
  refine wpList_make_full w hg l c 31 hop w.heap.size 5 i0 (.int .u8 0) 1 Tryd.underlying31 hi hz0 hz1 .i64 .i64 L C n hl hc hL hC (by rw [hz2]; omega) (by unfold maxLen; omega) (Nat.le_refl _) ?_
  intro w' hown hgr
  refine hK w' ?_ ((Below.refl _ _).grown hgr (Nat.le_refl _) (fun k hk => by cases hk))
  have hm : (madeCells (Value.int .u8 0).cells (n * 1)).toList = (List.replicate n (0 : UInt8)).map u8v := by
    apply List.ext_getElem?
    intro j
    by_cases hj : j < n
    · simp [madeCells, Value.cells, u8v, List.getElem?_replicate, hj, Nat.mod_one]
    · simp [madeCells, Value.cells, u8v, List.getElem?_replicate, hj]
  unfold Own
  rw [List.length_replicate, ← hm]
  exact hown
end
/-- 'string(v)' of shown bytes. -/
theorem run_str (w : World) (v : Value) (l : List UInt8) (h : Rd w v l) : (convert 31 9 v).run Tryd.prog w = .ok (.string ⟨l.toArray⟩) w := by
  obtain ⟨a, c, rfl, h1, h2⟩ := h.slice
  cases a with
  | none =>
    obtain ⟨rfl, _, _⟩ := h.none_nil
    exact Lib.run_convert_nil_bytes w 31 9 5 c Tryd.underlying31 Tryd.underlying5 Tryd.underlying9
  | some ad =>
    refine run_convert_bytes_back w 31 9 5 ad c l Tryd.underlying31 Tryd.underlying5 Tryd.underlying9 fun j hj => ?_
    have := h.cells ad rfl j (u8v l[j]) (by simp [hj])
    exact this
end Go.Proofs.YtpkfbmafbkgcmaaDoor

set_option linter.unusedVariables false
set_option linter.unusedSimpArgs false
namespace Go.Proofs.YtpkfbmafbkgcmaaDoor
open Go.RowKit Go.Con


theorem Own.ofRow {w : World} {base g : Nat} {cur : Array Value} (l : List UInt8) (n : Nat) (hn : l.length = n) (hb : base ≤ g) (hg : w.heap[g]? = some (.cells cur 5 (0, 0))) (hs : cur.size = n) (hm : n ≤ maxLen)
    (hc : ∀ j, j < n → cur[j]? = some (u8v (l.getD j 0))) : Own w base (.slice (some ⟨g, 0, none⟩) n n) l := by
  subst hn
  refine ⟨by simp, .inr ⟨g, l.length, cur, rfl, hb, hg, Nat.le_refl _, hm, by omega, ?_⟩⟩
  apply List.ext_getElem?
  intro i
  by_cases hi : i < l.length
  · rw [List.getElem?_take, if_pos (by omega)]
    have := hc i hi
    simp only [Array.getElem?_toList, this]
    simp [hi]
  · rw [List.getElem?_eq_none (by simp; omega), List.getElem?_eq_none (by simp; omega)]

section
variable {ops : Array Oper} {rest : List Oper} {o : Oper} {a : Act} {Q : Exit → Act → World → Prop} {w : World}
/-- copy(a row of the call's own, what is shown), the row as long or longer. -/
theorem copyB (hgd : o.guard = none) (d s : Operand) (ho : o.op = .call { callee := .builtin .copy, args := #[d, s], argTypes := #[31, 31] })
    (g n cap : Nat) (hd : a.eval d = .slice (some ⟨g, 0, none⟩) n cap) (src : Value) (m : List UInt8) (hs : a.eval s = src) (hsrc : Rd w src m)
    (cur : List Value) (hg : w.heap[g]? = some (.cells cur.toArray 5 (0, 0))) (hm : m.length ≤ n) (hn : n ≤ cur.length)
    (h : ∀ w', w'.heap[g]? = some (.cells (m.map u8v ++ cur.drop m.length).toArray 5 (0, 0)) → Below g w w' → wpList Tryd.prog ops Q rest (a.put o.dst (goInt m.length)) w') :
    wpList Tryd.prog ops Q (o :: rest) a w := by
  obtain ⟨ao, c, rfl, h1, h2⟩ := hsrc.slice
  refine wpList_copy_splice hgd d s 31 31 ho 5 Tryd.underlying31 (by kernel_rfl) _ _ n cap m.length c hd hs g 0 cur 5 hg (m.map u8v) (by rw [List.length_map]; exact (Nat.min_eq_left hm).symm) ?_ (by simp; omega) (one8 m) g w (Below.refl _ _) (Nat.le_refl _) ?_
  · intro hpos
    refine ⟨rfl, ?_⟩
    cases ao with
    | none => have := hsrc.none_nil.1; subst this; simp at hpos
    | some ad => exact ⟨ad, rfl, hsrc.cells ad rfl⟩
  · intro w' hg' hb'
    have := h w' (by have := hg'.out; simpa [splice] using this) hb'
    simpa using this
end

/-- The row of a padded key, on its way. -/
def padRow (k : List UInt8) (x : UInt8) (j n : Nat) : UInt8 := if j < n then (k ++ List.replicate (64 - k.length) 0).getD j 0 ^^^ x else (k ++ List.replicate (64 - k.length) 0).getD j 0

theorem padRow_hit (k : List UInt8) (x : UInt8) (j : Nat) : padRow k x j (j + 1) = padRow k x j j ^^^ x := by
  unfold padRow; rw [if_pos (by omega), if_neg (by omega)]
theorem padRow_miss (k : List UInt8) (x : UInt8) (j n : Nat) (h : j ≠ n) : padRow k x j (n + 1) = padRow k x j n := by
  unfold padRow
  by_cases hj : j < n
  · rw [if_pos hj, if_pos (by omega)]
  · rw [if_neg hj, if_neg (by omega)]
theorem padRow_end (l : List UInt8) (x : UInt8) (k : List UInt8) (j : Nat) (hj : j < 64) (hk : (if 64 < l.length then Sha.sum l else l) = k) : padRow k x j 64 = (Sha.padKey l x).getD j 0 := by
  have hl : j < (Sha.padKey l x).length := by rw [Sha.padKey_length]; exact hj
  unfold padRow
  rw [if_pos hj]
  simp only [List.getD_eq_getElem?_getD, List.getElem?_eq_getElem hl, Option.getD_some]
  simp only [Sha.padKey, hk]
  rw [List.getElem_map]
  congr 1
  have hl2 : j < (k ++ List.replicate (64 - k.length) 0).length := by
    have h := hl
    simp only [Sha.padKey, hk, List.length_map] at h
    exact h
  rw [List.getElem?_eq_getElem hl2, Option.getD_some]
theorem row0 (k : List UInt8) (x : UInt8) (j : Nat) (hk : k.length ≤ 64) (hj : j < 64) (Z : List Value) (hZ : Z = List.replicate 64 (Value.int .u8 0)) :
    ((k.map u8v ++ Z.drop k.length).toArray)[j]? = some (u8v (padRow k x j 0)) := by
  subst hZ
  unfold padRow
  rw [if_neg (by omega)]
  simp only [List.getElem?_toArray, List.drop_replicate, List.getD_eq_getElem?_getD]
  by_cases h : j < k.length
  · rw [List.getElem?_append_left (by simpa using h), List.getElem?_append_left h]
    simp [h]
  · rw [List.getElem?_append_right (by simp; omega), List.getElem?_append_right (by omega)]
    simp [List.getElem?_replicate, show j - k.length < 64 - k.length by omega]
    rfl

set_option maxRecDepth 100000 in
set_option maxHeartbeats 1000000 in
/-- The tail of pad: a row of 64, the key copied into it, each byte mixed. -/
theorem pad_any (v : Value) (l : List UInt8) (x : UInt8) (w : World) (hv : Rd w v l) (hl : l.length ≤ 1099511627776) (hk : Kn w) :
    Calls Tryd.prog 35 #[v, .int .u8 x.toNat] w (FreshB w (Sha.padKey l x)) := by
  obtain ⟨a, c, rfl, hlc, hcm⟩ := hv.slice
  have HV := Lib.hid hv
  have HK := Lib.hid hk
  clear hv hk
  have hmk : ∀ W : World, (Instr.makeSlice 31 (.int .i64 64) (.int .i64 64)).run Tryd.prog W = .ok (.slice (some ⟨W.heap.size, 0, none⟩) 64 64) (W.alloc (.cells (Array.replicate 64 (.int .u8 0)) 5)) := fun _ => by kernel_rfl
  have Hmk := Lib.hid hmk
  clear hmk
  obtain ⟨Z, hZ⟩ : ∃ Z, Z = List.replicate 64 (Value.int .u8 0) := ⟨_, rfl⟩
  have hZl : Z.length = 64 := by rw [hZ]; simp
  have HZ := Lib.hid hZ
  have HZl := Lib.hid hZl
  clear hZ hZl
  by_cases h64 : 64 < l.length
  · go_enter Tryd.func35, Tryd.ntmps35
    have hmk := Hmk.out
    have HKl : Hid ((Sha.sum l).length ≤ 64) := by show _ ≤ _; rw [Sha.sum_length]; decide
    go_wp2_with (first | (go_at_call 34; refine (sum_any _ l _ HV.out hl HK.out).mono ?_; rintro e w1 ⟨v1, rfl, ho1, hb1⟩; have HO1 := Lib.hid ho1; have HB1 := Lib.hid hb1; clear ho1 hb1; obtain ⟨g1, cap1, rfl, hg1, hg1', hc1, hcm1⟩ := HO1.out.shape (by intro h; have := congrArg List.length h; rw [Sha.sum_length] at this; simp at this); rw [Sha.sum_length]) | (refine copyB rfl (.tmp 13) (.tmp 14) rfl w1.heap.size 64 64 rfl _ (Sha.sum l) rfl (HO1.out.rd.alloc _) Z (by rw [HZ.out]; exact heapNew w1 _) HKl.out (by rw [HZl.out]; exact Nat.le_refl _) ?_; intro w2 hrow2 hb2; have HRow2 := Lib.hid hrow2; have HB2 := Lib.hid hb2; clear hrow2 hb2))
    have hs2 : w1.heap.size < w2.heap.size := lt_of_heap HRow2.out
    go_loopw [18] (fun j wr => ∃ k : Nat, k ≤ 64 ∧ j = .int .i64 k ∧ Below w1.heap.size w2 wr ∧ ∃ cur : Array Value, wr.heap[w1.heap.size]? = some (.cells cur 5 (0, 0)) ∧ cur.size = 64 ∧ ∀ j, j < 64 → cur[j]? = some (u8v (padRow (Sha.sum l) x j k)))
      (fun j _ => 64 - (intOf j).toNat)
    case atStart =>
      refine ⟨0, by omega, rfl, Below.refl _ _, _, HRow2.out, by rw [HZ.out]; simp; have := HKl.out; omega, fun j hj => ?_⟩
      exact row0 (Sha.sum l) x j HKl.out hj Z HZ.out
    case round =>
      obtain ⟨k, hk, rfl, hbr, cur, hcur, hcs, hcv⟩ := hrel
      by_cases hlt : k < 64
      · obtain ⟨q, hq⟩ : ∃ q, q = padRow (Sha.sum l) x k k := ⟨_, rfl⟩
        have c0 : wr.cell? ⟨w1.heap.size, k, none⟩ = some (.int .u8 q.toNat) := by rw [hq]; exact cellAt hcur k (hcv k hlt)
        have f0 := freeAt hcur k
        have Hq := Lib.hid hq
        have Hcur := Lib.hid hcur
        have Hcv := Lib.hid hcv
        have Hbr := Lib.hid hbr
        clear hq hcur hcv hbr
        go_wp2
        go_roundw
        case rel =>
          refine ⟨k + 1, by omega, by go_num, Hbr.out.setCell (Nat.le_refl _) _, turnOne 0 Hcur.out hcs hlt Hcv.out ?_ ?_⟩
          · rw [u8_xorF, Hq.out]
            exact congrArg u8v (padRow_hit (Sha.sum l) x k).symm
          · intro j hj hne
            exact congrArg u8v (padRow_miss (Sha.sum l) x j k hne)
        case measure => simp [intOf]; omega
      · have Hcur := Lib.hid hcur
        have Hcv := Lib.hid hcv
        have Hbr := Lib.hid hbr
        clear hcur hcv hbr
        go_wp2
        go_ret
        have hk64 : k = 64 := by omega
        have h1 := Hcv.out
        rw [hk64] at h1
        refine ⟨_, rfl, ?_, ?_⟩
        · refine Own.ofRow _ 64 (Sha.padKey_length l x) HB1.out.size Hcur.out hcs (by decide) fun j hj => ?_
          rw [h1 j hj]
          exact congrArg (fun b => some (u8v b)) (padRow_end l x (Sha.sum l) j hj (by rw [if_pos h64]))
        · exact (HB1.out.alloc HB1.out.size _).trans ((HB2.out.mono HB1.out.size).trans (Hbr.out.mono HB1.out.size))
  · go_enter Tryd.func35, Tryd.ntmps35
    have hmk := Hmk.out
    have hKl : (l).length ≤ 64 := by omega
    have HKl := Lib.hid hKl
    clear hKl
    go_wp2_with (refine copyB rfl (.tmp 13) (.tmp 14) rfl w.heap.size 64 64 rfl _ (l) rfl (HV.out.alloc _) Z (by rw [HZ.out]; exact heapNew w _) HKl.out (by rw [HZl.out]; exact Nat.le_refl _) ?_; intro w2 hrow2 hb2; have HRow2 := Lib.hid hrow2; have HB2 := Lib.hid hb2; clear hrow2 hb2)
    have hs2 : w.heap.size < w2.heap.size := lt_of_heap HRow2.out
    go_loopw [18] (fun j wr => ∃ k : Nat, k ≤ 64 ∧ j = .int .i64 k ∧ Below w.heap.size w2 wr ∧ ∃ cur : Array Value, wr.heap[w.heap.size]? = some (.cells cur 5 (0, 0)) ∧ cur.size = 64 ∧ ∀ j, j < 64 → cur[j]? = some (u8v (padRow (l) x j k)))
      (fun j _ => 64 - (intOf j).toNat)
    case atStart =>
      refine ⟨0, by omega, rfl, Below.refl _ _, _, HRow2.out, by rw [HZ.out]; simp; have := HKl.out; omega, fun j hj => ?_⟩
      exact row0 (l) x j HKl.out hj Z HZ.out
    case round =>
      obtain ⟨k, hk, rfl, hbr, cur, hcur, hcs, hcv⟩ := hrel
      by_cases hlt : k < 64
      · obtain ⟨q, hq⟩ : ∃ q, q = padRow (l) x k k := ⟨_, rfl⟩
        have c0 : wr.cell? ⟨w.heap.size, k, none⟩ = some (.int .u8 q.toNat) := by rw [hq]; exact cellAt hcur k (hcv k hlt)
        have f0 := freeAt hcur k
        have Hq := Lib.hid hq
        have Hcur := Lib.hid hcur
        have Hcv := Lib.hid hcv
        have Hbr := Lib.hid hbr
        clear hq hcur hcv hbr
        go_wp2
        go_roundw
        case rel =>
          refine ⟨k + 1, by omega, by go_num, Hbr.out.setCell (Nat.le_refl _) _, turnOne 0 Hcur.out hcs hlt Hcv.out ?_ ?_⟩
          · rw [u8_xorF, Hq.out]
            exact congrArg u8v (padRow_hit (l) x k).symm
          · intro j hj hne
            exact congrArg u8v (padRow_miss (l) x j k hne)
        case measure => simp [intOf]; omega
      · have Hcur := Lib.hid hcur
        have Hcv := Lib.hid hcv
        have Hbr := Lib.hid hbr
        clear hcur hcv hbr
        go_wp2
        go_ret
        have hk64 : k = 64 := by omega
        have h1 := Hcv.out
        rw [hk64] at h1
        refine ⟨_, rfl, ?_, ?_⟩
        · refine Own.ofRow _ 64 (Sha.padKey_length l x) (Nat.le_refl _) Hcur.out hcs (by decide) fun j hj => ?_
          rw [h1 j hj]
          exact congrArg (fun b => some (u8v b)) (padRow_end l x (l) j hj (by rw [if_neg h64]))
        · exact ((Below.refl _ _).alloc (Nat.le_refl _) _).trans (HB2.out.trans Hbr.out)

end Go.Proofs.YtpkfbmafbkgcmaaDoor
