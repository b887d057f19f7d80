/-
  Texts put together: ApZ, Stp, Res, Mid, SameK.
-/
import Derived.Test.YtdkbajdnckmckaaDoorMg1
import Derived.Lib.AppendZerosOnto
import Derived.Deep.RegionLaw
import Derived.WalkKit
import Derived.Deep.MidRow
set_option linter.unusedVariables false
set_option linter.unusedSimpArgs false
namespace Go.Proofs.YtdkbajdnckmckaaDoor
open Go.RowKit Go.Con
theorem zeroCells8 (n : Nat) : Builtin.zeroCells (Value.int .u8 0).cells n = ((List.replicate n (0 : UInt8)).map u8v).toArray := by
  apply Array.ext (by simp [Builtin.zeroCells, Value.cells])
  intro j h1 h2
  simp [Builtin.zeroCells, Value.cells, u8v, Nat.mod_one]
theorem run_apz_room (w : World) (ty : TypeId) (i : TypeInfo) (hi : Tryd.prog.info? 5 = some i) (hz : i.zero = some (.int .u8 0)) (hsize : i.size = 1) (hby : i.bytes = 1)
    (g n cap : Nat) (cur : Array Value) (hg : w.heap[g]? = some (.cells cur 5 (0, 0))) (m : Nat) (hm0 : 0 < m) (hm : m ≤ 140737488355328) (hroom : n + m ≤ cap) (hfit : n + m ≤ cur.size) :
    (Builtin.append_ #[25, 3] ty #[.slice (some ⟨g, 0, none⟩) n cap, .int .i64 m]).run Tryd.prog w =
      .ok (.slice (some ⟨g, 0, none⟩) (n + m) cap) (w.setRow g (cur.toList.take n ++ (List.replicate m (0 : UInt8)).map u8v ++ cur.toList.drop (n + m)).toArray) := by
  have hst := run_storeCells_at Tryd.prog g n 5 ((List.replicate m (0 : UInt8)).map u8v) 0 cur w hg (by simpa using hfit) (one8 _)
  simp only [Nat.add_zero, List.length_map, List.length_replicate] at hst
  have hw : IntKind.i64.wrap (m : Int) = m := by rw [IntKind.wrap_i64]; omega
  have h48i : ¬ (281474976710656 < (m : Int)) := by omega
  have hneg : ¬ ((m : Int) < 0) := by omega
  have hns : m ≠ 0 := by omega
  have hz8 := zeroCells8 m
  simp only [List.map_replicate] at hst hz8 ⊢
  simp [Builtin.append_, run_underlying Tryd.underlying25, run_underlying Tryd.underlying3, sizeOf, typeInfo, zeroValue, hi, hz, hsize, hby, asInt, asIntOf, hw, hroom, hneg, hns, h48i, hz8, Addr.add_lit, hst]
theorem run_apz (w : World) (base : Nat) (ty : TypeId) (v : Value) (l : List UInt8) (hown : Own w base v l) (m : Nat) (hlen : l.length + m ≤ 140737488355328) (hbase : base ≤ w.heap.size) :
    ∃ v' w', (Builtin.append_ #[25, 3] ty #[v, .int .i64 m]).run Tryd.prog w = .ok v' w' ∧ Own w' base v' (l ++ List.replicate m 0) ∧ w.grownBy w' v.ownBlock := by
  obtain ⟨i, hi, hz, hsize, hby⟩ := info_parts Tryd.info8
  have hrl : ((l ++ List.replicate m (0 : UInt8)).map u8v).length = l.length + m := by simp
  obtain ⟨hxl, h2⟩ := hown
  have hneg : ¬ ((m : Int) < 0) := by omega
  have hw : IntKind.i64.wrap (m : Int) = m := by rw [IntKind.wrap_i64]; omega
  by_cases hm : m = 0
  · subst hm
    have hw0 : IntKind.i64.wrap 0 = 0 := by rw [IntKind.wrap_i64]; rfl
    refine ⟨v, w, ?_, by simpa [Own] using (show Own w base v l from ⟨hxl, h2⟩), ⟨rfl, rfl, rfl, Nat.le_refl _, fun _ _ _ => rfl⟩⟩
    rcases h2 with ⟨rfl, hn⟩ | ⟨g, cap, cur, rfl, hbg, hg, hnc, hcm, hcs, htake⟩
    · simp [Builtin.append_, run_underlying Tryd.underlying25, run_underlying Tryd.underlying3, sizeOf, typeInfo, hi, hsize, hby, asInt, asIntOf, hw0]
    · simp [Builtin.append_, run_underlying Tryd.underlying25, run_underlying Tryd.underlying3, sizeOf, typeInfo, hi, hsize, hby, asInt, asIntOf, hw0, hnc, storeCells]
  · have grown : ∀ (old : Nat), old < l.length + m → ∀ (row : Option Nat),
        Own (w.drew.alloc (.cells ((l.map u8v).toArray ++ Builtin.zeroCells (Value.int .u8 0).cells m ++ Builtin.zeroCells (Value.int .u8 0).cells (grownCap w (l.length + m) old 5 - (l.length + m))) 5)) base (.slice (some ⟨w.heap.size, 0, none⟩) (l.length + m) (grownCap w (l.length + m) old 5)) (l ++ List.replicate m 0) ∧
        w.grownBy (w.drew.alloc (.cells ((l.map u8v).toArray ++ Builtin.zeroCells (Value.int .u8 0).cells m ++ Builtin.zeroCells (Value.int .u8 0).cells (grownCap w (l.length + m) old 5 - (l.length + m))) 5)) row := by
      intro old ho row
      have hge := grownCap_ge w (l.length + m) old 5
      have hcm : grownCap w (l.length + m) old 5 ≤ maxLen := grownCap_le_maxLen w (l.length + m) old 5 (by unfold maxLen; omega)
      refine ⟨⟨by simp, .inr ⟨w.heap.size, _, _, by simp, hbase, heap_alloc_new w.drew _, by simpa using hge, hcm, ?_, ?_⟩⟩, ⟨rfl, rfl, rfl, by simp, fun k hk _ => heap_alloc_old w.drew _ hk⟩⟩
      · simp only [Array.size_append, List.size_toArray, size_zeroCells, List.length_map, Value.cells]
        simp
        omega
      · rw [zeroCells8]
        simp only [Array.toList_append, List.map_append]
        rw [List.take_append_of_le_length (by simp)]
        rw [List.take_of_length_le (by simp)]
    rcases h2 with ⟨rfl, hn⟩ | ⟨g, cap, cur, rfl, hbg, hg, hnc, hcm, hcs, htake⟩
    · obtain rfl : l = [] := List.eq_nil_of_length_eq_zero hn
      have hr := Lib.run_append_nil_zeros (P := Tryd.prog) w 25 3 ty 5 i (.int .u8 0) .i64 .i64 Tryd.underlying25 Tryd.underlying3 hi hz m (by omega) (by omega) (by omega) (by rw [hby]; omega)
      have hgr := grown 0 (by simp; omega) none
      simp only [List.length_nil, Nat.zero_add, List.map_nil, List.nil_append, Array.empty_append, show (([] : List Value).toArray) = #[] from rfl] at hgr
      exact ⟨_, _, hr, by simpa using hgr.1, hgr.2⟩
    · by_cases hroom : l.length + m ≤ cap
      · have hr := run_apz_room w ty i hi hz hsize hby g l.length cap cur hg m (by omega) (by omega) hroom (by omega)
        refine ⟨_, _, hr, ⟨by simp, .inr ⟨g, cap, _, by simp, hbg, setRow_heap w g cur _ _ _ hg, by simpa using hroom, hcm, ?_, ?_⟩⟩, ⟨rfl, rfl, rfl, by simp, fun k _ hk => setRow_other w g k _ (fun e => hk (by simp [Value.ownBlock, e]))⟩⟩
        · simp only [List.size_toArray, List.length_append, List.length_take, List.length_drop, Array.length_toList, List.length_map, List.length_replicate]
          omega
        · rw [Nat.mul_one] at htake
          rw [htake, List.map_append, List.take_append_of_le_length (by simp), List.take_of_length_le (by simp)]
      · have holds : ∀ j u, (l.map u8v)[j]? = some u → w.cell? ((⟨g, 0, none⟩ : Addr).add j) = some u := World.ownsRow.cells (base := base) (e := 5) (size := 1) (n := l.length) ⟨hxl, .inr ⟨g, cap, cur, rfl, hbg, hg, hnc, hcm, hcs, htake⟩⟩ (g := g) rfl
        have hf := run_firstCells_some (P := Tryd.prog) w.drew i.size l.length ⟨g, 0, none⟩ l.length cap (l.map u8v) (by rw [hsize]; exact hxl) (by simpa using holds)
        have hr := Lib.run_append_grow_zeros (P := Tryd.prog) w 25 3 ty 5 i (.int .u8 0) .i64 .i64 Tryd.underlying25 Tryd.underlying3 hi hz (some ⟨g, 0, none⟩) l.length cap (l.map u8v) hf m (by omega) (by omega) (by omega) (by omega) (by rw [hby]; omega) (growslice_fits (by omega) (by rw [hby]; omega))
        have hgr := grown cap (by omega) (Value.ownBlock (.slice (some ⟨g, 0, none⟩) l.length cap))
        exact ⟨_, _, hr, hgr.1, hgr.2⟩
section
variable {ops : Array Oper} {rest : List Oper} {o : Oper} {a : Act} {Q : Exit → Act → World → Prop} {w : World}
/-- append(own, make([]byte, m)...). -/
theorem apZ (hgd : o.guard = none) (s x : Operand) (ho : o.op = .call { callee := .builtin .append, args := #[s, x], argTypes := #[25, 3] })
    (base : Nat) (v : Value) (l : List UInt8) (hs : a.eval s = v) (hown : Own w base v l) (m : Nat) (M : Int) (hx : a.eval x = .int .i64 M) (hM : M = (m : Int)) (hlen : l.length + m ≤ 140737488355328) (hbase : base ≤ w.heap.size)
    (h : ∀ v' w', Own w' base v' (l ++ List.replicate m 0) → w.grownBy w' v.ownBlock → wpList Tryd.prog ops Q rest (a.put o.dst v') w') : wpList Tryd.prog ops Q (o :: rest) a w := by
  subst hM
  obtain ⟨v', w', hr, h1, h2⟩ := run_apz w base o.type v l hown m hlen hbase
  exact Lib.wpList_append_run w hgd s x _ _ ho _ _ hs hx v' w' hr (h v' w' h1 h2)
end
end Go.Proofs.YtdkbajdnckmckaaDoor

set_option linter.unusedVariables false
set_option linter.unusedSimpArgs false
namespace Go.Proofs.YtdkbajdnckmckaaDoor
open Go.RowKit Go.Con
/-- A new row, written out, is the call's own. -/
theorem ownNew (w : World) (base : Nat) (l : List UInt8) (n : Nat) (hn : l.length = n) (hb : base ≤ w.heap.size) (hm : n ≤ maxLen) : Own (w.alloc (.cells (l.map u8v).toArray 5)) base (.slice (some ⟨w.heap.size, 0, none⟩) n n) l := by
  subst hn
  refine ⟨by simp, .inr ⟨w.heap.size, l.length, (l.map u8v).toArray, rfl, hb, heapNew w _, Nat.le_refl _, hm, by simp, ?_⟩⟩
  rw [List.take_of_length_le (by simp)]
theorem ownNew1 (W : World) (base : Nat) (x0 : Int) (b0 : UInt8) (h0 : x0 = b0.toNat) (hb : base ≤ W.heap.size) :
    Own (W.alloc (.cells #[.int .u8 x0] 5)) base (.slice (some ⟨W.heap.size, 0, none⟩) 1 1) [b0] := by
  subst h0; exact ownNew W base [b0] 1 rfl hb (by decide)
section
variable {ops : Array Oper} {o : Oper} {a : Act} {w : World} {K : Act → World → Prop} {Q : Exit → Act → World → Prop} {E : Prop}
theorem step_apZ (hg : o.guard = none) (s x : Operand) (ho : o.op = .call { callee := .builtin .append, args := #[s, x], argTypes := #[25, 3] })
    (base : Nat) (v : Value) (l : List UInt8) (hs : a.eval s = v) (hown : Own w base v l) (m : Nat) (M : Int) (hx : a.eval x = .int .i64 M) (hM : M = (m : Int)) (hlen : l.length + m ≤ 140737488355328) (hbase : base ≤ w.heap.size)
    (h : ∀ v' w', Own w' base v' (l ++ List.replicate m 0) → w.grownBy w' v.ownBlock → K (a.put o.dst v') w') : if Region.wanted o (yielded ops a.tmps) = true then Oper.wp Tryd.prog o a w K Q else E := by
  have hw : Region.wanted o (yielded ops a.tmps) = true := by simp [Region.wanted, hg]
  rw [if_pos hw]
  subst hM
  obtain ⟨v', w', hr, h1, h2⟩ := run_apz w base o.type v l hown m hlen hbase
  exact Lib.wp_append_run w s x _ _ ho _ _ hs hx v' w' hr (h v' w' h1 h2)
theorem step_apB (hg : o.guard = none) (s x : Operand) (ho : o.op = .call { callee := .builtin .append, args := #[s, x], argTypes := #[25, 25] })
    (base : Nat) (v src : Value) (l m : List UInt8) (hs : a.eval s = v) (hown : Own w base v l) (hx : a.eval x = src) (hsrc : Rd w src m) (hlen : l.length + m.length ≤ 140737488355328) (hbase : base ≤ w.heap.size)
    (h : ∀ v' w', Own w' base v' (l ++ m) → w.grownBy w' v.ownBlock → K (a.put o.dst v') w') : if Region.wanted o (yielded ops a.tmps) = true then Oper.wp Tryd.prog o a w K Q else E := by
  have hw : Region.wanted o (yielded ops a.tmps) = true := by simp [Region.wanted, hg]
  rw [if_pos hw]
  obtain ⟨i0, hi, hz0, hz1, hz2⟩ := info_parts Tryd.info8
  obtain ⟨ao, c, hv, _⟩ := hsrc.slice
  subst hv
  cases ao with
  | none =>
    obtain ⟨hm, hm0, hc0⟩ := hsrc.none_nil
    subst hm
    rw [hc0] at hx
    have hr := run_append_owned_none (P := Tryd.prog) (w := w) base 25 o.type 5 i0 1 Tryd.underlying25 hi v l.length (l.map u8v) hown
    exact Lib.wp_append_run w s x _ _ ho _ _ hs hx v w hr (h v w (by simpa using hown) ⟨rfl, rfl, rfl, Nat.le_refl _, fun _ _ _ => rfl⟩)
  | some ad =>
    obtain ⟨v', w', hr, h2, h3, h4⟩ := run_append_own (P := Tryd.prog) w base 25 o.type 5 i0 (.int .u8 0) 1 1 Tryd.underlying25 hi hz0 hz1 hz2 rfl (by decide) v l.length _ hown ad m.length c (m.map u8v) (by simp) (hsrc.cells ad rfl) (one8 m) (by unfold maxLen; omega) (by omega) hbase
    refine Lib.wp_append_run w s x _ _ ho _ _ hs hx v' w' hr (h v' w' ?_ h3)
    unfold Own
    rw [List.length_append, List.map_append]
    exact h2
end
end Go.Proofs.YtdkbajdnckmckaaDoor

set_option linter.unusedVariables false
set_option linter.unusedSimpArgs false
namespace Go.Con
open Go Go.RowKit
theorem results_c {P : Program} {fn : Func} {tmps : Array Value} {w : World} {a : Nat} {t : TypeId} {ad : Addr} {v : Value} (hr : fn.results = #[.cell a t]) (ht : tmps.getD a undef = .pointer (some ad))
    (hl : (loadVar t ad).run P w = .ok v w) : (results fn tmps).run P w = .ok v w := by
  unfold results
  rw [hr]
  simp only [Array.getD_eq_getD_getElem?] at ht
  generalize loadVar = L at hl ⊢
  simp [ht, hl, go_sem]
theorem results_ct {P : Program} {fn : Func} {tmps : Array Value} {w : World} {a b : Nat} {t : TypeId} {ad : Addr} {v : Value} (hr : fn.results = #[.cell a t, .tmp b]) (ht : tmps.getD a undef = .pointer (some ad))
    (hl : (loadVar t ad).run P w = .ok v w) : (results fn tmps).run P w = .ok (.tuple #[v, tmps.getD b undef]) w := by
  unfold results
  rw [hr]
  simp only [Array.getD_eq_getD_getElem?] at ht
  generalize loadVar = L at hl ⊢
  simp [ht, hl, go_sem]
theorem results_cct {P : Program} {fn : Func} {tmps : Array Value} {w : World} {a b c : Nat} {t u : TypeId} {ad bd : Addr} {v x : Value} (hr : fn.results = #[.cell a t, .cell b u, .tmp c]) (ht : tmps.getD a undef = .pointer (some ad)) (hu : tmps.getD b undef = .pointer (some bd))
    (hl : (loadVar t ad).run P w = .ok v w) (hx : (loadVar u bd).run P w = .ok x w) : (results fn tmps).run P w = .ok (.tuple #[v, x, tmps.getD c undef]) w := by
  unfold results
  rw [hr]
  simp only [Array.getD_eq_getD_getElem?] at ht hu
  generalize loadVar = L at hl hx ⊢
  simp [ht, hu, hl, hx, go_sem]
end Go.Con

set_option linter.unusedVariables false
set_option linter.unusedSimpArgs false
namespace Go.Con
open Go Go.RowKit
theorem Kept.setCells {B : Nat} {S : Nat → Prop} {a : World} {b : Nat} (hb : B ≤ b ∨ S b) : ∀ (vs : List Value) (o : Nat) (w : World), Kept B S a w → Kept B S a (w.setCells b o vs)
  | [], _, _, h => h
  | v :: r, o, w, h => Kept.setCells hb r (o + 1) _ (h.setCell (p := ⟨b, o, none⟩) hb v)
theorem below_setCells {B : Nat} {a : World} {b : Nat} (hb : B ≤ b) : ∀ (vs : List Value) (o : Nat) (w : World), Below B a w → Below B a (w.setCells b o vs)
  | [], _, _, h => h
  | v :: r, o, w, h => below_setCells hb r (o + 1) _ (h.setCell (p := ⟨b, o, none⟩) hb v)
theorem heap_setCells {b : Nat} {e : TypeId} {f : Nat × Nat} : ∀ (vs : List Value) (o : Nat) (w : World) (cur : Array Value), w.heap[b]? = some (.cells cur e f) → ∃ cur', (w.setCells b o vs).heap[b]? = some (.cells cur' e f) ∧ cur'.size = cur.size
  | [], _, _, cur, h => ⟨cur, h, rfl⟩
  | v :: r, o, w, cur, h => by
    obtain ⟨c, h1, h2⟩ := heap_setCells r (o + 1) (w.setCell ⟨b, o, none⟩ v) _ (heapSet h v)
    exact ⟨c, h1, by rw [h2]; simp⟩
theorem heap_setCells_ne {b k : Nat} (hk : k ≠ b) : ∀ (vs : List Value) (o : Nat) (w : World), (w.setCells b o vs).heap[k]? = w.heap[k]?
  | [], _, _ => rfl
  | v :: r, o, w => (heap_setCells_ne hk r (o + 1) _).trans (heapSet_ne o v hk)
theorem size_setCells {b : Nat} : ∀ (vs : List Value) (o : Nat) (w : World), (w.setCells b o vs).heap.size = w.heap.size
  | [], _, _ => rfl
  | v :: r, o, w => (size_setCells r (o + 1) _).trans (by simp [World.setCell])
theorem there_of {w : World} {b n : Nat} {t : TypeId} {cur : Array Value} (h : w.heap[b]? = some (.cells cur t (0, 0))) (hn : cur.size = n) : w.there b 0 n := fun j hj => by
  rw [Nat.zero_add]
  refine ⟨?_, freeAt h j⟩
  rw [cellD h j (by omega)]
  rfl
/-- A row that was stored whole. -/
theorem storedRow {w : World} {b : Nat} {t : TypeId} {cur : Array Value} {vs : List Value} (h : w.heap[b]? = some (.cells cur t (0, 0))) (hn : cur.size = vs.length) : (w.setCells b 0 vs).heap[b]? = some (.cells vs.toArray t (0, 0)) := by
  obtain ⟨c, h1, h2⟩ := heap_setCells vs 0 w cur h
  have hr := World.rangeAt_setCells_same w b 0 vs (there_of h hn)
  rw [h1]
  have e : c = vs.toArray := by
    apply Array.ext (by rw [h2, hn]; simp)
    intro j k1 k2
    have hj : j < vs.length := by simpa using k2
    have h3 := hr j vs[j] (List.getElem?_eq_getElem hj)
    rw [Nat.zero_add, cellAt h1 j (Array.getElem?_eq_getElem k1)] at h3
    simpa using h3
  rw [e]
theorem range_of {w : World} {b : Nat} {t : TypeId} {f : Nat × Nat} {cs : List Value} (h : w.heap[b]? = some (.cells cs.toArray t f)) : w.rangeAt b 0 cs := fun j v hv => by
  rw [Nat.zero_add]
  exact cellAt h j (by simpa using hv)
end Go.Con

set_option linter.unusedVariables false
set_option linter.unusedSimpArgs false
namespace Go.Proofs.YtdkbajdnckmckaaDoor
open Go.RowKit Go.Con

set_option maxHeartbeats 400000 in
theorem same_any (a b : Value) (x y : List UInt8) (w : World) (ha : Rd w a x) (hb : Rd w b y) :
    Calls Tryd.prog 12 #[a, b] w fun e w' => e = .returned (.bool (x == y)) ∧ w = w' := by
  have h1 := run_str w a x ha
  have h2 := run_str w b y hb
  clear ha hb
  go_enter Tryd.func12, Tryd.ntmps12
  go_wp2
  go_ret
  exact ⟨rfl, rfl⟩

theorem same_true (a b : Value) (x y : List UInt8) (w : World) (ha : Rd w a x) (hb : Rd w b y) (h : x = y) :
    Calls Tryd.prog 12 #[a, b] w fun e w' => e = .returned (.bool true) ∧ w = w' :=
  (same_any a b x y w ha hb).mono fun e w' ⟨he, hw⟩ => ⟨by rw [he, h]; simp, hw⟩

end Go.Proofs.YtdkbajdnckmckaaDoor
