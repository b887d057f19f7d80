/-
  The store in the model: its cells, its parts, its comparison.
-/
import Derived.Test.YtocdnochnjlhlaaDoorVaL
import Derived.Test.YtocdnochnjlhlaaDoorMid
import Derived.Test.YtocdnochnjlhlaaDoorRes
import Derived.ChangeKeysEq
set_option linter.unusedVariables false
set_option linter.unusedSimpArgs false
namespace Go.Con
open Go
section
variable {P : Program} (w : World)
theorem items_int {e : TypeId} (he : P.underlying e = some (.int .i64)) (d : Nat) (xs ys : List Int) : ∀ (is : List Nat), (∀ i ∈ is, i < xs.length ∧ i < ys.length) →
    (Op.eqItems (d + 1) e 1 (xs.map (Value.int .i64)).toArray (ys.map (Value.int .i64)).toArray is).run P w = .ok (is.all fun i => xs.getD i 0 == ys.getD i 0) w
  | [], _ => by simp [Op.eqItems]
  | i :: is, h => by
    have hp : P.plainKey e = true := by simp [Program.plainKey, he]
    obtain ⟨h1, h2⟩ := h i (by simp)
    have p1 := run_part_plain (P := P) w hp (xs := (xs.map (Value.int .i64)).toArray) (off := i * 1) (v := .int .i64 (xs.getD i 0)) (by simp [h1])
    have p2 := run_part_plain (P := P) w hp (xs := (ys.map (Value.int .i64)).toArray) (off := i * 1) (v := .int .i64 (ys.getD i 0)) (by simp [h2])
    simp only [Op.eqItems, Sem.run_bind, p1, p2, Result.andThen_ok, run_equalIn_int w d e .i64 .i64 _ _ he, List.all_cons]
    cases hh : (xs.getD i 0 == ys.getD i 0)
    · simp
    · simpa using items_int he d xs ys is (fun j hj => h j (by simp [hj]))
theorem items_bool {e : TypeId} (he : P.underlying e = some .bool) (d : Nat) (xs ys : List Bool) : ∀ (is : List Nat), (∀ i ∈ is, i < xs.length ∧ i < ys.length) →
    (Op.eqItems (d + 1) e 1 (xs.map Value.bool).toArray (ys.map Value.bool).toArray is).run P w = .ok (is.all fun i => xs.getD i false == ys.getD i false) w
  | [], _ => by simp [Op.eqItems]
  | i :: is, h => by
    have hp : P.plainKey e = true := by simp [Program.plainKey, he]
    obtain ⟨h1, h2⟩ := h i (by simp)
    have p1 := run_part_plain (P := P) w hp (xs := (xs.map Value.bool).toArray) (off := i * 1) (v := .bool (xs.getD i false)) (by simp [h1])
    have p2 := run_part_plain (P := P) w hp (xs := (ys.map Value.bool).toArray) (off := i * 1) (v := .bool (ys.getD i false)) (by simp [h2])
    simp only [Op.eqItems, Sem.run_bind, p1, p2, Result.andThen_ok, run_equalIn_bool' w d e _ _ he, List.all_cons]
    cases hh : (xs.getD i false == ys.getD i false)
    · simp
    · simpa using items_bool he d xs ys is (fun j hj => h j (by simp [hj]))
end
theorem all_eq {α : Type} [DecidableEq α] {xs ys : List α} (d : α) (n : Nat) (hx : xs.length = n) (hy : ys.length = n) : ((List.range n).all fun i => xs.getD i d == ys.getD i d) = decide (xs = ys) := by
  by_cases h : xs = ys
  · subst h; simp
  · rw [decide_eq_false h]
    rw [List.all_eq_false]
    apply Classical.byContradiction
    intro hc
    apply h
    apply List.ext_getElem (by omega)
    intro i h1 h2
    apply Classical.byContradiction
    intro hne
    apply hc
    refine ⟨i, List.mem_range.2 (by omega), ?_⟩
    rw [getD_lt _ _ _ h1, getD_lt _ _ _ h2]
    simpa using hne
/-- the parts of a store -/
def Sto.vals (s : Sto) : List Int := s.n.take 8
def Sto.lasts (s : Sto) : List Int := (s.n.drop 8).take 8
def Sto.anss (s : Sto) : List Int := s.n.drop 16
theorem Sto.parts_eq (s t : Sto) : (decide (s.vals = t.vals) && (decide (s.lasts = t.lasts) && (decide (s.anss = t.anss) && decide (s.r = t.r)))) = decide (s = t) := by
  rw [Bool.eq_iff_iff]
  simp only [Bool.and_eq_true, decide_eq_true_eq]
  constructor
  · rintro ⟨h1, h2, h3, h4⟩
    obtain ⟨sn, sr⟩ := s
    obtain ⟨tn, tr⟩ := t
    unfold Sto.vals Sto.lasts Sto.anss at *
    dsimp only at *
    subst h4
    have e : ∀ l : List Int, l = l.take 8 ++ ((l.drop 8).take 8 ++ l.drop 16) := fun l => by
      have e1 : l.drop 16 = (l.drop 8).drop 8 := by rw [List.drop_drop]
      rw [e1, List.take_append_drop, List.take_append_drop]
    rw [e sn, e tn, h1, h2, h3]
  · rintro rfl; exact ⟨rfl, rfl, rfl, rfl⟩

def Sto.setN (s : Sto) (o : Nat) (n : Int) : Sto := ⟨s.n.set o n, s.r⟩
def Sto.setR (s : Sto) (i : Nat) : Sto := ⟨s.n, s.r.set i true⟩
theorem stoSetN {w : World} {b : Nat} {t : TypeId} {s : Sto} {o : Nat} (h : w.heap[b]? = some (.cells s.cells.toArray t (0, 0))) (hl : s.n.length = 32) (ho : o < 32) (n : Int) :
    (w.setCell ⟨b, o, none⟩ (.int .i64 n)).heap[b]? = some (.cells (s.setN o n).cells.toArray t (0, 0)) := by
  have e : s.cells.toArray.setIfInBounds o (.int .i64 n) = (s.setN o n).cells.toArray := by
    unfold Sto.cells Sto.setN
    simp [List.set_append, hl, ho, List.map_set]
  rw [heapSet h, e]
theorem stoSetR {w : World} {b : Nat} {t : TypeId} {s : Sto} {i : Nat} (h : w.heap[b]? = some (.cells s.cells.toArray t (0, 0))) (hl : s.n.length = 32) (hr : s.r.length = 8) (hi : i < 8) :
    (w.setCell ⟨b, 32 + i, none⟩ (.bool true)).heap[b]? = some (.cells (s.setR i).cells.toArray t (0, 0)) := by
  have e : s.cells.toArray.setIfInBounds (32 + i) (.bool true) = (s.setR i).cells.toArray := by
    unfold Sto.cells Sto.setR
    simp [List.set_append, hl, List.map_set]
  rw [heapSet h, e]
theorem stoGetN {w : World} {b : Nat} {t : TypeId} {s : Sto} {o : Nat} (h : w.heap[b]? = some (.cells s.cells.toArray t (0, 0))) (hl : s.n.length = 32) (ho : o < 32) :
    w.cell? ⟨b, o, none⟩ = some (.int .i64 (s.n.getD o 0)) := by
  refine cellAt h o ?_
  unfold Sto.cells
  have h1 : o < s.n.length := by omega
  simp [List.getElem?_append, h1]
theorem stoGetR {w : World} {b : Nat} {t : TypeId} {s : Sto} {i : Nat} (h : w.heap[b]? = some (.cells s.cells.toArray t (0, 0))) (hl : s.n.length = 32) (hr : s.r.length = 8) (hi : i < 8) :
    w.cell? ⟨b, 32 + i, none⟩ = some (.bool (s.rev i)) := by
  refine cellAt h (32 + i) ?_
  unfold Sto.cells Sto.rev
  have h1 : i < s.r.length := by omega
  simp [List.getElem?_append, hl, h1]
end Go.Con
namespace Go.Proofs.YtocdnochnjlhlaaDoor
open Go.RowKit Go.Con
/-- a store as a value -/
def stoV (s : Sto) : Value := .agg s.cells.toArray
def valsV (s : Sto) : Value := .agg (s.vals.map (Value.int .i64)).toArray
def lastsV (s : Sto) : Value := .agg (s.lasts.map (Value.int .i64)).toArray
def anssV (s : Sto) : Value := .agg (s.anss.map (Value.int .i64)).toArray
def revsV (s : Sto) : Value := .agg (s.r.map Value.bool).toArray
def ansV (a : Int × Int) : Value := .agg #[.int .i64 a.1, .int .i64 a.2]
theorem stoSz : (Tryd.prog.info? 30).map (fun x => x.size) = some 40 := by kernel_rfl
theorem stoLen {s : Sto} (h : s.Ok) : s.cells.length = 40 := by unfold Sto.cells; simp [h.ln, h.lr]
theorem stoSize {s : Sto} (h : s.Ok) : s.cells.toArray.size = 40 := by rw [List.size_toArray]; exact stoLen h
theorem stoOne (s : Sto) : s.cells.toArray.all (·.oneCell') = true := by
  refine all_oneCell_toArray (fun v hv => ?_)
  unfold Sto.cells at hv
  rw [List.mem_append] at hv
  rcases hv with hv | hv
  · obtain ⟨n, _, rfl⟩ := List.mem_map.1 hv; rfl
  · obtain ⟨n, _, rfl⟩ := List.mem_map.1 hv; rfl
theorem field_vals {s : Sto} (h : s.Ok) (W : World) : (Instr.field 30 (stoV s) 0).run Tryd.prog W = .ok (valsV s) W := by
  obtain ⟨n, r⟩ := s
  have l1 := h.ln
  have l2 := h.lr
  clear h
  dsimp only at l1 l2
  match n, l1, r, l2 with
  | [a0, a1, a2, a3, a4, a5, a6, a7, a8, a9, a10, a11, a12, a13, a14, a15, a16, a17, a18, a19, a20, a21, a22, a23, a24, a25, a26, a27, a28, a29, a30, a31], _, [r0, r1, r2, r3, r4, r5, r6, r7], _ => (show _ = _; kernel_rfl)
theorem field_lasts {s : Sto} (h : s.Ok) (W : World) : (Instr.field 30 (stoV s) 1).run Tryd.prog W = .ok (lastsV s) W := by
  obtain ⟨n, r⟩ := s
  have l1 := h.ln
  have l2 := h.lr
  clear h
  dsimp only at l1 l2
  match n, l1, r, l2 with
  | [a0, a1, a2, a3, a4, a5, a6, a7, a8, a9, a10, a11, a12, a13, a14, a15, a16, a17, a18, a19, a20, a21, a22, a23, a24, a25, a26, a27, a28, a29, a30, a31], _, [r0, r1, r2, r3, r4, r5, r6, r7], _ => (show _ = _; kernel_rfl)
theorem field_anss {s : Sto} (h : s.Ok) (W : World) : (Instr.field 30 (stoV s) 2).run Tryd.prog W = .ok (anssV s) W := by
  obtain ⟨n, r⟩ := s
  have l1 := h.ln
  have l2 := h.lr
  clear h
  dsimp only at l1 l2
  match n, l1, r, l2 with
  | [a0, a1, a2, a3, a4, a5, a6, a7, a8, a9, a10, a11, a12, a13, a14, a15, a16, a17, a18, a19, a20, a21, a22, a23, a24, a25, a26, a27, a28, a29, a30, a31], _, [r0, r1, r2, r3, r4, r5, r6, r7], _ => (show _ = _; kernel_rfl)
theorem field_revs {s : Sto} (h : s.Ok) (W : World) : (Instr.field 30 (stoV s) 3).run Tryd.prog W = .ok (revsV s) W := by
  obtain ⟨n, r⟩ := s
  have l1 := h.ln
  have l2 := h.lr
  clear h
  dsimp only at l1 l2
  match n, l1, r, l2 with
  | [a0, a1, a2, a3, a4, a5, a6, a7, a8, a9, a10, a11, a12, a13, a14, a15, a16, a17, a18, a19, a20, a21, a22, a23, a24, a25, a26, a27, a28, a29, a30, a31], _, [r0, r1, r2, r3, r4, r5, r6, r7], _ => (show _ = _; kernel_rfl)
theorem index_vals {s : Sto} (h : s.Ok) (i : Nat) (hi : i < 8) (W : World) : (Instr.index 23 (valsV s) (.int .i64 i)).run Tryd.prog W = .ok (.int .i64 (s.val i)) W := by
  obtain ⟨n, r⟩ := s
  have l1 := h.ln
  clear h
  dsimp only at l1
  have h8 : i = 0 ∨ i = 1 ∨ i = 2 ∨ i = 3 ∨ i = 4 ∨ i = 5 ∨ i = 6 ∨ i = 7 := by omega
  match n, l1 with
  | [a0, a1, a2, a3, a4, a5, a6, a7, a8, a9, a10, a11, a12, a13, a14, a15, a16, a17, a18, a19, a20, a21, a22, a23, a24, a25, a26, a27, a28, a29, a30, a31], _ => rcases h8 with rfl | rfl | rfl | rfl | rfl | rfl | rfl | rfl <;> (show _ = _; kernel_rfl)
theorem index_lasts {s : Sto} (h : s.Ok) (i : Nat) (hi : i < 8) (W : World) : (Instr.index 23 (lastsV s) (.int .i64 i)).run Tryd.prog W = .ok (.int .i64 (s.last i)) W := by
  obtain ⟨n, r⟩ := s
  have l1 := h.ln
  clear h
  dsimp only at l1
  have h8 : i = 0 ∨ i = 1 ∨ i = 2 ∨ i = 3 ∨ i = 4 ∨ i = 5 ∨ i = 6 ∨ i = 7 := by omega
  match n, l1 with
  | [a0, a1, a2, a3, a4, a5, a6, a7, a8, a9, a10, a11, a12, a13, a14, a15, a16, a17, a18, a19, a20, a21, a22, a23, a24, a25, a26, a27, a28, a29, a30, a31], _ => rcases h8 with rfl | rfl | rfl | rfl | rfl | rfl | rfl | rfl <;> (show _ = _; kernel_rfl)
theorem index_anss {s : Sto} (h : s.Ok) (i : Nat) (hi : i < 8) (W : World) : (Instr.index 27 (anssV s) (.int .i64 i)).run Tryd.prog W = .ok (.agg #[.int .i64 (s.code i), .int .i64 (s.aval i)]) W := by
  obtain ⟨n, r⟩ := s
  have l1 := h.ln
  clear h
  dsimp only at l1
  have h8 : i = 0 ∨ i = 1 ∨ i = 2 ∨ i = 3 ∨ i = 4 ∨ i = 5 ∨ i = 6 ∨ i = 7 := by omega
  match n, l1 with
  | [a0, a1, a2, a3, a4, a5, a6, a7, a8, a9, a10, a11, a12, a13, a14, a15, a16, a17, a18, a19, a20, a21, a22, a23, a24, a25, a26, a27, a28, a29, a30, a31], _ => rcases h8 with rfl | rfl | rfl | rfl | rfl | rfl | rfl | rfl <;> (show _ = _; kernel_rfl)
theorem index_revs {s : Sto} (h : s.Ok) (i : Nat) (hi : i < 8) (W : World) : (Instr.index 28 (revsV s) (.int .i64 i)).run Tryd.prog W = .ok (.bool (s.rev i)) W := by
  obtain ⟨n, r⟩ := s
  have l1 := h.lr
  clear h
  dsimp only at l1
  have h8 : i = 0 ∨ i = 1 ∨ i = 2 ∨ i = 3 ∨ i = 4 ∨ i = 5 ∨ i = 6 ∨ i = 7 := by omega
  match r, l1 with
  | [r0, r1, r2, r3, r4, r5, r6, r7], _ => rcases h8 with rfl | rfl | rfl | rfl | rfl | rfl | rfl | rfl <;> (show _ = _; kernel_rfl)
theorem part_store {s : Sto} (h : s.Ok) (W : World) : (part 23 s.cells.toArray 0).run Tryd.prog W = .ok (valsV s) W ∧ (part 23 s.cells.toArray 8).run Tryd.prog W = .ok (lastsV s) W ∧
    (part 27 s.cells.toArray 16).run Tryd.prog W = .ok (anssV s) W ∧ (part 28 s.cells.toArray 32).run Tryd.prog W = .ok (revsV s) W := by
  obtain ⟨n, r⟩ := s
  have l1 := h.ln
  have l2 := h.lr
  clear h
  dsimp only at l1 l2
  match n, l1, r, l2 with
  | [a0, a1, a2, a3, a4, a5, a6, a7, a8, a9, a10, a11, a12, a13, a14, a15, a16, a17, a18, a19, a20, a21, a22, a23, a24, a25, a26, a27, a28, a29, a30, a31], _, [r0, r1, r2, r3, r4, r5, r6, r7], _ => exact ⟨by kernel_rfl, by kernel_rfl, by kernel_rfl, by kernel_rfl⟩
theorem part_answer (l : List Int) (hl : l.length = 16) (i : Nat) (hi : i < 8) (W : World) : (part 26 (l.map (Value.int .i64)).toArray (i * 2)).run Tryd.prog W = .ok (.agg #[.int .i64 (l.getD (2 * i) 0), .int .i64 (l.getD (2 * i + 1) 0)]) W := by
  have h8 : i = 0 ∨ i = 1 ∨ i = 2 ∨ i = 3 ∨ i = 4 ∨ i = 5 ∨ i = 6 ∨ i = 7 := by omega
  match l, hl with
  | [a0, a1, a2, a3, a4, a5, a6, a7, a8, a9, a10, a11, a12, a13, a14, a15], _ => rcases h8 with rfl | rfl | rfl | rfl | rfl | rfl | rfl | rfl <;> (show _ = _; kernel_rfl)
theorem eqAnswer (d : Nat) (a b c e : Int) (W : World) : (Op.equalIn (d + 2) 26 (.agg #[.int .i64 a, .int .i64 b]) (.agg #[.int .i64 c, .int .i64 e])).run Tryd.prog W = .ok (a == c && b == e) W := by
  have hS : Tryd.prog.underlying 26 = some (.struct (Tryd.prog.fieldsOf 26)) := by kernel_rfl
  rw [show d + 2 = (d + 1) + 1 from rfl, run_equalIn_agg W (d + 1) 26 _ _ hS (by kernel_rfl)]
  have hf : ∃ f g : Field, (Tryd.prog.fieldsOf 26).toList = [f, g] ∧ f.name ≠ "_" ∧ g.name ≠ "_" ∧ f.type = 24 ∧ g.type = 3 ∧ f.offset = 0 ∧ g.offset = 1 := by
    refine ⟨((Tryd.prog.fieldsOf 26).toList[0]!), ((Tryd.prog.fieldsOf 26).toList[1]!), by kernel_rfl, by decide +kernel, by decide +kernel, by kernel_rfl, by kernel_rfl, by kernel_rfl, by kernel_rfl⟩
  obtain ⟨f, g, hfs, n1, n2, t1, t2, o1, o2⟩ := hf
  have he1 : Tryd.prog.underlying 24 = some (.int .i64) := by kernel_rfl
  have he2 : Tryd.prog.underlying 3 = some (.int .i64) := by kernel_rfl
  have p1 : ∀ x y : Int, (part 24 #[.int .i64 x, .int .i64 y] 0).run Tryd.prog W = .ok (.int .i64 x) W := fun x y => run_part_plain W (by simp [Program.plainKey, he1]) rfl
  have p2 : ∀ x y : Int, (part 3 #[.int .i64 x, .int .i64 y] 1).run Tryd.prog W = .ok (.int .i64 y) W := fun x y => run_part_plain W (by simp [Program.plainKey, he2]) rfl
  rw [hfs]
  simp only [Op.eqFields, ne_eq, n1, n2, not_false_eq_true, if_true, t1, t2, o1, o2, Sem.run_bind, p1, p2, Result.andThen_ok, run_equalIn_int W d _ .i64 .i64 _ _ he1, run_equalIn_int W d _ .i64 .i64 _ _ he2]
  cases h1 : (a == c) <;> cases h2 : (b == e) <;> simp [p1, p2, h1, h2, run_equalIn_int W d _ .i64 .i64 _ _ he1, run_equalIn_int W d _ .i64 .i64 _ _ he2]
theorem items_ans (d : Nat) (xs ys : List Int) (hx : xs.length = 16) (hy : ys.length = 16) (W : World) : ∀ (is : List Nat), (∀ i ∈ is, i < 8) →
    (Op.eqItems (d + 2) 26 2 (xs.map (Value.int .i64)).toArray (ys.map (Value.int .i64)).toArray is).run Tryd.prog W = .ok (is.all fun i => (xs.getD (2 * i) 0 == ys.getD (2 * i) 0 && xs.getD (2 * i + 1) 0 == ys.getD (2 * i + 1) 0)) W
  | [], _ => by simp [Op.eqItems]
  | i :: is, h => by
    have h1 := h i (by simp)
    have p1 := part_answer xs hx i h1 W
    have p2 := part_answer ys hy i h1 W
    simp only [Op.eqItems, Sem.run_bind, p1, p2, Result.andThen_ok, eqAnswer, List.all_cons]
    cases hh : (xs.getD (2 * i) 0 == ys.getD (2 * i) 0 && xs.getD (2 * i + 1) 0 == ys.getD (2 * i + 1) 0)
    · simp
    · simpa using items_ans d xs ys hx hy W is (fun j hj => h j (by simp [hj]))
theorem ans_all (xs ys : List Int) (hx : xs.length = 16) (hy : ys.length = 16) : ((List.range 8).all fun i => (xs.getD (2 * i) 0 == ys.getD (2 * i) 0 && xs.getD (2 * i + 1) 0 == ys.getD (2 * i + 1) 0)) = decide (xs = ys) := by
  rw [← all_eq 0 16 hx hy]
  simp only [List.range, List.range.loop, List.all_cons, List.all_nil, Bool.and_true, Bool.and_assoc]
theorem eqIn_vals (d : Nat) (xs ys : List Int) (hx : xs.length = 8) (hy : ys.length = 8) (W : World) : (Op.equalIn (d + 2) 23 (.agg (xs.map (Value.int .i64)).toArray) (.agg (ys.map (Value.int .i64)).toArray)).run Tryd.prog W = .ok (decide (xs = ys)) W := by
  have hi : ∃ i, Tryd.prog.info? 3 = some i := Option.isSome_iff_exists.1 (by kernel_rfl)
  obtain ⟨i, hi⟩ := hi
  rw [show d + 2 = (d + 1) + 1 from rfl, run_equalIn_array W (d + 1) _ _ Tryd.underlying23 hi, show Tryd.prog.cellsOf 3 = 1 by kernel_rfl, items_int W (by kernel_rfl) d xs ys _ (fun j hj => by rw [List.mem_range] at hj; omega), all_eq 0 8 hx hy]
theorem eqIn_revs (d : Nat) (xs ys : List Bool) (hx : xs.length = 8) (hy : ys.length = 8) (W : World) : (Op.equalIn (d + 2) 28 (.agg (xs.map Value.bool).toArray) (.agg (ys.map Value.bool).toArray)).run Tryd.prog W = .ok (decide (xs = ys)) W := by
  have hi : ∃ i, Tryd.prog.info? 4 = some i := Option.isSome_iff_exists.1 (by kernel_rfl)
  obtain ⟨i, hi⟩ := hi
  rw [show d + 2 = (d + 1) + 1 from rfl, run_equalIn_array W (d + 1) _ _ Tryd.underlying28 hi, show Tryd.prog.cellsOf 4 = 1 by kernel_rfl, items_bool W (by kernel_rfl) d xs ys _ (fun j hj => by rw [List.mem_range] at hj; omega), all_eq false 8 hx hy]
theorem eqIn_anss (d : Nat) (xs ys : List Int) (hx : xs.length = 16) (hy : ys.length = 16) (W : World) : (Op.equalIn (d + 3) 27 (.agg (xs.map (Value.int .i64)).toArray) (.agg (ys.map (Value.int .i64)).toArray)).run Tryd.prog W = .ok (decide (xs = ys)) W := by
  have hi : ∃ i, Tryd.prog.info? 26 = some i := Option.isSome_iff_exists.1 (by kernel_rfl)
  obtain ⟨i, hi⟩ := hi
  rw [show d + 3 = (d + 2) + 1 from rfl, run_equalIn_array W (d + 2) _ _ Tryd.underlying27 hi, show Tryd.prog.cellsOf 26 = 2 by kernel_rfl, items_ans d xs ys hx hy W _ (fun j hj => by rw [List.mem_range] at hj; omega), ans_all xs ys hx hy]
theorem valsLen {s : Sto} (h : s.Ok) : s.vals.length = 8 := by unfold Sto.vals; simp [h.ln]
theorem lastsLen {s : Sto} (h : s.Ok) : s.lasts.length = 8 := by unfold Sto.lasts; simp [h.ln]
theorem anssLen {s : Sto} (h : s.Ok) : s.anss.length = 16 := by unfold Sto.anss; simp [h.ln]
theorem eqIn_store {s t : Sto} (h : s.Ok) (k : t.Ok) (W : World) : (Op.equalIn 10000 30 (.agg s.cells.toArray) (.agg t.cells.toArray)).run Tryd.prog W = .ok (decide (s = t)) W := by
  have hS : Tryd.prog.underlying 30 = some (.struct (Tryd.prog.fieldsOf 30)) := by kernel_rfl
  rw [show 10000 = 9999 + 1 from rfl, run_equalIn_agg W 9999 30 _ _ hS (by kernel_rfl)]
  have hf : ∃ f0 f1 f2 f3 : Field, (Tryd.prog.fieldsOf 30).toList = [f0, f1, f2, f3] ∧ (f0.name ≠ "_" ∧ f1.name ≠ "_" ∧ f2.name ≠ "_" ∧ f3.name ≠ "_") ∧ (f0.type = 23 ∧ f1.type = 23 ∧ f2.type = 27 ∧ f3.type = 28) ∧ (f0.offset = 0 ∧ f1.offset = 8 ∧ f2.offset = 16 ∧ f3.offset = 32) := by
    refine ⟨((Tryd.prog.fieldsOf 30).toList[0]!), ((Tryd.prog.fieldsOf 30).toList[1]!), ((Tryd.prog.fieldsOf 30).toList[2]!), ((Tryd.prog.fieldsOf 30).toList[3]!), by kernel_rfl, ⟨by decide +kernel, by decide +kernel, by decide +kernel, by decide +kernel⟩, ⟨by kernel_rfl, by kernel_rfl, by kernel_rfl, by kernel_rfl⟩, ⟨by kernel_rfl, by kernel_rfl, by kernel_rfl, by kernel_rfl⟩⟩
  obtain ⟨f0, f1, f2, f3, hfs, ⟨n0, n1, n2, n3⟩, ⟨t0, t1, t2, t3⟩, ⟨o0, o1, o2, o3⟩⟩ := hf
  obtain ⟨p0, p1, p2, p3⟩ := part_store h W
  obtain ⟨q0, q1, q2, q3⟩ := part_store k W
  have e0 := eqIn_vals 9997 _ _ (valsLen h) (valsLen k) W
  rw [show 9997 + 2 = 9999 from rfl] at e0
  have e1 := eqIn_vals 9997 _ _ (lastsLen h) (lastsLen k) W
  rw [show 9997 + 2 = 9999 from rfl] at e1
  have e2 := eqIn_anss 9996 _ _ (anssLen h) (anssLen k) W
  rw [show 9996 + 3 = 9999 from rfl] at e2
  have e3 := eqIn_revs 9997 _ _ h.lr k.lr W
  rw [show 9997 + 2 = 9999 from rfl] at e3
  obtain ⟨x0, g0⟩ : ∃ x, x = decide (s.vals = t.vals) := ⟨_, rfl⟩
  obtain ⟨x1, g1⟩ : ∃ x, x = decide (s.lasts = t.lasts) := ⟨_, rfl⟩
  obtain ⟨x2, g2⟩ : ∃ x, x = decide (s.anss = t.anss) := ⟨_, rfl⟩
  obtain ⟨x3, g3⟩ : ∃ x, x = decide (s.r = t.r) := ⟨_, rfl⟩
  rw [← g0] at e0
  rw [← g1] at e1
  rw [← g2] at e2
  rw [← g3] at e3
  unfold valsV lastsV anssV revsV at *
  rw [hfs]
  simp only [Op.eqFields, ne_eq, n0, n1, n2, n3, not_false_eq_true, if_true, t0, t1, t2, t3, o0, o1, o2, o3, Sem.run_bind, p0, p1, p2, p3, q0, q1, q2, q3, Result.andThen_ok, valsV, lastsV, anssV, revsV, e0, e1, e2, e3]
  rw [← Sto.parts_eq, ← g0, ← g1, ← g2, ← g3]
  clear g0 g1 g2 g3
  cases x0 <;> cases x1 <;> cases x2 <;> cases x3 <;> simp [p0, p1, p2, p3, q0, q1, q2, q3, e0, e1, e2, e3]
/-- equal? -/
theorem eqStore {s t : Sto} (h : s.Ok) (k : t.Ok) (W : World) : (binOp .eql 30 (stoV s) (stoV t)).run Tryd.prog W = .ok (.bool (decide (s = t))) W := by
  unfold stoV
  rw [run_eql_struct]
  rw [eqIn_store h k]
  rfl
end Go.Proofs.YtocdnochnjlhlaaDoor
