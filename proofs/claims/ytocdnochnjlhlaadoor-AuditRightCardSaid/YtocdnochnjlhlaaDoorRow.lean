/-
  A slice that shows a row of structs, each in so many cells.
-/
import Derived.Test.YtocdnochnjlhlaaDoorChi
set_option linter.unusedVariables false
set_option linter.unusedSimpArgs false
namespace Go.Con
open Go
theorem flatMap_row {α : Type} (f : α → List Value) (d : α) (k : Nat) (hf : ∀ x, (f x).length = k) : ∀ (l : List α) (i : Nat), i < l.length → ∀ j, j < k → (l.flatMap f)[k * i + j]? = (f (l.getD i d))[j]?
  | c :: l, 0, _, j, hj => by
    rw [List.flatMap_cons, Nat.mul_zero, Nat.zero_add, List.getElem?_append_left (by rw [hf]; exact hj)]; rfl
  | c :: l, i + 1, hi, j, hj => by
    rw [List.flatMap_cons, List.getElem?_append_right (by rw [hf, Nat.mul_succ]; omega), hf]
    have e : k * (i + 1) + j - k = k * i + j := by rw [Nat.mul_succ]; omega
    rw [e]
    exact flatMap_row f d k hf l i (by simpa using hi) j hj
theorem flatMap_len {α : Type} (f : α → List Value) (k : Nat) (hf : ∀ x, (f x).length = k) (l : List α) : (l.flatMap f).length = l.length * k := by
  induction l with
  | nil => simp
  | cons c l ih => rw [List.flatMap_cons, List.length_append, ih, hf, List.length_cons, Nat.succ_mul]; omega
/-- a slice that shows a row -/
def RdRow {α : Type} (k : Nat) (f : α → List Value) (d : α) (w : World) (v : Value) (l : List α) : Prop :=
  ∃ a c, v = .slice a l.length c ∧ l.length ≤ c ∧ c ≤ maxLen ∧ (l ≠ [] → ∃ b off, a = some ⟨b, off, none⟩ ∧ b < w.heap.size ∧ ∀ i, i < l.length → ∀ j, j < k → w.cell? ⟨b, off + (k * i + j), none⟩ = (f (l.getD i d))[j]?)
theorem RdRow.ofOwn {α : Type} {k : Nat} {f : α → List Value} {d : α} {w : World} {base : Nat} {t : TypeId} {v : Value} {l : List α} (hf : ∀ x, (f x).length = k) (h : w.ownsRow base t k v l.length (l.flatMap f)) : RdRow k f d w v l := by
  obtain ⟨h1, h2⟩ := h
  rcases h2 with ⟨rfl, hn⟩ | ⟨g, cap, cur, rfl, hb, hg, hnc, hcm, hcs, htake⟩
  · have : l = [] := List.eq_nil_of_length_eq_zero hn
    subst this
    exact ⟨none, 0, rfl, Nat.le_refl _, Nat.zero_le _, fun h => absurd rfl h⟩
  · refine ⟨some ⟨g, 0, none⟩, cap, rfl, hnc, hcm, fun _ => ⟨g, 0, rfl, lt_of_heap hg, fun i hi j hj => ?_⟩⟩
    rw [Nat.zero_add, ← flatMap_row f d k hf l i hi j hj]
    have hlt : k * i + j < (l.flatMap f).length := by
      rw [h1]
      have : k * i + k ≤ l.length * k := by rw [← Nat.mul_succ, Nat.mul_comm]; exact Nat.mul_le_mul_right _ hi
      omega
    have hcur : cur[k * i + j]? = (l.flatMap f)[k * i + j]? := by
      rw [← htake, List.getElem?_take, if_pos (by omega)]; simp
    rw [List.getElem?_eq_getElem hlt] at hcur ⊢
    exact cellAt hg _ hcur
theorem RdRow.heap {α : Type} {k : Nat} {f : α → List Value} {d : α} {w w' : World} {v : Value} {l : List α} (h : RdRow k f d w v l) (hh : ∀ q, v.ownBlock = some q → q < w.heap.size → w'.heap[q]? = w.heap[q]?) : RdRow k f d w' v l := by
  obtain ⟨a, c, rfl, h1, h2, h3⟩ := h
  refine ⟨a, c, rfl, h1, h2, fun hl => ?_⟩
  obtain ⟨b, off, rfl, hb, hc⟩ := h3 hl
  have hw := hh b rfl hb
  refine ⟨b, off, rfl, ?_, fun i hi j hj => ?_⟩
  · rcases Nat.lt_or_ge b w'.heap.size with h | h
    · exact h
    · rw [Array.getElem?_eq_none h, Array.getElem?_eq_getElem hb] at hw; cases hw
  · rw [← hc i hi j hj]
    exact World.cell?_of_block (w := w) hw
/-- what a row's cells are, where it is not empty -/
theorem RdRow.cells {α : Type} {k : Nat} {f : α → List Value} {d : α} {w : World} {a : Option Addr} {n c : Nat} {l : List α} (h : RdRow k f d w (.slice a n c) l) : n = l.length ∧ n ≤ c ∧ (∀ i, i < n → ∃ b off, a = some ⟨b, off, none⟩ ∧ b < w.heap.size ∧ ∀ j, j < k → w.cell? ⟨b, off + (k * i + j), none⟩ = (f (l.getD i d))[j]?) := by
  obtain ⟨a', c', h0, h1, h2, h3⟩ := h
  injection h0 with e1 e2 e3
  subst e1 e3
  refine ⟨e2, by omega, fun i hi => ?_⟩
  obtain ⟨b, off, rfl, hb, hc⟩ := h3 (fun e => by rw [e] at e2; simp at e2; omega)
  exact ⟨b, off, rfl, hb, hc i (by omega)⟩
end Go.Con
namespace Go.Proofs.YtocdnochnjlhlaaDoor
open Go.RowKit Go.Con
theorem _root_.Go.Con.RdRow.stay {α : Type} {k : Nat} {f : α → List Value} {d : α} {w w' : World} {v : Value} {l : List α} (h : RdRow k f d w v l) (hb : Below w.heap.size w w') : RdRow k f d w' v l := h.heap (fun q _ hq => hb.block q hq)
abbrev RdC := RdRow 5 wishCells Cmd.zero
abbrev RdA := RdRow 2 ansCells (0, 0)
abbrev RdE := RdRow 8 entCells (⟨Cmd.zero, (0, 0), .slice none 0 0⟩ : Ent)
theorem OwnC.row {w : World} {base : Nat} {v : Value} {l : List Cmd} (h : OwnC w base v l) : RdC w v l := RdRow.ofOwn (fun _ => rfl) h
theorem OwnA.row {w : World} {base : Nat} {v : Value} {l : List (Int × Int)} (h : OwnA w base v l) : RdA w v l := RdRow.ofOwn (fun _ => rfl) h
theorem OwnE.row {w : World} {base : Nat} {v : Value} {l : List Ent} (h : OwnE w base v l) : RdE w v l := RdRow.ofOwn (fun _ => rfl) h
theorem _root_.Go.Con.RdRow.wishes {w : World} {v : Value} {l : List Cmd} (h : RdC w v l) (hok : ∀ c ∈ l, WishOk c) : RdWishes w v l := by
  obtain ⟨a, c, rfl, h1, h2, h3⟩ := h
  refine ⟨a, c, rfl, h1, h2, hok, fun hl => ?_⟩
  obtain ⟨b, off, rfl, hb, hc⟩ := h3 hl
  exact ⟨b, off, rfl, hc⟩
/-- what 'done' has made: commands that may be -/
theorem cmdOf_wishes (l : List Cmd) (m : Nat) : ∀ c ∈ (l.take m).map cmdOf, WishOk c ∧ checkC c = 0 := by
  intro c hc
  obtain ⟨x, -, rfl⟩ := List.mem_map.1 hc
  have n := cmdOf_nums x
  refine ⟨?_, cmdOf_check x⟩
  obtain ⟨k1, k3, c0, c4, s0, s6, n0, n4, v0, v1, -⟩ := n
  unfold WishOk Go.Con.Int64
  omega
set_option maxRecDepth 100000 in
set_option maxHeartbeats 2000000 in
theorem stoCheck_bad (w : World) :
    Calls Tryd.prog 11 #[.agg #[.int .i64 (-1), .int .i64 0, .int .i64 0, .int .i64 0, .int .i64 0, .int .i64 0, .int .i64 0, .int .i64 0, .int .i64 0, .int .i64 0, .int .i64 0, .int .i64 0, .int .i64 0, .int .i64 0, .int .i64 0, .int .i64 0, .int .i64 0, .int .i64 0, .int .i64 0, .int .i64 0, .int .i64 0, .int .i64 0, .int .i64 0, .int .i64 0, .int .i64 0, .int .i64 0, .int .i64 0, .int .i64 0, .int .i64 0, .int .i64 0, .int .i64 0, .int .i64 0, .bool false, .bool false, .bool false, .bool false, .bool false, .bool false, .bool false, .bool false]] w fun e w' => e = .returned (.int .i64 5) ∧ Below w.heap.size w w' := by
  obtain ⟨cs, hcs⟩ : ∃ cs : Array Value, cs = #[.int .i64 (-1), .int .i64 0, .int .i64 0, .int .i64 0, .int .i64 0, .int .i64 0, .int .i64 0, .int .i64 0, .int .i64 0, .int .i64 0, .int .i64 0, .int .i64 0, .int .i64 0, .int .i64 0, .int .i64 0, .int .i64 0, .int .i64 0, .int .i64 0, .int .i64 0, .int .i64 0, .int .i64 0, .int .i64 0, .int .i64 0, .int .i64 0, .int .i64 0, .int .i64 0, .int .i64 0, .int .i64 0, .int .i64 0, .int .i64 0, .int .i64 0, .int .i64 0, .bool false, .bool false, .bool false, .bool false, .bool false, .bool false, .bool false, .bool false] := ⟨_, rfl⟩
  rw [← hcs]
  have X : (w.alloc (.cells cs 30)).heap[w.heap.size]? = some (.cells cs 30 (0, 0)) := heapNew w _
  obtain ⟨v1, hv1⟩ : ∃ v : List Value, v = [.int .i64 (-1), .int .i64 0, .int .i64 0, .int .i64 0, .int .i64 0, .int .i64 0, .int .i64 0, .int .i64 0] := ⟨_, rfl⟩
  have l1 : (w.alloc (.cells cs 30)).rangeAt w.heap.size 0 v1 := fun j v hv => by
    rw [Nat.zero_add]
    refine cellAt X j ?_
    rw [← hv]
    have hj : j < 8 := by have := (List.getElem?_eq_some_iff.1 hv).1; rw [hv1] at this; exact this
    rw [hv1, hcs]
    rcases j with _ | _ | _ | _ | _ | _ | _ | _ | j
    all_goals first | rfl | omega
  have z1 : (Tryd.prog.info? 23).map (fun x => x.size) = some v1.length := by rw [hv1]; kernel_rfl
  have i1 : ∀ W, (Instr.index 23 (.agg v1.toArray) (.int .i64 0)).run Tryd.prog W = .ok (.int .i64 (-1)) W := fun W => by rw [hv1]; kernel_rfl
  have L1 := Lib.hid l1
  have Z1 := Lib.hid z1
  clear X hcs hv1 l1 z1
  go_enter Tryd.func11, Tryd.ntmps11
  go_wp2_with (refine wpList_load_mid rfl 23 (.tmp 7) rfl w.heap.size 0 rfl v1 _ L1.out Tryd.underlying23 rfl Z1.out ?_)
  go_loop [9] (fun i => i = .int .i64 0) (fun i => 0)
  case atStart => rfl
  case round =>
    subst hrel
    go_wp2_with fail
    go_ret
    exact ⟨rfl, (Below.refl _ _).alloc (Nat.le_refl _) _⟩
end Go.Proofs.YtocdnochnjlhlaaDoor
