/-
  'append(own, make([]byte, m)...)': the translation hands the builtin the number m in the place of a slice.
-/
import Derived.Test.YtcbmmkhbfookjaaDoorBy2
import Derived.Lib.AppendZerosOnto
set_option linter.unusedVariables false
set_option linter.unusedSimpArgs false
namespace Go.Proofs.YtcbmmkhbfookjaaDoor
open Go.RowKit Go.Con
theorem zeroCells8 (n : Nat) : Builtin.zeroCells (Value.int .u8 0).cells n = ((List.replicate n (0 : UInt8)).map u8v).toArray := by
  apply Array.ext (by simp [Builtin.zeroCells, Value.cells])
  intro j h1 h2
  simp [Builtin.zeroCells, Value.cells, u8v, Nat.mod_one]
theorem run_apz_room (w : World) (ty : TypeId) (i : TypeInfo) (hi : Tryd.prog.info? 5 = some i) (hz : i.zero = some (.int .u8 0)) (hsize : i.size = 1) (hby : i.bytes = 1)
    (g n cap : Nat) (cur : Array Value) (hg : w.heap[g]? = some (.cells cur 5 (0, 0))) (m : Nat) (hm0 : 0 < m) (hm : m ≤ 140737488355328) (hroom : n + m ≤ cap) (hfit : n + m ≤ cur.size) :
    (Builtin.append_ #[30, 3] ty #[.slice (some ⟨g, 0, none⟩) n cap, .int .i64 m]).run Tryd.prog w =
      .ok (.slice (some ⟨g, 0, none⟩) (n + m) cap) (w.setRow g (cur.toList.take n ++ (List.replicate m (0 : UInt8)).map u8v ++ cur.toList.drop (n + m)).toArray) := by
  have hst := run_storeCells_at Tryd.prog g n 5 ((List.replicate m (0 : UInt8)).map u8v) 0 cur w hg (by simpa using hfit) (one8 _)
  simp only [Nat.add_zero, List.length_map, List.length_replicate] at hst
  have hw : IntKind.i64.wrap (m : Int) = m := by rw [IntKind.wrap_i64]; omega
  have h48i : ¬ (281474976710656 < (m : Int)) := by omega
  have hneg : ¬ ((m : Int) < 0) := by omega
  have hns : m ≠ 0 := by omega
  have hz8 := zeroCells8 m
  simp only [List.map_replicate] at hst hz8 ⊢
  simp [Builtin.append_, run_underlying Tryd.underlying30, run_underlying Tryd.underlying3, sizeOf, typeInfo, zeroValue, hi, hz, hsize, hby, asInt, asIntOf, hw, hroom, hneg, hns, h48i, hz8, Addr.add_lit, hst]
theorem run_apz (w : World) (base : Nat) (ty : TypeId) (v : Value) (l : List UInt8) (hown : Own w base v l) (m : Nat) (hlen : l.length + m ≤ 140737488355328) (hbase : base ≤ w.heap.size) :
    ∃ v' w', (Builtin.append_ #[30, 3] ty #[v, .int .i64 m]).run Tryd.prog w = .ok v' w' ∧ Own w' base v' (l ++ List.replicate m 0) ∧ w.grownBy w' v.ownBlock := by
  obtain ⟨i, hi, hz, hsize, hby⟩ := info_parts Tryd.info8
  have hrl : ((l ++ List.replicate m (0 : UInt8)).map u8v).length = l.length + m := by simp
  obtain ⟨hxl, h2⟩ := hown
  have hneg : ¬ ((m : Int) < 0) := by omega
  have hw : IntKind.i64.wrap (m : Int) = m := by rw [IntKind.wrap_i64]; omega
  by_cases hm : m = 0
  · subst hm
    have hw0 : IntKind.i64.wrap 0 = 0 := by rw [IntKind.wrap_i64]; rfl
    refine ⟨v, w, ?_, by simpa [Own] using (show Own w base v l from ⟨hxl, h2⟩), ⟨rfl, rfl, rfl, Nat.le_refl _, fun _ _ _ => rfl⟩⟩
    rcases h2 with ⟨rfl, hn⟩ | ⟨g, cap, cur, rfl, hbg, hg, hnc, hcm, hcs, htake⟩
    · simp [Builtin.append_, run_underlying Tryd.underlying30, run_underlying Tryd.underlying3, sizeOf, typeInfo, hi, hsize, hby, asInt, asIntOf, hw0]
    · simp [Builtin.append_, run_underlying Tryd.underlying30, run_underlying Tryd.underlying3, sizeOf, typeInfo, hi, hsize, hby, asInt, asIntOf, hw0, hnc, storeCells]
  · have grown : ∀ (old : Nat), old < l.length + m → ∀ (row : Option Nat),
        Own (w.drew.alloc (.cells ((l.map u8v).toArray ++ Builtin.zeroCells (Value.int .u8 0).cells m ++ Builtin.zeroCells (Value.int .u8 0).cells (grownCap w (l.length + m) old 5 - (l.length + m))) 5)) base (.slice (some ⟨w.heap.size, 0, none⟩) (l.length + m) (grownCap w (l.length + m) old 5)) (l ++ List.replicate m 0) ∧
        w.grownBy (w.drew.alloc (.cells ((l.map u8v).toArray ++ Builtin.zeroCells (Value.int .u8 0).cells m ++ Builtin.zeroCells (Value.int .u8 0).cells (grownCap w (l.length + m) old 5 - (l.length + m))) 5)) row := by
      intro old ho row
      have hge := grownCap_ge w (l.length + m) old 5
      have hcm : grownCap w (l.length + m) old 5 ≤ maxLen := grownCap_le_maxLen w (l.length + m) old 5 (by unfold maxLen; omega)
      refine ⟨⟨by simp, .inr ⟨w.heap.size, _, _, by simp, hbase, heap_alloc_new w.drew _, by simpa using hge, hcm, ?_, ?_⟩⟩, ⟨rfl, rfl, rfl, by simp, fun k hk _ => heap_alloc_old w.drew _ hk⟩⟩
      · simp only [Array.size_append, List.size_toArray, size_zeroCells, List.length_map, Value.cells]
        simp
        omega
      · rw [zeroCells8]
        simp only [Array.toList_append, List.map_append]
        rw [List.take_append_of_le_length (by simp)]
        rw [List.take_of_length_le (by simp)]
    rcases h2 with ⟨rfl, hn⟩ | ⟨g, cap, cur, rfl, hbg, hg, hnc, hcm, hcs, htake⟩
    · obtain rfl : l = [] := List.eq_nil_of_length_eq_zero hn
      have hr := Lib.run_append_nil_zeros (P := Tryd.prog) w 30 3 ty 5 i (.int .u8 0) .i64 .i64 Tryd.underlying30 Tryd.underlying3 hi hz m (by omega) (by omega) (by omega) (by rw [hby]; omega)
      have hgr := grown 0 (by simp; omega) none
      simp only [List.length_nil, Nat.zero_add, List.map_nil, List.nil_append, Array.empty_append, show (([] : List Value).toArray) = #[] from rfl] at hgr
      exact ⟨_, _, hr, by simpa using hgr.1, hgr.2⟩
    · by_cases hroom : l.length + m ≤ cap
      · have hr := run_apz_room w ty i hi hz hsize hby g l.length cap cur hg m (by omega) (by omega) hroom (by omega)
        refine ⟨_, _, hr, ⟨by simp, .inr ⟨g, cap, _, by simp, hbg, setRow_heap w g cur _ _ _ hg, by simpa using hroom, hcm, ?_, ?_⟩⟩, ⟨rfl, rfl, rfl, by simp, fun k _ hk => setRow_other w g k _ (fun e => hk (by simp [Value.ownBlock, e]))⟩⟩
        · simp only [List.size_toArray, List.length_append, List.length_take, List.length_drop, Array.length_toList, List.length_map, List.length_replicate]
          omega
        · rw [Nat.mul_one] at htake
          rw [htake, List.map_append, List.take_append_of_le_length (by simp), List.take_of_length_le (by simp)]
      · have holds : ∀ j u, (l.map u8v)[j]? = some u → w.cell? ((⟨g, 0, none⟩ : Addr).add j) = some u := World.ownsRow.cells (base := base) (e := 5) (size := 1) (n := l.length) ⟨hxl, .inr ⟨g, cap, cur, rfl, hbg, hg, hnc, hcm, hcs, htake⟩⟩ (g := g) rfl
        have hf := run_firstCells_some (P := Tryd.prog) w.drew i.size l.length ⟨g, 0, none⟩ l.length cap (l.map u8v) (by rw [hsize]; exact hxl) (by simpa using holds)
        have hr := Lib.run_append_grow_zeros (P := Tryd.prog) w 30 3 ty 5 i (.int .u8 0) .i64 .i64 Tryd.underlying30 Tryd.underlying3 hi hz (some ⟨g, 0, none⟩) l.length cap (l.map u8v) hf m (by omega) (by omega) (by omega) (by omega) (by rw [hby]; omega) (growslice_fits (by omega) (by rw [hby]; omega))
        have hgr := grown cap (by omega) (Value.ownBlock (.slice (some ⟨g, 0, none⟩) l.length cap))
        exact ⟨_, _, hr, hgr.1, hgr.2⟩
section
variable {ops : Array Oper} {rest : List Oper} {o : Oper} {a : Act} {Q : Exit → Act → World → Prop} {w : World}
/-- append(own, make([]byte, m)...). -/
theorem apZ (hgd : o.guard = none) (s x : Operand) (ho : o.op = .call { callee := .builtin .append, args := #[s, x], argTypes := #[30, 3] })
    (base : Nat) (v : Value) (l : List UInt8) (hs : a.eval s = v) (hown : Own w base v l) (m : Nat) (M : Int) (hx : a.eval x = .int .i64 M) (hM : M = (m : Int)) (hlen : l.length + m ≤ 140737488355328) (hbase : base ≤ w.heap.size)
    (h : ∀ v' w', Own w' base v' (l ++ List.replicate m 0) → w.grownBy w' v.ownBlock → wpList Tryd.prog ops Q rest (a.put o.dst v') w') : wpList Tryd.prog ops Q (o :: rest) a w := by
  subst hM
  obtain ⟨v', w', hr, h1, h2⟩ := run_apz w base o.type v l hown m hlen hbase
  exact Lib.wpList_append_run w hgd s x _ _ ho _ _ hs hx v' w' hr (h v' w' h1 h2)
end
end Go.Proofs.YtcbmmkhbfookjaaDoor
