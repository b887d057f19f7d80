/-
  The iterator strings.Lines, which keeps what is left in a cell of its own, and a range over it.
-/
import Derived.Test.YtcbmmkhbfookjaaDoorLnP
import Derived.RangeFuncNested
import Derived.RangeFuncBound
import Derived.RangeFuncCalls
import Derived.RangeFuncLeaves
import Derived.Shelf.Abstract
import Derived.Shelf.RegionOpen
import Derived.OwnWalkIn
import Derived.TacticsInMore
import Derived.LoopNIn
import Derived.LoopIn
set_option linter.unusedVariables false
set_option linter.unusedSimpArgs false
namespace Go.Con
open Go
theorem cut10 (s : List UInt8) : ((10 : UInt8) ∉ s ∧ Lib.indexByte s 10 = -1) ∨ ∃ p r, s = p ++ 10 :: r ∧ (10 : UInt8) ∉ p ∧ Lib.indexByte s 10 = p.length := by
  by_cases h : Lib.indexByte s 10 = -1
  · refine .inl ⟨fun hm => ?_, h⟩
    obtain ⟨k, hk, e⟩ := List.getElem_of_mem hm
    exact Lib.indexByte_none h k (by rw [List.getElem?_eq_getElem hk, e])
  · have hge : -1 ≤ Lib.indexByte s 10 := Lib.indexByte_ge s 10
    obtain ⟨o, ho⟩ : ∃ o : Nat, Lib.indexByte s 10 = o := ⟨(Lib.indexByte s 10).toNat, by omega⟩
    obtain ⟨h1, h2⟩ := Lib.indexByte_some ho
    obtain ⟨hlt, he⟩ := List.getElem?_eq_some_iff.1 h1
    refine .inr ⟨s.take o, s.drop (o + 1), ?_, fun hm => ?_, ?_⟩
    · rw [← he, ← List.drop_eq_getElem_cons hlt, List.take_append_drop]
    · obtain ⟨k, hk, e⟩ := List.getElem_of_mem hm
      rw [List.length_take] at hk
      rw [List.getElem_take] at e
      exact h2 k (by omega) (by rw [List.getElem?_eq_getElem (by omega), e])
    · rw [ho, List.length_take]; omega
theorem bytes_ext {a b : ByteArray} (h : a.data.toList = b.data.toList) : a = b := by
  obtain ⟨⟨x⟩⟩ := a
  obtain ⟨⟨y⟩⟩ := b
  have h : x = y := h
  rw [h]
theorem ext_front (p r : List UInt8) : (⟨(p ++ 10 :: r).toArray⟩ : ByteArray).extract 0 (p.length + 1) = ⟨(p ++ [10]).toArray⟩ := by
  refine bytes_ext ?_
  rw [Lib.extract_from_zero]
  show (p ++ 10 :: r).take (p.length + 1) = p ++ [10]
  rw [List.take_append, List.take_of_length_le (by omega), show p.length + 1 - p.length = 1 by omega]; rfl
theorem ext_back (p r : List UInt8) : (⟨(p ++ 10 :: r).toArray⟩ : ByteArray).extract (p.length + 1) (p ++ 10 :: r).length = ⟨r.toArray⟩ := by
  refine bytes_ext ?_
  have h := Lib.extract_to_end ⟨(p ++ 10 :: r).toArray⟩ (p.length + 1)
  rw [show (⟨(p ++ 10 :: r).toArray⟩ : ByteArray).size = (p ++ 10 :: r).length from by show (p ++ 10 :: r).toArray.size = _; rw [List.size_toArray]] at h
  rw [h]
  show (p ++ 10 :: r).drop (p.length + 1) = r
  rw [List.drop_append, List.drop_of_length_le (by omega), show p.length + 1 - p.length = 1 by omega]; rfl
end Go.Con
namespace Go.Proofs.YtcbmmkhbfookjaaDoor
open Go.RowKit Go.Con Go.Shelf
attribute [local go_sem] Oper.semAt_some
/-- how long a string in a box is -/
def boxLen (b : Nat) (w : World) : Nat := match w.cell? ⟨b, 0, none⟩ with | some v => strOf v | none => 0
/-- a box that holds a string -/
def StrBox (w : World) (b : Nat) (s : List UInt8) : Prop := w.heap[b]? = some (.cells #[.string ⟨s.toArray⟩] 9 (0, 0))
theorem StrBox.len {w : World} {b : Nat} {s : List UInt8} (h : StrBox w b s) : boxLen b w = s.length := by
  have h1 := cellAt h 0 rfl
  unfold boxLen
  rw [h1]
  show s.toArray.size = _
  rw [List.size_toArray]
theorem StrBox.set {w : World} {b : Nat} {s : List UInt8} (h : StrBox w b s) (r : List UInt8) : StrBox (w.setCell ⟨b, 0, none⟩ (.string ⟨r.toArray⟩)) b r := heapSet (o := 0) h _
set_option maxRecDepth 100000 in
set_option maxHeartbeats 4000000 in
theorem Lines1_in (n : Nat) (hn : 1 ≤ n) (l bx : Nat) (s : List UInt8) (hsl : s.length ≤ 4000000) (J Jx : List (List UInt8) → World → Prop)
    (hJ : ∀ pre W v, J pre W → J pre (W.setCell ⟨bx, 0, none⟩ v)) (hJd : ∀ pre W, J pre W → J pre W.drew)
    (hY : ∀ pre x rest W t, J pre W → linesOf s = pre ++ x :: rest → StrBox W bx t → YieldAt Fence.wide (n - 1) Tryd.prog l #[.string ⟨x.toArray⟩] W fun e W' =>
      (e = .returned (.bool true) ∧ J (pre ++ [x]) W' ∧ StrBox W' bx t) ∨ (e = .returned (.bool false) ∧ Jx (pre ++ [x]) W'))
    (W : World) (hb : StrBox W bx s) (h0 : J [] W) :
    CallsIn Fence.wide n Tryd.prog 22 #[.func (.yield l) #[] #[], .pointer (some ⟨bx, 0, none⟩)] W fun e W' => (∃ v, e = .returned v) ∧ (J (linesOf s) W' ∨ ∃ pre, Jx pre W') := by
  have HY := Lib.hid hY
  have HJ := Lib.hid hJ
  have HJD := Lib.hid hJd
  clear hY hJ hJd
  refine callsIn_of_wp Tryd.func22 rfl trivial ?_ rfl
  simp only [Tryd.ntmps22, List.size_toArray, List.length_cons, List.length_nil, Nat.reduceAdd, Nat.reduceSub, Array.replicate_succ, Array.replicate_zero, List.push_toArray, List.append_toArray, List.nil_append, List.cons_append]
  have inv0 : Hid (∃ pre rest, linesOf s = pre ++ linesOf rest ∧ J pre W ∧ StrBox W bx rest) := Lib.hid ⟨[], s, rfl, h0, hb⟩
  clear h0 hb
  gi_wp2
  gi_loopw [] (fun wr => Hid (∃ pre rest, linesOf s = pre ++ linesOf rest ∧ J pre wr ∧ StrBox wr bx rest)) (fun wr => boxLen bx wr)
  case atStart => exact inv0
  case round =>
    clear inv0
    obtain ⟨pre, rest, hs, hJ, hB⟩ := hrel.out
    have HS := Lib.hid hs
    have HBX := Lib.hid hB
    have HJW := Lib.hid hJ
    have b0 : wr.cell? ⟨bx, 0, none⟩ = some (.string ⟨rest.toArray⟩) := cellAt hB 0 rfl
    have bf := freeAt hB
    clear hs hJ hB hrel
    by_cases hr : rest = []
    · subst hr
      gi_wp2
      go_end0
      refine ⟨⟨_, rfl⟩, .inl ?_⟩
      have h1 := HS.out
      rw [show linesOf [] = [] from rfl, List.append_nil] at h1
      rw [h1]
      exact HJW.out
    · have hpos : 0 < rest.length := List.length_pos_iff.2 hr
      have hd : decide ((0 : Int) < rest.length) = true := by rw [decide_eq_true_eq]; omega
      clear hr
      rcases cut10 rest with ⟨h10, hi⟩ | ⟨p, r, hrest, h10, hi⟩
      · have IB : Hid (Calls Tryd.prog 23 #[.string ⟨rest.toArray⟩, .int .u8 10] wr fun e w' => e = .returned (.int .i64 (-1)) ∧ wr = w') := Lib.hid (by
          have h1 := ib_any ⟨rest.toArray⟩ 10 wr
          rw [show Lib.indexByte (⟨rest.toArray⟩ : ByteArray).data.toList ((10 : Int).toNat.toUInt8) = -1 from hi] at h1
          exact h1)
        obtain ⟨fn, tmps, assign, body, hy, hR⟩ := HY.out pre rest [] (wr.setCell ⟨bx, 0, none⟩ (.string ⟨#[]⟩)) [] (HJ.out _ _ _ HJW.out) (by rw [HS.out, linesOf_last rest h10 (List.length_pos_iff.1 hpos)]) (HBX.out.set [])
        clear hi
        gi_wp2_with (refine ⟨trivial, ?_⟩; gi_at_call 23; refine (callsIn_wide.2 IB.out).mono ?_; rintro e _ ⟨rfl, rfl⟩)
        refine hR.mono ?_
        rintro e W3 (⟨rfl, hJ3, hB3⟩ | ⟨rfl, hJ3⟩)
        · gi_wp2
          go_roundw
          case rel => exact Lib.hid ⟨pre ++ [rest], [], by rw [HS.out, linesOf_last rest h10 (List.length_pos_iff.1 hpos)]; simp [linesOf, linesAcc], hJ3, hB3⟩
          case measure => rw [hB3.len, HBX.out.len]; exact hpos
        · gi_wp2
          refine bodyPost_ret (results_none rfl _ _ _) rfl ?_
          exact ⟨⟨_, rfl⟩, .inr ⟨_, hJ3⟩⟩
      · have IB : Hid (Calls Tryd.prog 23 #[.string ⟨rest.toArray⟩, .int .u8 10] wr fun e w' => e = .returned (.int .i64 p.length) ∧ wr = w') := Lib.hid (by
          have h1 := ib_any ⟨rest.toArray⟩ 10 wr
          rw [show Lib.indexByte (⟨rest.toArray⟩ : ByteArray).data.toList ((10 : Int).toNat.toUInt8) = p.length from hi] at h1
          exact h1)
        obtain ⟨q, hq⟩ : ∃ q, q = p.length := ⟨_, rfl⟩
        rw [← hq] at IB
        have hql : q < rest.length := by rw [hq, hrest]; simp
        have HQ := Lib.hid hq
        have HR := Lib.hid hrest
        clear hi hq hrest
        gi_wp2_with (refine ⟨trivial, ?_⟩; gi_at_call 23; refine (callsIn_wide.2 IB.out).mono ?_; rintro e _ ⟨rfl, rfl⟩)
        have hmx : Tryd.prog.follows .mixedOrders = true := by kernel_rfl
        have hw1 : IntKind.i64.wrap ((q : Int) + 1) = (q : Int) + 1 := IntWalk.i64_in _ (by
          have h1 := congrArg (fun l => l.flatten.length) HS.out
          rw [List.flatten_append, linesOf_flat, linesOf_flat, List.length_append] at h1
          omega)
        have EX := Lib.hid (show (⟨rest.toArray⟩ : ByteArray).extract 0 (q + 1) = ⟨(p ++ [10]).toArray⟩ by
          rw [HR.out, HQ.out]
          exact ext_front p r)
        have ER := Lib.hid (show (⟨rest.toArray⟩ : ByteArray).extract (q + 1) rest.length = ⟨r.toArray⟩ by
          rw [HR.out, HQ.out]
          exact ext_back p r)
        have LR := Lib.hid (show linesOf s = pre ++ (p ++ [10]) :: linesOf r by rw [HS.out, HR.out, linesOf_line p r h10])
        obtain ⟨fn, tmps, assign, body, hy, hR⟩ := HY.out pre (p ++ [10]) (linesOf r) (wr.setCell ⟨bx, 0, none⟩ (.string ⟨r.toArray⟩)).drew r (HJD.out _ _ (HJ.out _ _ _ HJW.out)) LR.out (HBX.out.set r)
        have HYY := Lib.hid hy
        clear hy
        gi_region_with_o (fail)
        all_goals
          rw [EX.out, ER.out]
          have hy := HYY.out
          gi_wp2
          refine hR.mono ?_
          rintro e W3 (⟨rfl, hJ3, hB3⟩ | ⟨rfl, hJ3⟩)
          · gi_wp2
            go_roundw
            case rel => exact Lib.hid ⟨pre ++ [p ++ [10]], r, by rw [LR.out]; simp, hJ3, hB3⟩
            case measure => rw [hB3.len, HBX.out.len, HR.out]; simp; omega
          · gi_wp2
            refine bodyPost_ret (results_none rfl _ _ _) rfl ?_
            exact ⟨⟨_, rfl⟩, .inr ⟨_, hJ3⟩⟩
/-- what the range over the lines turns of its own: the iterator's box, its record, the block of the rounds' deferred calls -/
structure Turned (bx d : Nat) (W W' : World) : Prop where
  os : W'.os = W.os
  tape : W'.tape = W.tape
  output : W'.output = W.output
  size : W.heap.size ≤ W'.heap.size
  block : ∀ k, k < W.heap.size → k ≠ bx → k ≠ d → k ≠ d + 1 → W'.heap[k]? = W.heap[k]?
theorem Turned.setCell {bx d : Nat} (W : World) (o : Nat) (v : Value) : Turned bx d W (W.setCell ⟨bx, o, none⟩ v) :=
  ⟨rfl, rfl, rfl, by simp [World.setCell], fun k _ h _ _ => heapSet_ne _ _ h⟩
theorem Turned.drew {bx d : Nat} (W : World) : Turned bx d W W.drew := ⟨rfl, rfl, rfl, Nat.le_refl _, fun _ _ _ _ _ => rfl⟩
theorem Turned.alloc {bx d : Nat} (W : World) (o : Obj) : Turned bx d W (W.alloc o) := ⟨rfl, rfl, rfl, by simp, fun k h _ _ _ => Below.heap_alloc _ _ _ h⟩
theorem Turned.putObj {bx d q : Nat} (W : World) (o : Obj) (h : q = d ∨ q = d + 1) : Turned bx d W (W.putObj q o) :=
  ⟨rfl, rfl, rfl, by simp, fun k _ _ h1 h2 => World.putObj_heap_other (by omega)⟩
/-- what a round leaves as it was -/
structure Kept3 (bx d : Nat) (W W' : World) : Prop where
  box : W'.heap[bx]? = W.heap[bx]?
  d0 : W'.heap[d]? = W.heap[d]?
  d1 : W'.heap[d + 1]? = W.heap[d + 1]?
/-- how a round may be left -/
def linePost (bx d : Nat) (I : List (List UInt8) → World → Prop) (Ix : Code → List (List UInt8) → World → Prop) (xs : List (List UInt8)) (W : World) : Exit → Act → World → Prop
  | .normal, _, W' => Kept3 bx d W W' ∧ I xs W'
  | .ret, _, W' => Kept3 bx d W W' ∧ Ix .ret xs W'
  | .exit id, _, W' => Kept3 bx d W W' ∧ Ix (.exit id) xs W'
  | .goto t, _, W' => Kept3 bx d W W' ∧ Ix (.goto t) xs W'
  | .panic _, _, _ => False
  | .outgrown, _, _ => False
theorem range_lines {n : Nat} (h1 : 2 ≤ n) {g : Operand} {ps : Array Tmp} {assign body : Code} {Q : Exit → Act → World → Prop} {a : Act} {w : World} {bx : Nat} {s : List UInt8}
    (hg : a.eval g = .func (.func 22) #[] #[.pointer (some ⟨bx, 0, none⟩)]) (hps : ps.size = 1) (hsl : s.length ≤ 4000000) (hbx : StrBox w bx s)
    (I : List (List UInt8) → World → Prop) (Ix : Code → List (List UInt8) → World → Prop)
    (hI : ∀ pre W W', I pre W → Turned bx w.heap.size W W' → I pre W') (hIx : ∀ c pre W W', Ix c pre W → Turned bx w.heap.size W W' → Ix c pre W')
    (h0 : I [] w) (a₁ : List UInt8 → Act)
    (hassign : ∀ (l : Nat) (x : List UInt8) (W : World) (K : Act → World → Prop), K (a₁ x) W →
      assign.wpIn (Fence.wide.inRound l) (n - 1 - 1) Tryd.prog (Exit.then K (fun _ _ _ => False)) { tmps := (ps.zip #[.string ⟨x.toArray⟩]).foldl (fun t (p, v) => t.setIfInBounds p v) a.tmps, defers := [] } W)
    (hbody : ∀ (l : Nat) (pre : List (List UInt8)) (x : List UInt8) (rest : List (List UInt8)) (W : World), I pre W → linesOf s = pre ++ x :: rest → w.heap.size + 2 ≤ W.heap.size →
      body.wpIn (Fence.wide.inRound l) (n - 1 - 1) Tryd.prog (linePost bx w.heap.size I Ix (pre ++ [x]) W) (a₁ x) W)
    (hdone : ∀ (W : World), I (linesOf s) W → W.heap[w.heap.size]? = some (.deferred (some [])) → Q .normal { a with defers := { target := .collected w.heap.size, args := #[] } :: a.defers } W)
    (hstop : ∀ (c : Code) (pre : List (List UInt8)) (W : World), Ix c pre W → W.heap[w.heap.size]? = some (.deferred (some [])) → c.wpIn Fence.wide n Tryd.prog Q { a with defers := { target := .collected w.heap.size, args := #[] } :: a.defers } W) :
    (Code.rangeFunc g ps assign body).wpIn Fence.wide n Tryd.prog Q a w := by
  refine wpIn_rangeFunc (fun fn hfn => ?_)
  have hbl : bx < w.heap.size := lt_of_heap hbx
  obtain ⟨d, hd⟩ : ∃ d, d = w.heap.size := ⟨_, rfl⟩
  rw [← hd] at hI hIx hbody hdone hstop hbl
  obtain ⟨rc, hrc⟩ : ∃ rc : LoopState → Option Code → Loop, rc = fun st pe => { state := st, pending := pe, fn, tmps := a.tmps, params := ps, assign, body, defers := d } := ⟨_, rfl⟩
  obtain ⟨W1, hW1⟩ : ∃ W1, W1 = (w.alloc (.deferred (some []))).alloc (.loop (rc .ready none)) := ⟨_, rfl⟩
  have r1 : W1.heap[d + 1]? = some (.loop (rc .ready none)) := by rw [hW1, hd]; exact heapNew1 _ _ _
  have r0 : W1.heap[d]? = some (.deferred (some [])) := by rw [hW1, hd]; exact heapNew0 _ _ _
  have hb1 : StrBox W1 bx s := by
    unfold StrBox
    rw [hW1, Below.heap_alloc _ _ _ (by simp; omega), Below.heap_alloc _ _ _ (by omega)]; exact hbx
  have hI1 : I [] W1 := by rw [hW1]; exact hI _ _ _ (hI _ _ _ h0 (Turned.alloc _ _)) (Turned.alloc _ _)
  refine ⟨d + 1, [{ target := .collected d, args := #[] }], W1, { target := .fn (.func 22) #[.pointer (some ⟨bx, 0, none⟩)], args := #[.func (.yield (d + 1)) #[] #[]] }, W1, 22,
    #[.func (.yield (d + 1)) #[] #[]] ++ #[.pointer (some ⟨bx, 0, none⟩)], W1, ?_, ?_, fun _ _ => trivial, ?_, fun h => (by simp [Fence.wide] at h), trivial, ?_⟩
  · rw [hW1, hrc, hd]; exact run_enterLoop_outer _ _ _ _ _
  · simp only [resolve, hg]
    simp [go_sem]
  · simp [invoke, go_sem, enters_of Tryd.func22 (by kernel_rfl) rfl]
  · refine ((Lines1_in (n - 1) (by omega) (d + 1) bx s hsl
      (fun pre W => I pre W ∧ W.heap[d + 1]? = some (.loop (rc .ready none)) ∧ W.heap[d]? = some (.deferred (some [])))
      (fun pre W => ∃ c, Ix c pre W ∧ W.heap[d + 1]? = some (.loop (rc .done (some c))) ∧ W.heap[d]? = some (.deferred (some [])))
      (fun pre W v hj => ⟨hI _ _ _ hj.1 (Turned.setCell _ _ _), (heapSet_ne _ _ (by omega)).trans hj.2.1, (heapSet_ne _ _ (by omega)).trans hj.2.2⟩)
      (fun pre W hj => ⟨hI _ _ _ hj.1 (Turned.drew _), hj.2.1, hj.2.2⟩) ?_ W1 hb1 ⟨hI1, r1, r0⟩).mono ?_).2
    · rintro pre x rest W t ⟨hi, hl, hk⟩ hlines hbox
      have hlt : d + 1 < W.heap.size := lt_of_heap hl
      have hy := run_yield (P := Tryd.prog) (args := #[.string ⟨x.toArray⟩]) hl (by rw [hrc]; simp [hps])
      rw [hrc] at hy
      refine ⟨fn, _, assign, body, hy, roundIn_of_wpIn hfn (hassign _ x W _ ⟨_, run_beginRound hl (by rw [hrc]), ?_⟩)⟩
      obtain ⟨W2, hW2⟩ : ∃ W2, W2 = W.putObj (d + 1) (.loop { rc .ready none with state := .busy }) := ⟨_, rfl⟩
      have l2 : W2.heap[d + 1]? = some (.loop { rc .ready none with state := .busy }) := by rw [hW2]; exact World.putObj_heap_same hlt
      have k2 : W2.heap[d]? = some (.deferred (some [])) := by rw [hW2]; exact (World.putObj_heap_other (by omega)).trans hk
      have b2 : StrBox W2 bx t := by unfold StrBox; rw [hW2]; exact (World.putObj_heap_other (by omega)).trans hbox
      have i2 : I pre W2 := by rw [hW2]; exact hI _ _ _ hi (Turned.putObj _ _ (.inr rfl))
      have s2 : d + 2 ≤ W2.heap.size := by rw [hW2]; simp; omega
      rw [← hW2]
      refine wpIn_mono (hbody _ pre x rest W2 i2 hlines s2) ?_
      have fin : ∀ (jump : Option Code) (W3 : World), Kept3 bx d W2 W3 →
          (Instr.endRound (d + 1) jump).run Tryd.prog W3 = .ok (.bool jump.isNone) (W3.putObj (d + 1) (.loop (rc (if jump.isNone then .ready else .done) jump))) ∧
          (W3.putObj (d + 1) (.loop (rc (if jump.isNone then .ready else .done) jump))).heap[d + 1]? = some (.loop (rc (if jump.isNone then .ready else .done) jump)) ∧
          (W3.putObj (d + 1) (.loop (rc (if jump.isNone then .ready else .done) jump))).heap[d]? = some (.deferred (some [])) ∧
          StrBox (W3.putObj (d + 1) (.loop (rc (if jump.isNone then .ready else .done) jump))) bx t := fun jump W3 hk3 => by
        have l3 := hk3.d1.trans l2
        have e := run_endRound (P := Tryd.prog) jump l3
        refine ⟨by rw [hrc] at e ⊢; exact e, World.putObj_heap_same (lt_of_heap l3), (World.putObj_heap_other (by omega)).trans (hk3.d0.trans k2), ?_⟩
        unfold StrBox
        exact (World.putObj_heap_other (by omega)).trans (hk3.box.trans b2)
      rintro e a3 W3 hp
      cases e with
      | normal =>
        obtain ⟨hk3, hi3⟩ := hp
        obtain ⟨hr, l4, k4, b4⟩ := fin none W3 hk3
        exact ⟨_, _, hr, .inl ⟨rfl, ⟨hI _ _ _ hi3 (Turned.putObj _ _ (.inr rfl)), l4, k4⟩, b4⟩⟩
      | ret =>
        obtain ⟨hk3, hi3⟩ := hp
        obtain ⟨hr, l4, k4, b4⟩ := fin (some .ret) W3 hk3
        exact ⟨_, _, hr, .inr ⟨rfl, .ret, hIx _ _ _ _ hi3 (Turned.putObj _ _ (.inr rfl)), l4, k4⟩⟩
      | exit id =>
        obtain ⟨hk3, hi3⟩ := hp
        obtain ⟨hr, l4, k4, b4⟩ := fin (some (.exit id)) W3 hk3
        exact ⟨_, _, hr, .inr ⟨rfl, .exit id, hIx _ _ _ _ hi3 (Turned.putObj _ _ (.inr rfl)), l4, k4⟩⟩
      | goto t =>
        obtain ⟨hk3, hi3⟩ := hp
        obtain ⟨hr, l4, k4, b4⟩ := fin (some (.goto t)) W3 hk3
        exact ⟨_, _, hr, .inr ⟨rfl, .goto t, hIx _ _ _ _ hi3 (Turned.putObj _ _ (.inr rfl)), l4, k4⟩⟩
      | panic ch => exact hp.elim
      | outgrown => exact hp.elim
    · rintro e W2 ⟨⟨v, rfl⟩, ⟨hi, hl, hk⟩ | ⟨pre, c, hi, hl, hk⟩⟩
      · exact ⟨none, _, by have h := run_endLoop (P := Tryd.prog) hl (by rw [hrc]; simp); rw [hrc] at h; exact h, hdone _ (hI _ _ _ hi (Turned.putObj _ _ (.inr rfl))) ((World.putObj_heap_other (by omega)).trans hk)⟩
      · exact ⟨some c, _, by have h := run_endLoop (P := Tryd.prog) hl (by rw [hrc]; simp); rw [hrc] at h; exact h, hstop c pre _ (hIx _ _ _ _ hi (Turned.putObj _ _ (.inr rfl))) ((World.putObj_heap_other (by omega)).trans hk)⟩
end Go.Proofs.YtcbmmkhbfookjaaDoor
