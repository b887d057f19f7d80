/-
  The walk of lines.act: the act of a line.
-/
import Derived.Test.YtcbmmkhbfookjaaDoorLnN
import Derived.Lib.SplitLaws
import Derived.Test.YtcbmmkhbfookjaaDoorStp
set_option linter.unusedVariables false
set_option linter.unusedSimpArgs false
namespace Go.Con
open Go
/-- the kind of a word: the last one of the table, up to a place -/
def kindTo (w : List UInt8) : Nat → Nat
  | 0 => 0
  | j + 1 => if 0 < j ∧ wordsL.getD j [] = w then j else kindTo w j
theorem kindTo_le (w : List UInt8) : ∀ j, kindTo w j ≤ j
  | 0 => Nat.le_refl _
  | j + 1 => by
    unfold kindTo
    split
    · omega
    · exact Nat.le_succ_of_le (kindTo_le w j)
/-- what Atoi gives -/
def atoiV (l : List UInt8) : Int := match Lib.atoiAll l with | .ok v => v | .range => Lib.atoiSat l | _ => 0
theorem atoiV_rest (l : List UInt8) (h1 : ∀ v, Lib.atoiAll l ≠ .ok v) (h2 : Lib.atoiAll l ≠ .range) : atoiV l = 0 := by
  unfold atoiV
  cases h : Lib.atoiAll l with
  | ok v => exact absurd h (h1 v)
  | range => exact absurd h h2
  | _ => rfl
theorem atoiV_ok {l : List UInt8} {v : Int} (h : Lib.atoiAll l = .ok v) : atoiV l = v := by unfold atoiV; rw [h]
theorem atoiV_range {l : List UInt8} (h : Lib.atoiAll l = .range) : atoiV l = Lib.atoiSat l := by unfold atoiV; rw [h]
/-- the numbers of a line, as far as they are there -/
def numsTo (C : List Int) (l : List (Nat × Int)) (P : List ByteArray) : Nat → List Int
  | 0 => C
  | i + 1 => if i + 1 < P.length then (numsTo C l P i).set (l.getD i (0, 0)).1 (atoiV (P.getD (i + 1) default).data.toList) else numsTo C l P i
theorem numsTo_length (C : List Int) (l : List (Nat × Int)) (P : List ByteArray) : ∀ i, (numsTo C l P i).length = C.length
  | 0 => rfl
  | i + 1 => by
    unfold numsTo
    split
    · rw [List.length_set]; exact numsTo_length C l P i
    · exact numsTo_length C l P i
theorem numsTo_head (C : List Int) (l : List (Nat × Int)) (P : List ByteArray) : ∀ i, i ≤ l.length → (∀ x ∈ l, 1 ≤ x.1) → (numsTo C l P i).getD 0 0 = C.getD 0 0
  | 0, _, _ => rfl
  | i + 1, hi, h => by
    have ih := numsTo_head C l P i (by omega) h
    unfold numsTo
    split
    · have h1 : 1 ≤ (l.getD i (0, 0)).1 := h _ (by rw [List.getD_eq_getElem?_getD, List.getElem?_eq_getElem (by omega)]; exact List.getElem_mem _)
      rw [List.getD_eq_getElem?_getD, List.getElem?_set_ne (by omega), ← List.getD_eq_getElem?_getD]
      exact ih
    · exact ih
/-- the words of a line -/
def partsL (s : List UInt8) : List ByteArray := Lib.splitB ⟨#[32]⟩ 0 (Lib.countB ⟨(Lib.trimSuffix s [10]).toArray⟩ ⟨#[32]⟩) ⟨(Lib.trimSuffix s [10]).toArray⟩
/-- the digit's number, as the code reckons it -/
def nibV (c : UInt8) : Int := Lib.indexByte [48, 49, 50, 51, 52, 53, 54, 55, 56, 57, 97, 98, 99, 100, 101, 102] c
/-- the kind of a line -/
def kindOf (s : List UInt8) : Nat := kindTo ((partsL s).getD 0 default).toList 10
/-- the numbers of a line's act, the kind first -/
def actC (s : List UInt8) : List Int := numsTo [(kindOf s : Int), 0, 0, 0] (slotsOf (kindOf s)) (partsL s) (slotsOf (kindOf s)).length
/-- a byte of two digits, as the code reckons it -/
def hexV (a b : UInt8) : UInt8 := UInt8.ofNat (IntKind.u8.wrap (bits .or .i64 (IntKind.i64.wrap (nibV a * 16)) (bits .and .i64 (nibV b) 15))).toNat
def unhexL : List UInt8 → List UInt8
  | a :: b :: l => hexV a b :: unhexL l
  | _ => []
/-- the bytes of a line's act -/
def actD (s : List UInt8) : List UInt8 := if kindOf s = 1 ∧ 2 < (partsL s).length then unhexL ((partsL s).getD 2 default).data.toList else []
end Go.Con
namespace Go.Proofs.YtcbmmkhbfookjaaDoor
open Go.RowKit Go.Con
/-- what act gives -/
def ActPost (w : World) (s : List UInt8) (e : Ending) (w' : World) : Prop := ∃ n a p dv, actC s = [(kindOf s : Int), n, a, p] ∧ e = .returned (.agg #[.int .i64 (kindOf s : Nat), .int .i64 n, .int .i64 a, .int .i64 p, dv]) ∧ Own w' w.heap.size dv (actD s) ∧ Below w.heap.size w w'
/-- what the package's variables hold: those that reading needs -/
structure LnR (w : World) : Prop where
  words : ∀ i, i < 10 → w.cell? ⟨0, i, none⟩ = some (.string ⟨(wordsL.getD i []).toArray⟩)
  max : ∃ m, w.cell? ⟨1, 0, none⟩ = some (.int .i64 m)
  errS : ∃ tp p, w.var? Tryd.prog "strconv.ErrSyntax" = some #[.iface tp p]
  errR : ∃ tp p, w.var? Tryd.prog "strconv.ErrRange" = some #[.iface tp p]
theorem var_below {w w' : World} {n : String} {cs : Array Value} (h : w.var? Tryd.prog n = some cs) (hb : Below w.heap.size w w') : w'.var? Tryd.prog n = some cs := by
  unfold World.var? at h ⊢
  cases hg : Tryd.prog.globalNamed n with
  | none => rw [hg] at h; cases h
  | some g =>
    rw [hg] at h
    simp only [Option.bind_some] at h ⊢
    have hlt : g < w.heap.size := by
      rcases Nat.lt_or_ge g w.heap.size with h1 | h1
      · exact h1
      · rw [Array.getElem?_eq_none h1] at h; cases h
    rw [hb.block g hlt]
    exact h
theorem LnR.stay {w w' : World} (h : LnR w) (hb : Below w.heap.size w w') : LnR w' := by
  obtain ⟨h1, ⟨m, h2⟩, ⟨t1, p1, h3⟩, ⟨t2, p2, h4⟩⟩ := h
  exact ⟨fun i hi => (World.cell?_of_block (w := w) (hb.block _ (World.block_lt_of_cell? w _ (h1 i hi)))).trans (h1 i hi), ⟨m, (World.cell?_of_block (w := w) (hb.block _ (World.block_lt_of_cell? w _ h2))).trans h2⟩, ⟨t1, p1, var_below h3 hb⟩, ⟨t2, p2, var_below h4 hb⟩⟩
theorem atoi_any (s : ByteArray) (w : World) (hs : s.size ≤ 281474976710656) (hw : LnR w) :
    Calls Tryd.prog 26 #[.string s] w fun e w' => ∃ ev, e = .returned (.tuple #[.int .i64 (atoiV s.data.toList), ev]) ∧ Below w.heap.size w w' := by
  obtain ⟨t1, p1, h3⟩ := hw.errS
  obtain ⟨t2, p2, h4⟩ := hw.errR
  by_cases ho : ∃ v, Lib.atoiAll s.data.toList = .ok v
  · obtain ⟨v, h⟩ := ho
    rw [atoiV_ok h]
    refine (Tryd.strconv_Atoi_ok s (by omega) v h w).mono ?_
    rintro e w' ⟨rfl, h5⟩
    refine ⟨_, rfl, ?_⟩
    rcases h5 with rfl | ⟨t, rfl⟩
    · exact Below.refl _ _
    · exact Lib.bytesWorld_below _ _ _
  · by_cases hr : Lib.atoiAll s.data.toList = .range
    · rw [atoiV_range hr]
      refine (Tryd.strconv_Atoi_range_var s hs hr t2 p2 w h4).mono ?_
      rintro e w' ⟨N, rfl, -, -, h5⟩
      exact ⟨_, rfl, h5⟩
    · rw [atoiV_rest _ (fun v h => ho ⟨v, h⟩) hr]
      refine (Tryd.strconv_Atoi_form_var s hs (fun v h => ho ⟨v, h⟩) hr t1 p1 w h3).mono ?_
      rintro e w' ⟨N, rfl, -, -, h5⟩
      exact ⟨_, rfl, h5⟩
/-- the words, as a value -/
def wordsV : Value := .agg #[.string ⟨#[]⟩, .string ⟨#[115, 117, 98, 109, 105, 116]⟩, .string ⟨#[108, 101, 97, 100]⟩, .string ⟨#[115, 116, 101, 112]⟩, .string ⟨#[99, 97, 114, 114, 121]⟩, .string ⟨#[108, 111, 115, 101]⟩, .string ⟨#[100, 111, 117, 98, 108, 101]⟩, .string ⟨#[97, 108, 108]⟩, .string ⟨#[99, 114, 97, 115, 104]⟩, .string ⟨#[115, 116, 97, 114, 116]⟩]
theorem indexW (j : Nat) (hj : j < 10) (W : World) : (Instr.index 64 (.agg #[.string ⟨#[]⟩, .string ⟨#[115, 117, 98, 109, 105, 116]⟩, .string ⟨#[108, 101, 97, 100]⟩, .string ⟨#[115, 116, 101, 112]⟩, .string ⟨#[99, 97, 114, 114, 121]⟩, .string ⟨#[108, 111, 115, 101]⟩, .string ⟨#[100, 111, 117, 98, 108, 101]⟩, .string ⟨#[97, 108, 108]⟩, .string ⟨#[99, 114, 97, 115, 104]⟩, .string ⟨#[115, 116, 97, 114, 116]⟩]) (.int .i64 j)).run Tryd.prog W = .ok (.string ⟨(wordsL.getD j []).toArray⟩) W := by
  have h10 : j = 0 ∨ j = 1 ∨ j = 2 ∨ j = 3 ∨ j = 4 ∨ j = 5 ∨ j = 6 ∨ j = 7 ∨ j = 8 ∨ j = 9 := by omega
  rcases h10 with rfl | rfl | rfl | rfl | rfl | rfl | rfl | rfl | rfl | rfl <;> (show _ = _; kernel_rfl)
/-- what the loop over the words keeps -/
structure WdInv (w1 wr : World) (rb : Nat) (K : Nat) : Prop where
  at2 : wr.heap[rb + 2]? = some (.cells #[.int .i64 K, .int .i64 0, .int .i64 0, .int .i64 0, .slice none 0 0] 32 (0, 0))
  below : Below (rb + 2) w1 wr
  size : wr.heap.size = w1.heap.size
/-- what the loop over the numbers keeps -/
structure NmInv (w1 wr : World) (rb lo : Nat) (v : Value) (l : List (Nat × Int)) (C : List Int) : Prop where
  at2 : wr.heap[rb + 2]? = some (.cells (actCells C (.slice none 0 0)) 32 (0, 0))
  sl : SlotsAt wr v (rb + 2) lo l
  below : Below (rb + 2) w1 wr
theorem NmInv.stay {w1 wr w' : World} {rb lo : Nat} {v : Value} {l : List (Nat × Int)} {C : List Int} (h : NmInv w1 wr rb lo v l C) (hb : Below wr.heap.size wr w') : NmInv w1 w' rb lo v l C := by
  have h1 := lt_of_heap h.at2
  exact ⟨(hb.block _ h1).trans h.at2, h.sl.below hb, h.below.trans (hb.mono (by omega))⟩
theorem actCells_put (C : List Int) (dv : Value) (f : Nat) (y : Int) (h : f < C.length) : (actCells C dv).setIfInBounds f (.int .i64 y) = actCells (C.set f y) dv := by
  unfold actCells
  simp [List.set_append, h, List.map_set]
theorem NmInv.put {w1 wr : World} {rb lo : Nat} {v : Value} {l : List (Nat × Int)} {C : List Int} (h : NmInv w1 wr rb lo v l C) (hlo : rb + 2 < lo) (f : Nat) (y : Int) (hf : f < C.length) : NmInv w1 (wr.setCell ⟨rb + 2, f, none⟩ (.int .i64 y)) rb lo v l (C.set f y) := by
  refine ⟨by rw [heapSet h.at2, actCells_put C _ f y hf], ?_, h.below.setCell (Nat.le_refl _) _⟩
  rcases h.sl with h1 | ⟨s, h1, h2, h3⟩
  · exact .inl h1
  · exact .inr ⟨s, h1, h2, (heapSet_ne _ _ (by omega)).trans h3⟩
theorem u8_wrap_range (z : Int) : 0 ≤ IntKind.u8.wrap z ∧ IntKind.u8.wrap z < 256 := by
  rw [IntKind.wrap_u8]; omega
theorem unhexL_len : ∀ l : List UInt8, (unhexL l).length ≤ l.length
  | [] => Nat.le_refl _
  | [_] => Nat.zero_le _
  | a :: b :: l => by
    have := unhexL_len l
    show (unhexL l).length + 1 ≤ l.length + 1 + 1
    omega
theorem step_callL {P : Program} {ops : Array Oper} {o : Oper} {a : Act} {w : World} {K : Act → World → Prop} {Q : Exit → Act → World → Prop} {E : Prop} (hg : o.guard = none) (f : FuncId) (args : Array Value) (he : (execOp a.eval o).run P w = .ok (.enter f args) w)
    (h : Calls P f args w fun e w' => ∃ v, e = .returned v ∧ K (a.put o.dst v) w') : if Region.wanted o (yielded ops a.tmps) = true then Oper.wp P o a w K Q else E := by
  have hw : Region.wanted o (yielded ops a.tmps) = true := by simp [Region.wanted, hg]
  rw [if_pos hw]
  unfold Oper.wp
  rw [he, Oper.upon_enter]
  refine h.mono ?_
  rintro e w' ⟨v, rfl, hk⟩
  exact hk
/-- what the loop over the digits keeps -/
structure DgInv (w1 wr : World) (rb K : Nat) (n a p : Int) (dv : Value) (D : List UInt8) : Prop where
  at2 : wr.heap[rb + 2]? = some (.cells #[.int .i64 K, .int .i64 n, .int .i64 a, .int .i64 p, dv] 32 (0, 0))
  own : Own wr (rb + 3) dv D
  below : Below (rb + 2) w1 wr
structure LaterL (T : Prop) : Prop where
  out : T
theorem cutToL {T G : Prop} (h : LaterL T → G) (t : T) : G := h ⟨t⟩
theorem cut2 (x y : UInt8) (r : List UInt8) : (⟨(x :: y :: r).toArray⟩ : ByteArray).extract 2 (r.length + 1 + 1) = ⟨r.toArray⟩ := by
  rw [ByteArray.extract_mk]
  congr 1
  simp
theorem unhexL_short {l : List UInt8} (h : ¬ 1 < l.length) : unhexL l = [] := by
  match l, h with
  | [], _ => rfl
  | [_], _ => rfl
  | _ :: _ :: _, h => exact absurd (by simp) h
theorem DgInv.put {w1 wr w5 : World} {rb K : Nat} {n a p : Int} {dv : Value} {D : List UInt8} (h : DgInv w1 wr rb K n a p dv D) {va : Option Addr} {vc : Nat} {c : UInt8} {o : Obj} (ho : Own w5 (rb + 3) (.slice va (D ++ [c]).length vc) (D ++ [c])) (hg : ((wr.alloc o).drew).grownBy w5 dv.ownBlock)
    (hx : w5.heap[rb + 2]? = some (.cells #[.int .i64 K, .int .i64 n, .int .i64 a, .int .i64 p, dv] 32 (0, 0))) : DgInv w1 (w5.setCell ⟨rb + 2, 4, none⟩ (.slice va (D.length + 1) vc)) rb K n a p (.slice va (D.length + 1) vc) (D ++ [c]) := by
  have hl : (D ++ [c]).length = D.length + 1 := by simp
  rw [hl] at ho
  have hwr := lt_of_heap h.at2
  refine ⟨heapSet (o := 4) hx _, ?_, ?_⟩
  · exact row_ofHeap ho (fun k hk => heapSet_ne _ _ (by have := (row_lt ho k hk).1; omega))
  · refine Below.setCell (p := ⟨rb + 2, 4, none⟩) ?_ (Nat.le_refl _) _
    exact ((h.below.alloc (by omega) o).drew).grown hg (by show rb + 2 ≤ (wr.alloc o).heap.size; simp; omega) (fun k hk => by have := (row_lt h.own k hk).1; omega)
/-- a string's length, of a value -/
def strOf : Value → Nat
  | .string b => b.size
  | _ => 0
theorem ib_any (s : ByteArray) (c : Int) (w : World) : Calls Tryd.prog 23 #[.string s, .int .u8 c] w fun e w' => e = .returned (.int .i64 (Lib.indexByte s.data.toList c.toNat.toUInt8)) ∧ w = w' :=
  (Tryd.strings_IndexByte s c w).mono fun e w' h => ⟨h.1, h.2.symm⟩
theorem parts_len (s : List UInt8) : 1 ≤ (partsL s).length := by
  unfold partsL
  rw [Lib.splitB_all _ (by decide) 0 _ _ rfl]
  omega
theorem splitB_size (sep : ByteArray) : ∀ (k : Nat) (s q : ByteArray), q ∈ Lib.splitB sep 0 k s → q.size ≤ s.size
  | 0, s, q, h => by
    rw [Lib.splitB_zero] at h
    rw [List.mem_singleton.1 h]; exact Nat.le_refl _
  | k + 1, s, q, h => by
    unfold Lib.splitB at h
    split at h
    · rw [List.mem_singleton.1 h]; exact Nat.le_refl _
    · rcases List.mem_cons.1 h with h | h
      · rw [h, ByteArray.size_extract]; omega
      · have h1 := splitB_size sep k _ q h
        rw [ByteArray.size_extract] at h1
        omega
theorem parts_size (s : List UInt8) (q : ByteArray) (h : q ∈ partsL s) : q.size ≤ s.length := by
  unfold partsL at h
  have h1 := splitB_size _ _ _ q h
  have h2 : (⟨(Lib.trimSuffix s [10]).toArray⟩ : ByteArray).size = (Lib.trimSuffix s [10]).length := by show (Lib.trimSuffix s [10]).toArray.size = _; rw [List.size_toArray]
  rw [h2] at h1
  have hl : (Lib.trimSuffix s [10]).length ≤ s.length := by
    unfold Lib.trimSuffix
    split
    · rw [List.length_take]; omega
    · exact Nat.le_refl _
  omega
theorem split_any (s : List UInt8) (w : World) (hs : s.length < 4294967281) (hw : LnR w) :
    Calls Tryd.prog 24 #[.string ⟨(Lib.trimSuffix s [10]).toArray⟩, .string ⟨#[32]⟩] w fun e w' => ∃ b n, Hid (n = (partsL s).length) ∧ e = .returned (.slice (some ⟨b, 0, none⟩) n n) ∧ Hid (b = w.heap.size) ∧ w'.heap[b]? = some (.cells ((partsL s).map Value.string).toArray 9 (0, 0)) ∧ Below w.heap.size w w' ∧ w'.heap.size = w.heap.size + 1 := by
  obtain ⟨m, hm⟩ := hw.max
  have hl : (Lib.trimSuffix s [10]).length ≤ s.length := by
    unfold Lib.trimSuffix
    split
    · rw [List.length_take]; omega
    · exact Nat.le_refl _
  refine (Tryd.strings_Split ⟨(Lib.trimSuffix s [10]).toArray⟩ ⟨#[32]⟩ m w (by show (Lib.trimSuffix s [10]).toArray.size < _; rw [List.size_toArray]; omega) hm (by decide)).mono ?_
  rintro e w' ⟨rfl, rfl⟩
  refine ⟨_, _, Lib.hid ?_, rfl, Lib.hid rfl, heapNew _ _, (Below.refl _ _).alloc (Nat.le_refl _) _, by simp⟩
  unfold partsL
  rw [Lib.splitB_all _ (by decide) 0 _ _ rfl]
set_option maxRecDepth 100000 in
set_option maxHeartbeats 4000000 in
theorem act_any (s : List UInt8) (w : World) (hs : s.length ≤ 4000000) (hw : LnR w) :
    Calls Tryd.prog 17 #[.string ⟨s.toArray⟩] w (ActPost w s) := by
  have HV := Lib.hid hw
  clear hw
  go_enter Tryd.func17, Tryd.ntmps17
  go_upto_region 2 with (first
    | (go_at_call 25; refine (Tryd.strings_TrimSuffix _ _ _ (by show s.toArray.size ≤ _; rw [List.size_toArray]; omega)).mono ?_; rintro e _ ⟨rfl, rfl⟩)
    | (go_at_call 24; refine (split_any s _ (by omega) (HV.out.stay ((Below.refl _ _).alloc (Nat.le_refl _) _))).mono ?_; rintro e w2 ⟨sb, np, h1, rfl, h2, h3, h4, h5⟩; have HNP := h1; have HSB := h2; have SP := Lib.hid h3; have B2 := Lib.hid h4; have S2 := Lib.hid h5; clear h1 h2 h3 h4 h5))
  obtain ⟨rb, hrb⟩ : ∃ x, x = w.heap.size := ⟨_, rfl⟩
  have S2' : w2.heap.size = rb + 2 := by rw [S2.out, hrb]; simp
  have HSB' : sb = rb + 1 := by rw [HSB.out, hrb]; simp
  have R2 := Lib.hid (show w2.heap[rb]? = some (.cells #[.int .i64 0, .int .i64 0, .int .i64 0, .int .i64 0, .slice none 0 0] 32 (0, 0)) by rw [hrb]; exact (B2.out.block _ (by simp)).trans (heapNew _ _))
  have BW2 := Lib.hid (show Below rb w w2 by rw [hrb]; exact ((Below.refl _ _).alloc (Nat.le_refl _) _).trans (B2.out.mono (by simp)))
  rw [← hrb]
  have HRB := Lib.hid hrb
  clear hrb B2 S2 HSB
  subst HSB'
  go_upto_region 3 with fail
  generalize hW : World.alloc _ _ = w1
  have A1 := Lib.hid (show w1.heap[rb + 2]? = some (.cells #[.int .i64 0, .int .i64 0, .int .i64 0, .int .i64 0, .slice none 0 0] 32 (0, 0)) by rw [← hW, ← S2']; exact heapNew _ _)
  have B1 := Lib.hid (show Below (rb + 2) w2 w1 by rw [← hW]; exact (Below.refl _ _).alloc (by omega) _)
  have S1 := Lib.hid (show w1.heap.size = rb + 3 by rw [← hW]; simp; omega)
  clear hW S2'
  have SP1 := Lib.hid ((B1.out.block _ (by omega)).trans SP.out)
  have R1 := Lib.hid ((B1.out.block _ (by omega)).trans R2.out)
  have BW1 := Lib.hid (show Below w.heap.size w w1 by rw [← HRB.out]; exact BW2.out.trans (B1.out.mono (by omega)))
  have V1 := Lib.hid (HV.out.stay BW1.out)
  clear SP R2 BW2 B1
  have v0 : w1.cell? ⟨0, 0, none⟩ = some (.string ⟨#[]⟩) := V1.out.words 0 (by decide)
  have v1 : w1.cell? ⟨0, 1, none⟩ = some (.string ⟨#[115, 117, 98, 109, 105, 116]⟩) := V1.out.words 1 (by decide)
  have v2 : w1.cell? ⟨0, 2, none⟩ = some (.string ⟨#[108, 101, 97, 100]⟩) := V1.out.words 2 (by decide)
  have v3 : w1.cell? ⟨0, 3, none⟩ = some (.string ⟨#[115, 116, 101, 112]⟩) := V1.out.words 3 (by decide)
  have v4 : w1.cell? ⟨0, 4, none⟩ = some (.string ⟨#[99, 97, 114, 114, 121]⟩) := V1.out.words 4 (by decide)
  have v5 : w1.cell? ⟨0, 5, none⟩ = some (.string ⟨#[108, 111, 115, 101]⟩) := V1.out.words 5 (by decide)
  have v6 : w1.cell? ⟨0, 6, none⟩ = some (.string ⟨#[100, 111, 117, 98, 108, 101]⟩) := V1.out.words 6 (by decide)
  have v7 : w1.cell? ⟨0, 7, none⟩ = some (.string ⟨#[97, 108, 108]⟩) := V1.out.words 7 (by decide)
  have v8 : w1.cell? ⟨0, 8, none⟩ = some (.string ⟨#[99, 114, 97, 115, 104]⟩) := V1.out.words 8 (by decide)
  have v9 : w1.cell? ⟨0, 9, none⟩ = some (.string ⟨#[115, 116, 97, 114, 116]⟩) := V1.out.words 9 (by decide)
  go_upto_region 4 with fail
  clear v0 v1 v2 v3 v4 v5 v6 v7 v8 v9
  obtain ⟨p0, P, hP⟩ : ∃ p0 P, partsL s = p0 :: P := by
    have h1 := parts_len s
    cases h : partsL s with
    | nil => rw [h] at h1; cases h1
    | cons a l => exact ⟨a, l, rfl⟩
  have HP := Lib.hid hP
  have hn1 : 1 ≤ np := by rw [HNP.out]; exact parts_len s
  have hn1i : (1 : Int) ≤ np := by omega
  have hn0i : (0 : Int) < np := by omega
  have P0 := Lib.hid (show w1.cell? ⟨rb + 1, 0, none⟩ = some (.string p0) from cellAt SP1.out 0 (by rw [hP]; rfl))
  clear hP
  have inv0 : Hid (WdInv w1 w1 rb (kindTo p0.toList 0)) := Lib.hid ⟨A1.out, Below.refl _ _, rfl⟩
  go_loopw [16] (fun i wr => ∃ j : Nat, j ≤ 10 ∧ i = .int .i64 j ∧ Hid (WdInv w1 wr rb (kindTo p0.toList j))) (fun i _ => 10 - (intOf i).toNat)
  case atStart => exact ⟨0, by omega, rfl, inv0⟩
  case round =>
    clear inv0
    obtain ⟨j, hjn, rfl, HI⟩ := hrel
    have y0 := (HI.out.below.cell (p := ⟨rb + 1, 0, none⟩) (by show rb + 1 < rb + 2; omega)).trans P0.out
    by_cases hj : j < 10
    · have hd1 : decide ((j : Int) < 10) = true := by rw [decide_eq_true_eq]; omega
      have hd1n : decide (j < 10) = true := by rw [decide_eq_true_eq]; omega
      have hix := indexW j hj wr
      have a0 := cellAt HI.out.at2 0 rfl
      have af := freeAt HI.out.at2
      by_cases hj0 : j = 0
      · have hd2 : decide (0 < (j : Int)) = false := by rw [decide_eq_false_iff_not]; omega
        have hd2n : decide (0 < j) = false := by rw [decide_eq_false_iff_not]; omega
        have NK := Lib.hid (show kindTo p0.toList (j + 1) = kindTo p0.toList j by rw [kindTo, if_neg (fun h => by omega)])
        clear hj0
        go_wp2_with fail
        exact ⟨⟨j + 1, by omega, by go_num, Lib.hid (by rw [NK.out]; exact HI.out)⟩, by simp [intOf]; omega⟩
      · have hd2 : decide (0 < (j : Int)) = true := by rw [decide_eq_true_eq]; omega
        have hd2n : decide (0 < j) = true := by rw [decide_eq_true_eq]; omega
        by_cases hw : wordsL.getD j [] = p0.toList
        · have hb : (wordsL[j]?.getD [] == p0.toList) = true := by rw [← List.getD_eq_getElem?_getD, hw]; simp
          have NK := Lib.hid (show kindTo p0.toList (j + 1) = j by rw [kindTo, if_pos ⟨by omega, hw⟩])
          clear hw
          go_wp2_with fail
          refine ⟨⟨j + 1, by omega, by go_num, Lib.hid ?_⟩, by simp [intOf]; omega⟩
          rw [NK.out]
          exact ⟨heapSet (o := 0) HI.out.at2 _, HI.out.below.setCell (Nat.le_refl _) _, by rw [← HI.out.size]; simp [World.setCell]⟩
        · have hb : (wordsL[j]?.getD [] == p0.toList) = false := by rw [← List.getD_eq_getElem?_getD, beq_eq_false_iff_ne]; exact hw
          have NK := Lib.hid (show kindTo p0.toList (j + 1) = kindTo p0.toList j by rw [kindTo, if_neg (fun h => hw h.2)])
          clear hw
          go_wp2_with fail
          exact ⟨⟨j + 1, by omega, by go_num, Lib.hid (by rw [NK.out]; exact HI.out)⟩, by simp [intOf]; omega⟩
    · have hj2 : j = 10 := by omega
      subst hj2
      obtain ⟨K, hK⟩ : ∃ K, K = kindTo p0.toList 10 := ⟨_, rfl⟩
      rw [← hK] at HI
      have hK9 : K ≤ 9 := by
        rw [hK]
        unfold kindTo
        split
        · omega
        · exact kindTo_le _ 9
      have HK := Lib.hid hK
      clear hK y0
      have AW := Lib.hid HI.out.at2
      have BW := Lib.hid HI.out.below
      have SW := Lib.hid HI.out.size
      clear HI
      have a0 := cellAt AW.out 0 rfl
      have hk0 : (0 : Int) ≤ K := by omega
      have hk9 : (K : Int) ≤ 9 := by omega
      go_upto_region 10 with (go_at_call 19; refine (slots_all (rb + 2) _ _ _ _ _ _ AW.out hk0 hk9).mono ?_; rintro e w3 ⟨sa, sc, fl, rfl, h1, h2⟩; have SL := Lib.hid h1; have B3 := Lib.hid h2; clear h1 h2)
      have N3 := Lib.hid (show NmInv w1 w3 rb wr.heap.size (.slice sa (slotsOf K).length sc) (slotsOf K) [(K : Int), 0, 0, 0] from ⟨(B3.out.block _ (lt_of_heap AW.out)).trans AW.out, SL.out, BW.out.trans (B3.out.mono (by have := lt_of_heap AW.out; omega))⟩)
      obtain ⟨L, hL⟩ : ∃ L, L = slotsOf K := ⟨_, rfl⟩
      rw [← hL] at N3 ⊢
      have hL2 : L.length ≤ 2 ∧ ∀ x ∈ L, 1 ≤ x.1 ∧ x.1 ≤ 3 := by rw [hL]; exact slotsOf_ok K
      have hl2 := hL2.1
      have HL2 := Lib.hid hL2.2
      have HL := Lib.hid hL
      obtain ⟨nl, hnl⟩ : ∃ x, x = L.length := ⟨_, rfl⟩
      rw [← hnl] at N3 hl2 ⊢
      have HNL := Lib.hid hnl
      have hlo : rb + 2 < wr.heap.size := lt_of_heap AW.out
      obtain ⟨lo, hlo2⟩ : ∃ x, x = wr.heap.size := ⟨_, rfl⟩
      rw [← hlo2] at N3 hlo
      clear hL hL2 hnl a0 SL B3 hlo2 AW BW SW
      have inv1 : Hid (NmInv w1 w3 rb lo (.slice sa nl sc) L (numsTo [(K : Int), 0, 0, 0] L (partsL s) 0)) := N3
      go_upto_region 11 with fail
      go_loopw [38] (fun i wr => ∃ j : Nat, j ≤ nl ∧ i = .int .i64 j ∧ Hid (NmInv w1 wr rb lo (.slice sa nl sc) L (numsTo [(K : Int), 0, 0, 0] L (partsL s) j))) (fun i _ => nl - (intOf i).toNat)
      case atStart => exact ⟨0, by omega, rfl, inv1⟩
      case round =>
        clear inv1 N3
        obtain ⟨j, hjn, rfl, HI⟩ := hrel
        by_cases hj : j < nl
        · have hd1 : decide ((j : Int) < nl) = true := by rw [decide_eq_true_eq]; omega
          have hd1n : decide (j < nl) = true := by rw [decide_eq_true_eq]; omega
          have hjL : j < L.length := by rw [← HNL.out]; exact hj
          obtain ⟨f, m, hfm⟩ : ∃ f m, L.getD j (0, 0) = (f, m) := ⟨_, _, rfl⟩
          have hf3 : 1 ≤ f ∧ f ≤ 3 := by
            have h1 := HL2.out (L.getD j (0, 0)) (by rw [List.getD_eq_getElem?_getD, List.getElem?_eq_getElem hjL]; exact List.getElem_mem _)
            rw [hfm] at h1
            exact h1
          obtain ⟨sb, hsb, hlo2, hsl⟩ : ∃ sb, sa = some ⟨sb, 0, none⟩ ∧ lo ≤ sb ∧ wr.heap[sb]? = some (.cells (slotCells (rb + 2) L).toArray 63 (0, 0)) := by
            rcases HI.out.sl with ⟨h1, -⟩ | ⟨sb, h1, h2, h3⟩
            · rw [h1] at hjL; cases hjL
            · injection h1 with h4
              exact ⟨sb, h4, h2, h3⟩
          subst hsb
          obtain ⟨g0, g1⟩ := slotCells_at (rb + 2) L j hjL
          rw [hfm] at g0 g1
          have s0 : wr.cell? ⟨sb, j * 2, none⟩ = some (.pointer (some ⟨rb + 2, f, none⟩)) := cellAt hsl _ (by rw [List.getElem?_toArray]; exact g0)
          have s1 : wr.cell? ⟨sb, j * 2 + 1, none⟩ = some (.int .i64 m) := cellAt hsl _ (by rw [List.getElem?_toArray]; exact g1)
          have HFM := Lib.hid hfm
          have hw1 : IntKind.i64.wrap ((j : Int) + 1) = (j : Int) + 1 := IntWalk.i64_in _ (by omega)
          clear g0 g1 hsl hfm
          go_upto_region 13 with fail
          generalize hW : World.alloc _ _ = w4
          have T10 := Lib.hid (show w4.heap[wr.heap.size]? = some (.cells #[.pointer (some ⟨rb + 2, f, none⟩), .int .i64 m] 63 (0, 0)) by rw [← hW]; exact heapNew _ _)
          have N4 := Lib.hid (HI.out.stay (show Below wr.heap.size wr w4 by rw [← hW]; exact (Below.refl _ _).alloc (Nat.le_refl _) _))
          have hs4 : wr.heap.size < w4.heap.size := by rw [← hW]; simp
          obtain ⟨tb, htb⟩ : ∃ x, x = wr.heap.size := ⟨_, rfl⟩
          have hrbl := lt_of_heap HI.out.at2
          rw [← htb] at T10 hs4 hrbl ⊢
          clear hW htb s0 s1
          by_cases hp : j + 1 < np
          · have hd2 : decide ((j : Int) + 1 < np) = true := by rw [decide_eq_true_eq]; omega
            have hpl : j + 1 < (partsL s).length := by rw [← HNP.out]; exact hp
            obtain ⟨q, hq⟩ : ∃ q, q = (partsL s).getD (j + 1) default := ⟨_, rfl⟩
            have y0 : w4.cell? ⟨rb + 1, j + 1, none⟩ = some (.string q) := by
              refine (N4.out.below.cell (p := ⟨rb + 1, j + 1, none⟩) (by show rb + 1 < rb + 2; omega)).trans (cellAt SP1.out _ ?_)
              rw [hq, List.getElem?_toArray, List.getElem?_map, List.getD_eq_getElem?_getD, List.getElem?_eq_getElem hpl]; rfl
            have t0 := cellAt T10.out 0 rfl
            have NX := Lib.hid (show numsTo [(K : Int), 0, 0, 0] L (partsL s) (j + 1) = (numsTo [(K : Int), 0, 0, 0] L (partsL s) j).set f (atoiV q.data.toList) by rw [numsTo, if_pos hpl, HFM.out, ← hq])
            go_upto_region 14 with fail
            have V4 := Lib.hid (HV.out.stay (show Below w.heap.size w w4 from BW1.out.trans (N4.out.below.mono (by rw [← HRB.out]; omega))))
            have hb0 : (0 : Int) ≤ (j : Int) + 1 := by omega
            have hb1 : (j : Int) + 1 < np := by omega
            have QS := Lib.hid (show q.size ≤ 281474976710656 by
              have h1 := parts_size s q (by rw [hq, List.getD_eq_getElem?_getD, List.getElem?_eq_getElem hpl]; exact List.getElem_mem _)
              omega)
            clear hq
            have hCl : f < (numsTo [(K : Int), 0, 0, 0] L (partsL s) j).length := by rw [numsTo_length]; show f < 4; omega
            have hnt : ¬ (tb = rb + 2) := by omega
            have hnt' : ¬ (rb + 2 = tb) := by omega
            have AT4 := N4.out.at2
            have a0 := cellAt AT4 f (actCells_at _ _ f hCl)
            have af := freeAt AT4
            have T10L := lt_of_heap T10.out
            go_region_held3 (fun w' => w'.cell? ⟨tb, 0, none⟩ = some (.pointer (some ⟨rb + 2, f, none⟩)) ∧ w'.cell? ⟨rb + 1, j + 1, none⟩ = some (.string q)) (first | exact SS | go_keep)
              (first | (go_at_call 26; refine (atoi_any q _ QS.out (V4.out.stay (below_drewN (Below.refl _ _) 1))).mono ?_; rintro e w5 ⟨ev, rfl, h1⟩; have h2 : Below w4.heap.size w4 w5 := (below_drewN (Below.refl _ _) 1).trans h1; have N5 := Lib.hid (N4.out.stay h2); have SS := And.intro ((World.cell?_of_block (w := w4) (h2.block tb T10L)).trans t0) ((World.cell?_of_block (w := w4) (h2.block (rb + 1) (by omega))).trans y0); have a0 := cellAt N5.out.at2 f (actCells_at _ _ f hCl); have af := freeAt N5.out.at2; clear h1 h2))
            all_goals
              have NEW := Lib.hid (N5.out.put hlo f (atoiV q.data.toList) hCl)
              rw [← NX.out] at NEW
              generalize World.setCell _ _ _ = w6 at NEW ⊢
              clear SS a0 af
              go_wp2_with fail
              go_roundw
              case rel => exact ⟨j + 1, by omega, by go_num, NEW⟩
              case measure => simp [intOf]; omega
          · have hd2 : decide ((j : Int) + 1 < np) = false := by rw [decide_eq_false_iff_not]; omega
            have hpl : ¬ j + 1 < (partsL s).length := by rw [← HNP.out]; exact hp
            have NX := Lib.hid (show numsTo [(K : Int), 0, 0, 0] L (partsL s) (j + 1) = numsTo [(K : Int), 0, 0, 0] L (partsL s) j by rw [numsTo, if_neg hpl])
            have NEW := Lib.hid N4.out
            rw [← NX.out] at NEW
            go_wp2_with fail
            go_roundw
            case rel => exact ⟨j + 1, by omega, by go_num, NEW⟩
            case measure => simp [intOf]; omega
        · have hj2 : j = nl := by omega
          subst hj2
          have hd1 : decide ((j : Int) < j) = false := by simp
          have hd1n : decide (j < j) = false := by simp
          obtain ⟨C, hC⟩ : ∃ C, C = numsTo [(K : Int), 0, 0, 0] L (partsL s) j := ⟨_, rfl⟩
          rw [← hC] at HI
          have HCC := Lib.hid hC
          have hCl : C.length = 4 := by rw [hC, numsTo_length]; rfl
          have hC0 : C.getD 0 0 = K := by rw [hC, numsTo_head _ _ _ _ (by rw [← HNL.out]; exact Nat.le_refl _) (fun x hx => (HL2.out x hx).1)]; rfl
          clear hC
          obtain ⟨c0, n, a, p, rfl⟩ : ∃ c0 n a p, C = [c0, n, a, p] := by
            match C, hCl with
            | [c0, n, a, p], _ => exact ⟨c0, n, a, p, rfl⟩
          have hC0 : c0 = K := hC0
          have KO := Lib.hid (show kindOf s = K by rw [kindOf, HP.out, HK.out]; rfl)
          have CO := Lib.hid (show actC s = [c0, n, a, p] by rw [actC, KO.out, ← HL.out, ← HNL.out, HCC.out])
          subst hC0
          have AT := Lib.hid (show wr.heap[rb + 2]? = some (.cells #[.int .i64 K, .int .i64 n, .int .i64 a, .int .i64 p, .slice none 0 0] 32 (0, 0)) from HI.out.at2)
          have BT := Lib.hid HI.out.below
          have RT := Lib.hid ((BT.out.block rb (by omega)).trans R1.out)
          have BWT := Lib.hid (show Below w.heap.size w wr from BW1.out.trans (BT.out.mono (by rw [← HRB.out]; omega)))
          have hnr : ¬ (rb = rb + 2) := by omega
          have hnr' : ¬ (rb + 2 = rb) := by omega
          clear HI hCl
          have a0 := cellAt AT.out 0 rfl
          by_cases hdt : K = 1 ∧ 2 < np
          · have he1 : ((K : Int) == 1) = true := by rw [beq_iff_eq]; omega
            have hnp2 := hdt.2
            have he2 : decide ((2 : Int) < np) = true := by rw [decide_eq_true_eq]; omega
            have hn2i : (2 : Int) < np := by omega
            have hpl : 2 < (partsL s).length := by rw [← HNP.out]; exact hnp2
            obtain ⟨l2, hl2'⟩ : ∃ l : List UInt8, (partsL s).getD 2 default = ⟨l.toArray⟩ := ⟨((partsL s).getD 2 default).data.toList, by simp⟩
            have y2 : wr.cell? ⟨rb + 1, 2, none⟩ = some (.string ⟨l2.toArray⟩) := by
              refine (BT.out.cell (p := ⟨rb + 1, 2, none⟩) (by show rb + 1 < rb + 2; omega)).trans (cellAt SP1.out _ ?_)
              rw [← hl2', List.getElem?_toArray, List.getElem?_map, List.getD_eq_getElem?_getD, List.getElem?_eq_getElem hpl]; rfl
            have HL2' := Lib.hid hl2'
            clear hl2' hpl
            go_upto_region 18 with fail
            have HDT := Lib.hid hdt
            clear hdt he1 he2
            have inv2 : Hid (∃ dv D, DgInv w1 wr rb K n a p dv D ∧ unhexL l2 = D ++ unhexL l2) := Lib.hid ⟨_, [], ⟨AT.out, Own.nil _ _, BT.out⟩, rfl⟩
            clear a0 y2
            go_loopw [11] (fun v wr => ∃ l : List UInt8, v = .string ⟨l.toArray⟩ ∧ Hid (∃ dv D, DgInv w1 wr rb K n a p dv D ∧ unhexL l2 = D ++ unhexL l)) (fun v _ => strOf v)
            case atStart => exact ⟨l2, rfl, inv2⟩
            case round =>
              clear inv2 AT BT RT BWT
              obtain ⟨l, rfl, HI⟩ := hrel
              by_cases hlen : 1 < l.length
              · have hd3 : decide ((1 : Int) < l.length) = true := by rw [decide_eq_true_eq]; omega
                obtain ⟨x, y, r, rfl⟩ : ∃ x y r, l = x :: y :: r := by
                  match l, hlen with
                  | x :: y :: r, _ => exact ⟨x, y, r, rfl⟩
                obtain ⟨dv, D, hdg, hun⟩ := HI.out
                obtain ⟨da, dc, hdv, -, -⟩ := hdg.own.rd.slice
                subst hdv
                have DG := Lib.hid hdg
                have HUN := Lib.hid hun
                clear hdg hun HI
                have i0 : (0 : Int) < (r.length : Int) + 1 + 1 := by omega
                have i1 : (1 : Int) < (r.length : Int) + 1 + 1 := by omega
                have d4 := cellAt DG.out.at2 4 rfl
                have df := freeAt DG.out.at2
                have hwr : rb + 3 ≤ wr.heap.size := lt_of_heap DG.out.at2
                go_upto_region 20 with fail
                obtain ⟨X, hX⟩ : ∃ X, X = IntKind.u8.wrap (bits .or .i64 (IntKind.i64.wrap (nibV x * 16)) (bits .and .i64 (nibV y) 15)) := ⟨_, rfl⟩
                have hXb : X = ((hexV x y).toNat : Int) := by
                  have h1 := u8_wrap_range (bits .or .i64 (IntKind.i64.wrap (nibV x * 16)) (bits .and .i64 (nibV y) 15))
                  rw [← hX] at h1
                  unfold hexV
                  rw [← hX, UInt8.toNat_ofNat']
                  omega
                have OWN : Hid (∀ o, Own ((wr.alloc o).drew) (rb + 3) (.slice da D.length dc) D) := Lib.hid fun o => (DG.out.own.alloc o).drewN 1
                have RDX := Lib.hid (show Rd ((wr.alloc (.cells #[.int .u8 X] 5)).drew) (.slice (some ⟨wr.heap.size, 0, none⟩) 1 1) [hexV x y] from (ownNew1 wr (rb + 3) X (hexV x y) hXb hwr).rd.drewN 1)
                rw [hX] at RDX
                have LEN := Lib.hid (show D.length + [hexV x y].length ≤ 140737488355328 by
                  have h1 := congrArg List.length HUN.out
                  rw [List.length_append] at h1
                  have h2 := unhexL_len l2
                  have h3 := parts_size s ((partsL s).getD 2 default) (by rw [List.getD_eq_getElem?_getD, List.getElem?_eq_getElem (by rw [← HNP.out]; exact hnp2)]; exact List.getElem_mem _)
                  rw [HL2'.out] at h3
                  have h4 : (⟨l2.toArray⟩ : ByteArray).size = l2.length := by show l2.toArray.size = _; rw [List.size_toArray]
                  rw [h4] at h3
                  show D.length + 1 ≤ _
                  omega)
                clear hX hXb
                have d4a : ∀ o, (wr.alloc o).cell? ⟨rb + 2, 4, none⟩ = some (.slice da D.length dc) := fun o => (((Below.refl wr.heap.size wr).alloc (Nat.le_refl _) o).cell (p := ⟨rb + 2, 4, none⟩) (lt_of_heap DG.out.at2)).trans d4
                have ex : ∀ h, (⟨(x :: y :: r).toArray⟩ : ByteArray)[0]'h = x := fun _ => rfl
                have ey : ∀ h, (⟨(x :: y :: r).toArray⟩ : ByteArray)[1]'h = y := fun _ => rfl
                refine' cutToL (fun key => _) _
                rotate_left 1
                · skip
                  go_region_law (first
                    | (refine step_callL rfl 23 #[.string ⟨#[48, 49, 50, 51, 52, 53, 54, 55, 56, 57, 97, 98, 99, 100, 101, 102]⟩, .int .u8 (x.toNat : Int)] ?_ ?_; (focus (simp [go_sem, ex, ey]; done)); refine (ib_any _ _ _).mono ?_; rintro e _ ⟨rfl, rfl⟩; refine ⟨_, rfl, ?_⟩)
                    | (refine step_callL rfl 23 #[.string ⟨#[48, 49, 50, 51, 52, 53, 54, 55, 56, 57, 97, 98, 99, 100, 101, 102]⟩, .int .u8 (y.toNat : Int)] ?_ ?_; (focus (simp [go_sem, ex, ey]; done)); refine (ib_any _ _ _).mono ?_; rintro e _ ⟨rfl, rfl⟩; refine ⟨_, rfl, ?_⟩)
                    | (refine step_apB rfl (.tmp 78) (.tmp 89) rfl (rb + 3) _ _ D [hexV x y] rfl ?_ rfl ?_ LEN.out ?_ ?_; (focus (exact OWN.out _)); (focus (exact RDX.out)); (focus (show rb + 3 ≤ (wr.alloc _).heap.size; simp; omega)); intro v' w5 ho hg; obtain ⟨va, vc, hv', -, -⟩ := ho.rd.slice; subst hv'; have O5 := Lib.hid ho; have G5 := Lib.hid hg; have x5 := (hg.block (rb + 2) (by simp; omega) (fun h => by have h9 := (row_lt DG.out.own (rb + 2) h.symm).1; omega)).trans ((heapOld wr _ (rb + 2) (lt_of_heap DG.out.at2)).trans DG.out.at2); have SS := cellAt x5 4 rfl; have af := freeAt x5; have X5 := Lib.hid x5; clear ho hg x5))
                  all_goals
                    have HH := DG.out.put O5.out G5.out X5.out
                    generalize World.setCell _ _ _ = w6 at HH ⊢
                    clear O5 G5 X5 SS af
                    revert HH
                    revert w6
                    revert va vc
                    exact key.out
                · rintro va vc w6 HH
                  have HD6 := Lib.hid HH
                  clear HH d4 df d4a
                  have hc2 := cut2 x y r
                  go_wp2_with fail
                  refine ⟨⟨r, rfl, Lib.hid ⟨_, _, HD6.out, HUN.out.trans (by show D ++ (hexV x y :: unhexL r) = D ++ [hexV x y] ++ unhexL r; simp)⟩⟩, ?_⟩
                  show r.toArray.size < (x :: y :: r).toArray.size
                  simp
                  omega
              · obtain ⟨dv, D, hdg, hun⟩ := HI.out
                have hd3 : decide ((1 : Int) < l.length) = false := by rw [decide_eq_false_iff_not]; omega
                rw [unhexL_short hlen, List.append_nil] at hun
                obtain ⟨da, dc, hdv, -, -⟩ := hdg.own.rd.slice
                subst hdv
                have DG := Lib.hid hdg
                have HUN := Lib.hid hun
                have RT := Lib.hid ((DG.out.below.block rb (by omega)).trans R1.out)
                have BWT := Lib.hid (show Below w.heap.size w wr from BW1.out.trans (DG.out.below.mono (by rw [← HRB.out]; omega)))
                clear hdg hun HI
                have a0 := cellAt DG.out.at2 0 rfl
                have a1 := cellAt DG.out.at2 1 rfl
                have a2 := cellAt DG.out.at2 2 rfl
                have a3 := cellAt DG.out.at2 3 rfl
                have a4 := cellAt DG.out.at2 4 rfl
                have r0 := cellAt RT.out 0 rfl
                have r1 := cellAt RT.out 1 rfl
                have r2 := cellAt RT.out 2 rfl
                have r3 := cellAt RT.out 3 rfl
                have r4 := cellAt RT.out 4 rfl
                have rf := freeAt RT.out
                go_wp2_with fail
                have z5 : (((((wr.setCell ⟨rb, 0, none⟩ (.int .i64 K)).setCell ⟨rb, 1, none⟩ (.int .i64 n)).setCell ⟨rb, 2, none⟩ (.int .i64 a)).setCell ⟨rb, 3, none⟩ (.int .i64 p)).setCell ⟨rb, 4, none⟩ (.slice da D.length dc)).heap[rb]? = some (.cells #[.int .i64 K, .int .i64 n, .int .i64 a, .int .i64 p, .slice da D.length dc] 32 (0, 0)) := heapSet (o := 4) (heapSet (o := 3) (heapSet (o := 2) (heapSet (o := 1) (heapSet (o := 0) RT.out _) _) _) _) _
                have b5 : Below w.heap.size w (((((wr.setCell ⟨rb, 0, none⟩ (.int .i64 K)).setCell ⟨rb, 1, none⟩ (.int .i64 n)).setCell ⟨rb, 2, none⟩ (.int .i64 a)).setCell ⟨rb, 3, none⟩ (.int .i64 p)).setCell ⟨rb, 4, none⟩ (.slice da D.length dc)) := by
                  have hle : w.heap.size ≤ rb := by rw [HRB.out]; exact Nat.le_refl _
                  exact ((((BWT.out.setCell hle _).setCell hle _).setCell hle _).setCell hle _).setCell hle _
                have o5 : Own (((((wr.setCell ⟨rb, 0, none⟩ (.int .i64 K)).setCell ⟨rb, 1, none⟩ (.int .i64 n)).setCell ⟨rb, 2, none⟩ (.int .i64 a)).setCell ⟨rb, 3, none⟩ (.int .i64 p)).setCell ⟨rb, 4, none⟩ (.slice da D.length dc)) (rb + 3) (.slice da D.length dc) D := row_ofHeap DG.out.own (fun k hk => by
                  have h9 := (row_lt DG.out.own k hk).1
                  rw [heapSet_ne _ _ (by omega), heapSet_ne _ _ (by omega), heapSet_ne _ _ (by omega), heapSet_ne _ _ (by omega), heapSet_ne _ _ (by omega)])
                generalize World.setCell _ _ _ = w5 at z5 b5 o5 ⊢
                clear a0 a1 a2 a3 a4 r0 r1 r2 r3 r4 rf
                have e0 := cellAt z5 0 rfl
                have e1 := cellAt z5 1 rfl
                have e2 := cellAt z5 2 rfl
                have e3 := cellAt z5 3 rfl
                have e4 := cellAt z5 4 rfl
                refine bodyPost_ret (v := .agg #[.int .i64 K, .int .i64 n, .int .i64 a, .int .i64 p, .slice da D.length dc]) ?_ rfl ⟨n, a, p, .slice da D.length dc, ?_, ?_, ?_, b5⟩
                · simp [results, Tryd.results17, go_sem, e0, e1, e2, e3, e4]
                · rw [KO.out]; exact CO.out
                · rw [KO.out]
                · rw [actD, if_pos ⟨by rw [KO.out]; exact HDT.out.1, by rw [← HNP.out]; exact HDT.out.2⟩, HL2'.out]
                  have e9 : (⟨l2.toArray⟩ : ByteArray).data.toList = l2 := rfl
                  rw [e9, HUN.out]
                  exact o5.mono (by rw [HRB.out]; omega)
          · have a1 := cellAt AT.out 1 rfl
            have a2 := cellAt AT.out 2 rfl
            have a3 := cellAt AT.out 3 rfl
            have a4 := cellAt AT.out 4 rfl
            have r0 := cellAt RT.out 0 rfl
            have r1 := cellAt RT.out 1 rfl
            have r2 := cellAt RT.out 2 rfl
            have r3 := cellAt RT.out 3 rfl
            have r4 := cellAt RT.out 4 rfl
            have rf := freeAt RT.out
            have hex : (((K : Int) == 1) = false) ∨ (((K : Int) == 1) = true ∧ decide ((2 : Int) < np) = false) := by
              by_cases h1 : K = 1
              · exact .inr ⟨by rw [beq_iff_eq]; omega, by rw [decide_eq_false_iff_not]; omega⟩
              · exact .inl (by rw [beq_eq_false_iff_ne]; omega)
            rcases hex with he1 | ⟨he1, he2⟩
            all_goals
              go_wp2_with fail
              have z5 : (((((wr.setCell ⟨rb, 0, none⟩ (.int .i64 K)).setCell ⟨rb, 1, none⟩ (.int .i64 n)).setCell ⟨rb, 2, none⟩ (.int .i64 a)).setCell ⟨rb, 3, none⟩ (.int .i64 p)).setCell ⟨rb, 4, none⟩ (.slice none 0 0)).heap[rb]? = some (.cells #[.int .i64 K, .int .i64 n, .int .i64 a, .int .i64 p, .slice none 0 0] 32 (0, 0)) := heapSet (o := 4) (heapSet (o := 3) (heapSet (o := 2) (heapSet (o := 1) (heapSet (o := 0) RT.out _) _) _) _) _
              have b5 : Below w.heap.size w (((((wr.setCell ⟨rb, 0, none⟩ (.int .i64 K)).setCell ⟨rb, 1, none⟩ (.int .i64 n)).setCell ⟨rb, 2, none⟩ (.int .i64 a)).setCell ⟨rb, 3, none⟩ (.int .i64 p)).setCell ⟨rb, 4, none⟩ (.slice none 0 0)) := by
                have hle : w.heap.size ≤ rb := by rw [HRB.out]; exact Nat.le_refl _
                exact ((((BWT.out.setCell hle _).setCell hle _).setCell hle _).setCell hle _).setCell hle _
              generalize World.setCell _ _ _ = w5 at z5 b5 ⊢
              clear a0 a1 a2 a3 a4 r0 r1 r2 r3 r4 rf
              have e0 := cellAt z5 0 rfl
              have e1 := cellAt z5 1 rfl
              have e2 := cellAt z5 2 rfl
              have e3 := cellAt z5 3 rfl
              have e4 := cellAt z5 4 rfl
              refine bodyPost_ret (v := .agg #[.int .i64 K, .int .i64 n, .int .i64 a, .int .i64 p, .slice none 0 0]) ?_ rfl ⟨n, a, p, .slice none 0 0, ?_, ?_, ?_, b5⟩
              · simp [results, Tryd.results17, go_sem, e0, e1, e2, e3, e4]
              · rw [KO.out]; exact CO.out
              · rw [KO.out]
              · rw [actD, if_neg (by rw [KO.out, ← HNP.out]; exact hdt)]; exact Own.nil _ _
end Go.Proofs.YtcbmmkhbfookjaaDoor
