/-
  The walk of slices.Insert of one vote into votes of the call's own.
-/
import Derived.Test.YtdkbajdnckmckaaClV
import Derived.Laws.CopyRow
import Derived.Laws.Externs
import Derived.Lib.Overlaps
import Derived.Deep.RegionLaw
set_option linter.unusedVariables false
set_option linter.unusedSimpArgs false
namespace Go
open Go.RowKit Go.Con
/-- copy into a row, of elements of k cells -/
theorem run_copy_rowK {P : Program} (w : World) (dT sT ty elem : TypeId) (g o dLen dCap : Nat) (a : Addr) (sLen sCap k m : Nat) (cur : Array Value) (t : TypeId) (cs : List Value)
    (hu : P.underlying dT = some (.slice elem)) (hs : (P.info? elem).map (·.size) = some k)
    (hg : w.heap[g]? = some (.cells cur t (0, 0))) (hm : m = Nat.min sLen dLen) (hn : cs.length = m * k)
    (hsrc : ∀ j v, cs[j]? = some v → w.cell? (a.add j) = some v) (hfit : o + cs.length ≤ cur.size) (h1 : ∀ v ∈ cs, v.oneCell' = true) :
    (Builtin.copy_ #[dT, sT] ty #[.slice (some ⟨g, o, none⟩) dLen dCap, .slice (some a) sLen sCap]).run P w =
      .ok (goInt m) (w.setRow g (cur.toList.take o ++ cs ++ cur.toList.drop (o + cs.length)).toArray) := by
  have hl := run_loadCells_list (P := P) w a cs hsrc
  have hst := run_storeCells_at P g o t cs 0 cur w hg (by simpa using hfit) h1
  cases hq : P.info? elem with
  | none => simp [hq] at hs
  | some i =>
    have hi : i.size = k := by simpa [hq] using hs
    rw [hn] at hl
    simp [Builtin.copy_, run_underlying hu, Builtin.lenOf, Builtin.firstCells, sizeOf, typeInfo, hq, hi, ← hm, hl, hst]
theorem wp_copy_runI {P : Program} (w : World) {o : Oper} {a : Act} {K : Act → World → Prop} {Q : Exit → Act → World → Prop} (d s : Operand) (t t' : TypeId)
    (ho : o.op = .call { callee := .builtin .copy, args := #[d, s], argTypes := #[t, t'] }) (v u : Value) (hd : a.eval d = v) (hs : a.eval s = u) {v' : Value} {w' : World}
    (hr : (Builtin.copy_ #[t, t'] o.type #[v, u]).run P w = .ok v' w') (h : K (a.put o.dst v') w') : o.wp P a w K Q := by
  unfold Oper.wp execOp
  simp only [ho, resolve, invoke, builtin, Sem.run_bind, Sem.run_pure, Result.andThen_ok, List.map_toArray, List.map_cons, List.map_nil, hd, hs, hr]
  exact h
theorem wpList_copy_runI {P : Program} (w : World) {ops : Array Oper} {rest : List Oper} {o : Oper} {a : Act} {Q : Exit → Act → World → Prop} (hgd : o.guard = none) (d s : Operand) (t t' : TypeId)
    (ho : o.op = .call { callee := .builtin .copy, args := #[d, s], argTypes := #[t, t'] }) (v u : Value) (hd : a.eval d = v) (hs : a.eval s = u) {v' : Value} {w' : World}
    (hr : (Builtin.copy_ #[t, t'] o.type #[v, u]).run P w = .ok v' w') (h : wpList P ops Q rest (a.put o.dst v') w') : wpList P ops Q (o :: rest) a w :=
  wpList_plain hgd fun _ hK => wp_copy_runI w d s t t' ho v u hd hs hr (hK _ _ h)
theorem step_copy_runI {P : Program} {ops : Array Oper} {o : Oper} {a : Act} {w : World} {K : Act → World → Prop} {Q : Exit → Act → World → Prop} {E : Prop}
    (hg : o.guard = none) (d x : Operand) (dT sT : TypeId) (hop : o.op = Op.call { callee := Callee.builtin Builtin.copy, args := #[d, x], argTypes := #[dT, sT] })
    (v u : Value) (hd : a.eval d = v) (hx : a.eval x = u) {v' : Value} {w' : World} (hr : (Builtin.copy_ #[dT, sT] o.type #[v, u]).run P w = .ok v' w') (hK : K (a.put o.dst v') w') :
    if Region.wanted o (yielded ops a.tmps) = true then Oper.wp P o a w K Q else E := by
  have hw : Region.wanted o (yielded ops a.tmps) = true := by simp [Region.wanted, hg]
  rw [if_pos hw]
  exact wp_copy_runI w d x dT sT hop v u hd hx hr hK
theorem shift_list {A X D R : List Value} {k : Nat} (hX : X.length = k) (hR : k ≤ R.length) :
    (((A ++ D ++ R).take (A.length + k) ++ D ++ (A ++ D ++ R).drop (A.length + k + D.length)).take A.length ++ X ++ ((A ++ D ++ R).take (A.length + k) ++ D ++ (A ++ D ++ R).drop (A.length + k + D.length)).drop (A.length + k)).take (A.length + k + D.length) = A ++ X ++ D := by
  have h1 : ((A ++ D ++ R).take (A.length + k)).length = A.length + k := by simp; omega
  have h2 : ((A ++ D ++ R).take (A.length + k) ++ D ++ (A ++ D ++ R).drop (A.length + k + D.length)).take A.length = A := by
    rw [List.append_assoc, List.take_append_of_le_length (by rw [h1]; omega), List.take_take, show min A.length (A.length + k) = A.length by omega, List.append_assoc, List.take_left']
    rfl
  have h3 : ((A ++ D ++ R).take (A.length + k) ++ D ++ (A ++ D ++ R).drop (A.length + k + D.length)).drop (A.length + k) = D ++ (A ++ D ++ R).drop (A.length + k + D.length) := by
    rw [List.append_assoc, List.drop_left' h1]
  rw [h2, h3, ← List.append_assoc, List.take_left']
  simp; omega
theorem grow_list {A X D Z : List Value} {k : Nat} (hX : X.length = k) (hZ : k + D.length ≤ Z.length) :
    ((((A ++ Z).take A.length ++ X ++ (A ++ Z).drop (A.length + k)).take (A.length + k) ++ D ++ ((A ++ Z).take A.length ++ X ++ (A ++ Z).drop (A.length + k)).drop (A.length + k + D.length))).take (A.length + k + D.length) = A ++ X ++ D := by
  have h1 : (A ++ Z).take A.length = A := List.take_left' rfl
  have h2 : (A ++ X ++ (A ++ Z).drop (A.length + k)).take (A.length + k) = A ++ X := List.take_left' (by simp; omega)
  rw [h1, h2, List.take_left']
  simp; omega
end Go
namespace Go.Proofs.Ytdkbajdnckmckaa
open Go.RowKit Go.Con
theorem rowOne' {W : World} {g : Nat} {v : Vot} (h : W.heap[g]? = some (.cells (votCells v).toArray 32 (0, 0))) : RdV W (.slice (some ⟨g, 0, none⟩) 1 1) [v] := by
  refine ⟨_, _, rfl, Nat.le_refl _, by decide, fun _ => ⟨_, _, rfl, lt_of_heap h, fun i hi j hj => ?_⟩⟩
  have hi0 : i = 0 := by simpa using hi
  subst hi0
  rw [Nat.mul_zero, Nat.zero_add, Nat.zero_add]
  have hlt : j < (votCells v).length := hj
  have : (([v] : List Vot).getD 0 Vot.zero) = v := rfl
  rw [this, List.getElem?_eq_getElem hlt]
  exact cellAt h j (by simp [hlt])
theorem votCells_len (l : List Vot) : (l.flatMap votCells).length = l.length * 8 := flatMap_len votCells 8 (fun _ => rfl) l
theorem ownBlock_slice (ea : Option Addr) (a b c d : Nat) : (Value.slice ea a b).ownBlock = (Value.slice ea c d).ownBlock := by cases ea <;> rfl
theorem sizeVot : (Try.prog.info? 32).map (·.size) = some 8 := by kernel_rfl
theorem sizeVot2 : ∀ w, (Go.sizeOf 32).run Try.prog w = .ok 8 w := by
  intro w
  obtain ⟨i, hi, hz, hsz, hb⟩ := info_part infoVot
  simp [Go.sizeOf, typeInfo, hi, hsz]
theorem shapeOf {w : World} {b : Nat} {c : Array Value} {t : TypeId} {f : Nat × Nat} (h : w.heap[b]? = some (.cells c t f)) : w.shape? b = some (t, c.size) := by
  unfold World.shape?; rw [h]
set_option maxRecDepth 100000 in
set_option maxHeartbeats 1000000 in
/-- Insert at the end -/
theorem insV_end (base : Nat) (v : Value) (l : List Vot) (x : Vot) (vb : Nat) (w : World) (hown : OwnV w base v l) (hvb : w.heap[vb]? = some (.cells (votCells x).toArray 32 (0, 0))) (hlen : l.length ≤ 100000) (hbase : base ≤ w.heap.size) :
    Calls Try.prog 27 #[v, .int .i64 l.length, .slice (some ⟨vb, 0, none⟩) 1 1] w fun e w' => ∃ v', e = .returned v' ∧ OwnV w' base v' (l ++ [x]) ∧ w.grownBy w' v.ownBlock := by
  obtain ⟨ea, ec, rfl, hle, hcm, -⟩ := id hown.row
  obtain ⟨n, hn⟩ : ∃ n, n = l.length := ⟨_, rfl⟩
  rw [← hn] at hown hle ⊢
  have HO := Lib.hid hown
  have HB := Lib.hid (rowOne' hvb)
  have HN := Lib.hid hn
  have hcm2 : ec ≤ 9223372036854775807 := hcm
  clear hown hvb hn
  go_enter Try.func27, Try.ntmps27
  go_wp2_with (at_builtin; refine apV rfl (.tmp 23) (.tmp 24) rfl base _ l [x] (some ⟨vb, 0, none⟩) 1 1 rfl HO.out rfl HB.out (fun h => by cases h) (by simp; omega) hbase ?_; intro v2 w2 ho2 hg2 _; have O2 := Lib.hid ho2; have G2 := Lib.hid (show w.grownBy w2 (Value.slice ea n ec).ownBlock from hg2); clear ho2 hg2)
  all_goals
    go_ret
    exact ⟨_, rfl, O2.out, by first | exact G2.out | (rw [ownBlock_slice ea n n n ec]; exact G2.out)⟩
set_option maxRecDepth 100000 in
set_option maxHeartbeats 4000000 in
/-- Insert where there is room -/
theorem insV_room (base g cap : Nat) (cur : Array Value) (l : List Vot) (i : Nat) (x : Vot) (vb : Nat) (w : World) (hg : w.heap[g]? = some (.cells cur 32 (0, 0))) (hcs : cur.size = cap * 8) (htake : cur.toList.take (l.length * 8) = l.flatMap votCells) (hcm : cap ≤ maxLen) (hi : i < l.length) (hroom : l.length + 1 ≤ cap) (hvb : w.heap[vb]? = some (.cells (votCells x).toArray 32 (0, 0))) (hne : vb ≠ g) (hlen : l.length ≤ 100000) (hbg : base ≤ g) :
    Calls Try.prog 27 #[.slice (some ⟨g, 0, none⟩) l.length cap, .int .i64 i, .slice (some ⟨vb, 0, none⟩) 1 1] w fun e w' => ∃ v', e = .returned v' ∧ OwnV w' base v' (l.take i ++ x :: l.drop i) ∧ w.grownBy w' (some g) := by
  obtain ⟨n, hn⟩ : ∃ n, n = l.length := ⟨_, rfl⟩
  rw [← hn] at htake hi hroom hlen ⊢
  have hcm2 : cap ≤ 9223372036854775807 := hcm
  have hov : ∀ lb cb, (callFunc 34 #[.slice (some ⟨vb, 0, none⟩) 1 1, .slice (some ⟨g, (i + 1) * 8, none⟩) lb cb]).run Try.prog w = .ok (.value (.bool false)) w := fun lb cb => by
    rw [run_callFunc_extern Try.func34 (by kernel_rfl) (by kernel_rfl) (by kernel_rfl) (e := Extern.SlicesOverlaps.overlaps #[23, 23] #[4]) (by kernel_rfl),
      Lib.run_overlaps_apart w 23 4 32 Try.underlying23 8 sizeVot2 ⟨vb, 0, none⟩ ⟨g, (i + 1) * 8, none⟩ 1 1 lb cb hne _ _ _ _ (shapeOf hvb) (shapeOf hg) (by omega) (freeAt hvb _) (freeAt hvb _)]
    rfl
  -- the two copies
  have hcl : cur.toList.length = cap * 8 := by rw [Array.length_toList, hcs]
  have hdl : (l.drop i).length = n - i := by rw [List.length_drop, ← hn]
  have hdc : ((l.drop i).flatMap votCells).length = (n - i) * 8 := by rw [votCells_len, hdl]
  have hti : (l.take i).length = i := by rw [List.length_take]; omega
  have hsplit : l.flatMap votCells = (l.take i).flatMap votCells ++ (l.drop i).flatMap votCells := by
    rw [← List.flatMap_append, List.take_append_drop]
  obtain ⟨A, hA⟩ : ∃ A, A = (l.take i).flatMap votCells := ⟨_, rfl⟩
  obtain ⟨D, hD⟩ : ∃ D, D = (l.drop i).flatMap votCells := ⟨_, rfl⟩
  obtain ⟨R, hR⟩ : ∃ R, R = cur.toList.drop (n * 8) := ⟨_, rfl⟩
  have hAl : A.length = i * 8 := by rw [hA, votCells_len, hti]
  rw [← hD] at hdc hsplit
  rw [← hA] at hsplit
  have hcur : cur.toList = A ++ D ++ R := by
    rw [← hsplit, ← htake, hR, List.take_append_drop]
  have hRl : R.length = cap * 8 - n * 8 := by rw [hR, List.length_drop, hcl]
  have h1D : ∀ u ∈ D, u.oneCell' = true := by rw [hD]; exact votCells_one _
  have h1X : ∀ u ∈ votCells x, u.oneCell' = true := by
    have h := votCells_one [x]
    rwa [List.flatMap_singleton] at h
  obtain ⟨c1, hc1⟩ : ∃ c, c = (cur.toList.take ((i + 1) * 8) ++ D ++ cur.toList.drop ((i + 1) * 8 + D.length)).toArray := ⟨_, rfl⟩
  obtain ⟨W1, hW1⟩ : ∃ W, W = w.drew.setRow g c1 := ⟨_, rfl⟩
  have hcp1 : ∀ ty dc sc, (Builtin.copy_ #[23, 23] ty #[.slice (some ⟨g, (i + 1) * 8, none⟩) (n - i) dc, .slice (some ⟨g, i * 8, none⟩) (n + 1 - i) sc]).run Try.prog w.drew = .ok (goInt ((n - i : Nat) : Int)) W1 := fun ty dc sc => by
    rw [hW1, hc1]
    exact run_copy_rowK w.drew _ _ ty 32 g ((i + 1) * 8) (n - i) dc ⟨g, i * 8, none⟩ (n + 1 - i) sc 8 (n - i) cur 32 D Try.underlying23 sizeVot hg (by simp only [Nat.min_def]; split <;> omega) hdc
      (fun j u hu => by
        have hj : j < D.length := (List.getElem?_eq_some_iff.1 hu).1
        rw [Addr.add_mid]
        refine cellAt (w := w) hg (i * 8 + j) ?_
        rw [← Array.getElem?_toList, hcur, List.append_assoc, List.getElem?_append_right (by omega), hAl, show i * 8 + j - i * 8 = j by omega, List.getElem?_append_left hj]
        exact hu) (by rw [hdc, hcs]; omega) h1D
  have hc1s : c1.size = cap * 8 := by
    rw [hc1]
    simp [hcl, hdc]
    omega
  have hg1 : W1.heap[g]? = some (.cells c1 32 (0, 0)) := by rw [hW1]; exact setRow_heap w.drew g cur c1 _ _ hg
  obtain ⟨c2, hc2⟩ : ∃ c, c = (c1.toList.take (i * 8) ++ votCells x ++ c1.toList.drop (i * 8 + (votCells x).length)).toArray := ⟨_, rfl⟩
  have hvb1 : W1.heap[vb]? = some (.cells (votCells x).toArray 32 (0, 0)) := by rw [hW1, setRow_other w.drew g vb c1 hne]; exact hvb
  have hcp2 : ∀ ty dc, (Builtin.copy_ #[23, 23] ty #[.slice (some ⟨g, i * 8, none⟩) (n + 1 - i) dc, .slice (some ⟨vb, 0, none⟩) 1 1]).run Try.prog W1 = .ok (goInt 1) (W1.setRow g c2) := fun ty dc => by
    rw [hc2]
    exact run_copy_rowK W1 _ _ ty 32 g (i * 8) (n + 1 - i) dc ⟨vb, 0, none⟩ 1 1 8 1 c1 32 (votCells x) Try.underlying23 sizeVot hg1 (by simp only [Nat.min_def]; split <;> omega) rfl
      (fun j u hu => by
        rw [Addr.add_mid, Nat.zero_add]
        exact cellAt hvb1 j (by simpa using hu)) (by rw [hc1s]; show i * 8 + 8 ≤ _; omega) h1X
  have hres : c2.toList.take ((n + 1) * 8) = A ++ votCells x ++ D := by
    have h := shift_list (A := A) (X := votCells x) (D := D) (R := R) (k := 8) rfl (by rw [hRl]; omega)
    rw [hc2, hc1, hcur]
    simp only [List.toList_toArray]
    rw [show (n + 1) * 8 = A.length + 8 + D.length by rw [hAl, hdc]; omega, show (i + 1) * 8 = A.length + 8 by rw [hAl]; omega, show i * 8 = A.length by rw [hAl]]
    exact h
  have hc2s : c2.size = cap * 8 := by
    rw [hc2]
    have : (votCells x).length = 8 := rfl
    simp [hc1s, this]
    omega
  have OWN : Hid (OwnV (W1.setRow g c2) base (.slice (some ⟨g, 0, none⟩) (n + 1) cap) (l.take i ++ x :: l.drop i)) := Lib.hid (by
    have hl2 : (l.take i ++ x :: l.drop i).length = n + 1 := by simp [hdl, hti]; omega
    unfold OwnV
    rw [hl2]
    refine ⟨by rw [votCells_len, hl2], .inr ⟨g, cap, c2, rfl, hbg, setRow_heap W1 g c1 c2 _ _ hg1, hroom, hcm, hc2s, ?_⟩⟩
    rw [hres, hA, hD]
    simp)
  have GR : Hid (w.grownBy (W1.setRow g c2) (some g)) := Lib.hid (by
    rw [hW1]
    refine ⟨rfl, rfl, rfl, by simp, fun k _ hk => ?_⟩
    rw [setRow_other _ g k c2 (fun e => hk (by rw [e])), setRow_other _ g k c1 (fun e => hk (by rw [e]))]
    rfl)
  have hz2 : ((i : Int) == (n : Int)) = false := by rw [beq_eq_false_iff_ne]; omega
  have hz2n : (i == n) = false := by rw [beq_eq_false_iff_ne]; omega
  have hgt : decide ((cap : Int) < (n : Int) + 1) = false := by rw [decide_eq_false_iff_not]; omega
  have hgtn : decide (cap < n + 1) = false := by rw [decide_eq_false_iff_not]; omega
  have hw1 : IntKind.i64.wrap ((i : Int) + 1) = (i : Int) + 1 := by rw [IntKind.wrap_i64]; omega
  have hw2 : IntKind.i64.wrap ((n : Int) + 1) = (n : Int) + 1 := by rw [IntKind.wrap_i64]; omega
  have hin : i ≤ n := by omega
  have hb1 : (0 : Int) ≤ (i : Int) + 1 := by omega
  have htn : ((i : Int) + 1).toNat = i + 1 := by omega
  have htn2 : ((n : Int) + 1).toNat = n + 1 := by omega
  have hb2 : ¬ (cap = i + 1) := by omega
  have hb3 : (i : Int) ≤ (n : Int) + 1 := by omega
  have hb4 : ¬ (cap = i) := by omega
  have HOV := Lib.hid hov
  have HC1 := Lib.hid hcp1
  have HC2 := Lib.hid hcp2
  clear hcp1 hcp2 hov hres hc2s hc2 hvb1 hc1s hc1 hcur hsplit hA hD hR hAl hdc hRl h1D h1X hti hdl hcl hcs htake hg1 hW1 hn
  go_enter Try.func27, Try.ntmps27
  go_wp2_with (simp only [HOV.out])
  go_region_held3 (fun _ => True) (trivial) (first
    | (refine step_copy_runI rfl (.tmp 73) (.tmp 76) 23 23 rfl (.slice (some ⟨g, (i + 1) * 8, none⟩) (n - i) (cap - (i + 1))) (.slice (some ⟨g, i * 8, none⟩) (n + 1 - i) (cap - i)) rfl rfl (HC1.out _ (cap - (i + 1)) (cap - i)) ?_))
  clear HC1
  have hcpy := HC2.out
  go_wp2_with fail
  go_ret
  exact ⟨_, rfl, OWN.out, GR.out⟩
theorem arr_eq (A : List Value) (B : Array Value) : A.toArray ++ B = (A ++ B.toList).toArray := by
  apply Array.ext'
  simp
theorem zeroCellsV (m : Nat) : (Builtin.zeroCells (Value.agg #[.int .i64 0, .int .i64 0, .int .i64 0, .int .i64 0, .int .i64 0, .int .i64 0, .int .i64 0, .int .i64 0]).cells m).size = m * 8 := by
  rw [size_zeroCells]; rfl
set_option maxRecDepth 100000 in
set_option maxHeartbeats 4000000 in
/-- Insert where there is no room -/
theorem insV_grow (base g : Nat) (cur : Array Value) (l : List Vot) (i : Nat) (x : Vot) (vb : Nat) (w : World) (hg : w.heap[g]? = some (.cells cur 32 (0, 0))) (hcs : cur.size = l.length * 8) (htake : cur.toList.take (l.length * 8) = l.flatMap votCells) (hi : i < l.length) (hvb : w.heap[vb]? = some (.cells (votCells x).toArray 32 (0, 0))) (hlen : l.length ≤ 100000) (hbase : base ≤ w.heap.size) :
    Calls Try.prog 27 #[.slice (some ⟨g, 0, none⟩) l.length l.length, .int .i64 i, .slice (some ⟨vb, 0, none⟩) 1 1] w fun e w' => ∃ v', e = .returned v' ∧ OwnV w' base v' (l.take i ++ x :: l.drop i) ∧ w.grownBy w' (some g) := by
  obtain ⟨n, hn⟩ : ∃ n, n = l.length := ⟨_, rfl⟩
  rw [← hn] at htake hi hlen hcs ⊢
  have hcl : cur.toList.length = n * 8 := by rw [Array.length_toList, hcs]
  have hdl : (l.drop i).length = n - i := by rw [List.length_drop, ← hn]
  have hdc : ((l.drop i).flatMap votCells).length = (n - i) * 8 := by rw [votCells_len, hdl]
  have hti : (l.take i).length = i := by rw [List.length_take]; omega
  have hsplit : l.flatMap votCells = (l.take i).flatMap votCells ++ (l.drop i).flatMap votCells := by
    rw [← List.flatMap_append, List.take_append_drop]
  obtain ⟨A, hA⟩ : ∃ A, A = (l.take i).flatMap votCells := ⟨_, rfl⟩
  obtain ⟨D, hD⟩ : ∃ D, D = (l.drop i).flatMap votCells := ⟨_, rfl⟩
  have hAl : A.length = i * 8 := by rw [hA, votCells_len, hti]
  rw [← hD] at hdc hsplit
  rw [← hA] at hsplit
  have hcur : cur.toList = A ++ D := by
    rw [← hsplit, ← htake, List.take_of_length_le (by rw [hcl]; omega)]
  have h1D : ∀ u ∈ D, u.oneCell' = true := by rw [hD]; exact votCells_one _
  have h1X : ∀ u ∈ votCells x, u.oneCell' = true := by
    have h := votCells_one [x]
    rwa [List.flatMap_singleton] at h
  obtain ⟨k, hk⟩ : ∃ k, k = n + 1 - i := ⟨_, rfl⟩
  have hkI : (n : Int) + 1 - (i : Int) = (k : Int) := by omega
  have hik : i + k = n + 1 := by omega
  obtain ⟨ti, hti2, hz, hsz, hby⟩ := info_part infoVot
  have hgl := lt_of_heap hg
  -- the new row
  obtain ⟨gc, hgc⟩ : ∃ c, c = grownCap w (n + 1) n 32 := ⟨_, rfl⟩
  have hge : n + 1 ≤ gc := by rw [hgc]; exact grownCap_ge w (n + 1) n 32
  have hgm : gc ≤ maxLen := by rw [hgc]; exact grownCap_le_maxLen w (n + 1) n 32 (by unfold maxLen; omega)
  obtain ⟨Z, hZ⟩ : ∃ Z, Z = (Builtin.zeroCells (Value.agg #[.int .i64 0, .int .i64 0, .int .i64 0, .int .i64 0, .int .i64 0, .int .i64 0, .int .i64 0, .int .i64 0]).cells k ++ Builtin.zeroCells (Value.agg #[.int .i64 0, .int .i64 0, .int .i64 0, .int .i64 0, .int .i64 0, .int .i64 0, .int .i64 0, .int .i64 0]).cells (gc - (n + 1))).toList := ⟨_, rfl⟩
  have hZl : Z.length = gc * 8 - i * 8 := by
    rw [hZ, Array.length_toList, Array.size_append, zeroCellsV, zeroCellsV]
    omega
  obtain ⟨c0, hc0⟩ : ∃ c, c = (A ++ Z).toArray := ⟨_, rfl⟩
  obtain ⟨W0, hW0⟩ : ∃ W, W = w.drew.alloc (.cells c0 32) := ⟨_, rfl⟩
  have hap : ∀ ty, (Builtin.append_ #[23, 3] ty #[.slice (some ⟨g, 0, none⟩) i n, .int .i64 k]).run Try.prog w = .ok (.slice (some ⟨w.heap.size, 0, none⟩) (n + 1) gc) W0 := fun ty => by
    have hold := run_firstCells_some (P := Try.prog) w.drew ti.size i ⟨g, 0, none⟩ i n A (by rw [hsz, hAl]) (fun j u hu => by
      have hj : j < A.length := (List.getElem?_eq_some_iff.1 hu).1
      rw [Addr.add_mid, Nat.zero_add]
      refine cellAt (w := w) hg j ?_
      rw [← Array.getElem?_toList, hcur, List.getElem?_append_left hj]
      exact hu)
    have h := Lib.run_append_grow_zeros (P := Try.prog) w 23 3 ty 32 ti _ .i64 .i64 Try.underlying23 Try.underlying3 hti2 hz (some ⟨g, 0, none⟩) i n A hold k (by omega) (by omega) (by omega) (by omega) (by rw [hby]; omega) (growslice_fits (by omega) (by rw [hby]; omega))
    rw [hik, ← hgc] at h
    rw [h, hW0, hc0, hZ, ← arr_eq, Array.append_assoc]
  have hc0s : c0.size = gc * 8 := by rw [hc0]; simp [hAl, hZl]; omega
  have hg0 : W0.heap[w.heap.size]? = some (.cells c0 32 (0, 0)) := by rw [hW0]; exact heapNew w.drew _
  have hvb0 : W0.heap[vb]? = some (.cells (votCells x).toArray 32 (0, 0)) := by rw [hW0]; exact (heapOld w.drew _ _ (lt_of_heap hvb)).trans hvb
  have hgo : W0.heap[g]? = some (.cells cur 32 (0, 0)) := by rw [hW0]; exact (heapOld w.drew _ _ hgl).trans hg
  obtain ⟨c1, hc1⟩ : ∃ c, c = (c0.toList.take (i * 8) ++ votCells x ++ c0.toList.drop (i * 8 + (votCells x).length)).toArray := ⟨_, rfl⟩
  have hX8 : (votCells x).length = 8 := rfl
  obtain ⟨W1, hW1⟩ : ∃ W, W = W0.setRow w.heap.size c1 := ⟨_, rfl⟩
  have hcp1 : ∀ ty dc, (Builtin.copy_ #[23, 23] ty #[.slice (some ⟨w.heap.size, i * 8, none⟩) (n + 1 - i) dc, .slice (some ⟨vb, 0, none⟩) 1 1]).run Try.prog W0 = .ok (goInt 1) W1 := fun ty dc => by
    rw [hW1, hc1]
    exact run_copy_rowK W0 _ _ ty 32 w.heap.size (i * 8) (n + 1 - i) dc ⟨vb, 0, none⟩ 1 1 8 1 c0 32 (votCells x) Try.underlying23 sizeVot hg0 (by simp only [Nat.min_def]; split <;> omega) rfl
      (fun j u hu => by
        rw [Addr.add_mid, Nat.zero_add]
        exact cellAt hvb0 j (by simpa using hu)) (by rw [hc0s, hX8]; omega) h1X
  have hc1s : c1.size = gc * 8 := by rw [hc1]; simp [hc0s, hX8]; omega
  have hg1 : W1.heap[w.heap.size]? = some (.cells c1 32 (0, 0)) := by rw [hW1]; exact setRow_heap W0 _ c0 c1 _ _ hg0
  have hgo1 : W1.heap[g]? = some (.cells cur 32 (0, 0)) := by rw [hW1, setRow_other W0 _ g c1 (by omega)]; exact hgo
  obtain ⟨c2, hc2⟩ : ∃ c, c = (c1.toList.take ((i + 1) * 8) ++ D ++ c1.toList.drop ((i + 1) * 8 + D.length)).toArray := ⟨_, rfl⟩
  obtain ⟨W2, hW2⟩ : ∃ W, W = W1.drew.setRow w.heap.size c2 := ⟨_, rfl⟩
  have hcp2 : ∀ ty dc sc, (Builtin.copy_ #[23, 23] ty #[.slice (some ⟨w.heap.size, (i + 1) * 8, none⟩) (n - i) dc, .slice (some ⟨g, i * 8, none⟩) (n - i) sc]).run Try.prog W1.drew = .ok (goInt ((n - i : Nat) : Int)) W2 := fun ty dc sc => by
    rw [hW2, hc2]
    exact run_copy_rowK W1.drew _ _ ty 32 w.heap.size ((i + 1) * 8) (n - i) dc ⟨g, i * 8, none⟩ (n - i) sc 8 (n - i) c1 32 D Try.underlying23 sizeVot hg1 (by simp only [Nat.min_def]; split <;> omega) hdc
      (fun j u hu => by
        have hj : j < D.length := (List.getElem?_eq_some_iff.1 hu).1
        rw [Addr.add_mid]
        refine cellAt (w := W1) hgo1 (i * 8 + j) ?_
        rw [← Array.getElem?_toList, hcur, List.getElem?_append_right (by omega), hAl, show i * 8 + j - i * 8 = j by omega]
        exact hu) (by rw [hdc, hc1s]; omega) h1D
  have hres : c2.toList.take ((n + 1) * 8) = A ++ votCells x ++ D := by
    have h := grow_list (A := A) (X := votCells x) (D := D) (Z := Z) (k := 8) rfl (by rw [hZl, hdc]; omega)
    rw [hc2, hc1, hc0]
    simp only [List.toList_toArray]
    rw [show (n + 1) * 8 = A.length + 8 + D.length by rw [hAl, hdc]; omega, show (i + 1) * 8 = A.length + 8 by rw [hAl]; omega, show i * 8 = A.length by rw [hAl]]
    exact h
  have hc2s : c2.size = gc * 8 := by rw [hc2]; simp [hc1s, hdc]; omega
  have OWN : Hid (OwnV W2 base (.slice (some ⟨w.heap.size, 0, none⟩) (n + 1) gc) (l.take i ++ x :: l.drop i)) := Lib.hid (by
    have hl2 : (l.take i ++ x :: l.drop i).length = n + 1 := by simp [hdl, hti]; omega
    unfold OwnV
    rw [hl2, hW2]
    refine ⟨by rw [votCells_len, hl2], .inr ⟨w.heap.size, gc, c2, rfl, hbase, setRow_heap W1.drew _ c1 c2 _ _ hg1, hge, hgm, hc2s, ?_⟩⟩
    rw [hres, hA, hD]
    simp)
  have GR : Hid (w.grownBy W2 (some g)) := Lib.hid (by
    rw [hW2, hW1, hW0]
    refine ⟨rfl, rfl, rfl, by simp, fun q hq _ => ?_⟩
    rw [setRow_other _ _ q c2 (by omega)]
    show (World.setRow _ _ c1).heap[q]? = _
    rw [setRow_other _ _ q c1 (by omega)]
    exact heapOld w.drew _ _ hq)
  have hz2 : ((i : Int) == (n : Int)) = false := by rw [beq_eq_false_iff_ne]; omega
  have hz2n : (i == n) = false := by rw [beq_eq_false_iff_ne]; omega
  have hgt : decide ((n : Int) < (n : Int) + 1) = true := by rw [decide_eq_true_eq]; omega
  have hw1 : IntKind.i64.wrap ((i : Int) + 1) = (i : Int) + 1 := by rw [IntKind.wrap_i64]; omega
  have hw2 : IntKind.i64.wrap ((n : Int) + 1) = (n : Int) + 1 := by rw [IntKind.wrap_i64]; omega
  have hin : i ≤ n := by omega
  have hb1 : (0 : Int) ≤ (i : Int) + 1 := by omega
  have htn : ((i : Int) + 1).toNat = i + 1 := by omega
  have hb2 : ¬ (gc = i + 1) := by omega
  have hb3 : (i : Int) ≤ (n : Int) + 1 := by omega
  have hb4 : ¬ (gc = i) := by omega
  have hb5 : ¬ (n = i) := by omega
  have hb6 : i ≤ n + 1 := by omega
  have hgm2 : gc ≤ 9223372036854775807 := hgm
  have HAP := Lib.hid hap
  have HC1 := Lib.hid hcp1
  have HC2 := Lib.hid hcp2
  clear hap hcp1 hcp2 hres hc2s hc2 hc1s hc1 hc0 hc0s hcur hsplit hA hD hAl hdc h1D h1X hti hdl hcl hcs htake hg1 hW1 hn hg0 hgo hgo1 hvb0 hW0 hW2 hZl hZ hgc hX8 hti2 hz hsz hby hik hk
  go_enter Try.func27, Try.ntmps27
  have hcpy := HC1.out
  go_wp2_with (at_builtin; refine Lib.wpList_append_run w rfl (.tmp 34) (.tmp 39) _ _ rfl (.slice (some ⟨g, 0, none⟩) i n) (.int .i64 k) rfl rfl _ _ (HAP.out _) ?_)
  clear hcpy
  go_region_held3 (fun _ => True) (trivial) (first
    | (refine step_copy_runI rfl (.tmp 50) (.tmp 53) 23 23 rfl (.slice (some ⟨w.heap.size, (i + 1) * 8, none⟩) (n - i) (gc - (i + 1))) (.slice (some ⟨g, i * 8, none⟩) (n - i) (n - i)) rfl rfl (HC2.out _ (gc - (i + 1)) (n - i)) ?_))
  clear HC2
  go_wp2_with fail
  go_ret
  exact ⟨_, rfl, OWN.out, GR.out⟩
/-- Insert of a vote into votes of the call's own -/
theorem insV_any (base : Nat) (v : Value) (l : List Vot) (i : Nat) (x : Vot) (vb : Nat) (w : World) (hown : OwnV w base v l) (hi : i ≤ l.length) (hvb : w.heap[vb]? = some (.cells (votCells x).toArray 32 (0, 0))) (hne : v.ownBlock ≠ some vb) (hlen : l.length ≤ 100000) (hbase : base ≤ w.heap.size) :
    Calls Try.prog 27 #[v, .int .i64 i, .slice (some ⟨vb, 0, none⟩) 1 1] w fun e w' => ∃ v', e = .returned v' ∧ OwnV w' base v' (l.take i ++ x :: l.drop i) ∧ w.grownBy w' v.ownBlock := by
  rcases Nat.lt_or_ge i l.length with h | h
  · obtain ⟨h1, h2⟩ := id hown
    rcases h2 with ⟨rfl, hn⟩ | ⟨g, cap, cur, rfl, hbg, hg, hnc, hcm, hcs, htake⟩
    · omega
    · have hvg : vb ≠ g := fun e => hne (by rw [e]; rfl)
      rcases Nat.lt_or_ge l.length cap with h3 | h3
      · exact insV_room base g cap cur l i x vb w hg hcs htake hcm h h3 hvb hvg hlen hbg
      · obtain rfl : cap = l.length := by omega
        exact insV_grow base g cur l i x vb w hg hcs htake h hvb hlen hbase
  · obtain rfl : i = l.length := by omega
    rw [List.take_length, List.drop_length]
    exact insV_end base v l x vb w hown hvb hlen hbase
end Go.Proofs.Ytdkbajdnckmckaa
