/-
  Texts put together: Ins, AcP, AcW, Pick, Cmd.
-/
import Derived.Test.YtdkbajdnckmckaaMg6
import Derived.Laws.CopyRow
import Derived.Laws.Externs
import Derived.Lib.Overlaps
import Derived.Deep.RegionLaw
import Derived.Test.YtdkbajdnckmckaaMg1
import Derived.Test.YtdkbajdnckmckaaMg4
import Derived.Deep.RegionHeld3
set_option linter.unusedVariables false
set_option linter.unusedSimpArgs false
namespace Go
open Go.RowKit Go.Con
/-- copy into a row, of elements of k cells -/
theorem run_copy_rowK {P : Program} (w : World) (dT sT ty elem : TypeId) (g o dLen dCap : Nat) (a : Addr) (sLen sCap k m : Nat) (cur : Array Value) (t : TypeId) (cs : List Value)
    (hu : P.underlying dT = some (.slice elem)) (hs : (P.info? elem).map (·.size) = some k)
    (hg : w.heap[g]? = some (.cells cur t (0, 0))) (hm : m = Nat.min sLen dLen) (hn : cs.length = m * k)
    (hsrc : ∀ j v, cs[j]? = some v → w.cell? (a.add j) = some v) (hfit : o + cs.length ≤ cur.size) (h1 : ∀ v ∈ cs, v.oneCell' = true) :
    (Builtin.copy_ #[dT, sT] ty #[.slice (some ⟨g, o, none⟩) dLen dCap, .slice (some a) sLen sCap]).run P w =
      .ok (goInt m) (w.setRow g (cur.toList.take o ++ cs ++ cur.toList.drop (o + cs.length)).toArray) := by
  have hl := run_loadCells_list (P := P) w a cs hsrc
  have hst := run_storeCells_at P g o t cs 0 cur w hg (by simpa using hfit) h1
  cases hq : P.info? elem with
  | none => simp [hq] at hs
  | some i =>
    have hi : i.size = k := by simpa [hq] using hs
    rw [hn] at hl
    simp [Builtin.copy_, run_underlying hu, Builtin.lenOf, Builtin.firstCells, sizeOf, typeInfo, hq, hi, ← hm, hl, hst]
theorem wp_copy_runI {P : Program} (w : World) {o : Oper} {a : Act} {K : Act → World → Prop} {Q : Exit → Act → World → Prop} (d s : Operand) (t t' : TypeId)
    (ho : o.op = .call { callee := .builtin .copy, args := #[d, s], argTypes := #[t, t'] }) (v u : Value) (hd : a.eval d = v) (hs : a.eval s = u) {v' : Value} {w' : World}
    (hr : (Builtin.copy_ #[t, t'] o.type #[v, u]).run P w = .ok v' w') (h : K (a.put o.dst v') w') : o.wp P a w K Q := by
  unfold Oper.wp execOp
  simp only [ho, resolve, invoke, builtin, Sem.run_bind, Sem.run_pure, Result.andThen_ok, List.map_toArray, List.map_cons, List.map_nil, hd, hs, hr]
  exact h
theorem wpList_copy_runI {P : Program} (w : World) {ops : Array Oper} {rest : List Oper} {o : Oper} {a : Act} {Q : Exit → Act → World → Prop} (hgd : o.guard = none) (d s : Operand) (t t' : TypeId)
    (ho : o.op = .call { callee := .builtin .copy, args := #[d, s], argTypes := #[t, t'] }) (v u : Value) (hd : a.eval d = v) (hs : a.eval s = u) {v' : Value} {w' : World}
    (hr : (Builtin.copy_ #[t, t'] o.type #[v, u]).run P w = .ok v' w') (h : wpList P ops Q rest (a.put o.dst v') w') : wpList P ops Q (o :: rest) a w :=
  wpList_plain hgd fun _ hK => wp_copy_runI w d s t t' ho v u hd hs hr (hK _ _ h)
theorem step_copy_runI {P : Program} {ops : Array Oper} {o : Oper} {a : Act} {w : World} {K : Act → World → Prop} {Q : Exit → Act → World → Prop} {E : Prop}
    (hg : o.guard = none) (d x : Operand) (dT sT : TypeId) (hop : o.op = Op.call { callee := Callee.builtin Builtin.copy, args := #[d, x], argTypes := #[dT, sT] })
    (v u : Value) (hd : a.eval d = v) (hx : a.eval x = u) {v' : Value} {w' : World} (hr : (Builtin.copy_ #[dT, sT] o.type #[v, u]).run P w = .ok v' w') (hK : K (a.put o.dst v') w') :
    if Region.wanted o (yielded ops a.tmps) = true then Oper.wp P o a w K Q else E := by
  have hw : Region.wanted o (yielded ops a.tmps) = true := by simp [Region.wanted, hg]
  rw [if_pos hw]
  exact wp_copy_runI w d x dT sT hop v u hd hx hr hK
theorem shift_list {A X D R : List Value} {k : Nat} (hX : X.length = k) (hR : k ≤ R.length) :
    (((A ++ D ++ R).take (A.length + k) ++ D ++ (A ++ D ++ R).drop (A.length + k + D.length)).take A.length ++ X ++ ((A ++ D ++ R).take (A.length + k) ++ D ++ (A ++ D ++ R).drop (A.length + k + D.length)).drop (A.length + k)).take (A.length + k + D.length) = A ++ X ++ D := by
  have h1 : ((A ++ D ++ R).take (A.length + k)).length = A.length + k := by simp; omega
  have h2 : ((A ++ D ++ R).take (A.length + k) ++ D ++ (A ++ D ++ R).drop (A.length + k + D.length)).take A.length = A := by
    rw [List.append_assoc, List.take_append_of_le_length (by rw [h1]; omega), List.take_take, show min A.length (A.length + k) = A.length by omega, List.append_assoc, List.take_left']
    rfl
  have h3 : ((A ++ D ++ R).take (A.length + k) ++ D ++ (A ++ D ++ R).drop (A.length + k + D.length)).drop (A.length + k) = D ++ (A ++ D ++ R).drop (A.length + k + D.length) := by
    rw [List.append_assoc, List.drop_left' h1]
  rw [h2, h3, ← List.append_assoc, List.take_left']
  simp; omega
theorem grow_list {A X D Z : List Value} {k : Nat} (hX : X.length = k) (hZ : k + D.length ≤ Z.length) :
    ((((A ++ Z).take A.length ++ X ++ (A ++ Z).drop (A.length + k)).take (A.length + k) ++ D ++ ((A ++ Z).take A.length ++ X ++ (A ++ Z).drop (A.length + k)).drop (A.length + k + D.length))).take (A.length + k + D.length) = A ++ X ++ D := by
  have h1 : (A ++ Z).take A.length = A := List.take_left' rfl
  have h2 : (A ++ X ++ (A ++ Z).drop (A.length + k)).take (A.length + k) = A ++ X := List.take_left' (by simp; omega)
  rw [h1, h2, List.take_left']
  simp; omega
end Go
namespace Go.Proofs.Ytdkbajdnckmckaa
open Go.RowKit Go.Con
theorem rowOne' {W : World} {g : Nat} {v : Vot} (h : W.heap[g]? = some (.cells (votCells v).toArray 32 (0, 0))) : RdV W (.slice (some ⟨g, 0, none⟩) 1 1) [v] := by
  refine ⟨_, _, rfl, Nat.le_refl _, by decide, fun _ => ⟨_, _, rfl, lt_of_heap h, fun i hi j hj => ?_⟩⟩
  have hi0 : i = 0 := by simpa using hi
  subst hi0
  rw [Nat.mul_zero, Nat.zero_add, Nat.zero_add]
  have hlt : j < (votCells v).length := hj
  have : (([v] : List Vot).getD 0 Vot.zero) = v := rfl
  rw [this, List.getElem?_eq_getElem hlt]
  exact cellAt h j (by simp [hlt])
theorem votCells_len (l : List Vot) : (l.flatMap votCells).length = l.length * 8 := flatMap_len votCells 8 (fun _ => rfl) l
theorem ownBlock_slice (ea : Option Addr) (a b c d : Nat) : (Value.slice ea a b).ownBlock = (Value.slice ea c d).ownBlock := by cases ea <;> rfl
theorem sizeVot : (Try.prog.info? 32).map (·.size) = some 8 := by kernel_rfl
theorem sizeVot2 : ∀ w, (Go.sizeOf 32).run Try.prog w = .ok 8 w := by
  intro w
  obtain ⟨i, hi, hz, hsz, hb⟩ := info_part infoVot
  simp [Go.sizeOf, typeInfo, hi, hsz]
theorem shapeOf {w : World} {b : Nat} {c : Array Value} {t : TypeId} {f : Nat × Nat} (h : w.heap[b]? = some (.cells c t f)) : w.shape? b = some (t, c.size) := by
  unfold World.shape?; rw [h]
set_option maxRecDepth 100000 in
set_option maxHeartbeats 1000000 in
/-- Insert at the end -/
theorem insV_end (base : Nat) (v : Value) (l : List Vot) (x : Vot) (vb : Nat) (w : World) (hown : OwnV w base v l) (hvb : w.heap[vb]? = some (.cells (votCells x).toArray 32 (0, 0))) (hlen : l.length ≤ 100000) (hbase : base ≤ w.heap.size) :
    Calls Try.prog 27 #[v, .int .i64 l.length, .slice (some ⟨vb, 0, none⟩) 1 1] w fun e w' => ∃ v', e = .returned v' ∧ OwnV w' base v' (l ++ [x]) ∧ w.grownBy w' v.ownBlock := by
  obtain ⟨ea, ec, rfl, hle, hcm, -⟩ := id hown.row
  obtain ⟨n, hn⟩ : ∃ n, n = l.length := ⟨_, rfl⟩
  rw [← hn] at hown hle ⊢
  have HO := Lib.hid hown
  have HB := Lib.hid (rowOne' hvb)
  have HN := Lib.hid hn
  have hcm2 : ec ≤ 9223372036854775807 := hcm
  clear hown hvb hn
  go_enter Try.func27, Try.ntmps27
  go_wp2_with (at_builtin; refine apV rfl (.tmp 23) (.tmp 24) rfl base _ l [x] (some ⟨vb, 0, none⟩) 1 1 rfl HO.out rfl HB.out (fun h => by cases h) (by simp; omega) hbase ?_; intro v2 w2 ho2 hg2 _; have O2 := Lib.hid ho2; have G2 := Lib.hid (show w.grownBy w2 (Value.slice ea n ec).ownBlock from hg2); clear ho2 hg2)
  all_goals
    go_ret
    exact ⟨_, rfl, O2.out, by first | exact G2.out | (rw [ownBlock_slice ea n n n ec]; exact G2.out)⟩
set_option maxRecDepth 100000 in
set_option maxHeartbeats 4000000 in
/-- Insert where there is room -/
theorem insV_room (base g cap : Nat) (cur : Array Value) (l : List Vot) (i : Nat) (x : Vot) (vb : Nat) (w : World) (hg : w.heap[g]? = some (.cells cur 32 (0, 0))) (hcs : cur.size = cap * 8) (htake : cur.toList.take (l.length * 8) = l.flatMap votCells) (hcm : cap ≤ maxLen) (hi : i < l.length) (hroom : l.length + 1 ≤ cap) (hvb : w.heap[vb]? = some (.cells (votCells x).toArray 32 (0, 0))) (hne : vb ≠ g) (hlen : l.length ≤ 100000) (hbg : base ≤ g) :
    Calls Try.prog 27 #[.slice (some ⟨g, 0, none⟩) l.length cap, .int .i64 i, .slice (some ⟨vb, 0, none⟩) 1 1] w fun e w' => ∃ v', e = .returned v' ∧ OwnV w' base v' (l.take i ++ x :: l.drop i) ∧ w.grownBy w' (some g) := by
  obtain ⟨n, hn⟩ : ∃ n, n = l.length := ⟨_, rfl⟩
  rw [← hn] at htake hi hroom hlen ⊢
  have hcm2 : cap ≤ 9223372036854775807 := hcm
  have hov : ∀ lb cb, (callFunc 34 #[.slice (some ⟨vb, 0, none⟩) 1 1, .slice (some ⟨g, (i + 1) * 8, none⟩) lb cb]).run Try.prog w = .ok (.value (.bool false)) w := fun lb cb => by
    rw [run_callFunc_extern Try.func34 (by kernel_rfl) (by kernel_rfl) (by kernel_rfl) (e := Extern.SlicesOverlaps.overlaps #[23, 23] #[4]) (by kernel_rfl),
      Lib.run_overlaps_apart w 23 4 32 Try.underlying23 8 sizeVot2 ⟨vb, 0, none⟩ ⟨g, (i + 1) * 8, none⟩ 1 1 lb cb hne _ _ _ _ (shapeOf hvb) (shapeOf hg) (by omega) (freeAt hvb _) (freeAt hvb _)]
    rfl
  -- the two copies
  have hcl : cur.toList.length = cap * 8 := by rw [Array.length_toList, hcs]
  have hdl : (l.drop i).length = n - i := by rw [List.length_drop, ← hn]
  have hdc : ((l.drop i).flatMap votCells).length = (n - i) * 8 := by rw [votCells_len, hdl]
  have hti : (l.take i).length = i := by rw [List.length_take]; omega
  have hsplit : l.flatMap votCells = (l.take i).flatMap votCells ++ (l.drop i).flatMap votCells := by
    rw [← List.flatMap_append, List.take_append_drop]
  obtain ⟨A, hA⟩ : ∃ A, A = (l.take i).flatMap votCells := ⟨_, rfl⟩
  obtain ⟨D, hD⟩ : ∃ D, D = (l.drop i).flatMap votCells := ⟨_, rfl⟩
  obtain ⟨R, hR⟩ : ∃ R, R = cur.toList.drop (n * 8) := ⟨_, rfl⟩
  have hAl : A.length = i * 8 := by rw [hA, votCells_len, hti]
  rw [← hD] at hdc hsplit
  rw [← hA] at hsplit
  have hcur : cur.toList = A ++ D ++ R := by
    rw [← hsplit, ← htake, hR, List.take_append_drop]
  have hRl : R.length = cap * 8 - n * 8 := by rw [hR, List.length_drop, hcl]
  have h1D : ∀ u ∈ D, u.oneCell' = true := by rw [hD]; exact votCells_one _
  have h1X : ∀ u ∈ votCells x, u.oneCell' = true := by
    have h := votCells_one [x]
    rwa [List.flatMap_singleton] at h
  obtain ⟨c1, hc1⟩ : ∃ c, c = (cur.toList.take ((i + 1) * 8) ++ D ++ cur.toList.drop ((i + 1) * 8 + D.length)).toArray := ⟨_, rfl⟩
  obtain ⟨W1, hW1⟩ : ∃ W, W = w.drew.setRow g c1 := ⟨_, rfl⟩
  have hcp1 : ∀ ty dc sc, (Builtin.copy_ #[23, 23] ty #[.slice (some ⟨g, (i + 1) * 8, none⟩) (n - i) dc, .slice (some ⟨g, i * 8, none⟩) (n + 1 - i) sc]).run Try.prog w.drew = .ok (goInt ((n - i : Nat) : Int)) W1 := fun ty dc sc => by
    rw [hW1, hc1]
    exact run_copy_rowK w.drew _ _ ty 32 g ((i + 1) * 8) (n - i) dc ⟨g, i * 8, none⟩ (n + 1 - i) sc 8 (n - i) cur 32 D Try.underlying23 sizeVot hg (by simp only [Nat.min_def]; split <;> omega) hdc
      (fun j u hu => by
        have hj : j < D.length := (List.getElem?_eq_some_iff.1 hu).1
        rw [Addr.add_mid]
        refine cellAt (w := w) hg (i * 8 + j) ?_
        rw [← Array.getElem?_toList, hcur, List.append_assoc, List.getElem?_append_right (by omega), hAl, show i * 8 + j - i * 8 = j by omega, List.getElem?_append_left hj]
        exact hu) (by rw [hdc, hcs]; omega) h1D
  have hc1s : c1.size = cap * 8 := by
    rw [hc1]
    simp [hcl, hdc]
    omega
  have hg1 : W1.heap[g]? = some (.cells c1 32 (0, 0)) := by rw [hW1]; exact setRow_heap w.drew g cur c1 _ _ hg
  obtain ⟨c2, hc2⟩ : ∃ c, c = (c1.toList.take (i * 8) ++ votCells x ++ c1.toList.drop (i * 8 + (votCells x).length)).toArray := ⟨_, rfl⟩
  have hvb1 : W1.heap[vb]? = some (.cells (votCells x).toArray 32 (0, 0)) := by rw [hW1, setRow_other w.drew g vb c1 hne]; exact hvb
  have hcp2 : ∀ ty dc, (Builtin.copy_ #[23, 23] ty #[.slice (some ⟨g, i * 8, none⟩) (n + 1 - i) dc, .slice (some ⟨vb, 0, none⟩) 1 1]).run Try.prog W1 = .ok (goInt 1) (W1.setRow g c2) := fun ty dc => by
    rw [hc2]
    exact run_copy_rowK W1 _ _ ty 32 g (i * 8) (n + 1 - i) dc ⟨vb, 0, none⟩ 1 1 8 1 c1 32 (votCells x) Try.underlying23 sizeVot hg1 (by simp only [Nat.min_def]; split <;> omega) rfl
      (fun j u hu => by
        rw [Addr.add_mid, Nat.zero_add]
        exact cellAt hvb1 j (by simpa using hu)) (by rw [hc1s]; show i * 8 + 8 ≤ _; omega) h1X
  have hres : c2.toList.take ((n + 1) * 8) = A ++ votCells x ++ D := by
    have h := shift_list (A := A) (X := votCells x) (D := D) (R := R) (k := 8) rfl (by rw [hRl]; omega)
    rw [hc2, hc1, hcur]
    simp only [List.toList_toArray]
    rw [show (n + 1) * 8 = A.length + 8 + D.length by rw [hAl, hdc]; omega, show (i + 1) * 8 = A.length + 8 by rw [hAl]; omega, show i * 8 = A.length by rw [hAl]]
    exact h
  have hc2s : c2.size = cap * 8 := by
    rw [hc2]
    have : (votCells x).length = 8 := rfl
    simp [hc1s, this]
    omega
  have OWN : Hid (OwnV (W1.setRow g c2) base (.slice (some ⟨g, 0, none⟩) (n + 1) cap) (l.take i ++ x :: l.drop i)) := Lib.hid (by
    have hl2 : (l.take i ++ x :: l.drop i).length = n + 1 := by simp [hdl, hti]; omega
    unfold OwnV
    rw [hl2]
    refine ⟨by rw [votCells_len, hl2], .inr ⟨g, cap, c2, rfl, hbg, setRow_heap W1 g c1 c2 _ _ hg1, hroom, hcm, hc2s, ?_⟩⟩
    rw [hres, hA, hD]
    simp)
  have GR : Hid (w.grownBy (W1.setRow g c2) (some g)) := Lib.hid (by
    rw [hW1]
    refine ⟨rfl, rfl, rfl, by simp, fun k _ hk => ?_⟩
    rw [setRow_other _ g k c2 (fun e => hk (by rw [e])), setRow_other _ g k c1 (fun e => hk (by rw [e]))]
    rfl)
  have hz2 : ((i : Int) == (n : Int)) = false := by rw [beq_eq_false_iff_ne]; omega
  have hz2n : (i == n) = false := by rw [beq_eq_false_iff_ne]; omega
  have hgt : decide ((cap : Int) < (n : Int) + 1) = false := by rw [decide_eq_false_iff_not]; omega
  have hgtn : decide (cap < n + 1) = false := by rw [decide_eq_false_iff_not]; omega
  have hw1 : IntKind.i64.wrap ((i : Int) + 1) = (i : Int) + 1 := by rw [IntKind.wrap_i64]; omega
  have hw2 : IntKind.i64.wrap ((n : Int) + 1) = (n : Int) + 1 := by rw [IntKind.wrap_i64]; omega
  have hin : i ≤ n := by omega
  have hb1 : (0 : Int) ≤ (i : Int) + 1 := by omega
  have htn : ((i : Int) + 1).toNat = i + 1 := by omega
  have htn2 : ((n : Int) + 1).toNat = n + 1 := by omega
  have hb2 : ¬ (cap = i + 1) := by omega
  have hb3 : (i : Int) ≤ (n : Int) + 1 := by omega
  have hb4 : ¬ (cap = i) := by omega
  have HOV := Lib.hid hov
  have HC1 := Lib.hid hcp1
  have HC2 := Lib.hid hcp2
  clear hcp1 hcp2 hov hres hc2s hc2 hvb1 hc1s hc1 hcur hsplit hA hD hR hAl hdc hRl h1D h1X hti hdl hcl hcs htake hg1 hW1 hn
  go_enter Try.func27, Try.ntmps27
  go_wp2_with (simp only [HOV.out])
  go_region_held3 (fun _ => True) (trivial) (first
    | (refine step_copy_runI rfl (.tmp 73) (.tmp 76) 23 23 rfl (.slice (some ⟨g, (i + 1) * 8, none⟩) (n - i) (cap - (i + 1))) (.slice (some ⟨g, i * 8, none⟩) (n + 1 - i) (cap - i)) rfl rfl (HC1.out _ (cap - (i + 1)) (cap - i)) ?_))
  clear HC1
  have hcpy := HC2.out
  go_wp2_with fail
  go_ret
  exact ⟨_, rfl, OWN.out, GR.out⟩
theorem arr_eq (A : List Value) (B : Array Value) : A.toArray ++ B = (A ++ B.toList).toArray := by
  apply Array.ext'
  simp
theorem zeroCellsV (m : Nat) : (Builtin.zeroCells (Value.agg #[.int .i64 0, .int .i64 0, .int .i64 0, .int .i64 0, .int .i64 0, .int .i64 0, .int .i64 0, .int .i64 0]).cells m).size = m * 8 := by
  rw [size_zeroCells]; rfl
set_option maxRecDepth 100000 in
set_option maxHeartbeats 4000000 in
/-- Insert where there is no room -/
theorem insV_grow (base g : Nat) (cur : Array Value) (l : List Vot) (i : Nat) (x : Vot) (vb : Nat) (w : World) (hg : w.heap[g]? = some (.cells cur 32 (0, 0))) (hcs : cur.size = l.length * 8) (htake : cur.toList.take (l.length * 8) = l.flatMap votCells) (hi : i < l.length) (hvb : w.heap[vb]? = some (.cells (votCells x).toArray 32 (0, 0))) (hlen : l.length ≤ 100000) (hbase : base ≤ w.heap.size) :
    Calls Try.prog 27 #[.slice (some ⟨g, 0, none⟩) l.length l.length, .int .i64 i, .slice (some ⟨vb, 0, none⟩) 1 1] w fun e w' => ∃ v', e = .returned v' ∧ OwnV w' base v' (l.take i ++ x :: l.drop i) ∧ w.grownBy w' (some g) := by
  obtain ⟨n, hn⟩ : ∃ n, n = l.length := ⟨_, rfl⟩
  rw [← hn] at htake hi hlen hcs ⊢
  have hcl : cur.toList.length = n * 8 := by rw [Array.length_toList, hcs]
  have hdl : (l.drop i).length = n - i := by rw [List.length_drop, ← hn]
  have hdc : ((l.drop i).flatMap votCells).length = (n - i) * 8 := by rw [votCells_len, hdl]
  have hti : (l.take i).length = i := by rw [List.length_take]; omega
  have hsplit : l.flatMap votCells = (l.take i).flatMap votCells ++ (l.drop i).flatMap votCells := by
    rw [← List.flatMap_append, List.take_append_drop]
  obtain ⟨A, hA⟩ : ∃ A, A = (l.take i).flatMap votCells := ⟨_, rfl⟩
  obtain ⟨D, hD⟩ : ∃ D, D = (l.drop i).flatMap votCells := ⟨_, rfl⟩
  have hAl : A.length = i * 8 := by rw [hA, votCells_len, hti]
  rw [← hD] at hdc hsplit
  rw [← hA] at hsplit
  have hcur : cur.toList = A ++ D := by
    rw [← hsplit, ← htake, List.take_of_length_le (by rw [hcl]; omega)]
  have h1D : ∀ u ∈ D, u.oneCell' = true := by rw [hD]; exact votCells_one _
  have h1X : ∀ u ∈ votCells x, u.oneCell' = true := by
    have h := votCells_one [x]
    rwa [List.flatMap_singleton] at h
  obtain ⟨k, hk⟩ : ∃ k, k = n + 1 - i := ⟨_, rfl⟩
  have hkI : (n : Int) + 1 - (i : Int) = (k : Int) := by omega
  have hik : i + k = n + 1 := by omega
  obtain ⟨ti, hti2, hz, hsz, hby⟩ := info_part infoVot
  have hgl := lt_of_heap hg
  -- the new row
  obtain ⟨gc, hgc⟩ : ∃ c, c = grownCap w (n + 1) n 32 := ⟨_, rfl⟩
  have hge : n + 1 ≤ gc := by rw [hgc]; exact grownCap_ge w (n + 1) n 32
  have hgm : gc ≤ maxLen := by rw [hgc]; exact grownCap_le_maxLen w (n + 1) n 32 (by unfold maxLen; omega)
  obtain ⟨Z, hZ⟩ : ∃ Z, Z = (Builtin.zeroCells (Value.agg #[.int .i64 0, .int .i64 0, .int .i64 0, .int .i64 0, .int .i64 0, .int .i64 0, .int .i64 0, .int .i64 0]).cells k ++ Builtin.zeroCells (Value.agg #[.int .i64 0, .int .i64 0, .int .i64 0, .int .i64 0, .int .i64 0, .int .i64 0, .int .i64 0, .int .i64 0]).cells (gc - (n + 1))).toList := ⟨_, rfl⟩
  have hZl : Z.length = gc * 8 - i * 8 := by
    rw [hZ, Array.length_toList, Array.size_append, zeroCellsV, zeroCellsV]
    omega
  obtain ⟨c0, hc0⟩ : ∃ c, c = (A ++ Z).toArray := ⟨_, rfl⟩
  obtain ⟨W0, hW0⟩ : ∃ W, W = w.drew.alloc (.cells c0 32) := ⟨_, rfl⟩
  have hap : ∀ ty, (Builtin.append_ #[23, 3] ty #[.slice (some ⟨g, 0, none⟩) i n, .int .i64 k]).run Try.prog w = .ok (.slice (some ⟨w.heap.size, 0, none⟩) (n + 1) gc) W0 := fun ty => by
    have hold := run_firstCells_some (P := Try.prog) w.drew ti.size i ⟨g, 0, none⟩ i n A (by rw [hsz, hAl]) (fun j u hu => by
      have hj : j < A.length := (List.getElem?_eq_some_iff.1 hu).1
      rw [Addr.add_mid, Nat.zero_add]
      refine cellAt (w := w) hg j ?_
      rw [← Array.getElem?_toList, hcur, List.getElem?_append_left hj]
      exact hu)
    have h := Lib.run_append_grow_zeros (P := Try.prog) w 23 3 ty 32 ti _ .i64 .i64 Try.underlying23 Try.underlying3 hti2 hz (some ⟨g, 0, none⟩) i n A hold k (by omega) (by omega) (by omega) (by omega) (by rw [hby]; omega) (growslice_fits (by omega) (by rw [hby]; omega))
    rw [hik, ← hgc] at h
    rw [h, hW0, hc0, hZ, ← arr_eq, Array.append_assoc]
  have hc0s : c0.size = gc * 8 := by rw [hc0]; simp [hAl, hZl]; omega
  have hg0 : W0.heap[w.heap.size]? = some (.cells c0 32 (0, 0)) := by rw [hW0]; exact heapNew w.drew _
  have hvb0 : W0.heap[vb]? = some (.cells (votCells x).toArray 32 (0, 0)) := by rw [hW0]; exact (heapOld w.drew _ _ (lt_of_heap hvb)).trans hvb
  have hgo : W0.heap[g]? = some (.cells cur 32 (0, 0)) := by rw [hW0]; exact (heapOld w.drew _ _ hgl).trans hg
  obtain ⟨c1, hc1⟩ : ∃ c, c = (c0.toList.take (i * 8) ++ votCells x ++ c0.toList.drop (i * 8 + (votCells x).length)).toArray := ⟨_, rfl⟩
  have hX8 : (votCells x).length = 8 := rfl
  obtain ⟨W1, hW1⟩ : ∃ W, W = W0.setRow w.heap.size c1 := ⟨_, rfl⟩
  have hcp1 : ∀ ty dc, (Builtin.copy_ #[23, 23] ty #[.slice (some ⟨w.heap.size, i * 8, none⟩) (n + 1 - i) dc, .slice (some ⟨vb, 0, none⟩) 1 1]).run Try.prog W0 = .ok (goInt 1) W1 := fun ty dc => by
    rw [hW1, hc1]
    exact run_copy_rowK W0 _ _ ty 32 w.heap.size (i * 8) (n + 1 - i) dc ⟨vb, 0, none⟩ 1 1 8 1 c0 32 (votCells x) Try.underlying23 sizeVot hg0 (by simp only [Nat.min_def]; split <;> omega) rfl
      (fun j u hu => by
        rw [Addr.add_mid, Nat.zero_add]
        exact cellAt hvb0 j (by simpa using hu)) (by rw [hc0s, hX8]; omega) h1X
  have hc1s : c1.size = gc * 8 := by rw [hc1]; simp [hc0s, hX8]; omega
  have hg1 : W1.heap[w.heap.size]? = some (.cells c1 32 (0, 0)) := by rw [hW1]; exact setRow_heap W0 _ c0 c1 _ _ hg0
  have hgo1 : W1.heap[g]? = some (.cells cur 32 (0, 0)) := by rw [hW1, setRow_other W0 _ g c1 (by omega)]; exact hgo
  obtain ⟨c2, hc2⟩ : ∃ c, c = (c1.toList.take ((i + 1) * 8) ++ D ++ c1.toList.drop ((i + 1) * 8 + D.length)).toArray := ⟨_, rfl⟩
  obtain ⟨W2, hW2⟩ : ∃ W, W = W1.drew.setRow w.heap.size c2 := ⟨_, rfl⟩
  have hcp2 : ∀ ty dc sc, (Builtin.copy_ #[23, 23] ty #[.slice (some ⟨w.heap.size, (i + 1) * 8, none⟩) (n - i) dc, .slice (some ⟨g, i * 8, none⟩) (n - i) sc]).run Try.prog W1.drew = .ok (goInt ((n - i : Nat) : Int)) W2 := fun ty dc sc => by
    rw [hW2, hc2]
    exact run_copy_rowK W1.drew _ _ ty 32 w.heap.size ((i + 1) * 8) (n - i) dc ⟨g, i * 8, none⟩ (n - i) sc 8 (n - i) c1 32 D Try.underlying23 sizeVot hg1 (by simp only [Nat.min_def]; split <;> omega) hdc
      (fun j u hu => by
        have hj : j < D.length := (List.getElem?_eq_some_iff.1 hu).1
        rw [Addr.add_mid]
        refine cellAt (w := W1) hgo1 (i * 8 + j) ?_
        rw [← Array.getElem?_toList, hcur, List.getElem?_append_right (by omega), hAl, show i * 8 + j - i * 8 = j by omega]
        exact hu) (by rw [hdc, hc1s]; omega) h1D
  have hres : c2.toList.take ((n + 1) * 8) = A ++ votCells x ++ D := by
    have h := grow_list (A := A) (X := votCells x) (D := D) (Z := Z) (k := 8) rfl (by rw [hZl, hdc]; omega)
    rw [hc2, hc1, hc0]
    simp only [List.toList_toArray]
    rw [show (n + 1) * 8 = A.length + 8 + D.length by rw [hAl, hdc]; omega, show (i + 1) * 8 = A.length + 8 by rw [hAl]; omega, show i * 8 = A.length by rw [hAl]]
    exact h
  have hc2s : c2.size = gc * 8 := by rw [hc2]; simp [hc1s, hdc]; omega
  have OWN : Hid (OwnV W2 base (.slice (some ⟨w.heap.size, 0, none⟩) (n + 1) gc) (l.take i ++ x :: l.drop i)) := Lib.hid (by
    have hl2 : (l.take i ++ x :: l.drop i).length = n + 1 := by simp [hdl, hti]; omega
    unfold OwnV
    rw [hl2, hW2]
    refine ⟨by rw [votCells_len, hl2], .inr ⟨w.heap.size, gc, c2, rfl, hbase, setRow_heap W1.drew _ c1 c2 _ _ hg1, hge, hgm, hc2s, ?_⟩⟩
    rw [hres, hA, hD]
    simp)
  have GR : Hid (w.grownBy W2 (some g)) := Lib.hid (by
    rw [hW2, hW1, hW0]
    refine ⟨rfl, rfl, rfl, by simp, fun q hq _ => ?_⟩
    rw [setRow_other _ _ q c2 (by omega)]
    show (World.setRow _ _ c1).heap[q]? = _
    rw [setRow_other _ _ q c1 (by omega)]
    exact heapOld w.drew _ _ hq)
  have hz2 : ((i : Int) == (n : Int)) = false := by rw [beq_eq_false_iff_ne]; omega
  have hz2n : (i == n) = false := by rw [beq_eq_false_iff_ne]; omega
  have hgt : decide ((n : Int) < (n : Int) + 1) = true := by rw [decide_eq_true_eq]; omega
  have hw1 : IntKind.i64.wrap ((i : Int) + 1) = (i : Int) + 1 := by rw [IntKind.wrap_i64]; omega
  have hw2 : IntKind.i64.wrap ((n : Int) + 1) = (n : Int) + 1 := by rw [IntKind.wrap_i64]; omega
  have hin : i ≤ n := by omega
  have hb1 : (0 : Int) ≤ (i : Int) + 1 := by omega
  have htn : ((i : Int) + 1).toNat = i + 1 := by omega
  have hb2 : ¬ (gc = i + 1) := by omega
  have hb3 : (i : Int) ≤ (n : Int) + 1 := by omega
  have hb4 : ¬ (gc = i) := by omega
  have hb5 : ¬ (n = i) := by omega
  have hb6 : i ≤ n + 1 := by omega
  have hgm2 : gc ≤ 9223372036854775807 := hgm
  have HAP := Lib.hid hap
  have HC1 := Lib.hid hcp1
  have HC2 := Lib.hid hcp2
  clear hap hcp1 hcp2 hres hc2s hc2 hc1s hc1 hc0 hc0s hcur hsplit hA hD hAl hdc h1D h1X hti hdl hcl hcs htake hg1 hW1 hn hg0 hgo hgo1 hvb0 hW0 hW2 hZl hZ hgc hX8 hti2 hz hsz hby hik hk
  go_enter Try.func27, Try.ntmps27
  have hcpy := HC1.out
  go_wp2_with (at_builtin; refine Lib.wpList_append_run w rfl (.tmp 34) (.tmp 39) _ _ rfl (.slice (some ⟨g, 0, none⟩) i n) (.int .i64 k) rfl rfl _ _ (HAP.out _) ?_)
  clear hcpy
  go_region_held3 (fun _ => True) (trivial) (first
    | (refine step_copy_runI rfl (.tmp 50) (.tmp 53) 23 23 rfl (.slice (some ⟨w.heap.size, (i + 1) * 8, none⟩) (n - i) (gc - (i + 1))) (.slice (some ⟨g, i * 8, none⟩) (n - i) (n - i)) rfl rfl (HC2.out _ (gc - (i + 1)) (n - i)) ?_))
  clear HC2
  go_wp2_with fail
  go_ret
  exact ⟨_, rfl, OWN.out, GR.out⟩
/-- Insert of a vote into votes of the call's own -/
theorem insV_any (base : Nat) (v : Value) (l : List Vot) (i : Nat) (x : Vot) (vb : Nat) (w : World) (hown : OwnV w base v l) (hi : i ≤ l.length) (hvb : w.heap[vb]? = some (.cells (votCells x).toArray 32 (0, 0))) (hne : v.ownBlock ≠ some vb) (hlen : l.length ≤ 100000) (hbase : base ≤ w.heap.size) :
    Calls Try.prog 27 #[v, .int .i64 i, .slice (some ⟨vb, 0, none⟩) 1 1] w fun e w' => ∃ v', e = .returned v' ∧ OwnV w' base v' (l.take i ++ x :: l.drop i) ∧ w.grownBy w' v.ownBlock := by
  rcases Nat.lt_or_ge i l.length with h | h
  · obtain ⟨h1, h2⟩ := id hown
    rcases h2 with ⟨rfl, hn⟩ | ⟨g, cap, cur, rfl, hbg, hg, hnc, hcm, hcs, htake⟩
    · omega
    · have hvg : vb ≠ g := fun e => hne (by rw [e]; rfl)
      rcases Nat.lt_or_ge l.length cap with h3 | h3
      · exact insV_room base g cap cur l i x vb w hg hcs htake hcm h h3 hvb hvg hlen hbg
      · obtain rfl : cap = l.length := by omega
        exact insV_grow base g cur l i x vb w hg hcs htake h hvb hlen hbase
  · obtain rfl : i = l.length := by omega
    rw [List.take_length, List.drop_length]
    exact insV_end base v l x vb w hown hvb hlen hbase
end Go.Proofs.Ytdkbajdnckmckaa

set_option linter.unusedVariables false
set_option linter.unusedSimpArgs false
namespace Go.Con
open Go
/-- votes, with one more for its slot -/
def putV (y : Vot) (l : List Vot) : List Vot := (l.filter fun v => decide (v.slot < y.slot)) ++ y :: l.filter fun v => decide (y.slot < v.slot)
theorem okVs_rise {p : Int × Int} : ∀ (l : List Vot) (last : Int), okVs p last l = true → (∀ v ∈ l, last < v.slot) ∧ ∀ a b, a < b → b < l.length → (l.getD a Vot.zero).slot < (l.getD b Vot.zero).slot
  | [], last, _ => ⟨(fun v h => by cases h), (fun a b _ h => by cases h)⟩
  | v :: l, last, h => by
    have h' : (okV v && decide (last < v.slot) && decide (cmpB v.bal p ≤ 0) && okVs p v.slot l) = true := h
    simp only [Bool.and_eq_true, decide_eq_true_eq] at h'
    obtain ⟨h1, h2⟩ := okVs_rise l v.slot h'.2
    refine ⟨fun u hu => ?_, fun a b hab hb => ?_⟩
    · rcases List.mem_cons.1 hu with rfl | hu
      · exact h'.1.1.2
      · have := h1 u hu; omega
    · cases b with
      | zero => omega
      | succ b =>
        have hb' : b < l.length := by simpa using hb
        cases a with
        | zero =>
          have : (l.getD b Vot.zero) ∈ l := by
            rw [List.getD_eq_getElem?_getD, List.getElem?_eq_getElem hb']; exact List.getElem_mem _
          exact h1 _ this
        | succ a => exact h2 a b (by omega) hb'
theorem filter_parts {l : List Vot} {s : Int} {i : Nat} (hi : i ≤ l.length) (h1 : ∀ q, q < i → (l.getD q Vot.zero).slot < s) (h2 : ∀ q, i ≤ q → q < l.length → s ≤ (l.getD q Vot.zero).slot) :
    (l.filter fun v => decide (v.slot < s)) = l.take i := by
  have e : l = l.take i ++ l.drop i := (List.take_append_drop i l).symm
  have ha : (l.take i).filter (fun v => decide (v.slot < s)) = l.take i := by
    rw [List.filter_eq_self]
    intro v hv
    obtain ⟨q, hq, rfl⟩ := List.getElem_of_mem hv
    rw [List.length_take] at hq
    have hql : q < l.length := by omega
    have h := h1 q (by omega)
    rw [List.getD_eq_getElem?_getD, List.getElem?_eq_getElem hql] at h
    rw [List.getElem_take]
    simpa using h
  have hb : (l.drop i).filter (fun v => decide (v.slot < s)) = [] := by
    rw [List.filter_eq_nil_iff]
    intro v hv
    obtain ⟨q, hq, rfl⟩ := List.getElem_of_mem hv
    rw [List.length_drop] at hq
    have h := h2 (i + q) (by omega) (by omega)
    rw [List.getD_eq_getElem?_getD, List.getElem?_eq_getElem (by omega)] at h
    rw [List.getElem_drop]
    simpa using h
  calc l.filter (fun v => decide (v.slot < s)) = (l.take i ++ l.drop i).filter (fun v => decide (v.slot < s)) := by rw [← e]
    _ = _ := by rw [List.filter_append, ha, hb, List.append_nil]
theorem filter_parts2 {l : List Vot} {s : Int} {i : Nat} (hi : i ≤ l.length) (h1 : ∀ q, q < i → (l.getD q Vot.zero).slot ≤ s) (h2 : ∀ q, i ≤ q → q < l.length → s < (l.getD q Vot.zero).slot) :
    (l.filter fun v => decide (s < v.slot)) = l.drop i := by
  have e : l = l.take i ++ l.drop i := (List.take_append_drop i l).symm
  have ha : (l.take i).filter (fun v => decide (s < v.slot)) = [] := by
    rw [List.filter_eq_nil_iff]
    intro v hv
    obtain ⟨q, hq, rfl⟩ := List.getElem_of_mem hv
    rw [List.length_take] at hq
    have hql : q < l.length := by omega
    have h := h1 q (by omega)
    rw [List.getD_eq_getElem?_getD, List.getElem?_eq_getElem hql] at h
    rw [List.getElem_take]
    simpa using h
  have hb : (l.drop i).filter (fun v => decide (s < v.slot)) = l.drop i := by
    rw [List.filter_eq_self]
    intro v hv
    obtain ⟨q, hq, rfl⟩ := List.getElem_of_mem hv
    rw [List.length_drop] at hq
    have h := h2 (i + q) (by omega) (by omega)
    rw [List.getD_eq_getElem?_getD, List.getElem?_eq_getElem (by omega)] at h
    rw [List.getElem_drop]
    simpa using h
  calc l.filter (fun v => decide (s < v.slot)) = (l.take i ++ l.drop i).filter (fun v => decide (s < v.slot)) := by rw [← e]
    _ = _ := by rw [List.filter_append, ha, hb, List.nil_append]
/-- a vote put where its slot is not yet -/
theorem putV_new {y : Vot} {l : List Vot} {i : Nat} (hi : i ≤ l.length) (h1 : ∀ q, q < i → (l.getD q Vot.zero).slot < y.slot) (h2 : ∀ q, i ≤ q → q < l.length → y.slot ≤ (l.getD q Vot.zero).slot)
    (hs : ∀ a b, a < b → b < l.length → (l.getD a Vot.zero).slot < (l.getD b Vot.zero).slot) (hn : ¬ (i < l.length ∧ (l.getD i Vot.zero).slot = y.slot)) : l.take i ++ y :: l.drop i = putV y l := by
  unfold putV
  rw [filter_parts hi h1 h2, filter_parts2 hi (fun q hq => by have := h1 q hq; omega) (fun q hq hql => by
    have h3 := h2 q hq hql
    rcases Nat.lt_or_ge i q with h | h
    · have h4 := hs i q h hql
      have h5 := h2 i (Nat.le_refl _) (by omega)
      omega
    · obtain rfl : q = i := by omega
      have : (l.getD q Vot.zero).slot ≠ y.slot := fun e => hn ⟨hql, e⟩
      omega)]
/-- a vote put where its slot is -/
theorem putV_old {y : Vot} {l : List Vot} {i : Nat} (hi : i < l.length) (h1 : ∀ q, q < i → (l.getD q Vot.zero).slot < y.slot) (h2 : ∀ q, i ≤ q → q < l.length → y.slot ≤ (l.getD q Vot.zero).slot)
    (hs : ∀ a b, a < b → b < l.length → (l.getD a Vot.zero).slot < (l.getD b Vot.zero).slot) (hn : (l.getD i Vot.zero).slot = y.slot) : l.take i ++ y :: l.drop (i + 1) = putV y l := by
  unfold putV
  rw [filter_parts (Nat.le_of_lt hi) h1 h2, filter_parts2 (i := i + 1) hi (fun q hq => by
    rcases Nat.lt_or_ge q i with h | h
    · have := h1 q h; omega
    · obtain rfl : q = i := by omega
      omega) (fun q hq hql => by
    have h4 := hs i q (by omega) hql
    omega)]
theorem listSet8 {L : List Value} {k : Nat} (c0 c1 c2 c3 c4 c5 c6 c7 : Value) (h : k + 8 ≤ L.length) :
    (((((((L.set k c0).set (k + 1) c1).set (k + 2) c2).set (k + 3) c3).set (k + 4) c4).set (k + 5) c5).set (k + 6) c6).set (k + 7) c7 = L.take k ++ [c0, c1, c2, c3, c4, c5, c6, c7] ++ L.drop (k + 8) := by
  obtain ⟨A, B, hL, hA⟩ : ∃ A B, L = A ++ B ∧ A.length = k := ⟨L.take k, L.drop k, (List.take_append_drop k L).symm, by rw [List.length_take]; omega⟩
  subst hL
  subst hA
  rw [List.length_append] at h
  have hB : 8 ≤ B.length := by omega
  match B, hB with
  | d0 :: d1 :: d2 :: d3 :: d4 :: d5 :: d6 :: d7 :: R, _ =>
    have e : ∀ j, ¬ (A.length + j < A.length) := fun j => by omega
    simp [List.set_append, e, Nat.add_sub_cancel_left, List.drop_append]
end Go.Con
namespace Go.Proofs.Ytdkbajdnckmckaa
open Go.RowKit Go.Con
/-- one vote of a row of the call's own is changed -/
theorem ownV_set {w : World} {base g n c : Nat} {l : List Vot} (h : OwnV w base (.slice (some ⟨g, 0, none⟩) n c) l) (i : Nat) (hi : i < l.length) (y : Vot) :
    OwnV ((((((((w.setCell ⟨g, i * 8, none⟩ (.int .i64 y.slot)).setCell ⟨g, i * 8 + 1, none⟩ (.int .i64 y.bal.1)).setCell ⟨g, i * 8 + 2, none⟩ (.int .i64 y.bal.2)).setCell ⟨g, i * 8 + 3, none⟩ (.int .i64 y.what.kind)).setCell ⟨g, i * 8 + 4, none⟩ (.int .i64 y.what.client)).setCell ⟨g, i * 8 + 5, none⟩ (.int .i64 y.what.seq)).setCell ⟨g, i * 8 + 6, none⟩ (.int .i64 y.what.name)).setCell ⟨g, i * 8 + 7, none⟩ (.int .i64 y.what.value)) base (.slice (some ⟨g, 0, none⟩) n c) (l.take i ++ y :: l.drop (i + 1)) := by
  obtain ⟨h1, h2⟩ := h
  rcases h2 with ⟨h3, hn⟩ | ⟨g', cap, cur, h3, hbg, hg, hnc, hcm, hcs, htake⟩
  · cases h3
  · injection h3 with e1 e2 e3
    injection e1 with e1
    injection e1 with e4
    subst e4 e3
    have hl2 : (l.take i ++ y :: l.drop (i + 1)).length = l.length := by simp; omega
    have hcl : cur.toList.length = c * 8 := by rw [Array.length_toList, hcs]
    unfold OwnV
    refine ⟨by rw [flatMap_len votCells 8 (fun _ => rfl)], .inr ⟨g, c, _, by rw [hl2]; exact congrArg (fun q => Value.slice (some ⟨g, 0, none⟩) q c) e2, hbg, heapSet (heapSet (heapSet (heapSet (heapSet (heapSet (heapSet (heapSet hg _) _) _) _) _) _) _) _, by rw [hl2]; exact hnc, hcm, by simp [hcs], ?_⟩⟩
    simp only [Array.toList_setIfInBounds]
    rw [listSet8 _ _ _ _ _ _ _ _ (by rw [hcl]; omega), hl2]
    have hsplit : l.flatMap votCells = (l.take i).flatMap votCells ++ ((l.drop i).take 1).flatMap votCells ++ (l.drop (i + 1)).flatMap votCells := by
      rw [← List.flatMap_append, ← List.flatMap_append, List.append_assoc, show (l.drop i).take 1 ++ l.drop (i + 1) = l.drop i by
        rw [show l.drop (i + 1) = (l.drop i).drop 1 by rw [List.drop_drop], List.take_append_drop], List.take_append_drop]
    obtain ⟨A, hA⟩ : ∃ A, A = (l.take i).flatMap votCells := ⟨_, rfl⟩
    obtain ⟨M, hM⟩ : ∃ A, A = ((l.drop i).take 1).flatMap votCells := ⟨_, rfl⟩
    obtain ⟨D, hD⟩ : ∃ D, D = (l.drop (i + 1)).flatMap votCells := ⟨_, rfl⟩
    have hAl : A.length = i * 8 := by rw [hA, flatMap_len votCells 8 (fun _ => rfl), List.length_take]; omega
    have hMl : M.length = 8 := by rw [hM, flatMap_len votCells 8 (fun _ => rfl), List.length_take, List.length_drop]; omega
    have hDl : D.length = (l.length - (i + 1)) * 8 := by rw [hD, flatMap_len votCells 8 (fun _ => rfl), List.length_drop]
    have hcur : cur.toList = A ++ M ++ D ++ cur.toList.drop (l.length * 8) := by
      rw [hA, hM, hD, ← hsplit, ← htake, List.take_append_drop]
    generalize cur.toList.drop (l.length * 8) = R at hcur
    rw [hcur]
    have t1 : (A ++ M ++ D ++ R).take (i * 8) = A := by rw [← hAl]; simp [List.append_assoc]
    have t2 : (A ++ M ++ D ++ R).drop (i * 8 + 8) = D ++ R := by
      rw [List.append_assoc, List.drop_left']
      simp [hAl, hMl]
    rw [t1, t2, ← List.append_assoc, List.take_left' (by simp [hAl, hDl]; omega), List.flatMap_append, List.flatMap_cons, ← hA, ← hD]
    simp [votCells]
end Go.Proofs.Ytdkbajdnckmckaa

set_option linter.unusedVariables false
set_option linter.unusedSimpArgs false
namespace Go.Proofs.Ytdkbajdnckmckaa
open Go.RowKit Go.Con
theorem search_to (v : Value) (l : List Vot) (y0 y1 y2 y3 y4 y5 y6 y7 : Int) (w : World) (hv : RdV w v l) (hsort : ∀ a b, a < b → b < l.length → (l.getD a Vot.zero).slot < (l.getD b Vot.zero).slot) (hl : l.length ≤ 100000) :
    Calls Try.prog 24 #[v, .agg #[.int .i64 y0, .int .i64 y1, .int .i64 y2, .int .i64 y3, .int .i64 y4, .int .i64 y5, .int .i64 y6, .int .i64 y7], .func (.func 25) #[] #[]] w fun e w' => ∃ (i : Nat) (b : Bool), slotAt l y0 i ∧ b = decide (i < l.length ∧ (l.getD i Vot.zero).slot = y0) ∧ e = .returned (.tuple #[.int .i64 i, .bool b]) ∧ Below w.heap.size w w' :=
  (search_any v l ⟨y0, (y1, y2), ⟨y3, y4, y5, y6, y7⟩⟩ w hv hsort hl).mono fun e w' ⟨i, h1, h2, h3⟩ => ⟨i, _, h1, rfl, h2, h3⟩
set_option maxRecDepth 100000 in
set_option maxHeartbeats 4000000 in
theorem Accept_any (p : Int × Int) (v : Value) (l : List Vot) (y : Vot) (w : World) (hv : Votes w v l) (hok : okA p l = true) (hy : okV y = true) (hl : l.length ≤ 1000) :
    Calls Try.prog 15 #[accV p v, votV y] w fun e w' => Below w.heap.size w w' ∧ ((cmpB y.bal p < 0 ∧ e = .returned (.tuple #[accV (0, 0) (.slice none 0 0), .int .i64 7])) ∨ (¬ cmpB y.bal p < 0 ∧ ∃ v1, e = .returned (.tuple #[accV y.bal v1, .int .i64 0]) ∧ OwnV w' w.heap.size v1 (putV y l))) := by
  obtain ⟨pr, pn⟩ := p
  obtain ⟨y0, ⟨y1, y2⟩, ⟨y3, y4, y5, y6, y7⟩⟩ := y
  obtain ⟨ea, ec, rfl, hle, hcm, -⟩ := id hv.1
  show Calls Try.prog 15 #[.agg #[.int .i64 pr, .int .i64 pn, .slice ea l.length ec], .agg #[.int .i64 y0, .int .i64 y1, .int .i64 y2, .int .i64 y3, .int .i64 y4, .int .i64 y5, .int .i64 y6, .int .i64 y7]] w _
  obtain ⟨n, hn⟩ : ∃ n, n = l.length := ⟨_, rfl⟩
  rw [← hn] at hv hle hl ⊢
  have HV := Lib.hid hv
  have HN := Lib.hid hn
  have HOK := Lib.hid (show (if okA (pr, pn) l then (0 : Int) else 5) = 0 by rw [hok]; rfl)
  have HY := Lib.hid hy
  have HSORT := Lib.hid (show ∀ a b, a < b → b < l.length → (l.getD a Vot.zero).slot < (l.getD b Vot.zero).slot from (okVs_rise l (-1) (by
    unfold okA at hok
    simp only [Bool.and_eq_true] at hok
    exact hok.2)).2)
  obtain ⟨P, hP⟩ : ∃ P, P = putV ⟨y0, (y1, y2), ⟨y3, y4, y5, y6, y7⟩⟩ l := ⟨_, rfl⟩
  rw [← hP]
  have HP := Lib.hid hP
  obtain ⟨c, hc⟩ : ∃ c, c = cmpB (y1, y2) (pr, pn) := ⟨_, rfl⟩
  dsimp only
  rw [← hc]
  have HC := Lib.hid hc.symm
  clear hv hn hok hy hc hP
  have hne1 : ¬ (w.heap.size + 1 + 1 = w.heap.size) := by omega
  have hne2 : ¬ (w.heap.size = w.heap.size + 1 + 1) := by omega
  go_enter Try.func15, Try.ntmps15
  go_upto_region 1 with fail
  generalize hW : World.alloc _ _ = w0
  have G := Lib.hid (alloc3Q hW)
  have a0 := cellAt G.out.1 0 rfl
  have a1 := cellAt G.out.1 1 rfl
  have a2 := cellAt G.out.1 2 rfl
  clear hW
  go_upto_region 4 with (go_at_call 12; refine (accCheck_to _ _ _ _ l _ ((HV.out.stay G.out.2.2.2.1).1) HOK).mono ?_; rintro e w1 ⟨rfl, hb1⟩; have B1 := Lib.hid hb1; clear hb1)
  clear a0 a1 a2
  have g3 := (B1.out.block _ (lt_of_heap G.out.2.1)).trans G.out.2.1
  have b0 := cellAt g3 0 rfl
  have b1 := cellAt g3 1 rfl
  have b2 := cellAt g3 2 rfl
  have b3 := cellAt g3 3 rfl
  have b4 := cellAt g3 4 rfl
  have b5 := cellAt g3 5 rfl
  have b6 := cellAt g3 6 rfl
  have b7 := cellAt g3 7 rfl
  clear g3
  go_upto_region 6 with (go_at_call 20; refine (vote_to _ _ _ _ _ _ _ _ _ _ HY).mono ?_; rintro e w2 ⟨rfl, hb2⟩; have B2 := Lib.hid (B1.out.trans (hb2.mono B1.out.size)); clear hb2)
  clear b0 b1 b2 b3 b4 b5 b6 b7
  have g2 := (B2.out.block _ (lt_of_heap G.out.1)).trans G.out.1
  have g3 := (B2.out.block _ (lt_of_heap G.out.2.1)).trans G.out.2.1
  have g4 := (B2.out.block _ (lt_of_heap G.out.2.2.1)).trans G.out.2.2.1
  have G2 := Lib.hid g2
  have G3 := Lib.hid g3
  have G4 := Lib.hid g4
  have BW2 := Lib.hid (G.out.2.2.2.1.trans (B2.out.mono G.out.2.2.2.1.size))
  have a0 := cellAt g2 0 rfl
  have a1 := cellAt g2 1 rfl
  have b1 := cellAt g3 1 rfl
  have b2 := cellAt g3 2 rfl
  clear g2 g3 g4
  by_cases hc0 : c < 0
  · have hcd : decide (c < 0) = true := by rw [decide_eq_true_eq]; exact hc0
    go_wp2_with (go_at_call 21; refine (compare_to _ _ _ _ _ _ HC).mono ?_; rintro e w3 ⟨rfl, hb3⟩; have B3 := Lib.hid (BW2.out.trans (hb3.mono BW2.out.size)); have g4 := (hb3.block _ (lt_of_heap G4.out)).trans G4.out; have Z4 := Lib.hid g4; have z0 := cellAt g4 0 rfl; have z1 := cellAt g4 1 rfl; have z2 := cellAt g4 2 rfl; have zf := freeAt g4; clear hb3 g4)
    generalize hW : World.setCell _ _ _ = w5
    have z5 : w5.heap[w.heap.size + 1 + 1]? = some (.cells #[.int .i64 0, .int .i64 0, .slice none 0 0] 39 (0, 0)) := by
      rw [← hW]; exact heapSet (heapSet (heapSet Z4.out _) _) _
    have hle2 : w.heap.size ≤ w.heap.size + 1 + 1 := by omega
    have b5 : Below w.heap.size w w5 := by rw [← hW]; exact ((B3.out.setCell hle2 _).setCell hle2 _).setCell hle2 _
    clear hW z0 z1 z2 zf
    have e0 : w5.cell? ⟨w.heap.size + 1 + 1, 0, none⟩ = some (.int .i64 0) := cellAt z5 0 rfl
    have e1 : w5.cell? ⟨w.heap.size + 1 + 1, 1, none⟩ = some (.int .i64 0) := cellAt z5 1 rfl
    have e2 : w5.cell? ⟨w.heap.size + 1 + 1, 2, none⟩ = some (.slice none 0 0) := cellAt z5 2 rfl
    refine bodyPost_ret (v := .tuple #[.agg #[.int .i64 0, .int .i64 0, .slice none 0 0], .int .i64 7]) ?_ rfl ⟨b5, .inl rfl⟩
    simp [results, Try.results15, go_sem, e0, e1, e2]
  · have hcd : decide (c < 0) = false := by rw [decide_eq_false_iff_not]; exact hc0
    go_upto_region 8 with (go_at_call 21; refine (compare_to _ _ _ _ _ _ HC).mono ?_; rintro e w3 ⟨rfl, hb3⟩; have B23 := Lib.hid hb3; clear hb3)
    clear a0 a1 b1 b2
    have B3 := Lib.hid (BW2.out.trans (B23.out.mono BW2.out.size))
    have Z2 := Lib.hid ((B23.out.block _ (lt_of_heap G2.out)).trans G2.out)
    have Z3 := Lib.hid ((B23.out.block _ (lt_of_heap G3.out)).trans G3.out)
    have Z4 := Lib.hid ((B23.out.block _ (lt_of_heap G4.out)).trans G4.out)
    have s2 : w3.cell? ⟨w.heap.size, 2, none⟩ = some (.slice ea n ec) := cellAt Z2.out 2 rfl
    go_upto_region 9 with (go_at_call 23; refine (clnV_any _ l _ ((HV.out.stay B3.out).1) HV.out.2 (by rw [← HN.out]; omega)).mono ?_; rintro e w5 ⟨v1, rfl, ho5, hb5⟩; have O5 := Lib.hid ho5; have B5 := Lib.hid hb5; clear ho5 hb5)
    clear s2
    obtain ⟨sa, sc, rfl, -⟩ := id O5.out.row
    have Y3 := Lib.hid ((B5.out.block _ (lt_of_heap Z3.out)).trans Z3.out)
    have b0 : w5.cell? ⟨w.heap.size + 1, 0, none⟩ = some (.int .i64 y0) := cellAt Y3.out 0 rfl
    have b1 : w5.cell? ⟨w.heap.size + 1, 1, none⟩ = some (.int .i64 y1) := cellAt Y3.out 1 rfl
    have b2 : w5.cell? ⟨w.heap.size + 1, 2, none⟩ = some (.int .i64 y2) := cellAt Y3.out 2 rfl
    have b3 : w5.cell? ⟨w.heap.size + 1, 3, none⟩ = some (.int .i64 y3) := cellAt Y3.out 3 rfl
    have b4 : w5.cell? ⟨w.heap.size + 1, 4, none⟩ = some (.int .i64 y4) := cellAt Y3.out 4 rfl
    have b5 : w5.cell? ⟨w.heap.size + 1, 5, none⟩ = some (.int .i64 y5) := cellAt Y3.out 5 rfl
    have b6 : w5.cell? ⟨w.heap.size + 1, 6, none⟩ = some (.int .i64 y6) := cellAt Y3.out 6 rfl
    have b7 : w5.cell? ⟨w.heap.size + 1, 7, none⟩ = some (.int .i64 y7) := cellAt Y3.out 7 rfl
    go_upto_region 10 with (go_at_call 24; refine (search_to _ l _ _ _ _ _ _ _ _ _ O5.out.row HSORT.out (by rw [← HN.out]; omega)).mono ?_; rintro e w6 ⟨i, fo, hat, hfo, rfl, hb6⟩; have AT := Lib.hid hat; have FO := Lib.hid hfo; have B6 := Lib.hid hb6; clear hat hfo hb6)
    clear b0 b1 b2 b3 b4 b5 b6 b7
    rw [← HN.out] at FO O5 ⊢
    have O6 := Lib.hid (ownV_move O5.out (Nat.le_refl _) (fun k _ hk2 => B6.out.block k hk2))
    have Y36 := Lib.hid ((B6.out.block _ (lt_of_heap Y3.out)).trans Y3.out)
    have Y46 := Lib.hid ((B6.out.block _ (Nat.lt_of_lt_of_le (lt_of_heap Z4.out) B5.out.size)).trans ((B5.out.block _ (lt_of_heap Z4.out)).trans Z4.out))
    have BW6 := Lib.hid (B3.out.trans ((B5.out.trans (B6.out.mono B5.out.size)).mono B3.out.size))
    have h43 : w.heap.size + 1 + 1 < w3.heap.size := lt_of_heap Z4.out
    have h35 := B5.out.size
    have h56 := B6.out.size
    have b0 : w6.cell? ⟨w.heap.size + 1, 0, none⟩ = some (.int .i64 y0) := cellAt Y36.out 0 rfl
    have b1 : w6.cell? ⟨w.heap.size + 1, 1, none⟩ = some (.int .i64 y1) := cellAt Y36.out 1 rfl
    have b2 : w6.cell? ⟨w.heap.size + 1, 2, none⟩ = some (.int .i64 y2) := cellAt Y36.out 2 rfl
    have b3 : w6.cell? ⟨w.heap.size + 1, 3, none⟩ = some (.int .i64 y3) := cellAt Y36.out 3 rfl
    have b4 : w6.cell? ⟨w.heap.size + 1, 4, none⟩ = some (.int .i64 y4) := cellAt Y36.out 4 rfl
    have b5 : w6.cell? ⟨w.heap.size + 1, 5, none⟩ = some (.int .i64 y5) := cellAt Y36.out 5 rfl
    have b6 : w6.cell? ⟨w.heap.size + 1, 6, none⟩ = some (.int .i64 y6) := cellAt Y36.out 6 rfl
    have b7 : w6.cell? ⟨w.heap.size + 1, 7, none⟩ = some (.int .i64 y7) := cellAt Y36.out 7 rfl
    cases fo
    · have hnf : ¬ (i < l.length ∧ (l.getD i Vot.zero).slot = y0) := by
        have h := FO.out.symm
        rw [decide_eq_false_iff_not] at h
        rw [← HN.out]; exact h
      have hPi : l.take i ++ ⟨y0, (y1, y2), ⟨y3, y4, y5, y6, y7⟩⟩ :: l.drop i = P := by
        rw [HP.out]; exact putV_new AT.out.1 AT.out.2.1 AT.out.2.2 HSORT.out hnf
      have PI := Lib.hid hPi
      clear hnf hPi
      have hlo := Lib.hid (row_lt O6.out)
      go_upto_region 13 with (go_at_call 27; refine (insV_any w3.heap.size _ l i ⟨y0, (y1, y2), ⟨y3, y4, y5, y6, y7⟩⟩ w6.heap.size _ (World.ownsRow.alloc O6.out _) AT.out.1 (heapNew _ _) (fun h => by have := (hlo.out _ h).2; omega) (by rw [← HN.out]; omega) (by simp; omega)).mono ?_; rintro e w8 ⟨v8, rfl, ho8, hg8⟩; have O8 := Lib.hid (show OwnV w8 w3.heap.size v8 P by rw [← PI.out]; exact ho8); have G8 := Lib.hid hg8; clear ho8 hg8)
      clear b0 b1 b2 b3 b4 b5 b6 b7
      have hk8 : ∀ k, k < w3.heap.size → w8.heap[k]? = w6.heap[k]? := fun k hk => (G8.out.block k (by simp; omega) (fun e => by have := (hlo.out k e.symm).1; omega)).trans (heapOld w6 _ _ (by omega))
      have BW8 := Lib.hid (show Below w.heap.size w w8 from (BW6.out.alloc BW6.out.size _).grown G8.out (by simp; omega) (fun k hk => by have := (hlo.out k hk).1; omega))
      have HK8 := Lib.hid hk8
      clear hk8
      have R3 := Lib.hid (show w8.heap[w.heap.size + 1]? = _ from (HK8.out _ (by omega)).trans Y36.out)
      have R4 := Lib.hid (show w8.heap[w.heap.size + 1 + 1]? = _ from (HK8.out _ (by omega)).trans Y46.out)
      have c1 : w8.cell? ⟨w.heap.size + 1, 1, none⟩ = some (.int .i64 y1) := cellAt R3.out 1 rfl
      have c2 : w8.cell? ⟨w.heap.size + 1, 2, none⟩ = some (.int .i64 y2) := cellAt R3.out 2 rfl
      have d0 : w8.cell? ⟨w.heap.size + 1 + 1, 0, none⟩ = some (.int .i64 0) := cellAt R4.out 0 rfl
      have d1 : w8.cell? ⟨w.heap.size + 1 + 1, 1, none⟩ = some (.int .i64 0) := cellAt R4.out 1 rfl
      have d2 : w8.cell? ⟨w.heap.size + 1 + 1, 2, none⟩ = some (.slice none 0 0) := cellAt R4.out 2 rfl
      have df := freeAt R4.out
      obtain ⟨za, zc, hzv, -⟩ := id O8.out.row
      subst hzv
      go_wp2_with fail
      generalize hW : World.setCell _ _ _ = wY
      have zY : wY.heap[w.heap.size + 1 + 1]? = some (.cells #[.int .i64 y1, .int .i64 y2, .slice za P.length zc] 39 (0, 0)) := by
        rw [← hW]; exact heapSet (heapSet (heapSet R4.out _) _) _
      have hle2 : w.heap.size ≤ w.heap.size + 1 + 1 := by omega
      have bY : Below w.heap.size w wY := by rw [← hW]; exact ((BW8.out.setCell hle2 _).setCell hle2 _).setCell hle2 _
      have hq : ∀ k, k ≠ w.heap.size + 1 + 1 → wY.heap[k]? = w8.heap[k]? := fun k hk => by
        rw [← hW, heapSet_ne _ _ hk, heapSet_ne _ _ hk, heapSet_ne _ _ hk]
      have oY : OwnV wY w.heap.size (.slice za P.length zc) P := ownV_move O8.out (by omega) (fun k hk hk2 => hq k (by omega))
      clear hW c1 c2 d0 d1 d2 df hq
      have e0 : wY.cell? ⟨w.heap.size + 1 + 1, 0, none⟩ = some (.int .i64 y1) := cellAt zY 0 rfl
      have e1 : wY.cell? ⟨w.heap.size + 1 + 1, 1, none⟩ = some (.int .i64 y2) := cellAt zY 1 rfl
      have e2 : wY.cell? ⟨w.heap.size + 1 + 1, 2, none⟩ = some (.slice za P.length zc) := cellAt zY 2 rfl
      refine bodyPost_ret (v := .tuple #[.agg #[.int .i64 y1, .int .i64 y2, .slice za P.length zc], .int .i64 0]) ?_ rfl ⟨bY, .inr ⟨_, rfl, oY⟩⟩
      simp [results, Try.results15, go_sem, e0, e1, e2]
    · have hfd := FO.out.symm
      rw [decide_eq_true_eq] at hfd
      obtain ⟨hin, hsl⟩ := hfd
      have hil : i < l.length := by rw [← HN.out]; exact hin
      have hPi : l.take i ++ ⟨y0, (y1, y2), ⟨y3, y4, y5, y6, y7⟩⟩ :: l.drop (i + 1) = P := by
        rw [HP.out]; exact putV_old hil AT.out.2.1 AT.out.2.2 HSORT.out hsl
      have PI := Lib.hid hPi
      obtain ⟨g, hg, hgb, cur, hgh⟩ : ∃ g, sa = some ⟨g, 0, none⟩ ∧ w3.heap.size ≤ g ∧ ∃ cur, w6.heap[g]? = some (.cells cur 32 (0, 0)) := by
        obtain ⟨-, h2⟩ := O6.out
        rcases h2 with ⟨h3, hn0⟩ | ⟨g', cap, cur, h3, hbg, hg, -⟩
        · have h2 := HN.out; omega
        · injection h3 with e1
          exact ⟨g', e1, hbg, cur, hg⟩
      subst hg
      obtain ⟨eb, eoff, he, -, hec⟩ := O6.out.row.cells.2.2 i hin
      have he2 := Option.some.inj he
      injection he2 with e1 e2
      subst e1 e2
      obtain ⟨ov, hov⟩ : ∃ v, v = l.getD i Vot.zero := ⟨_, rfl⟩
      rw [← hov] at hec
      obtain ⟨x0, x1, x2, x3, x4, x5, x6, x7⟩ := cellsV hec
      simp only [Nat.zero_add] at x0 x1 x2 x3 x4 x5 x6 x7
      have xf := freeAt hgh
      have SET := Lib.hid (ownV_set O6.out i hil ⟨y0, (y1, y2), ⟨y3, y4, y5, y6, y7⟩⟩)
      clear hov hec hsl hPi he hgh
      go_upto_region 13 with fail
      generalize hW : World.setCell _ _ _ = w8
      have O8 := Lib.hid (show OwnV w8 w3.heap.size (.slice (some ⟨g, 0, none⟩) n sc) P by rw [← hW, ← PI.out]; exact SET.out)
      have HK8 := Lib.hid (show ∀ k, k < w3.heap.size → w8.heap[k]? = w6.heap[k]? from fun k hk => by
        have hne : k ≠ g := by omega
        rw [← hW, heapSet_ne _ _ hne, heapSet_ne _ _ hne, heapSet_ne _ _ hne, heapSet_ne _ _ hne, heapSet_ne _ _ hne, heapSet_ne _ _ hne, heapSet_ne _ _ hne, heapSet_ne _ _ hne])
      have BW8 := Lib.hid (show Below w.heap.size w w8 by
        have hle : w.heap.size ≤ g := by omega
        rw [← hW]
        exact (((((((BW6.out.setCell hle _).setCell hle _).setCell hle _).setCell hle _).setCell hle _).setCell hle _).setCell hle _).setCell hle _)
      clear hW b0 b1 b2 b3 b4 b5 b6 b7 x0 x1 x2 x3 x4 x5 x6 x7 xf SET
      have R3 := Lib.hid (show w8.heap[w.heap.size + 1]? = _ from (HK8.out _ (by omega)).trans Y36.out)
      have R4 := Lib.hid (show w8.heap[w.heap.size + 1 + 1]? = _ from (HK8.out _ (by omega)).trans Y46.out)
      have c1 : w8.cell? ⟨w.heap.size + 1, 1, none⟩ = some (.int .i64 y1) := cellAt R3.out 1 rfl
      have c2 : w8.cell? ⟨w.heap.size + 1, 2, none⟩ = some (.int .i64 y2) := cellAt R3.out 2 rfl
      have d0 : w8.cell? ⟨w.heap.size + 1 + 1, 0, none⟩ = some (.int .i64 0) := cellAt R4.out 0 rfl
      have d1 : w8.cell? ⟨w.heap.size + 1 + 1, 1, none⟩ = some (.int .i64 0) := cellAt R4.out 1 rfl
      have d2 : w8.cell? ⟨w.heap.size + 1 + 1, 2, none⟩ = some (.slice none 0 0) := cellAt R4.out 2 rfl
      have df := freeAt R4.out
      obtain ⟨za, zc, hzv, -⟩ := id O8.out.row
      injection hzv with hz1 hz2 hz3
      rw [hz2] at O8 ⊢
      clear hz1 hz3
      go_wp2_with fail
      generalize hW : World.setCell _ _ _ = wY
      have zY : wY.heap[w.heap.size + 1 + 1]? = some (.cells #[.int .i64 y1, .int .i64 y2, .slice (some ⟨g, 0, none⟩) P.length sc] 39 (0, 0)) := by
        rw [← hW]; exact heapSet (heapSet (heapSet R4.out _) _) _
      have hle2 : w.heap.size ≤ w.heap.size + 1 + 1 := by omega
      have bY : Below w.heap.size w wY := by rw [← hW]; exact ((BW8.out.setCell hle2 _).setCell hle2 _).setCell hle2 _
      have hq : ∀ k, k ≠ w.heap.size + 1 + 1 → wY.heap[k]? = w8.heap[k]? := fun k hk => by
        rw [← hW, heapSet_ne _ _ hk, heapSet_ne _ _ hk, heapSet_ne _ _ hk]
      have oY : OwnV wY w.heap.size (.slice (some ⟨g, 0, none⟩) P.length sc) P := ownV_move O8.out (by omega) (fun k hk hk2 => hq k (by omega))
      clear hW c1 c2 d0 d1 d2 df hq
      have e0 : wY.cell? ⟨w.heap.size + 1 + 1, 0, none⟩ = some (.int .i64 y1) := cellAt zY 0 rfl
      have e1 : wY.cell? ⟨w.heap.size + 1 + 1, 1, none⟩ = some (.int .i64 y2) := cellAt zY 1 rfl
      have e2 : wY.cell? ⟨w.heap.size + 1 + 1, 2, none⟩ = some (.slice (some ⟨g, 0, none⟩) P.length sc) := cellAt zY 2 rfl
      refine bodyPost_ret (v := .tuple #[.agg #[.int .i64 y1, .int .i64 y2, .slice (some ⟨g, 0, none⟩) P.length sc], .int .i64 0]) ?_ rfl ⟨bY, .inr ⟨_, rfl, oY⟩⟩
      simp [results, Try.results15, go_sem, e0, e1, e2]
end Go.Proofs.Ytdkbajdnckmckaa

set_option linter.unusedVariables false
set_option linter.unusedSimpArgs false
namespace Go.Proofs.Ytdkbajdnckmckaa
open Go.RowKit Go.Con

set_option maxHeartbeats 400000 in
theorem picked_any (n m : Int) (w : World) (h1 : -9223372036854775808 ≤ n) (h2 : n ≤ 9223372036854775807) (h3 : 0 < m) :
    Calls Try.prog 10 #[.int .i64 n, .int .i64 m] w fun e w' => e = .returned (.int .i64 (pick n m)) ∧ w = w' := by
  by_cases hn : n < 0
  · go_enter Try.func10, Try.ntmps10
    go_wp2
    go_ret
    exact ⟨ret_int (by rw [pick, if_pos hn, ← Int.neg_tmod, Int.tmod_eq_emod_of_nonneg (by omega)]), rfl⟩
  · go_enter Try.func10, Try.ntmps10
    go_wp2
    go_ret
    exact ⟨ret_int (by rw [pick, if_neg (by omega)]), rfl⟩

end Go.Proofs.Ytdkbajdnckmckaa

set_option linter.unusedVariables false
set_option linter.unusedSimpArgs false
namespace Go.Con
def Int64 (n : Int) : Prop := -9223372036854775808 ≤ n ∧ n ≤ 9223372036854775807
/-- every number of a wish is an int -/
def WishOk (x : Cmd) : Prop := Int64 x.kind ∧ Int64 x.client ∧ Int64 x.seq ∧ Int64 x.name ∧ Int64 x.value
/-- a wish as a command -/
def cmdOf (x : Cmd) : Cmd :=
  let k := 1 + pick x.kind 5 / 2
  ⟨k, pick x.client 4, pick x.seq 6, pick x.name 4, if k = 1 then pick x.value 1000 else 0⟩
theorem cmdOf_check (x : Cmd) : checkC (cmdOf x) = 0 := by
  have h1 := pick_nonneg x.kind 5 (by omega)
  have h2 := pick_lt x.kind 5 (by omega)
  have h3 := pick_nonneg x.client 4 (by omega)
  have h4 := pick_lt x.client 4 (by omega)
  have h5 := pick_nonneg x.seq 6 (by omega)
  have h6 := pick_lt x.seq 6 (by omega)
  have h7 := pick_nonneg x.name 4 (by omega)
  have h8 := pick_lt x.name 4 (by omega)
  have h9 := pick_nonneg x.value 1000 (by omega)
  have h10 := pick_lt x.value 1000 (by omega)
  unfold checkC
  have hk : 1 ≤ (cmdOf x).kind ∧ (cmdOf x).kind ≤ 3 := by simp only [cmdOf]; omega
  rw [if_neg (by omega), if_pos hk]
  have hr : inRange (cmdOf x) = true := by
    unfold inRange
    rw [decide_eq_true_eq]
    simp only [cmdOf]
    refine ⟨h3, by omega, h5, by omega, h7, by omega, ?_⟩
    split <;> omega
  rw [if_neg (by rw [hr]; decide), if_neg]
  intro ⟨ha, hb⟩
  apply hb
  simp only [cmdOf] at ha ⊢
  rw [if_neg ha]
end Go.Con
namespace Go.Proofs.Ytdkbajdnckmckaa
open Go.RowKit Go.Con

end Go.Proofs.Ytdkbajdnckmckaa
