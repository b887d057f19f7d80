/-
  Counting votes in a map.
-/
import Derived.Test.YtdkbajdnckmckaaMpV
set_option linter.unusedVariables false
set_option linter.unusedSimpArgs false
namespace Go.Proofs.Ytdkbajdnckmckaa
open Go.RowKit Go.Con Go.ChangeMaps Go.WideMaps Go.WideElems
/-- the counts of some votes, in a map -/
def CntM (w : World) (B n : Nat) (S : List Vot) : Prop := ∃ D : DataW Unit, w.ownsMap Try.prog 32 (plainElem Try.prog 3) B n D ∧ (∀ y kl, keyOf Try.prog 32 (votV y) = some kl → D.atKey kl (.lit (.int .i64 0)) = .lit (.int .i64 (S.count y : Nat))) ∧ (∀ kl, Go.Maps.has D kl = true → ∃ y, y ∈ S ∧ keyOf Try.prog 32 (votV y) = some kl)
theorem CntM.lt {w : World} {B n : Nat} {S : List Vot} (h : CntM w B n S) : B < w.heap.size := by obtain ⟨D, h, _⟩ := h; exact h.lt
theorem CntM.kept {w w' : World} {B n : Nat} {S : List Vot} (h : CntM w B n S) (hb : w'.heap[B]? = w.heap[B]?) : CntM w' B n S := by
  obtain ⟨D, ⟨es, clock, h1, h2⟩, h3⟩ := h
  exact ⟨D, ⟨es, clock, hb.trans h1, h2⟩, h3⟩
theorem zeroInt (u : World) : (zeroValue 3).run Try.prog u = .ok (.int .i64 0) u := by kernel_rfl
theorem grown_setBlock {w : World} {b : Nat} {es : Array MapEntry} {clock : Nat} {o' : Obj} (hb : w.heap[b]? = some (.map es clock)) : w.grownBy (setBlock w b o') (some b) := ⟨rfl, rfl, rfl, by simp [setBlock], fun i _ hi => heap_setBlock_other hb _ (fun e => hi (by rw [e]))⟩
/-- 'count[y]++': the entry, the count, the store, in whatever order -/
theorem cnt_entry {w : World} {B n : Nat} {S : List Vot} (h : CntM w B n S) (y : Vot) (hy : VotI y) (hn : n < 1000000) (hS : S.length ≤ 1000000) :
    ∃ (st : Nat) (w1 w2 : World), (Instr.mapEntry 73 (.map (some B)) (votV y)).run Try.prog w = .ok (.tuple #[.int .i64 (S.count y : Nat), goInt st]) w1 ∧
      (Instr.lookup 73 (.map (some B)) (votV y) false).run Try.prog w = .ok (.int .i64 (S.count y : Nat)) w ∧
      (Instr.lookup 73 (.map (some B)) (votV y) false).run Try.prog w1 = .ok (.int .i64 (S.count y : Nat)) w1 ∧
      (Instr.entryStore 73 (.map (some B)) (goInt st) (.int .i64 ((S.count y : Nat) + 1))).run Try.prog w1 = .ok () w2 ∧
      w.grownBy w1 (some B) ∧ w.grownBy w2 (some B) ∧ CntM w2 B (n + 1) (S ++ [y]) := by
  obtain ⟨kl, hkl⟩ := votKey hy
  obtain ⟨D, hown, hat, hhas⟩ := h
  have hc := hat y kl hkl
  have hcb : S.count y ≤ S.length := List.count_le_length
  have hmt := Try.underlying73
  have hown0 := hown
  obtain ⟨es, clock, hb, F, hs, hD⟩ := hown0
  obtain ⟨v0, st, es1, clock1, hrun, hv0, hst⟩ := entry_then_store votLaw hmt zeroInt hb F hkl
  obtain ⟨c0, hl0, ha0, -⟩ := hown.lookup_int votKeyed hmt Try.underlying3 (zeroInt w) hkl
  have hc0 : c0 = (S.count y : Nat) := by rw [hc] at ha0; injection ha0 with ha0; injection ha0 with _ ha0; exact ha0.symm
  subst hc0
  have hb1 : (setBlock w B (.map es1 clock1)).heap[B]? = some (.map es1 clock1) := heap_setBlock_same hb _
  -- the map behind the entry's making
  have hown1 : ∃ n1 D1, (setBlock w B (.map es1 clock1)).ownsMap Try.prog 32 (plainElem (H := Unit) Try.prog 3) B n1 D1 ∧ D1.atKey kl (.lit (.int .i64 0)) = D.atKey kl (.lit (.int .i64 0)) ∧ v0 = .int .i64 (S.count y : Nat) := by
    rcases votLaw.find w hkl es.toList F.keys with ⟨h1, h2⟩ | ⟨j, e0, h1, h2, h3⟩
    · have hr2 : (Instr.mapEntry 73 (.map (some B)) (votV y)).run Try.prog w = .ok (.tuple #[.int .i64 0, goInt clock]) (setBlock w B (.map (es.push ⟨votV y, .int .i64 0, clock⟩) (clock + 1))) := by
        simp [Instr.mapEntry, run_underlying hmt, MapKept.run_getObj_map hb, votLaw.check w false hkl, h1, zeroInt, MapKept.run_setObj_map _ hb, Result.andThen, setBlock]
      have hr3 : (Instr.mapUpdate 73 (.map (some B)) (votV y) (.int .i64 0)).run Try.prog w = .ok () (setBlock w B (.map (es.push ⟨votV y, .int .i64 0, clock⟩) (clock + 1))) := by
        simp [Instr.mapUpdate, run_underlying hmt, MapKept.run_getObj_map hb, votLaw.check w false hkl, h1, MapKept.run_setObj_map _ hb, Result.andThen, setBlock]
      rw [hr2] at hrun
      injection hrun with e1 e2
      have ev : v0 = .int .i64 0 := by
        injection e1 with e1
        have := congrArg (fun a : Array Value => a[0]?) e1
        simpa using this.symm
      obtain ⟨w', hu1, hu2, -⟩ := hown.update votKeyed hmt (by unfold maxLen; omega) hkl (plainElem_int Try.underlying3 (by decide) : plainElem (H := Unit) Try.prog 3 (.int .i64 0) = _)
      rw [hr3] at hu1
      injection hu1 with _ hu1
      have hz : D.atKey kl (.lit (.int .i64 0)) = .lit (.int .i64 0) := by
        rcases Go.Maps.fit_look (H := Unit) false votKeyed hmt (zeroInt w) hb F hkl with ⟨_, _, h5⟩ | ⟨e5, _, h5, h6, _⟩
        · rw [hD]; exact h5 _
        · exact absurd h6 (h2 e5 h5)
      have hcz : S.count y = 0 := by rw [hc] at hz; injection hz with hz; injection hz with _ hz; omega
      refine ⟨n + 1, _, by rw [← e2, hu1]; exact hu2, ?_, by rw [ev, hcz]; rfl⟩
      rw [Go.Maps.atKey_put_same hown.isMap (votKeyed.key hkl), hz]
    · have hj : es[j]? = some e0 := by simpa using h2
      have hsame : es.modify j (fun e => { e with key := votV y }) = es := by
        apply Array.ext'
        rw [Array.toList_modify, modify_eq_set _ _ _ _ h2]
        have : ({ e0 with key := votV y } : MapEntry) = e0 := by rw [← h3]
        rw [this]
        exact set_self _ _ _ h2
      have hr2 : (Instr.mapEntry 73 (.map (some B)) (votV y)).run Try.prog w = .ok (.tuple #[e0.val, goInt e0.born]) (setBlock w B (.map es clock)) := by
        simp [Instr.mapEntry, run_underlying hmt, MapKept.run_getObj_map hb, votLaw.check w false hkl, h1, hj, h3, votLaw.stays w hkl, hsame, MapKept.run_setObj_map _ hb, Result.andThen, setBlock]
      have hr4 : (Instr.lookup 73 (.map (some B)) (votV y) false).run Try.prog w = .ok e0.val w := by
        simp [Instr.lookup, run_underlying hmt, MapKept.run_getObj_map hb, votLaw.check w _ hkl, h1, Result.andThen]
      rw [hr4] at hl0
      injection hl0 with hl0
      rw [hr2] at hrun
      injection hrun with e1 e2
      have ev : v0 = e0.val := by
        injection e1 with e1
        have := congrArg (fun a : Array Value => a[0]?) e1
        simpa using this.symm
      refine ⟨n, D, ?_, rfl, by rw [ev, hl0]⟩
      rw [← e2]
      exact ⟨es, clock, heap_setBlock_same hb _, F, hs, hD⟩
  obtain ⟨n1, D1, ho1, ha1, rfl⟩ := hown1
  obtain ⟨c1, hl1, hb1c, -⟩ := ho1.lookup_int votKeyed hmt Try.underlying3 (zeroInt _) hkl
  have hc1 : c1 = (S.count y : Nat) := by rw [ha1, hc] at hb1c; injection hb1c with hb1c; injection hb1c with _ hb1c; exact hb1c.symm
  subst hc1
  obtain ⟨es', clock', hs1, hs2⟩ := hst (setBlock w B (.map es1 clock1)) (.int .i64 ((S.count y : Nat) + 1)) hb1
  obtain ⟨w', hu1, hu2, hu3⟩ := hown.update votKeyed hmt (by unfold maxLen; omega) hkl (plainElem_int Try.underlying3 (WalkArith.wf_i64 (by omega)) : plainElem (H := Unit) Try.prog 3 (.int .i64 ((S.count y : Nat) + 1)) = _)
  rw [hs2] at hu1
  injection hu1 with _ hu1
  have hB2 : (setBlock (setBlock w B (.map es1 clock1)) B (.map es' clock')).heap[B]? = w'.heap[B]? := by
    rw [heap_setBlock_same hb1, ← hu1, heap_setBlock_same hb]
  refine ⟨st, _, _, hrun, hl0, hl1, hs1, grown_setBlock hb, ?_, D.put kl (.lit (.int .i64 ((S.count y : Nat) + 1))), ?_, fun y' kl' hk' => ?_, fun kl' hh => ?_⟩
  · exact (grown_setBlock hb).trans (grown_setBlock hb1)
  · obtain ⟨es2, clock2, q1, q2⟩ := hu2
    exact ⟨es2, clock2, hB2.trans q1, q2⟩
  · by_cases hyy : y' = y
    · subst hyy
      have : kl' = kl := by rw [hkl] at hk'; injection hk' with hk'; exact hk'.symm
      subst this
      rw [Go.Maps.atKey_put_same hown.isMap (votKeyed.key hkl), List.count_append, List.count_singleton_self]
      rfl
    · have hne : kl' ≠ kl := fun e => hyy (votKey_inj (e ▸ hk') hkl)
      rw [Go.Maps.atKey_put_other hne, hat y' kl' hk', List.count_append, List.count_singleton, beq_false_of_ne (fun e => hyy e.symm)]
      simp
  · by_cases hkk : kl' = kl
    · exact ⟨y, by simp, by rw [hkk]; exact hkl⟩
    · rw [Go.Maps.has_put_other hkk] at hh
      obtain ⟨y', h1, h2⟩ := hhas kl' hh
      exact ⟨y', List.mem_append_left _ h1, h2⟩
end Go.Proofs.Ytdkbajdnckmckaa
