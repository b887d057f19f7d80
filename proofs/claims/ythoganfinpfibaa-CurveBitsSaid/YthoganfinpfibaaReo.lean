/-
  A region that draws its order: operations that only make memory (loads, calls, allocs) come in whatever order; what is true behind them all.
-/
import Derived.OrdersHeld
import Derived.Below
set_option linter.unusedVariables false
set_option linter.unusedSimpArgs false
namespace Go.Con
open Go Go.RowKit
/-- some more operations were listed -/
def mark (L : Array Bool) (l : List Nat) : Array Bool := l.foldl (fun L i => L.setIfInBounds i true) L
theorem mark_size (l : List Nat) : ∀ L, (mark L l).size = L.size := by
  induction l with
  | nil => intro L; rfl
  | cons i r ih => intro L; rw [mark, List.foldl_cons]; exact (ih _).trans (by simp)
theorem mark_get (l : List Nat) : ∀ (L : Array Bool) (k : Nat), (mark L l)[k]? = if k ∈ l ∧ k < L.size then some true else L[k]? := by
  induction l with
  | nil => intro L k; simp [mark]
  | cons i r ih =>
    intro L k
    rw [mark, List.foldl_cons]
    have h := ih (L.setIfInBounds i true) k
    rw [mark] at h
    rw [h]
    by_cases h1 : k ∈ r
    · by_cases h2 : k < L.size
      · simp [h1, h2]
      · simp [h1, h2, Array.getElem?_setIfInBounds]
    · by_cases h3 : i = k
      · subst h3
        by_cases h2 : i < L.size
        · simp [h1, h2]
        · simp [h1, h2, Array.getElem?_setIfInBounds]
      · have h4 : ¬ k = i := fun e => h3 e.symm
        simp [h1, h4, Array.getElem?_setIfInBounds, h3]
theorem mark_add (L : Array Bool) (ix : List Nat) (p : Nat → Bool) (i : Nat) (hi : i ∈ ix) :
    (mark L (ix.filter p)).setIfInBounds i true = mark L (ix.filter fun k => p k || k == i) := by
  apply Array.ext_getElem?
  intro k
  rw [Array.getElem?_setIfInBounds, mark_get, mark_get, mark_size]
  by_cases h : i = k
  · subst h
    by_cases h2 : i < L.size
    · simp [h2, hi]
    · simp [h2]
  · have h4 : ¬ k = i := fun e => h e.symm
    simp [h, h4]
/-- what the listed operations left in their slots -/
def puts (a : Act) (d : Nat → Tmp) (vs : Nat → Value) (l : List Nat) : Act := l.foldl (fun a k => a.put (some (d k)) (vs k)) a
theorem puts_cons (a : Act) (d : Nat → Tmp) (vs : Nat → Value) (i : Nat) (l : List Nat) : puts a d vs (i :: l) = puts (a.put (some (d i)) (vs i)) d vs l := rfl
theorem puts_put (d : Nat → Tmp) (vs : Nat → Value) (t : Tmp) (v : Value) (l : List Nat) (h : ∀ k ∈ l, d k ≠ t) : ∀ a, puts (a.put (some t) v) d vs l = (puts a d vs l).put (some t) v := by
  induction l with
  | nil => intro a; rfl
  | cons i r ih =>
    intro a
    rw [puts_cons, puts_cons, Act.put_comm a v (vs i) (fun e he hh => by injection he with he; injection hh with hh; exact h i (by simp) (hh.trans he.symm))]
    exact ih (fun k hk => h k (by simp [hk])) _
theorem puts_congr (d : Nat → Tmp) (vs us : Nat → Value) (l : List Nat) (h : ∀ k ∈ l, vs k = us k) : ∀ a, puts a d vs l = puts a d us l := by
  induction l with
  | nil => intro a; rfl
  | cons i r ih => intro a; rw [puts_cons, puts_cons, h i (by simp)]; exact ih (fun k hk => h k (by simp [hk])) _
theorem puts_add (d : Nat → Tmp) (vs : Nat → Value) (v : Value) (p : Nat → Bool) (i : Nat) : ∀ (ix : List Nat) (a : Act), (ix.map d).Nodup → i ∈ ix → p i = false →
    (puts a d vs (ix.filter p)).put (some (d i)) v = puts a d (fun k => if k = i then v else vs k) (ix.filter fun k => p k || k == i)
  | [], a, _, hi, _ => by cases hi
  | j :: r, a, hn, hi, hp => by
    rw [List.map_cons, List.nodup_cons] at hn
    obtain ⟨hn1, hn2⟩ := hn
    by_cases hji : j = i
    · subst hji
      have hnr : ∀ k ∈ r, k ≠ j := fun k hk e => hn1 (e ▸ List.mem_map_of_mem hk)
      have e1 : r.filter (fun k => p k || k == j) = r.filter p := List.filter_congr fun k hk => by simp [hnr k hk]
      rw [List.filter_cons, if_neg (by simp [hp]), List.filter_cons, if_pos (by simp), e1, puts_cons, if_pos rfl]
      rw [puts_congr d (fun k => if k = j then v else vs k) vs _ (fun k hk => by rw [if_neg (hnr k (List.mem_filter.1 hk).1)])]
      exact (puts_put d vs (d j) v _ (fun k hk e => hn1 (e ▸ List.mem_map_of_mem (List.mem_filter.1 hk).1)) a).symm
    · have hir : i ∈ r := by
        rcases List.mem_cons.1 hi with h | h
        · exact absurd h.symm hji
        · exact h
      rw [List.filter_cons, List.filter_cons]
      by_cases hpj : p j = true
      · rw [if_pos hpj, if_pos (by simp [hpj]), puts_cons, puts_cons, if_neg hji]
        exact puts_add d vs v p i r _ hn2 hir hp
      · rw [if_neg hpj, if_neg (by simp [hpj, hji])]
        exact puts_add d vs v p i r a hn2 hir hp
theorem eval_put_same (a : Act) (t : Tmp) (v : Value) (h : t < a.tmps.size) : (a.put (some t) v).eval (.tmp t) = v := by
  simp [Act.eval, Act.put, h]
theorem eval_put_ne (a : Act) (t u : Tmp) (v : Value) (h : u ≠ t) : (a.put (some u) v).eval (.tmp t) = a.eval (.tmp t) := by
  simp [Act.eval, Act.put, Array.getElem?_setIfInBounds_ne h]
theorem puts_size (d : Nat → Tmp) (vs : Nat → Value) (l : List Nat) : ∀ a, (puts a d vs l).tmps.size = a.tmps.size := by
  induction l with
  | nil => intro a; rfl
  | cons i r ih => intro a; rw [puts_cons, ih]; simp [Act.put]
theorem puts_other (d : Nat → Tmp) (vs : Nat → Value) (t : Tmp) (l : List Nat) (h : ∀ k ∈ l, d k ≠ t) : ∀ a, (puts a d vs l).eval (.tmp t) = a.eval (.tmp t) := by
  induction l with
  | nil => intro a; rfl
  | cons i r ih => intro a; rw [puts_cons, ih (fun k hk => h k (by simp [hk])), eval_put_ne _ _ _ _ (h i (by simp))]
theorem puts_get (d : Nat → Tmp) (vs : Nat → Value) (k : Nat) (l : List Nat) (hn : (l.map d).Nodup) (hk : k ∈ l) : ∀ a : Act, d k < a.tmps.size → (puts a d vs l).eval (.tmp (d k)) = vs k := by
  induction l with
  | nil => cases hk
  | cons i r ih =>
    intro a ha
    rw [List.map_cons, List.nodup_cons] at hn
    rw [puts_cons]
    rcases List.mem_cons.1 hk with h | h
    · subst h
      rw [puts_other d vs _ r (fun j hj e => hn.1 (List.mem_map.2 ⟨j, hj, e⟩)), eval_put_same _ _ _ ha]
    · exact ih hn.2 h _ (by simpa [Act.put] using ha)
/-- all the ways to list some of them -/
def subs : List Nat → List (List Nat)
  | [] => [[]]
  | i :: r => (subs r).flatMap fun s => [s, i :: s]
theorem filter_subs (p : Nat → Bool) : ∀ l : List Nat, l.filter p ∈ subs l
  | [] => by simp [subs]
  | i :: r => by
    rw [subs, List.mem_flatMap]
    refine ⟨r.filter p, filter_subs p r, ?_⟩
    rw [List.filter_cons]
    split <;> simp
/-- as long as some of ix are to come, just such come -/
def closedB (md : Region.Mode) (ops : Array Oper) (L : Array Bool) (ix : List Nat) : Bool :=
  (subs ix).all fun s => s.length == ix.length || (!(Region.ready md ops (mark L s)).isEmpty && (Region.ready md ops (mark L s)).all fun j => ix.contains j && !s.contains j)
def slotsB (ops : Array Oper) (L : Array Bool) (n : Nat) (ix : List Nat) (d : Nat → Tmp) : Bool :=
  ix.all fun i => !L.getD i true && (decide ((ops[i]?).bind (·.dst) = some (d i)) && decide (d i < n))
theorem nodup_of_map {d : Nat → Tmp} : ∀ {l : List Nat}, (l.map d).Nodup → l.Nodup
  | [], _ => List.nodup_nil
  | i :: r, h => by
    rw [List.map_cons, List.nodup_cons] at h
    exact List.nodup_cons.2 ⟨fun hi => h.1 (List.mem_map_of_mem hi), nodup_of_map h.2⟩
theorem filter_more (p : Nat → Bool) (i : Nat) (hp : p i = false) : ∀ l : List Nat, l.Nodup → i ∈ l → (l.filter fun k => p k || k == i).length = (l.filter p).length + 1
  | [], _, hi => by cases hi
  | j :: r, hn, hi => by
    rw [List.nodup_cons] at hn
    by_cases hji : j = i
    · subst hji
      have e1 : r.filter (fun k => p k || k == j) = r.filter p := List.filter_congr fun k hk => by
        have : k ≠ j := fun e => hn.1 (e ▸ hk)
        simp [this]
      rw [List.filter_cons, if_pos (by simp), List.filter_cons, if_neg (by simp [hp]), e1, List.length_cons]
    · have hir : i ∈ r := by
        rcases List.mem_cons.1 hi with h | h
        · exact absurd h.symm hji
        · exact h
      have ih := filter_more p i hp r hn.2 hir
      rw [List.filter_cons, List.filter_cons]
      by_cases hpj : p j = true
      · rw [if_pos hpj, if_pos (by simp [hpj]), List.length_cons, List.length_cons, ih]
      · rw [if_neg hpj, if_neg (by simp [hpj, hji]), ih]
theorem wpAny_pre {P : Program} {md : Region.Mode} {ops : Array Oper} {Q : Exit → Act → World → Prop} {ix al : List Nat} {d : Nat → Tmp} {K : Nat → Value → World → Prop} {a0 : Act} {w0 : World} {L0 : Array Bool} {fuel : Nat}
    (hcl : closedB md ops L0 ix = true) (hsl : slotsB ops L0 a0.tmps.size ix d = true) (hnd : (ix.map d).Nodup)
    (hstab : ∀ k ∈ ix, ∀ v w w', Below w.heap.size w w' → K k v w → K k v w')
    (hal : ∀ k ∈ al, k ∈ ix ∧ ∀ v w, K k v w → ∃ b, b < w.heap.size ∧ v = .pointer (some ⟨b, 0, none⟩))
    (hstep : ∀ i ∈ ix, ∀ (a : Act) (w : World) (vs : Nat → Value) (p : Nat → Bool), Below w0.heap.size w0 w → (∀ k ∈ ix, p k = true → a.eval (.tmp (d k)) = vs k ∧ K k (vs k) w) → (∀ t, (∀ k ∈ ix, d k ≠ t) → a.eval (.tmp t) = a0.eval (.tmp t)) →
      (∀ o, ops[i]? = some o → ∀ e ∈ o.after, Region.binds md e = true → e.on ∈ ix → p e.on = true) →
      wpOp P ops Q i (fun a' w' => ∃ v, a' = a.put (some (d i)) v ∧ K i v w' ∧ Below w.heap.size w w' ∧ (i ∈ al → v = .pointer (some ⟨w.heap.size, 0, none⟩))) a w)
    (hlast : ∀ w vs, Below w0.heap.size w0 w → (∀ k ∈ ix, K k (vs k) w) → (∀ i ∈ al, ∀ k ∈ al, i ≠ k → vs i ≠ vs k) → wpAny P md ops Q fuel (mark L0 ix) (puts a0 d vs ix) w) :
    wpAny P md ops Q (ix.length + fuel) L0 a0 w0 := by
  have hix := nodup_of_map hnd
  have main : ∀ (n : Nat) (p : Nat → Bool) (vs : Nat → Value) (w : World), (ix.filter p).length + n = ix.length → Below w0.heap.size w0 w → (∀ k ∈ ix, p k = true → K k (vs k) w) → (∀ i ∈ al, ∀ k ∈ al, p i = true → p k = true → i ≠ k → vs i ≠ vs k) →
      wpAny P md ops Q (n + fuel) (mark L0 (ix.filter p)) (puts a0 d vs (ix.filter p)) w := by
    intro n
    induction n with
    | zero =>
      intro p vs w hn hb hK hA
      have hall : ix.filter p = ix := by
        have h1 : (ix.filter p).Sublist ix := List.filter_sublist
        exact h1.eq_of_length (by omega)
      have hp : ∀ k ∈ ix, p k = true := fun k hk => by
        rw [← hall] at hk; exact (List.mem_filter.1 hk).2
      rw [hall, Nat.zero_add]
      exact hlast w vs hb (fun k hk => hK k hk (hp k hk)) (fun i hi k hk => hA i hi k hk (hp i (hal i hi).1) (hp k (hal k hk).1))
    | succ n ih =>
      intro p vs w hn hb hK hA
      have hc := List.all_eq_true.1 hcl _ (filter_subs p ix)
      have hne : ((ix.filter p).length == ix.length) = false := by rw [beq_eq_false_iff_ne]; omega
      rw [hne, Bool.false_or, Bool.and_eq_true] at hc
      obtain ⟨hc1, hc2⟩ := hc
      rw [show n + 1 + fuel = (n + fuel) + 1 by omega]
      refine ⟨fun h => by rw [h] at hc1; simp at hc1, fun i hi => ?_⟩
      have h3 := List.all_eq_true.1 hc2 i hi
      rw [Bool.and_eq_true] at h3
      have hiix : i ∈ ix := by simpa using h3.1
      have hpi : p i = false := by
        have h4 : ¬ i ∈ ix.filter p := by intro h; have h5 := h3.2; rw [List.contains_iff_mem.2 h] at h5; cases h5
        cases hp : p i with
        | false => rfl
        | true => exact absurd (List.mem_filter.2 ⟨hiix, hp⟩) h4
      have hnf : ((ix.filter p).map d).Nodup := (List.filter_sublist.map d).nodup hnd
      have hs := hstep i hiix (puts a0 d vs (ix.filter p)) w vs p hb (fun k hk hp => by
        have hsk := List.all_eq_true.1 hsl k hk
        rw [Bool.and_eq_true, Bool.and_eq_true, decide_eq_true_eq, decide_eq_true_eq] at hsk
        exact ⟨puts_get d vs k _ hnf (List.mem_filter.2 ⟨hk, hp⟩) a0 hsk.2.2, hK k hk hp⟩)
        (fun t ht => puts_other d vs t _ (fun k hk => ht k (List.mem_filter.1 hk).1) a0) (fun o ho e he hbind hin => by
          obtain ⟨_, o', ho', hall⟩ := mem_ready.1 hi
          rw [ho] at ho'
          injection ho' with ho'
          subst ho'
          have h5 := hall e he hbind
          cases hp : p e.on with
          | true => rfl
          | false =>
            exfalso
            have h6 : (mark L0 (ix.filter p)).getD e.on false = L0.getD e.on false := by
              rw [Array.getD_eq_getD_getElem?, Array.getD_eq_getD_getElem?, mark_get, if_neg]
              intro h; have := (List.mem_filter.1 h.1).2; rw [hp] at this; cases this
            rw [h6] at h5
            have hsk := List.all_eq_true.1 hsl e.on hin
            rw [Bool.and_eq_true] at hsk
            have h7 := hsk.1
            rw [Array.getD_eq_getD_getElem?] at h5 h7
            cases hg : L0[e.on]? with
            | none => rw [hg] at h5; cases h5
            | some x => rw [hg] at h5 h7; simp at h5 h7; rw [h5] at h7; cases h7)
      refine wpOp_mono (fun a' w' h => ?_) hs
      obtain ⟨v, rfl, hv, hbw, hvp⟩ := h
      rw [mark_add L0 ix p i hiix, puts_add d vs v p i ix a0 hnd hiix hpi]
      have hlen : (ix.filter fun k => p k || k == i).length = (ix.filter p).length + 1 := filter_more p i hpi ix hix hiix
      refine ih _ _ _ (by omega) (hb.trans (hbw.mono hb.size)) (fun k hk hp => ?_) (fun j hj k hk hpj hpk hjk => ?_)
      · by_cases hki : k = i
        · subst hki; rw [if_pos rfl]; exact hv
        · rw [if_neg hki]
          exact hstab k hk _ _ _ hbw (hK k hk (by simpa [hki] using hp))
      · have old : ∀ q ∈ al, q ≠ i → (p q || q == i) = true → p q = true := fun q _ hq h => by simpa [hq] using h
        have fresh : ∀ q ∈ al, q ≠ i → (p q || q == i) = true → vs q ≠ .pointer (some ⟨w.heap.size, 0, none⟩) := fun q hq hqi h => by
          obtain ⟨hqx, hqk⟩ := hal q hq
          obtain ⟨b, hb1, hb2⟩ := hqk _ _ (hK q hqx (old q hq hqi h))
          rw [hb2]
          intro e
          injection e with e
          injection e with e
          injection e with e1 e2
          omega
        by_cases hji : j = i
        · subst hji
          rw [if_pos rfl, if_neg (Ne.symm hjk), hvp hj]
          exact (fresh k hk (Ne.symm hjk) hpk).symm
        · rw [if_neg hji]
          by_cases hki : k = i
          · subst hki
            rw [if_pos rfl, hvp hk]
            exact fresh j hj hji hpj
          · rw [if_neg hki]
            exact hA j hj k hk (old j hj hji hpj) (old k hk hki hpk) hjk
  have h0 := main ix.length (fun _ => false) (fun _ => undef) w0 (by simp) (Below.refl _ _) (fun k _ h => by cases h) (fun i _ k _ h => by cases h)
  have e0 : ix.filter (fun _ => false) = [] := by simp
  rw [e0] at h0
  exact h0
end Go.Con
