/-
  A region that draws its order, stores among its operations (late ones too): loads and calls of limbs, new variables, and stores of limbs into new variables or into old ones that the region does not load.
-/
import Derived.Test.YthoganfinpfibaaFdu
import Derived.Test.YthoganfinpfibaaRegL
set_option linter.unusedVariables false
set_option linter.unusedSimpArgs false
namespace Go.Con
open Go Go.RowKit
/-- operation i waits for operation k -/
def dep (ops : Array Oper) (i k : Nat) : Bool := match ops[i]? with
  | some o => o.after.any fun e => Region.binds .any e && e.on == k
  | none => false
/-- operations wait for earlier ones alone -/
def backB (ops : Array Oper) : Bool := (List.range ops.size).all fun i => match ops[i]? with
  | some o => o.after.all fun e => !Region.binds .any e || decide (e.on < i)
  | none => true
theorem getD_rep (n i : Nat) : (Array.replicate n false).getD i false = false := by
  simp [Array.getD_eq_getD_getElem?, Array.getElem?_replicate]
  split <;> rfl
/-- one invariant for all orders -/
theorem wpAny_inv {P : Program} {ops : Array Oper} {Q : Exit → Act → World → Prop} {a0 : Act} {w0 : World} (hback : backB ops = true) (Inv : (Nat → Bool) → Act → World → Prop)
    (hstep : ∀ i, i < ops.size → ∀ p a w, p i = false → (∀ k, dep ops i k = true → p k = true) → Inv p a w → wpOp P ops Q i (fun a' w' => Inv (fun k => p k || k == i) a' w') a w)
    (hlast : ∀ p a w, (∀ k, k < ops.size → p k = true) → Inv p a w → Q .normal a w) (h0 : Inv (fun _ => false) a0 w0) :
    wpAny P .any ops Q ops.size (Array.replicate ops.size false) a0 w0 := by
  obtain ⟨n, hn⟩ : ∃ n, n = ops.size := ⟨_, rfl⟩
  obtain ⟨ix, hix⟩ : ∃ ix, ix = List.range n := ⟨_, rfl⟩
  have hnd : ix.Nodup := by rw [hix]; exact List.nodup_range
  have hmem : ∀ k, k ∈ ix ↔ k < n := fun k => by rw [hix, List.mem_range]
  have hlen : ix.length = n := by rw [hix, List.length_range]
  obtain ⟨L0, hL0⟩ : ∃ L0, L0 = Array.replicate n false := ⟨_, rfl⟩
  have hLs : L0.size = n := by rw [hL0]; simp
  have hget : ∀ (p : Nat → Bool) k, k < n → (mark L0 (ix.filter p)).getD k true = p k ∧ (mark L0 (ix.filter p)).getD k false = p k := by
    intro p k hk
    rw [Array.getD_eq_getD_getElem?, Array.getD_eq_getD_getElem?, mark_get]
    by_cases hp : p k = true
    · rw [if_pos ⟨List.mem_filter.2 ⟨(hmem k).2 hk, hp⟩, by omega⟩, hp]; exact ⟨rfl, rfl⟩
    · have hp' : p k = false := by simpa using hp
      rw [if_neg (fun h => hp (List.mem_filter.1 h.1).2), hp', hL0, Array.getElem?_replicate, if_pos hk]; exact ⟨rfl, rfl⟩
  have hdep : ∀ i o, ops[i]? = some o → ∀ e ∈ o.after, Region.binds .any e = true → dep ops i e.on = true := fun i o ho e he hb => by
    unfold dep; rw [ho]
    simp only
    rw [Array.any_eq_true']
    exact ⟨e, he, by rw [hb]; simp⟩
  have hbk : ∀ i o, ops[i]? = some o → ∀ e ∈ o.after, Region.binds .any e = true → e.on < i := fun i o ho e he hb => by
    have hi : i < ops.size := (Array.getElem?_eq_some_iff.1 ho).1
    have h1 := List.all_eq_true.1 hback i (List.mem_range.2 hi)
    simp only [ho] at h1
    rw [Array.all_eq_true_iff_forall_mem] at h1
    have h2 := h1 e he
    rw [hb] at h2
    simpa using h2
  have main : ∀ (m : Nat) (p : Nat → Bool) (a : Act) (w : World), (ix.filter p).length + m = n → Inv p a w → wpAny P .any ops Q m (mark L0 (ix.filter p)) a w := by
    intro m
    induction m with
    | zero =>
      intro p a w hm hI
      have hall : ix.filter p = ix := by
        have h1 : (ix.filter p).Sublist ix := List.filter_sublist
        exact h1.eq_of_length (by omega)
      have hp : ∀ k, k < n → p k = true := fun k hk => by
        have := (hmem k).2 hk
        rw [← hall] at this; exact (List.mem_filter.1 this).2
      refine ⟨?_, hlast p a w (fun k hk => hp k (by omega)) hI⟩
      rw [List.eq_nil_iff_forall_not_mem]
      intro j hj
      obtain ⟨h1, o, ho, -⟩ := mem_ready.1 hj
      have hjn : j < n := by rw [hn]; exact (Array.getElem?_eq_some_iff.1 ho).1
      rw [(hget p j hjn).1, hp j hjn] at h1
      cases h1
    | succ m ih =>
      intro p a w hm hI
      refine ⟨fun hr => ?_, fun i hi => ?_⟩
      · exfalso
        have hall : ∀ k, k < n → p k = true := by
          intro k
          induction k using Nat.strongRecOn with
          | ind k ihk =>
            intro hk
            by_cases hp : p k = true
            · exact hp
            · exfalso
              have ho : ops[k]? = some ops[k] := Array.getElem?_eq_getElem (by omega)
              have : k ∈ Region.ready .any ops (mark L0 (ix.filter p)) := mem_ready.2 ⟨by rw [(hget p k hk).1]; simpa using hp, _, ho, fun e he hb => by
                have h5 := hbk k _ ho e he hb
                rw [(hget p e.on (by omega)).2]
                exact ihk e.on h5 (by omega)⟩
              rw [hr] at this; cases this
        have hf : ix.filter p = ix := List.filter_eq_self.2 fun k hk => hall k ((hmem k).1 hk)
        rw [hf] at hm; omega
      · obtain ⟨h1, o, ho, h2⟩ := mem_ready.1 hi
        have hin : i < n := by rw [hn]; exact (Array.getElem?_eq_some_iff.1 ho).1
        rw [(hget p i hin).1] at h1
        have hst := hstep i (by omega) p a w h1 (fun k hk => by
          unfold dep at hk; rw [ho] at hk
          simp only at hk
          rw [Array.any_eq_true'] at hk
          obtain ⟨e, he, h3⟩ := hk
          rw [Bool.and_eq_true, beq_iff_eq] at h3
          have h4 := h2 e he h3.1
          have h5 := hbk i o ho e he h3.1
          rw [(hget p e.on (by omega)).2] at h4
          rw [← h3.2]; exact h4) hI
        refine wpOp_mono (fun a' w' h => ?_) hst
        rw [mark_add L0 ix p i ((hmem i).2 hin)]
        refine ih _ a' w' ?_ h
        have := filter_more p i h1 ix hnd ((hmem i).2 hin)
        omega
  have h1 := main n (fun _ => false) a0 w0 (by simp) h0
  have e0 : ix.filter (fun _ => false) = [] := by simp
  rw [e0] at h1
  rw [← hn, ← hL0]
  exact h1
theorem region_begin {P : Program} {ops : Array Oper} {Q : Exit → Act → World → Prop} {a : Act} {w : World} {id : Nat} (hm : P.follows .mixedOrders = true)
    (h : ∀ W, Below w.heap.size w W → wpAny P .any ops Q ops.size (Array.replicate ops.size false) a W) : (Code.region id ops true).wp P Q a w :=
  wp_region_any hm (h _ (below_drewN (Below.refl _ _) 1))
/-- where a store's value goes: a new variable, or an old block -/
inductive Tgt where
  | new (j : Nat)
  | old (b : Nat)
def Tgt.blk (bs : Nat → Nat) : Tgt → Nat
  | .new j => bs j
  | .old b => b
theorem kept_setCells {B : Nat} {S : Nat → Prop} {b : Nat} (hb : B ≤ b ∨ S b) : ∀ (vs : List Value) (o : Nat) (w : World), Kept B S w (w.setCells b o vs)
  | [], _, w => Kept.refl _ _ w
  | v :: r, o, w => ((Kept.refl B S w).setCell (p := ⟨b, o, none⟩) hb v).trans (kept_setCells hb r (o + 1) _)
/-- a store -/
structure StoreOk (ops : Array Oper) (T : TypeId) (nv na : Nat) (d : Nat → Tmp) (a0 : Act) (w0 : World) (s src : Nat) (tgt : Tgt) : Prop where
  lt : src < nv
  dsrc : dep ops s src = true
  ok : match tgt with
    | .new j => nv ≤ j ∧ j < nv + na ∧ dep ops s j = true ∧ ∃ o, ops[s]? = some o ∧ o.guard = none ∧ o.dst = none ∧ o.op = .store T (.tmp (d j)) (.tmp (d src))
    | .old b => b < w0.heap.size ∧ Rom w0 b 16 T ∧ ∃ t, a0.eval (.tmp t) = .pointer (some ⟨b, 0, none⟩) ∧ (∀ k ∈ List.range (nv + na), d k ≠ t) ∧ ∃ o, ops[s]? = some o ∧ o.guard = none ∧ o.dst = none ∧ o.op = .store T (.tmp t) (.tmp (d src))
/-- what holds when some were listed -/
structure RInv (T : TypeId) (nv na : Nat) (G : Nat → List Int → Prop) (src : Nat → Nat) (tgt : Nat → Tgt) (n : Nat) (w0 : World) (p : Nat → Bool) (zs : Nat → List Int) (bs : Nat → Nat) (w : World) : Prop where
  kept : Kept w0.heap.size (fun b => ∃ s, s < n ∧ nv + na ≤ s ∧ tgt s = .old b) w0 w
  val : ∀ k, k < nv → p k = true → G k (zs k)
  new : ∀ k, nv ≤ k → k < nv + na → p k = true → w0.heap.size ≤ bs k ∧ Rom w (bs k) 16 T
  ne : ∀ i k, nv ≤ i → i < nv + na → nv ≤ k → k < nv + na → p i = true → p k = true → i ≠ k → bs i ≠ bs k
  old : ∀ s b, s < n → nv + na ≤ s → tgt s = .old b → b < w0.heap.size ∧ Rom w b 16 T
  put : ∀ s, s < n → nv + na ≤ s → p s = true → Lim w ((tgt s).blk bs) T (zs (src s)) ∧ (∀ j, tgt s = .new j → p j = true) ∧ p (src s) = true
theorem region_mem {P : Program} {ops : Array Oper} {Q : Exit → Act → World → Prop} {a0 : Act} {w0 : World} {T : TypeId} (nv na : Nat) (d : Nat → Tmp) (G : Nat → List Int → Prop) (src : Nat → Nat) (tgt : Nat → Tgt)
    (hback : backB ops = true) (hnn : nv + na ≤ ops.size) (hsl : ∀ i, i < nv + na → (ops[i]?).bind (·.dst) = some (d i) ∧ d i < a0.tmps.size) (hnd : ((List.range (nv + na)).map d).Nodup) {dd : TypeDesc}
    (hu : P.underlying T = some dd) (hdd : dd.isRow = true) (hsz : (P.info? T).map (·.size) = some 16) (hG : ∀ k zs, k < nv → G k zs → zs.length = 16)
    (hval : ∀ i, i < nv → ∀ (a : Act) (w : World), Kept w0.heap.size (fun b => ∃ s, s < ops.size ∧ nv + na ≤ s ∧ tgt s = .old b) w0 w → (∀ t, (∀ k ∈ List.range (nv + na), d k ≠ t) → a.eval (.tmp t) = a0.eval (.tmp t)) →
      (∀ k, k < nv → dep ops i k = true → ∃ zs, a.eval (.tmp (d k)) = limV zs ∧ G k zs) →
      wpOp P ops Q i (fun a' w' => ∃ zs, a' = a.put (some (d i)) (limV zs) ∧ G i zs ∧ Below w.heap.size w w') a w)
    (hall : ∀ i, nv ≤ i → i < nv + na → ∃ o, ops[i]? = some o ∧ o.guard = none ∧ o.dst = some (d i) ∧ ∀ ρ w, ∃ Z : Array Value, Z.size = 16 ∧ (execOp ρ o).run P w = .ok (.value (.pointer (some ⟨w.heap.size, 0, none⟩))) (w.alloc (.cells Z T)))
    (hst : ∀ s, nv + na ≤ s → s < ops.size → StoreOk ops T nv na d a0 w0 s (src s) (tgt s))
    (hinj : ∀ s r, nv + na ≤ s → s < ops.size → nv + na ≤ r → r < ops.size → tgt s = tgt r → s = r)
    (hlast : ∀ (w : World) (zs : Nat → List Int) (bs : Nat → Nat), RInv T nv na G src tgt ops.size w0 (fun _ => true) zs bs w → Q .normal (puts a0 d (vsOf nv zs bs) (List.range (nv + na))) w) :
    wpAny P .any ops Q ops.size (Array.replicate ops.size false) a0 w0 := by
  have hsub : ∀ (p : Nat → Bool) k, k ∈ (List.range (nv + na)).filter p → k ∈ List.range (nv + na) := fun p k hk => (List.mem_filter.1 hk).1
  have hnf : ∀ p : Nat → Bool, (((List.range (nv + na)).filter p).map d).Nodup := fun p => (List.filter_sublist.map d).nodup hnd
  refine wpAny_inv hback (fun p a w => ∃ zs bs, a = puts a0 d (vsOf nv zs bs) ((List.range (nv + na)).filter p) ∧ RInv T nv na G src tgt ops.size w0 p zs bs w) ?_ ?_ ?_
  · rintro i hi p a w hpi hdp ⟨zs, bs, rfl, I⟩
    have hoth : ∀ t, (∀ k ∈ List.range (nv + na), d k ≠ t) → (puts a0 d (vsOf nv zs bs) ((List.range (nv + na)).filter p)).eval (.tmp t) = a0.eval (.tmp t) := fun t ht => puts_other d _ t _ (fun k hk => ht k (hsub p k hk)) a0
    have hgetp : ∀ k, k < nv + na → p k = true → (puts a0 d (vsOf nv zs bs) ((List.range (nv + na)).filter p)).eval (.tmp (d k)) = vsOf nv zs bs k := fun k hk hp => puts_get d _ k _ (hnf p) (List.mem_filter.2 ⟨List.mem_range.2 hk, hp⟩) a0 (hsl k hk).2
    by_cases hiv : i < nv
    · refine wpOp_mono (fun a' w' h => ?_) (hval i hiv _ w I.kept hoth (fun k hk hdk => ⟨zs k, by rw [hgetp k (by omega) (hdp k hdk), vsOf, if_pos hk], I.val k hk (hdp k hdk)⟩))
      obtain ⟨z, rfl, hz, hb⟩ := h
      refine ⟨fun k => if k = i then z else zs k, bs, ?_, ?_⟩
      · rw [puts_add d (vsOf nv zs bs) (limV z) p i _ a0 hnd (List.mem_range.2 (by omega)) hpi]
        refine puts_congr d _ _ _ (fun k hk => ?_) a0
        unfold vsOf
        by_cases hki : k = i
        · subst hki; simp [hiv]
        · simp [hki]
      · refine ⟨I.kept.trans (Kept.of_below (hb.mono I.kept.size)), fun k hk hp => ?_, fun k h1 h2 hp => ?_, fun j k h1 h2 h3 h4 hpj hpk hne => ?_, fun s b h1 h2 h3 => ?_, fun s h1 h2 hp => ?_⟩
        · by_cases hki : k = i
          · subst hki; simpa using hz
          · have := I.val k hk (by simpa [hki] using hp); simpa [hki] using this
        · have hki : k ≠ i := by omega
          obtain ⟨g1, g2⟩ := I.new k h1 h2 (by simpa [hki] using hp)
          exact ⟨g1, g2.stay hb⟩
        · exact I.ne j k h1 h2 h3 h4 (by simpa [show j ≠ i by omega] using hpj) (by simpa [show k ≠ i by omega] using hpk) hne
        · obtain ⟨g1, g2⟩ := I.old s b h1 h2 h3
          exact ⟨g1, g2.stay hb⟩
        · obtain ⟨g1, g2, g3⟩ := I.put s h1 h2 (by simpa [show s ≠ i by omega] using hp)
          have hsi : src s ≠ i := fun e => by rw [e, hpi] at g3; cases g3
          refine ⟨?_, fun j hj => by rw [g2 j hj]; rfl, by rw [g3]; rfl⟩
          show Lim w' _ T (if src s = i then z else zs (src s))
          rw [if_neg hsi]; exact g1.stay hb
    · by_cases hia : i < nv + na
      · obtain ⟨o, ho, hg, hd, hrun⟩ := hall i (by omega) hia
        obtain ⟨Z, hZ, hr⟩ := hrun (puts a0 d (vsOf nv zs bs) ((List.range (nv + na)).filter p)).eval w
        have hb : Below w.heap.size w (w.alloc (.cells Z T)) := (Below.refl _ _).alloc (Nat.le_refl _) _
        refine wpOp_run ho hg _ hr ⟨zs, fun k => if k = i then w.heap.size else bs k, ?_, ?_⟩
        · rw [hd, puts_add d (vsOf nv zs bs) _ p i _ a0 hnd (List.mem_range.2 (by omega)) hpi]
          refine puts_congr d _ _ _ (fun k hk => ?_) a0
          unfold vsOf
          by_cases hki : k = i
          · subst hki; simp [hiv]
          · simp [hki]
        · refine ⟨I.kept.trans (Kept.of_below (hb.mono I.kept.size)), fun k hk hp => I.val k hk (by simpa [show k ≠ i by omega] using hp), fun k h1 h2 hp => ?_, fun j k h1 h2 h3 h4 hpj hpk hne => ?_, fun s b h1 h2 h3 => ?_, fun s h1 h2 hp => ?_⟩
          · by_cases hki : k = i
            · subst hki; simp only [if_pos]; exact ⟨I.kept.size, ⟨Z, heapNew w _, hZ⟩⟩
            · simp only [if_neg hki]
              obtain ⟨g1, g2⟩ := I.new k h1 h2 (by simpa [hki] using hp)
              exact ⟨g1, g2.stay hb⟩
          · have lt : ∀ q, nv ≤ q → q < nv + na → q ≠ i → (p q || q == i) = true → bs q < w.heap.size := fun q a1 a2 a3 a4 => by
              obtain ⟨g1, cur, g2, g3⟩ := I.new q a1 a2 (by simpa [a3] using a4)
              exact lt_of_heap g2
            by_cases hji : j = i
            · subst hji
              simp only [if_pos, if_neg (Ne.symm hne)]
              have := lt k h3 h4 (Ne.symm hne) hpk; omega
            · simp only [if_neg hji]
              by_cases hki : k = i
              · subst hki
                simp only [if_pos]
                have := lt j h1 h2 hji hpj; omega
              · simp only [if_neg hki]
                exact I.ne j k h1 h2 h3 h4 (by simpa [hji] using hpj) (by simpa [hki] using hpk) hne
          · obtain ⟨g1, g2⟩ := I.old s b h1 h2 h3
            exact ⟨g1, g2.stay hb⟩
          · obtain ⟨g1, g2, g3⟩ := I.put s h1 h2 (by simpa [show s ≠ i by omega] using hp)
            refine ⟨?_, fun j hj => by rw [g2 j hj]; rfl, by rw [g3]; rfl⟩
            cases ht : tgt s with
            | new j =>
              rw [ht] at g1
              have hji : j ≠ i := fun e => by have := g2 j ht; rw [e, hpi] at this; cases this
              simp only [Tgt.blk] at g1 ⊢
              rw [if_neg hji]; exact g1.stay hb
            | old b => rw [ht] at g1; exact g1.stay hb
      · have hia' : nv + na ≤ i := by omega
        have hs := hst i hia' hi
        have hsrc := hdp _ hs.dsrc
        have hzl := hG _ _ hs.lt (I.val _ hs.lt hsrc)
        have hev : (puts a0 d (vsOf nv zs bs) ((List.range (nv + na)).filter p)).eval (.tmp (d (src i))) = limV (zs (src i)) := by rw [hgetp (src i) (by have := hs.lt; omega) hsrc, vsOf, if_pos hs.lt]
        have hfil : (List.range (nv + na)).filter (fun k => p k || k == i) = (List.range (nv + na)).filter p := List.filter_congr fun k hk => by
          have := List.mem_range.1 hk
          simp [show k ≠ i by omega]
        -- the block
        obtain ⟨bb, hbb⟩ : ∃ bb, bb = (tgt i).blk bs := ⟨_, rfl⟩
        have hrom : Rom w bb 16 T := by
          have h1 := hs.ok
          cases ht : tgt i with
          | new j =>
            rw [ht] at h1 hbb
            rw [hbb]; exact (I.new j h1.1 h1.2.1 (hdp j h1.2.2.1)).2
          | old b => rw [ht] at hbb; rw [hbb]; exact (I.old i b hi hia' ht).2
        have hopx : ∃ x o, ops[i]? = some o ∧ o.guard = none ∧ o.dst = none ∧ o.op = .store T (.tmp x) (.tmp (d (src i))) ∧ (puts a0 d (vsOf nv zs bs) ((List.range (nv + na)).filter p)).eval (.tmp x) = .pointer (some ⟨bb, 0, none⟩) := by
          have h1 := hs.ok
          cases ht : tgt i with
          | new j =>
            rw [ht] at h1 hbb
            obtain ⟨h2, h3, h4, o, h5, h6, h7, h8⟩ := h1
            exact ⟨d j, o, h5, h6, h7, h8, by rw [hgetp j h3 (hdp j h4), vsOf, if_neg (by omega), hbb]; rfl⟩
          | old b =>
            rw [ht] at h1 hbb
            obtain ⟨h2, h3, t, h4, h5, o, h6, h7, h8, h9⟩ := h1
            exact ⟨t, o, h6, h7, h8, h9, by rw [hoth t h5, h4, hbb]; rfl⟩
        obtain ⟨x, o, h5, h6, h7, h8, h9⟩ := hopx
        have hnw : ∀ k, nv ≤ k → k < nv + na → p k = true → tgt i ≠ .new k → bs k ≠ bb := fun k h1 h2 hp hne => by
          have hk := I.new k h1 h2 hp
          cases ht : tgt i with
          | new j =>
            rw [ht] at hbb hne
            have hok := hs.ok
            rw [ht] at hok
            rw [hbb]
            exact I.ne k j h1 h2 hok.1 hok.2.1 hp (hdp j hok.2.2.1) (fun e => hne (by rw [e]))
          | old b =>
            rw [ht] at hbb
            have := (I.old i b hi hia' ht).1
            have e : bb = b := hbb
            omega
        refine wpOp_storeMid h5 h6 T (.tmp x) (.tmp (d (src i))) h8 bb 0 ((zs (src i)).map i64v).toArray h9 hev (by rw [show ((zs (src i)).map i64v).toArray.size = 16 by simp [hzl]]; exact hrom.there) (by rw [hsz]; simp [hzl]) (limOne _) ?_
        rw [h7]
        have hlim : Lim (w.setCells bb 0 ((zs (src i)).map i64v)) bb T (zs (src i)) := Lim.stored (by rw [hzl]; exact hrom)
        have hrs : ∀ b, Rom w b 16 T → Rom (w.setCells bb 0 ((zs (src i)).map i64v)) b 16 T := fun b hb => by
          by_cases e : b = bb
          · subst e; rw [← hzl]; exact hlim.rom
          · exact hb.sets e
        refine ⟨zs, bs, by rw [hfil]; rfl, ⟨?_, fun k hk hp => I.val k hk (by simpa [show k ≠ i by omega] using hp), fun k h1 h2 hp => ?_, fun j k a1 a2 a3 a4 a5 a6 => I.ne j k a1 a2 a3 a4 (by simpa [show j ≠ i by omega] using a5) (by simpa [show k ≠ i by omega] using a6), fun s b h1 h2 h3 => ⟨(I.old s b h1 h2 h3).1, hrs b (I.old s b h1 h2 h3).2⟩, fun s h1 h2 hp => ?_⟩⟩
        · refine I.kept.trans ?_
          refine kept_setCells ?_ _ _ _
          have hok := hs.ok
          cases ht : tgt i with
          | new j => rw [ht] at hbb hok; rw [hbb]; exact .inl (I.new j hok.1 hok.2.1 (hdp j hok.2.2.1)).1
          | old b => rw [ht] at hbb; rw [hbb]; exact .inr ⟨i, hi, hia', ht⟩
        · obtain ⟨g1, g2⟩ := I.new k h1 h2 (by simpa [show k ≠ i by omega] using hp)
          exact ⟨g1, hrs _ g2⟩
        · by_cases hsi : s = i
          · subst hsi
            refine ⟨by rw [← hbb]; exact hlim, fun j hj => ?_, ?_⟩
            · have hok := hs.ok
              rw [hj] at hok
              rw [hdp j hok.2.2.1]; rfl
            · rw [hsrc]; rfl
          · obtain ⟨g1, g2, g3⟩ := I.put s h1 h2 (by simpa [hsi] using hp)
            refine ⟨?_, fun j hj => by rw [g2 j hj]; rfl, by rw [g3]; rfl⟩
            refine g1.sets ?_
            have hne : tgt s ≠ tgt i := fun e => hsi (hinj s i h2 h1 hia' hi e)
            have hok := (hst s h2 h1).ok
            cases ht : tgt s with
            | new j =>
              rw [ht] at hok hne
              exact hnw j hok.1 hok.2.1 (g2 j ht) (fun e => hne e.symm)
            | old b =>
              rw [ht] at hne
              have h1b := (I.old s b h1 h2 ht).1
              cases ht2 : tgt i with
              | new j =>
                rw [ht2] at hbb
                have hok2 := hs.ok
                rw [ht2] at hok2
                have := (I.new j hok2.1 hok2.2.1 (hdp j hok2.2.2.1)).1
                have e : bb = bs j := hbb
                show b ≠ bb
                omega
              | old c =>
                rw [ht2] at hbb hne
                have e : bb = c := hbb
                show b ≠ bb
                intro e2
                exact hne (by rw [e2, e])
  · rintro p a w hp ⟨zs, bs, rfl, I⟩
    have hf : (List.range (nv + na)).filter p = List.range (nv + na) := List.filter_eq_self.2 fun k hk => hp k (by have := List.mem_range.1 hk; omega)
    rw [hf]
    refine hlast w zs bs ⟨I.kept, fun k hk _ => I.val k hk (hp k (by omega)), fun k h1 h2 _ => I.new k h1 h2 (hp k (by omega)), fun i k h1 h2 h3 h4 _ _ => I.ne i k h1 h2 h3 h4 (hp i (by omega)) (hp k (by omega)), I.old, fun s h1 h2 _ => ?_⟩
    exact ⟨(I.put s h1 h2 (hp s h1)).1, fun _ _ => rfl, rfl⟩
  · exact ⟨fun _ => [], fun _ => 0, by rw [List.filter_eq_nil_iff.2 (by simp)]; rfl, ⟨Kept.refl _ _ _, (fun k _ h => by cases h), (fun k _ _ h => by cases h), (fun i k _ _ _ _ h => by cases h), fun s b h1 h2 h3 => by
      have h := (hst s h2 h1).ok
      rw [h3] at h
      exact ⟨h.1, h.2.1⟩, (fun s _ _ h => by cases h)⟩⟩
/-- A region whose operations all leave a value (loads, calls that make memory, assignments): what is known of each, whatever the order. -/
theorem region_vals {P : Program} {ops : Array Oper} {Q : Exit → Act → World → Prop} {a0 : Act} {w0 : World} (nv : Nat) (d : Nat → Tmp) (K : Nat → Value → World → Prop)
    (hback : backB ops = true) (hn : ops.size = nv) (hsl : ∀ i, i < nv → d i < a0.tmps.size) (hnd : ((List.range nv).map d).Nodup)
    (hstab : ∀ k v w w', k < nv → Below w.heap.size w w' → K k v w → K k v w')
    (hval : ∀ i, i < nv → ∀ (a : Act) (w : World), Below w0.heap.size w0 w → (∀ t, (∀ k ∈ List.range nv, d k ≠ t) → a.eval (.tmp t) = a0.eval (.tmp t)) →
      (∀ k, k < nv → dep ops i k = true → K k (a.eval (.tmp (d k))) w) →
      wpOp P ops Q i (fun a' w' => ∃ v, a' = a.put (some (d i)) v ∧ K i v w' ∧ Below w.heap.size w w') a w)
    (hlast : ∀ (w : World) (vs : Nat → Value), Below w0.heap.size w0 w → (∀ k, k < nv → K k (vs k) w) → Q .normal (puts a0 d vs (List.range nv)) w) :
    wpAny P .any ops Q ops.size (Array.replicate ops.size false) a0 w0 := by
  have hnf : ∀ p : Nat → Bool, (((List.range nv).filter p).map d).Nodup := fun p => (List.filter_sublist.map d).nodup hnd
  refine wpAny_inv hback (fun p a w => ∃ vs, a = puts a0 d vs ((List.range nv).filter p) ∧ Below w0.heap.size w0 w ∧ ∀ k, k < nv → p k = true → K k (vs k) w) ?_ ?_ ⟨fun _ => undef, by rw [List.filter_eq_nil_iff.2 (by simp)]; rfl, Below.refl _ _, (fun k _ h => by cases h)⟩
  · rintro i hi p a w hpi hdp ⟨vs, rfl, hb, hK⟩
    have hin : i < nv := by omega
    refine wpOp_mono (fun a' w' h => ?_) (hval i hin _ w hb (fun t ht => puts_other d vs t _ (fun k hk => ht k (List.mem_filter.1 hk).1) a0) (fun k hk hdk => ?_))
    · obtain ⟨v, rfl, hv, hbw⟩ := h
      refine ⟨fun k => if k = i then v else vs k, puts_add d vs v p i _ a0 hnd (List.mem_range.2 hin) hpi, hb.trans (hbw.mono hb.size), fun k hk hp => ?_⟩
      by_cases hki : k = i
      · subst hki; simpa using hv
      · have := hstab k _ _ _ hk hbw (hK k hk (by simpa [hki] using hp)); simpa [hki] using this
    · rw [puts_get d vs k _ (hnf p) (List.mem_filter.2 ⟨List.mem_range.2 hk, hdp k hdk⟩) a0 (hsl k hk)]
      exact hK k hk (hdp k hdk)
  · rintro p a w hp ⟨vs, rfl, hb, hK⟩
    have hf : (List.range nv).filter p = List.range nv := List.filter_eq_self.2 fun k hk => hp k (by have := List.mem_range.1 hk; omega)
    rw [hf]
    exact hlast w vs hb (fun k hk => hK k hk (hp k (by omega)))
end Go.Con
