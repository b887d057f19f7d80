/-
  The walk of poly.tag.
-/
import Derived.Test.YtoekopdogfnkhaaPolU
import Derived.Test.YtoekopdogfnkhaaPolO
import Derived.Test.YtoekopdogfnkhaaTail
import Derived.Laws.CopyOwn
import Derived.Laws.OwnMore
import Derived.Deep.RegionWith
import Derived.Deep.DeepMust
import Derived.Deep.Cut
set_option linter.unusedVariables false
set_option linter.unusedSimpArgs false
namespace Go.Con.Pol
/-- clamping, step by step -/
def idA (k : Nat) : Nat := match k with | 0 => 3 | 1 => 7 | 2 => 11 | _ => 15
def idB (k : Nat) : Nat := match k with | 0 => 4 | 1 => 8 | _ => 12
def clA (s : List UInt8) : Nat → List UInt8
  | 0 => s
  | k + 1 => (clA s k).set (idA k) ((clA s k).getD (idA k) 0 &&& 15)
def clB (s : List UInt8) : Nat → List UInt8
  | 0 => s
  | k + 1 => (clB s k).set (idB k) ((clB s k).getD (idB k) 0 &&& 252)
theorem clA_length (s : List UInt8) (k : Nat) : (clA s k).length = s.length := by
  induction k with
  | zero => rfl
  | succ k ih => rw [clA, List.length_set, ih]
theorem clB_length (s : List UInt8) (k : Nat) : (clB s k).length = s.length := by
  induction k with
  | zero => rfl
  | succ k ih => rw [clB, List.length_set, ih]
theorem cl_clamp (s : List UInt8) (h : s.length = 16) : clB (clA s 4) 3 = clamp s := by
  match s, h with
  | [a0, a1, a2, a3, a4, a5, a6, a7, a8, a9, a10, a11, a12, a13, a14, a15], _ => rfl
/-- limbs are added, so many of them -/
def addL (s t : List Nat) : Nat → List Nat
  | 0 => s
  | k + 1 => (addL s t k).set k (at0 s k + at0 t k)
theorem addL_length (s t : List Nat) (k : Nat) : (addL s t k).length = s.length := by
  induction k with
  | zero => rfl
  | succ k ih => rw [addL, List.length_set, ih]
theorem addL_at (s t : List Nat) (k : Nat) : k ≤ s.length → ∀ j, k ≤ j → at0 (addL s t k) j = at0 s j := by
  induction k with
  | zero => intro _ j _; rfl
  | succ k ih =>
    intro hk j hj
    rw [addL, at_set _ _ _ _ (by rw [addL_length]; omega), if_neg (by omega)]
    exact ih (by omega) j (by omega)
def plus (x y : L5) : L5 := ⟨x.a0 + y.a0, x.a1 + y.a1, x.a2 + y.a2, x.a3 + y.a3, x.a4 + y.a4⟩
theorem addL_plus (x y : L5) : addL (limbs5 x) (limbs5 y) 5 = limbs5 (plus x y) := rfl
theorem plus_val (x y : L5) : (plus x y).val = x.val + y.val := by simp only [plus, L5.val]; omega
/-- one round of gathering -/
theorem round_mod (A R : L5) (n : Nat) : (carry (mul (plus A (ofN n)) R)).val % P = (A.val % P + n) * R.val % P := by
  rw [carry_mod, mul_mod, plus_val, ofN_val, Nat.mul_mod, Nat.add_mod]
  conv => rhs; rw [Nat.mul_mod, Nat.add_mod, Nat.mod_mod]
theorem accF_step (r a : Nat) (l : List UInt8) (h : l ≠ []) : accF r l.length a l = accF r (l.drop 16).length ((a + (leN (l.take 16) + 256 ^ (min 16 l.length))) * r % P) (l.drop 16) := by
  have hp : 0 < l.length := List.length_pos_iff.2 h
  obtain ⟨f, hf⟩ : ∃ f, l.length = f + 1 := ⟨l.length - 1, by omega⟩
  rw [hf, accF, if_neg h, hf]
  exact accF_more r _ _ _ _ (by simp; omega) (Nat.le_refl _)
end Go.Con.Pol
namespace Go.Proofs.Ytoekopdogfnkhaa
open Go.RowKit Go.Con
theorem idxA (k : Nat) (hk : k < 4) (W : World) : (Instr.index 65 (.agg #[.int .i64 3, .int .i64 7, .int .i64 11, .int .i64 15]) (.int .i64 k)).run Try.prog W = .ok (.int .i64 (Pol.idA k)) W := by
  have h4 : k = 0 ∨ k = 1 ∨ k = 2 ∨ k = 3 := by omega
  rcases h4 with rfl | rfl | rfl | rfl <;> (show _ = _; kernel_rfl)
theorem idxB (k : Nat) (hk : k < 3) (W : World) : (Instr.index 66 (.agg #[.int .i64 4, .int .i64 8, .int .i64 12]) (.int .i64 k)).run Try.prog W = .ok (.int .i64 (Pol.idB k)) W := by
  have h3 : k = 0 ∨ k = 1 ∨ k = 2 := by omega
  rcases h3 with rfl | rfl | rfl <;> (show _ = _; kernel_rfl)
theorem Own.setB {w : World} {base g n c : Nat} {l : List UInt8} (h : Own w base (.slice (some ⟨g, 0, none⟩) n c) l) (k : Nat) (x : UInt8) : Own (w.setCell ⟨g, k, none⟩ (.int .u8 x.toNat)) base (.slice (some ⟨g, 0, none⟩) n c) (l.set k x) := by
  unfold Own at h ⊢
  rw [List.length_set]
  have hl : n = l.length := by
    rcases h.2 with ⟨h3, _⟩ | ⟨g', cap, cur, h3, _⟩
    · cases h3
    · injection h3
  subst hl
  have h1 := (World.ownsRow.stored h k (.int .u8 x.toNat)).1
  have e : (l.map u8v).set k (.int .u8 x.toNat) = (l.set k x).map u8v := by rw [List.map_set]; rfl
  rw [e] at h1
  exact h1
theorem Own.cellB {w : World} {base g n c : Nat} {l : List UInt8} (h : Own w base (.slice (some ⟨g, 0, none⟩) n c) l) (k : Nat) (hk : k < l.length) : w.cell? ⟨g, k, none⟩ = some (.int .u8 (l.getD k 0).toNat) := by
  obtain ⟨a', c', e, _, _, _, h⟩ := h.rd
  injection e with e1 e2 e3
  subst e1
  obtain ⟨b, off, e4, h2⟩ := h (by intro h; rw [h] at hk; cases hk)
  injection e4 with e4
  injection e4 with e5 e6
  subst e5 e6
  have h3 := h2 k hk
  rw [Nat.zero_add] at h3
  exact h3
theorem Own.freeB {w : World} {base g n c : Nat} {l : List UInt8} (h : Own w base (.slice (some ⟨g, 0, none⟩) n c) l) (k : Nat) : w.frozen? ⟨g, k, none⟩ = false := by
  obtain ⟨hl, h2⟩ := h
  rcases h2 with ⟨h3, hn⟩ | ⟨g', cap, cur, h3, hb, hg, r⟩
  · cases h3
  · injection h3 with e1 e2 e3
    injection e1 with e1
    injection e1 with e4
    subst e4
    exact freeAt hg k
theorem number_x (bb bo n c : Nat) (l : List UInt8) (top : Nat) (w : World) (x : Pol.L5) (ht : top ≤ 1) (hl : 16 ≤ l.length) (hn : l.length = n) (hR : Rd w (.slice (some ⟨bb, bo, none⟩) n c) l) (hx : Pol.ofN (Pol.leN (l.take 16) + top * 340282366920938463463374607431768211456) = x) :
    Calls Try.prog 37 #[.slice (some ⟨bb, bo, none⟩) n c, .int .u64 top] w fun e w' => e = .returned (.agg #[.int .u64 x.a0, .int .u64 x.a1, .int .u64 x.a2, .int .u64 x.a3, .int .u64 x.a4]) ∧ Below w.heap.size w w' := by
  have h := number_any bb bo n c l top w ht hl hn hR
  rw [hx] at h
  exact h
theorem sz5 : (Try.prog.info? 69).map (fun x => x.size) = some 5 := by kernel_rfl
theorem sz5' (a b c d e : Value) : (Try.prog.info? 69).map (fun x => x.size) = some [a, b, c, d, e].length := sz5
theorem rdRow17 {w : World} {g : Nat} {t : TypeId} {f : Nat × Nat} {l : List UInt8} (h : w.heap[g]? = some (.cells (l.map u8v).toArray t f)) (hn : l.length = 17) : Rd w (.slice (some ⟨g, 0, none⟩) 16 17) (l.take 16) :=
  Rd.pre (n := 17) (c := 17) (by
    refine ⟨_, _, by rw [hn], Nat.le_refl _, (by rw [hn]; decide), (fun h => by cases h), fun _ => ⟨_, _, rfl, fun i hi => ?_⟩⟩
    refine cellAt h _ ?_
    simp [hi]) 16 (by omega)
theorem whole_x (x X : Pol.L5) (w : World) (hx : ∀ j, Pol.at0 (limbs5 x) j ≤ 1152921504606846976) (hlow : Pol.Low (Pol.carry x)) (hX : Pol.whole x = X) :
    Calls Try.prog 39 #[.agg #[.int .u64 x.a0, .int .u64 x.a1, .int .u64 x.a2, .int .u64 x.a3, .int .u64 x.a4]] w
      fun e w' => e = .returned (.agg #[.int .u64 X.a0, .int .u64 X.a1, .int .u64 X.a2, .int .u64 X.a3, .int .u64 X.a4]) ∧ Below w.heap.size w w' := by
  have h := whole_any x w hx hlow
  rw [hX] at h
  exact h
theorem number_w (bb bo n c : Nat) (l : List UInt8) (top : Nat) (t : Int) (ht0 : t = (top : Int)) (w : World) (x : Pol.L5) (ht : top ≤ 1) (hl : 16 ≤ l.length) (hn : l.length = n) (hR : Rd w (.slice (some ⟨bb, bo, none⟩) n c) l) (hx : Pol.ofN (Pol.leN (l.take 16) + top * 340282366920938463463374607431768211456) = x) :
    Calls Try.prog 37 #[.slice (some ⟨bb, bo, none⟩) n c, .int .u64 t] w fun e w' => e = .returned (.agg #[.int .u64 x.a0, .int .u64 x.a1, .int .u64 x.a2, .int .u64 x.a3, .int .u64 x.a4]) ∧ Below w.heap.size w w' := by
  subst ht0
  exact number_x bb bo n c l top w x ht hl hn hR hx
theorem times_x (x y C : Pol.L5) (w : World) (hx : ∀ j, Pol.at0 (limbs5 x) j ≤ 134221824) (hy : ∀ j, Pol.at0 (limbs5 y) j ≤ 67108864) (hC : Pol.carry (Pol.mul x y) = C) :
    Calls Try.prog 38 #[.agg #[.int .u64 x.a0, .int .u64 x.a1, .int .u64 x.a2, .int .u64 x.a3, .int .u64 x.a4], .agg #[.int .u64 y.a0, .int .u64 y.a1, .int .u64 y.a2, .int .u64 y.a3, .int .u64 y.a4]] w
      fun e w' => e = .returned (.agg #[.int .u64 C.a0, .int .u64 C.a1, .int .u64 C.a2, .int .u64 C.a3, .int .u64 C.a4]) ∧ Below w.heap.size w w' := by
  have h := times_any x y w hx hy
  rw [hC] at h
  exact h
section
variable {ops : Array Oper} {rest : List Oper} {o : Oper} {a : Act} {Q : Exit → Act → World → Prop} {w : World}
/-- copy(the first sixteen of a row, what is shown). -/
theorem copyC (hgd : o.guard = none) (d s : Operand) (ho : o.op = .call { callee := .builtin .copy, args := #[d, s], argTypes := #[22, 22] })
    (g : Nat) (hd : a.eval d = .slice (some ⟨g, 0, none⟩) 16 17) (src : Value) (m : List UInt8) (hs : a.eval s = src) (hsrc : Rd w src m)
    (cur : List Value) (hg : w.heap[g]? = some (.cells cur.toArray 71 (0, 0))) (hcur : cur.length = 17) (k : Nat) (hk : k = min m.length 16)
    (h : ∀ w', w'.heap[g]? = some (.cells ((m.take 16).map u8v ++ cur.drop k).toArray 71 (0, 0)) → Below g w w' → wpList Try.prog ops Q rest (a.put o.dst (goInt k)) w') :
    wpList Try.prog ops Q (o :: rest) a w := by
  obtain ⟨ao, c, rfl, h1, h2⟩ := hsrc.slice
  have hl : ((m.take 16).map u8v).length = k := by rw [List.length_map, List.length_take, hk]; omega
  refine wpList_copy_splice hgd d s 22 22 ho 5 Try.underlying22 (by kernel_rfl) _ _ 16 17 m.length c hd hs g 0 cur 71 hg ((m.take 16).map u8v) (by rw [hl, hk]) ?_ (by rw [hl]; omega) (one8 _) g w (Below.refl _ _) (Nat.le_refl _) ?_
  · intro hpos
    refine ⟨rfl, ?_⟩
    cases ao with
    | none => have := hsrc.none_nil.1; subst this; simp at hpos
    | some ad => exact ⟨ad, rfl, (fun j u hju => hsrc.cells ad rfl j u (by
        rw [List.getElem?_map] at hju ⊢
        rw [List.getElem?_take] at hju
        split at hju
        · exact hju
        · cases hju))⟩
  · intro w' hg' hb'
    have := h w' (by have := hg'.out; rw [← hl]; simpa [splice] using this) hb'
    rw [hl]
    exact this
end
theorem row17 (ch : List UInt8) (K : Nat) (hl : ch.length = K) (hK : K ≤ 16) (j : Nat) (hj : j < 17) {h1 : _} {h2 : _} : (if K = j then (.int .u8 1 : Value) else (ch.map u8v ++ ([.int .u8 0, .int .u8 0, .int .u8 0, .int .u8 0, .int .u8 0, .int .u8 0, .int .u8 0, .int .u8 0, .int .u8 0, .int .u8 0, .int .u8 0, .int .u8 0, .int .u8 0, .int .u8 0, .int .u8 0, .int .u8 0, .int .u8 0] : List Value).drop K)[j]'h1) = ((ch ++ (1 :: List.replicate (16 - K) (0 : UInt8))).map u8v)[j]'h2 := by
  have e : ([.int .u8 0, .int .u8 0, .int .u8 0, .int .u8 0, .int .u8 0, .int .u8 0, .int .u8 0, .int .u8 0, .int .u8 0, .int .u8 0, .int .u8 0, .int .u8 0, .int .u8 0, .int .u8 0, .int .u8 0, .int .u8 0, .int .u8 0] : List Value) = (List.replicate 17 (0 : UInt8)).map u8v := rfl
  simp only [e, ← List.map_drop, ← List.map_append, List.getElem_map]
  by_cases hjk : K = j
  · subst hjk
    rw [if_pos rfl, List.getElem_append_right (by omega)]
    simp [hl, u8v]
  · rw [if_neg hjk]
    congr 1
    by_cases hlt : j < K
    · rw [List.getElem_append_left (by omega), List.getElem_append_left (by omega)]
    · rw [List.getElem_append_right (by omega), List.getElem_append_right (by omega)]
      obtain ⟨q, hq⟩ : ∃ q, j - ch.length = q + 1 := ⟨j - ch.length - 1, by omega⟩
      simp only [List.getElem_drop, List.getElem_replicate, hq, List.getElem_cons_succ]
set_option maxRecDepth 100000 in
set_option maxHeartbeats 4000000 in
theorem tag_any (kv dv : Value) (key data : List UInt8) (w : World) (hk : Rd w kv key) (hd : Rd w dv data) (hkl : key.length = 32) (hdl : data.length ≤ 4000) :
    Calls Try.prog 34 #[kv, dv] w (FreshB w (Pol.tag key data)) := by
  obtain ⟨kb, ko, kc, rfl, hkc, hkcm⟩ := hk.shapeN 32 hkl (by decide)
  obtain ⟨k16, hk16⟩ : ∃ k, k = key.take 16 := ⟨_, rfl⟩
  have hk16l : k16.length = 16 := by rw [hk16, List.length_take, hkl]; rfl
  have hp16 := hk.pre 16 (by omega)
  rw [← hk16] at hp16
  have HP16 := Lib.hid hp16
  have HK := Lib.hid hk
  have HD := Lib.hid hd
  have HKL := Lib.hid hkl
  have HDL := Lib.hid hdl
  have HK16 := Lib.hid hk16
  have HK16L := Lib.hid hk16l
  have hkc16 : (16 : Int) ≤ (kc : Int) := by omega
  have hkc32 : (32 : Int) ≤ (kc : Int) := by omega
  have HIA := Lib.hid idxA
  have HIB := Lib.hid idxB
  clear hk hd hkl hdl hk16 hk16l hp16
  go_enter Try.func34, Try.ntmps34
  go_wp2_with (at_builtin; refine apB rfl (.const (.slice none 0 0)) (.tmp 23) rfl w.heap.size (.slice none 0 0) _ [] k16 rfl (Own.nil _ _) rfl HP16.out (by have := HK16L.out; simp; omega) (Nat.le_refl _) ?_; intro v1 w1 hown1 hg1; have HO1 := Lib.hid hown1; have HG1 := Lib.hid hg1; clear hown1 hg1)
  obtain ⟨g, gc, hv1, hgb, hgl, hgc, hgm⟩ := HO1.out.shape (by intro h; have := HK16L.out; rw [List.nil_append] at h; rw [h] at this; cases this)
  rw [List.nil_append, HK16L.out] at hv1 hgc
  subst hv1
  have ho1 := HO1.out
  rw [List.nil_append] at ho1
  have O1 := Lib.hid ho1
  have B1 := Lib.hid ((Below.refl w.heap.size w).grown HG1.out (Nat.le_refl _) (fun k hk => by cases hk))
  clear ho1 HO1 HG1
  go_loopw [26] (fun i wr => ∃ k : Nat, k ≤ 4 ∧ i = .int .i64 k ∧ Own wr w.heap.size (.slice (some ⟨g, 0, none⟩) 16 gc) (Pol.clA k16 k) ∧ Below w.heap.size w wr) (fun i _ => 4 - (intOf i).toNat)
  case atStart => exact ⟨0, by omega, rfl, O1.out, B1.out⟩
  case round =>
    obtain ⟨k, hk, rfl, ho, hb⟩ := hrel
    have HO := Lib.hid ho
    have HB := Lib.hid hb
    have hcl : (Pol.clA k16 k).length = 16 := by rw [Pol.clA_length]; exact HK16L.out
    by_cases hlt : k < 4
    · have hi := HIA.out k hlt
      have hidb : Pol.idA k < 16 := by unfold Pol.idA; split <;> decide
      have hcs : Pol.clA k16 (k + 1) = (Pol.clA k16 k).set (Pol.idA k) ((Pol.clA k16 k).getD (Pol.idA k) 0 &&& 15) := rfl
      obtain ⟨j, hj⟩ : ∃ j, j = Pol.idA k := ⟨_, rfl⟩
      rw [← hj] at hi hidb hcs
      obtain ⟨x, hx⟩ : ∃ x, x = (Pol.clA k16 k).getD j 0 := ⟨_, rfl⟩
      have c1 := ho.cellB j (by omega)
      have f1 := ho.freeB j
      rw [← hx] at c1 hcs
      have HCS := Lib.hid hcs
      clear ho hb hcl hcs hj hx
      go_wp2
      go_roundw
      case rel =>
        refine ⟨k + 1, by omega, by go_num, ?_, HB.out.setCell hgb _⟩
        rw [HCS.out]
        have e := u8_andF x 15
        rw [show (((15 : UInt8).toNat : Nat) : Int) = 15 from rfl] at e
        rw [e]
        exact HO.out.setB j _
      case measure => simp [intOf]; omega
    · have hk4 : k = 4 := by omega
      rw [hk4] at ho
      obtain ⟨q16, hq16⟩ : ∃ q, q = Pol.clA k16 4 := ⟨_, rfl⟩
      have hql : q16.length = 16 := by rw [hq16, Pol.clA_length]; exact HK16L.out
      rw [← hq16] at ho
      have O2 := Lib.hid ho
      have B2 := Lib.hid hb
      have HQ := Lib.hid hq16
      have HQL := Lib.hid hql
      clear ho hb hcl hk4 hq16 hql
      go_wp2_with fail
      go_loopw [37] (fun i wr => ∃ k : Nat, k ≤ 3 ∧ i = .int .i64 k ∧ Own wr w.heap.size (.slice (some ⟨g, 0, none⟩) 16 gc) (Pol.clB q16 k) ∧ Below w.heap.size w wr) (fun i _ => 3 - (intOf i).toNat)
      case atStart => exact ⟨0, by omega, rfl, O2.out, B2.out⟩
      case round =>
        obtain ⟨k, hk, rfl, ho, hb⟩ := hrel
        have HO := Lib.hid ho
        have HB := Lib.hid hb
        have hcl : (Pol.clB q16 k).length = 16 := by rw [Pol.clB_length]; exact HQL.out
        by_cases hlt : k < 3
        · have hi := HIB.out k hlt
          have hidb : Pol.idB k < 16 := by unfold Pol.idB; split <;> decide
          have hcs : Pol.clB q16 (k + 1) = (Pol.clB q16 k).set (Pol.idB k) ((Pol.clB q16 k).getD (Pol.idB k) 0 &&& 252) := rfl
          obtain ⟨j, hj⟩ : ∃ j, j = Pol.idB k := ⟨_, rfl⟩
          rw [← hj] at hi hidb hcs
          obtain ⟨x, hx⟩ : ∃ x, x = (Pol.clB q16 k).getD j 0 := ⟨_, rfl⟩
          have c1 := ho.cellB j (by omega)
          have f1 := ho.freeB j
          rw [← hx] at c1 hcs
          have HCS := Lib.hid hcs
          clear ho hb hcl hcs hj hx
          go_wp2
          go_roundw
          case rel =>
            refine ⟨k + 1, by omega, by go_num, ?_, HB.out.setCell hgb _⟩
            rw [HCS.out]
            have e := u8_andF x 252
            rw [show (((252 : UInt8).toNat : Nat) : Int) = 252 from rfl] at e
            rw [e]
            exact HO.out.setB j _
          case measure => simp [intOf]; omega
        · have hk3 : k = 3 := by omega
          rw [hk3, HQ.out, Pol.cl_clamp _ HK16L.out] at ho
          obtain ⟨m, hm⟩ : ∃ m, m = Pol.clamp k16 := ⟨_, rfl⟩
          have hml : m.length = 16 := by rw [hm, ← Pol.cl_clamp _ HK16L.out, Pol.clB_length, Pol.clA_length]; exact HK16L.out
          rw [← hm] at ho
          have O3 := Lib.hid ho
          have B3 := Lib.hid hb
          have HM := Lib.hid hm
          have HML := Lib.hid hml
          obtain ⟨R, hR⟩ : ∃ R, Pol.ofN (Pol.leN (m.take 16) + 0 * 340282366920938463463374607431768211456) = R := ⟨_, rfl⟩
          have hm16 : m.take 16 = m := List.take_of_length_le (by omega)
          have hRv : R.val = Pol.leN m := by rw [← hR, Pol.ofN_val, hm16]; omega
          have hmlt := Pol.leN_lt m
          rw [hml] at hmlt
          have hRl : ∀ j, Pol.at0 (limbs5 R) j ≤ 67108864 := by
            have h := Pol.ofN_low (Pol.leN (m.take 16) + 0 * 340282366920938463463374607431768211456) (by rw [hm16]; simp at hmlt; omega)
            have h1 : R.a1 < 67108864 := by rw [← hR]; simp only [Pol.ofN]; omega
            rw [hR] at h
            intro j
            match j with
            | 0 => show R.a0 ≤ _; have := h.h0; omega
            | 1 => show R.a1 ≤ _; omega
            | 2 => show R.a2 ≤ _; have := h.h2; omega
            | 3 => show R.a3 ≤ _; have := h.h3; omega
            | 4 => show R.a4 ≤ _; have := h.h4; omega
            | j + 5 => simp [Pol.at0, limbs5]
          have hnum := fun w' h => number_x g 0 16 gc m 0 w' R (by decide) (by omega) hml h hR
          obtain ⟨r0, r1, r2, r3, r4⟩ := R
          dsimp only at hnum
          have HNUM := Lib.hid hnum
          have HRV := Lib.hid hRv
          have HRL := Lib.hid hRl
          clear ho hb hcl hk3 hm hml hR hm16 hRv hmlt hRl hnum
          go_wp2_with fail
          refine (HNUM.out _ O3.out.rd).mono ?_
          rintro e w4 ⟨rfl, hb4⟩
          have B4 := Lib.hid (B3.out.trans (hb4.mono B3.out.size))
          clear hb4
          go_wp2_with fail
          obtain ⟨w5, hw5⟩ : ∃ w5, w5 = (w4.alloc (.cells #[.int .u64 r0, .int .u64 r1, .int .u64 r2, .int .u64 r3, .int .u64 r4] 69)).alloc (.cells #[.int .u64 0, .int .u64 0, .int .u64 0, .int .u64 0, .int .u64 0] 69) := ⟨_, rfl⟩
          rw [← hw5]
          have hr5 : w5.heap[w4.heap.size]? = some (.cells #[.int .u64 (r0 : Int), .int .u64 (r1 : Int), .int .u64 (r2 : Int), .int .u64 (r3 : Int), .int .u64 (r4 : Int)] 69 (0, 0)) := by rw [hw5]; exact heapNew0 _ _ _
          have ha5 : w5.heap[w4.heap.size + 1]? = some (.cells #[.int .u64 ((0 : Nat) : Int), .int .u64 ((0 : Nat) : Int), .int .u64 ((0 : Nat) : Int), .int .u64 ((0 : Nat) : Int), .int .u64 ((0 : Nat) : Int)] 69 (0, 0)) := by rw [hw5]; exact heapNew1 _ _ _
          have hb5 : Below w.heap.size w w5 := by rw [hw5]; exact (B4.out.alloc B4.out.size _).alloc (by have := B4.out.size; simp; omega) _
          have s4 := B4.out.size
          obtain ⟨br, hbr⟩ : ∃ br, br = w4.heap.size := ⟨_, rfl⟩
          obtain ⟨ba, hba⟩ : ∃ ba, ba = br + 1 := ⟨_, rfl⟩
          have hbrb : w.heap.size ≤ br := by omega
          rw [← hbr] at hr5 ha5 ⊢
          rw [← hba] at ha5 ⊢
          obtain ⟨Tg, hTg⟩ : ∃ T, T = Pol.acc (Pol.leN m) data := ⟨_, rfl⟩
          have hacc0 : Pol.accF (Pol.L5.val ⟨r0, r1, r2, r3, r4⟩) data.length (Pol.L5.val ⟨0, 0, 0, 0, 0⟩ % Pol.P) data = Tg := by rw [hTg, HRV.out]; rfl
          have HR5 := Lib.hid hr5
          have HA5 := Lib.hid ha5
          have HB5 := Lib.hid hb5
          have HTG := Lib.hid hTg
          have HACC0 := Lib.hid hacc0
          have hbab : br < ba := by omega
          have HBA := Lib.hid hba
          clear hw5 hr5 ha5 hb5 hTg hacc0 hbr hba s4
          go_loopw [1] (fun v wr => ∃ (a0 a1 a2 a3 a4 : Nat) (rest : List UInt8), Rd w v rest ∧ rest.length ≤ 4000 ∧ wr.heap[ba]? = some (.cells #[.int .u64 (a0 : Int), .int .u64 (a1 : Int), .int .u64 (a2 : Int), .int .u64 (a3 : Int), .int .u64 (a4 : Int)] 69 (0, 0)) ∧ wr.heap[br]? = some (.cells #[.int .u64 (r0 : Int), .int .u64 (r1 : Int), .int .u64 (r2 : Int), .int .u64 (r3 : Int), .int .u64 (r4 : Int)] 69 (0, 0)) ∧ Pol.Low ⟨a0, a1, a2, a3, a4⟩ ∧ Hid (Pol.accF (Pol.L5.val ⟨r0, r1, r2, r3, r4⟩) rest.length (Pol.L5.val ⟨a0, a1, a2, a3, a4⟩ % Pol.P) rest = Tg) ∧ Below w.heap.size w wr)
            (fun v _ => lenV v)
          case atStart => exact ⟨0, 0, 0, 0, 0, data, HD.out, HDL.out, HA5.out, HR5.out, ⟨by decide, by decide, by decide, by decide, by decide⟩, HACC0, HB5.out⟩
          case round =>
            obtain ⟨a0, a1, a2, a3, a4, rest, hrr, hrl, ha, hr, hlow, HACC, hb⟩ := hrel
            have HRr := Lib.hid hrr
            have HAb := Lib.hid ha
            have HRb := Lib.hid hr
            have HBw := Lib.hid hb
            have hlw0 : a0 < 67108864 := hlow.h0
            have hlw1 : a1 < 67110912 := hlow.h1
            have hlw2 : a2 < 67108864 := hlow.h2
            have hlw3 : a3 < 67108864 := hlow.h3
            have hlw4 : a4 < 67108864 := hlow.h4
            obtain ⟨n, hn⟩ : ∃ n, rest.length = n := ⟨_, rfl⟩
            obtain ⟨da, dc, hdv, hdcl, hdcm⟩ := hrr.sliceN n hn
            subst hdv
            rw [hn] at hrl
            have HRLn := Lib.hid hn
            clear hrr hn hlow
            by_cases hn0 : n = 0
            · subst hn0
              have hrest : rest = [] := List.length_eq_zero_iff.mp HRLn.out
              have hTv : Pol.L5.val ⟨a0, a1, a2, a3, a4⟩ % Pol.P = Tg := by
                have h := HACC.out
                rw [hrest, Pol.accF_nil] at h
                exact h
              obtain ⟨X, hX⟩ : ∃ X, Pol.whole ⟨a0, a1, a2, a3, a4⟩ = X := ⟨_, rfl⟩
              have hcl : Pol.Low (Pol.carry ⟨a0, a1, a2, a3, a4⟩) := Pol.carry_low _ (by show a0 ≤ _; omega) (by show a1 ≤ _; omega) (by show a2 ≤ _; omega) (by show a3 ≤ _; omega) (by show a4 ≤ _; omega)
              have hXv : X.val = Tg := by rw [← hX, Pol.whole_val _ hcl, hTv]
              have hXl : Pol.Low X := by rw [← hX]; exact Pol.whole_low _ hcl
              have hwh := fun w' => whole_x ⟨a0, a1, a2, a3, a4⟩ X w' (by
                intro j
                match j with
                | 0 => show a0 ≤ _; omega
                | 1 => show a1 ≤ _; omega
                | 2 => show a2 ≤ _; omega
                | 3 => show a3 ≤ _; omega
                | 4 => show a4 ≤ _; omega
                | j + 5 => simp [Pol.at0, limbs5]) hcl hX
              obtain ⟨s16, hs16⟩ : ∃ l, l = (key.drop 16).take 16 := ⟨_, rfl⟩
              have hsl : s16.length = 16 := by rw [hs16, List.length_take, List.length_drop, HKL.out]; rfl
              have hps := HK.out.mid 16 16 (by decide) (by decide)
              rw [← hs16] at hps
              obtain ⟨Y, hY⟩ : ∃ Y, Pol.ofN (Pol.leN (s16.take 16) + 0 * 340282366920938463463374607431768211456) = Y := ⟨_, rfl⟩
              have hs16t : s16.take 16 = s16 := List.take_of_length_le (by omega)
              have hYv : Y.val = Pol.leN s16 := by rw [← hY, Pol.ofN_val, hs16t]; omega
              have hYb := Pol.leN_lt s16
              rw [hsl] at hYb
              have hYl : Pol.Low Y := by rw [← hY]; exact Pol.ofN_low _ (by rw [hs16t]; simp at hYb; omega)
              have hnum := fun w' h => number_x kb (ko + 16) 16 (kc - 16) s16 0 w' Y (by decide) (by omega) hsl h hY
              obtain ⟨x0, x1, x2, x3, x4⟩ := X
              obtain ⟨y0, y1, y2, y3, y4⟩ := Y
              dsimp only at hwh hnum
              have HWH := Lib.hid hwh
              have HNS := Lib.hid hnum
              have HPS := Lib.hid hps
              have HXV := Lib.hid hXv
              have HXL := Lib.hid hXl
              have HYV := Lib.hid hYv
              have HYL := Lib.hid hYl
              have hra : wr.rangeAt ba 0 [.int .u64 (a0 : Int), .int .u64 a1, .int .u64 a2, .int .u64 a3, .int .u64 a4] := range_of ha
              have hmk : ∀ W : World, (Instr.makeSlice 22 (.int .i64 0) (.int .i64 16)).run Try.prog W = .ok (.slice (some ⟨W.heap.size, 0, none⟩) 0 16) (W.alloc (.cells (Array.replicate 16 (.int .u8 0)) 5)) := fun _ => by kernel_rfl
              have HS16 := Lib.hid hs16
              clear hrest hTv hX hcl hXv hXl hwh hs16 hsl hps hY hs16t hYv hYb hYl hnum ha hr hb
              go_wp2_with (first
                | (refine wpList_load_mid rfl 69 (.tmp 11) rfl ba 0 rfl [.int .u64 (a0 : Int), .int .u64 a1, .int .u64 a2, .int .u64 a3, .int .u64 a4] _ hra Try.underlying69 rfl sz5 ?_)
                | (go_at_call 39; go_must (refine (HWH.out _).mono ?_); rintro e w9 ⟨rfl, hb9⟩; have HB9 := Lib.hid hb9; clear hb9)
                | (show wpList _ _ _ ({ dst := none, op := .store _ (.tmp 11) _, type := _, pos := _, after := _, guard := _ } :: _) _ _
                   go_must (refine wpList_store_mid rfl 69 (.tmp 11) (.tmp 82) rfl ba 0 #[.int .u64 (x0 : Int), .int .u64 x1, .int .u64 x2, .int .u64 x3, .int .u64 x4] rfl rfl ?_ ?_ ?_ ?_)
                   go_must (exact there_of ((HB9.out.block ba (lt_of_heap HAb.out)).trans HAb.out) rfl)
                   go_must (exact sz5)
                   go_must (first | (simp [Value.oneCell']; done) | exact all_oneCell_toArray (by intro v hv; simp only [List.mem_cons, List.not_mem_nil, or_false] at hv; rcases hv with rfl | rfl | rfl | rfl | rfl <;> rfl))
                   go_must (generalize hW : World.setCells _ _ _ _ = w10)
                   go_must (have HW := Lib.hid hW
                            have B10 := Lib.hid (show Below w.heap.size w w10 by rw [← hW]; exact below_setCells (by omega) _ _ _ (HBw.out.trans (HB9.out.mono HBw.out.size)))
                            have A10 := Lib.hid (show w10.heap[ba]? = some (.cells #[.int .u64 (x0 : Int), .int .u64 x1, .int .u64 x2, .int .u64 x3, .int .u64 x4] 69 (0, 0)) by rw [← hW]; exact storedRow ((HB9.out.block ba (lt_of_heap HAb.out)).trans HAb.out) rfl)
                            clear hW))
                | (go_at_call 37; go_must (refine (HNS.out _ (HPS.out.stay B10.out)).mono ?_); rintro e w11 ⟨rfl, hb11⟩; have HB11 := Lib.hid hb11; clear hb11))
              have b11 := B10.out.trans (HB11.out.mono B10.out.size)
              have a11 := (HB11.out.block ba (lt_of_heap A10.out)).trans A10.out
              have sz11 := b11.size
              have ltba := lt_of_heap a11
              obtain ⟨w12, hw12⟩ : ∃ w12, w12 = (w11.alloc (.cells #[.int .u64 (y0 : Int), .int .u64 y1, .int .u64 y2, .int .u64 y3, .int .u64 y4] 69)).alloc (.cells (Array.replicate 16 (.int .u8 0)) 5) := ⟨_, rfl⟩
              rw [← hw12]
              obtain ⟨bs, hbs⟩ : ∃ bs, bs = w11.heap.size := ⟨_, rfl⟩
              obtain ⟨vo, hvo⟩ : ∃ vo, vo = Value.slice (some ⟨bs + 1, 0, none⟩) 0 16 := ⟨_, rfl⟩
              have ha12 : Big w12 ba 69 [x0, x1, x2, x3, x4] := by rw [hw12]; exact (heapOld _ _ _ (by simp; omega)).trans ((heapOld _ _ _ ltba).trans a11)
              have hs12 : Big w12 bs 69 [y0, y1, y2, y3, y4] := by rw [hw12, hbs]; exact heapNew0 _ _ _
              have ho12 : Own w12 (bs + 1) vo [] := by
                rw [hw12, hvo, hbs]
                have e : (w11.alloc (.cells #[.int .u64 (y0 : Int), .int .u64 y1, .int .u64 y2, .int .u64 y3, .int .u64 y4] 69)).heap.size = w11.heap.size + 1 := by simp
                rw [← e]
                exact Own.made _ _ _ 16 (Nat.le_refl _) (by decide) rfl
              have hb12 : Below w.heap.size w w12 := by rw [hw12]; exact (b11.alloc b11.size _).alloc (by have := b11.size; simp; omega) _
              have hbsb : w.heap.size ≤ bs := by rw [hbs]; exact b11.size
              have hbabs : ba < bs := by rw [hbs]; exact ltba
              rw [← hbs, ← hvo]
              obtain ⟨f, hf⟩ : ∃ f : Nat → Nat, f = fun j => Pol.at0 [x0, x1, x2, x3, x4] j + Pol.at0 [y0, y1, y2, y3, y4] j := ⟨_, rfl⟩
              have hfb : ∀ j, f j ≤ 134221824 := by
                have h := HXL.out
                have h' := HYL.out
                have a1 := h.h0
                have a2 := h.h1
                have a3 := h.h2
                have a4 := h.h3
                have a5 := h.h4
                have b1 := h'.h0
                have b2 := h'.h1
                have b3 := h'.h2
                have b4 := h'.h3
                have b5 := h'.h4
                dsimp only at a1 a2 a3 a4 a5 b1 b2 b3 b4 b5
                intro j
                rw [hf]
                match j with
                | 0 => show x0 + y0 ≤ _; omega
                | 1 => show x1 + y1 ≤ _; omega
                | 2 => show x2 + y2 ≤ _; omega
                | 3 => show x3 + y3 ≤ _; omega
                | 4 => show x4 + y4 ≤ _; omega
                | j + 5 => simp [Pol.at0]
              have hfs : Pol.part f 5 = Tg + Pol.leN s16 := by
                rw [← HXV.out, ← HYV.out, hf]
                simp only [Pol.part, Pol.at0, Pol.L5.val, List.getD_cons_zero, List.getD_cons_succ]
                omega
              have A12 := Lib.hid ha12
              have S12 := Lib.hid hs12
              have O12 := Lib.hid ho12
              have B12 := Lib.hid hb12
              have HF := Lib.hid hf
              have HFB := Lib.hid hfb
              have HFS := Lib.hid hfs
              clear ha12 hs12 ho12 hb12 hf hfb hfs hw12 hbs hvo a11 b11 sz11 ltba hra hmk
              go_loopw [17, 18, 19, 20, 87] (fun vo vs vb vn vi wr => ∃ k N : Nat, k ≤ 5 ∧ N ≤ 16 ∧ 8 * N ≤ 26 * k ∧ (26 * k < 8 * N + 8 ∨ N = 16) ∧ vi = .int .i64 k ∧ vn = .int .i64 N ∧ vb = .int .u64 ((26 * k - 8 * N : Nat) : Int) ∧ vs = .int .u64 ((Pol.part f k / 256 ^ N : Nat) : Int) ∧ Own wr (bs + 1) vo (Pol.leB N (Pol.part f k)) ∧ Big wr ba 69 [x0, x1, x2, x3, x4] ∧ Big wr bs 69 [y0, y1, y2, y3, y4] ∧ Below w.heap.size w wr)
                (fun _ _ _ _ i _ => 5 - (intOf i).toNat)
              case atStart => exact ⟨0, 0, by omega, by omega, by omega, .inl (by omega), rfl, rfl, rfl, by simp [Pol.part], O12.out, A12.out, S12.out, B12.out⟩
              case round =>
                obtain ⟨k, N, hk, hN, h8, hlast, rfl, rfl, rfl, rfl, ho, ha, hs, hb⟩ := hrel
                have HO := Lib.hid ho
                have HAo := Lib.hid ha
                have HSo := Lib.hid hs
                have HBo := Lib.hid hb
                by_cases hlt : k < 5
                · have hlk : 26 * k < 8 * N + 8 := by omega
                  obtain ⟨B, hB⟩ : ∃ B, B = 26 * k - 8 * N := ⟨_, rfl⟩
                  have hB8 : B < 8 := by omega
                  obtain ⟨L, hL⟩ : ∃ L, L = Pol.part f k / 256 ^ N := ⟨_, rfl⟩
                  have hLb : L < 1024 := by
                    have h := Pol.low_bound2 f HFB.out k N h8
                    rw [← hL, ← hB] at h
                    have h2 : 2 ^ B ≤ 2 ^ 7 := Nat.pow_le_pow_right (by decide) (by omega)
                    omega
                  obtain ⟨x, hx⟩ : ∃ x, x = Pol.at0 [x0, x1, x2, x3, x4] k := ⟨_, rfl⟩
                  obtain ⟨y, hy⟩ : ∃ y, y = Pol.at0 [y0, y1, y2, y3, y4] k := ⟨_, rfl⟩
                  have hxy : f k = x + y := by rw [HF.out, hx, hy]
                  have hxyb : x + y ≤ 134221824 := by rw [← hxy]; exact HFB.out k
                  have c1 := ha.cell k hlt
                  rw [show ([x0, x1, x2, x3, x4] : List Nat).getD k 0 = x from hx.symm] at c1
                  have c2 := hs.cell k hlt
                  rw [show ([y0, y1, y2, y3, y4] : List Nat).getD k 0 = y from hy.symm] at c2
                  have hL2 : Pol.part f (k + 1) / 256 ^ N = L + (x + y) * 2 ^ B := by
                    rw [Pol.part, hxy, Pol.low_add _ _ _ _ h8, ← hL, ← hB]
                  have hO2 : Pol.leB N (Pol.part f (k + 1)) = Pol.leB N (Pol.part f k) := by
                    rw [Pol.part, Pol.leB_add _ _ _ _ h8]
                  obtain ⟨S, hS⟩ : ∃ S, S = (x + y) * 2 ^ B := ⟨_, rfl⟩
                  obtain ⟨M, hM⟩ : ∃ M, M = L + S := ⟨_, rfl⟩
                  have hMT : Pol.part f (k + 1) / 256 ^ N = M := by rw [hL2, hM, hS]
                  have hMb : M < 68719476736 := by
                    have h := Pol.low_bound2 f HFB.out (k + 1) N (by omega)
                    rw [hMT] at h
                    have h2 : 2 ^ (26 * (k + 1) - 8 * N) ≤ 2 ^ 34 := Nat.pow_le_pow_right (by decide) (by omega)
                    omega
                  have hw1 : IntKind.u64.wrap (((x : Int) + (y : Int)) * 2 ^ B) = (S : Int) := by
                    rw [show ((x : Int) + (y : Int)) * 2 ^ B = (S : Int) by rw [hS, Int.natCast_mul, Int.natCast_add, Int.natCast_pow]; rfl]
                    exact IntWalk.u64_in _ (by omega)
                  have hw2 : IntKind.u64.wrap ((L : Int) + (S : Int)) = (M : Int) := by
                    rw [show (L : Int) + (S : Int) = (M : Int) by omega]
                    exact IntWalk.u64_in _ (by omega)
                  rw [← hL, ← hB]
                  obtain ⟨T, hT⟩ : ∃ T, T = Pol.part f (k + 1) := ⟨_, rfl⟩
                  rw [← hT] at hMT hO2
                  have hTb : ∀ n, 26 * (k + 1) ≤ 8 * n + 34 → 8 * n ≤ 26 * (k + 1) → T / 256 ^ n < 68719476736 := fun n h1 h2 => by
                    have h := Pol.low_bound2 f HFB.out (k + 1) n h2
                    rw [← hT] at h
                    have h3 : 2 ^ (26 * (k + 1) - 8 * n) ≤ 2 ^ 34 := Nat.pow_le_pow_right (by decide) (by omega)
                    omega
                  have HMT := Lib.hid hMT
                  have HO2 := Lib.hid (show Own (wr) (bs + 1) _ (Pol.leB N T) by rw [hO2]; exact ho)
                  have HBe := Lib.hid hB
                  have HT := Lib.hid hT
                  have HTB := Lib.hid hTb
                  clear ho ha hs hb hL hx hy hxy hL2 hO2 hlast hB hS hM hMT hT hTb
                  have hdk : decide ((k : Int) < 5) = true := by rw [decide_eq_true_eq]; omega
                  go_wp2_with fail
                  go_quiet (fail)
                  clear hw1 hw2 c1 c2 hdk
                  go_wp2_with fail
                  go_loopw [17, 18, 19, 20] (fun vo vs vb vn wr => ∃ N : Nat, N ≤ 16 ∧ 8 * N ≤ 26 * (k + 1) ∧ 26 * (k + 1) ≤ 8 * N + 34 ∧ vn = .int .i64 N ∧ vb = .int .u64 ((26 * (k + 1) - 8 * N : Nat) : Int) ∧ vs = .int .u64 ((T / 256 ^ N : Nat) : Int) ∧ Own wr (bs + 1) vo (Pol.leB N T) ∧ Big wr ba 69 [x0, x1, x2, x3, x4] ∧ Big wr bs 69 [y0, y1, y2, y3, y4] ∧ Below w.heap.size w wr)
                    (fun _ _ _ n _ => 16 - (intOf n).toNat)
                  case atStart =>
                    refine ⟨N, hN, by omega, by omega, rfl, ?_, by rw [HMT.out], HO2.out, HAo.out, HSo.out, below_drewN HBo.out nq⟩
                    have := HBe.out
                    congr 1
                    omega
                  case round =>
                    obtain ⟨N, hN, h8, h34, rfl, rfl, rfl, ho, ha, hs, hb⟩ := hrel
                    have HO := Lib.hid ho
                    have HAi := Lib.hid ha
                    have HSi := Lib.hid hs
                    have HBi := Lib.hid hb
                    obtain ⟨B, hB⟩ : ∃ B, B = 26 * (k + 1) - 8 * N := ⟨_, rfl⟩
                    obtain ⟨L, hL⟩ : ∃ L, L = T / 256 ^ N := ⟨_, rfl⟩
                    have hLb : L < 68719476736 := by rw [hL]; exact HTB.out N h34 h8
                    have hBb : B ≤ 34 := by omega
                    rw [← hB, ← hL]
                    have HBv := Lib.hid hB
                    have HLv := Lib.hid hL
                    clear ho ha hs hb hL
                    by_cases hb8 : 8 ≤ B
                    · have hd8 : decide ((8 : Int) ≤ (B : Int)) = true := by rw [decide_eq_true_eq]; omega
                      by_cases hn16 : N < 16
                      · have hdn : decide ((N : Int) < 16) = true := by rw [decide_eq_true_eq]; omega
                        clear hB
                        have hszr : bs + 1 ≤ wr.heap.size := by have := lt_of_heap HSi.out; omega
                        go_wp2_with (at_builtin; refine apB rfl (.tmp 111) (.tmp 114) rfl (bs + 1) _ _ (Pol.leB N T) [UInt8.ofNat L] rfl (HO.out.alloc _) rfl (newB _ _ _ (by rw [UInt8.toNat_ofNat']; omega)) (by rw [Pol.leB_length]; simp; omega) (by simp; omega) ?_; intro v3 w3 ho3 hg3; have HO3 := Lib.hid ho3; have HG3 := Lib.hid hg3; clear ho3 hg3)
                        have hbw : Below (bs + 1) wr w3 := ((Below.refl (bs + 1) wr).alloc hszr _).grown HG3.out (by simp; omega) (fun j hj => (HO.out.lt j hj).1)
                        have HBW := Lib.hid hbw
                        clear hbw
                        go_roundw
                        case rel =>
                          refine ⟨N + 1, by omega, ?_, ?_, by go_num, ?_, ?_, ?_, (HBW.out.block ba (by omega)).trans HAi.out, (HBW.out.block bs (by omega)).trans HSi.out, HBi.out.trans (HBW.out.mono (by omega))⟩
                          · have := HBv.out; omega
                          · have := HBv.out; omega
                          · have := HBv.out; congr 1; omega
                          · congr 1
                            rw [Nat.pow_succ, ← Nat.div_div_eq_div_mul, ← HLv.out]
                            rfl
                          · rw [Pol.leB_more, ← HLv.out]; exact HO3.out
                        case measure => simp [intOf]; omega
                      · have hdn : decide ((N : Int) < 16) = false := by rw [decide_eq_false_iff_not]; omega
                        clear hB
                        go_wp2_with fail
                        go_roundw
                        case rel =>
                          rw [HT.out] at HO HLv
                          exact ⟨k + 1, N, by omega, hN, h8, .inr (by omega), by go_num, rfl, by rw [HBv.out], by rw [HLv.out], HO.out, HAi.out, HSi.out, HBi.out⟩
                        case measure => simp [intOf]; omega
                    · have hd8 : decide ((8 : Int) ≤ (B : Int)) = false := by rw [decide_eq_false_iff_not]; omega
                      clear hB
                      go_wp2_with fail
                      go_roundw
                      case rel =>
                        rw [HT.out] at HO HLv
                        refine ⟨k + 1, N, by omega, hN, h8, .inl ?_, by go_num, rfl, by rw [HBv.out], by rw [HLv.out], HO.out, HAi.out, HSi.out, HBi.out⟩
                        have := HBv.out
                        omega
                      case measure => simp [intOf]; omega
                · have hk5 : k = 5 := by omega
                  have hN16 : N = 16 := by omega
                  rw [hk5, hN16, HFS.out] at ho
                  have HOF := Lib.hid ho
                  clear ho ha hs hb
                  go_wp2_with fail
                  go_ret
                  refine ⟨_, rfl, ?_, HBo.out⟩
                  have h := HOF.out.mono (show w.heap.size ≤ bs + 1 by omega)
                  rw [HTG.out, HM.out, HK16.out, HS16.out] at h
                  exact h
            obtain ⟨db, do_, rfl⟩ : ∃ db do_, da = some ⟨db, do_, none⟩ := by
              obtain ⟨b, off, c, e, _⟩ := HRr.out.shapeN n HRLn.out (by omega)
              injection e with e1 _ _
              exact ⟨b, off, e1⟩
            by_cases hn16 : 16 ≤ n
            · -- sixteen bytes or more
              have hK16 : 16 ≤ 16 := by omega
              obtain ⟨ch, hch⟩ : ∃ ch, ch = rest.take 16 := ⟨_, rfl⟩
              have hchl : ch.length = 16 := by rw [hch, List.length_take, HRLn.out]; omega
              obtain ⟨B17, hB17⟩ : ∃ B, B = ch ++ (1 :: List.replicate (16 - 16) (0 : UInt8)) := ⟨_, rfl⟩
              have hB17l : B17.length = 17 := by rw [hB17]; simp only [List.length_append, List.length_cons, List.length_replicate, hchl] <;> omega
              have htop : B17.getD 16 0 = 1 := by
                rw [hB17]
                simp only [List.getD_eq_getElem?_getD]
                rw [List.getElem?_append_right (by omega), hchl]
                rfl
              have hB16l : (B17.take 16).length = 16 := by rw [List.length_take, hB17l]; rfl
              have hNv : Pol.leN ((B17.take 16).take 16) + 1 * 340282366920938463463374607431768211456 = Pol.leN ch + 256 ^ (min 16 rest.length) := by
                rw [HRLn.out, List.take_take, Nat.min_self, hB17, show min 16 n = 16 by omega]
                rw [List.take_append_of_le_length (by omega), List.take_of_length_le (by omega)]
              have hNlt : Pol.leN ch + 256 ^ (min 16 rest.length) < 1361129467683753853853498429727072845824 := by
                rw [← hNv]
                have := Pol.leN_lt ((B17.take 16).take 16)
                rw [List.take_take, Nat.min_self, hB16l] at this
                rw [List.take_take, Nat.min_self]
                simp at this
                omega
              obtain ⟨N, hN⟩ : ∃ N, Pol.ofN (Pol.leN ch + 256 ^ (min 16 rest.length)) = N := ⟨_, rfl⟩
              have hNlow := Pol.ofN_low _ hNlt
              rw [hN] at hNlow
              have hNa1 : N.a1 < 67108864 := by rw [← hN]; simp only [Pol.ofN]; omega
              obtain ⟨bb, hbb⟩ : ∃ bb, bb = wr.heap.size := ⟨_, rfl⟩
              have hnum := fun w' h => number_w bb 0 16 17 (B17.take 16) 1 (IntKind.u64.wrap 1) (by decide) w' N (by decide) (by rw [hB16l]; decide) hB16l h (by rw [hNv]; exact hN)
              obtain ⟨n0, n1, n2, n3, n4⟩ := N
              have hn0 : n0 < 67108864 := hNlow.h0
              have hn1 : n1 < 67108864 := hNa1
              have hn2 : n2 < 67108864 := hNlow.h2
              have hn3 : n3 < 67108864 := hNlow.h3
              have hn4 : n4 < 67108864 := hNlow.h4
              dsimp only at hnum
              have hiN := fun k hk W => index5 ⟨n0, n1, n2, n3, n4⟩ k hk W
              dsimp only at hiN
              obtain ⟨S, hS⟩ : ∃ S, S = Pol.plus ⟨a0, a1, a2, a3, a4⟩ ⟨n0, n1, n2, n3, n4⟩ := ⟨_, rfl⟩
              have hSl : ∀ j, Pol.at0 (limbs5 S) j ≤ 134221824 := by
                rw [hS]
                intro j
                match j with
                | 0 => show a0 + n0 ≤ _; omega
                | 1 => show a1 + n1 ≤ _; omega
                | 2 => show a2 + n2 ≤ _; omega
                | 3 => show a3 + n3 ≤ _; omega
                | 4 => show a4 + n4 ≤ _; omega
                | j + 5 => simp [Pol.at0, limbs5, Pol.plus]
              have hSa : Pol.addL [a0, a1, a2, a3, a4] [n0, n1, n2, n3, n4] 5 = limbs5 S := by rw [hS]; rfl
              obtain ⟨C, hC⟩ : ∃ C, C = Pol.carry (Pol.mul S ⟨r0, r1, r2, r3, r4⟩) := ⟨_, rfl⟩
              have hCm : C.val % Pol.P = (Pol.L5.val ⟨a0, a1, a2, a3, a4⟩ % Pol.P + (Pol.leN ch + 256 ^ (min 16 rest.length))) * Pol.L5.val ⟨r0, r1, r2, r3, r4⟩ % Pol.P := by
                rw [hC, hS, ← hN]; exact Pol.round_mod _ _ _
              have hClow : Pol.Low C := by
                rw [hC]
                have hmb := Pol.mi_bound (limbs5 S) (limbs5 ⟨r0, r1, r2, r3, r4⟩) [0, 0, 0, 0, 0] rfl hSl HRL.out (by intro j; match j with | 0 | 1 | 2 | 3 | 4 => decide | j + 5 => simp [Pol.at0]) 5 (by decide)
                rw [Pol.mul_list] at hmb
                refine Pol.carry_low _ ?_ ?_ ?_ ?_ ?_
                · have := hmb 0; simp only [Pol.at0, limbs5] at this; simp at this; omega
                · have := hmb 1; simp only [Pol.at0, limbs5] at this; simp at this; omega
                · have := hmb 2; simp only [Pol.at0, limbs5] at this; simp at this; omega
                · have := hmb 3; simp only [Pol.at0, limbs5] at this; simp at this; omega
                · have := hmb 4; simp only [Pol.at0, limbs5] at this; simp at this; omega
              have htimes := fun w' => times_x S ⟨r0, r1, r2, r3, r4⟩ C w' hSl HRL.out hC.symm
              have hacc : Pol.accF (Pol.L5.val ⟨r0, r1, r2, r3, r4⟩) (rest.drop 16).length (C.val % Pol.P) (rest.drop 16) = Tg := by
                rw [← HACC.out, Pol.accF_step _ _ rest (by intro h; rw [h] at HRLn; have := HRLn.out; simp at this; omega), hCm, hch]
              obtain ⟨s0, s1, s2, s3, s4⟩ := S
              obtain ⟨c0, c1, c2, c3, c4⟩ := C
              dsimp only at htimes
              have HNUM2 := Lib.hid hnum
              have HIN := Lib.hid hiN
              have HSA := Lib.hid hSa
              have HTI := Lib.hid htimes
              have HACC2 := Lib.hid hacc
              have HCLOW := Lib.hid hClow
              have HCH := Lib.hid hch
              have HCHL := Lib.hid hchl
              have HB17 := Lib.hid hB17
              have HB17L := Lib.hid hB17l
              have HTOP := Lib.hid htop
              have HBB := Lib.hid hbb
              have hzl : ([.int .u8 0, .int .u8 0, .int .u8 0, .int .u8 0, .int .u8 0, .int .u8 0, .int .u8 0, .int .u8 0, .int .u8 0, .int .u8 0, .int .u8 0, .int .u8 0, .int .u8 0, .int .u8 0, .int .u8 0, .int .u8 0, .int .u8 0] : List Value).length = 17 := rfl
              have hcopy : ∀ (w' : World), w'.heap[bb]? = some (.cells ((rest.take 16).map u8v ++ ([.int .u8 0, .int .u8 0, .int .u8 0, .int .u8 0, .int .u8 0, .int .u8 0, .int .u8 0, .int .u8 0, .int .u8 0, .int .u8 0, .int .u8 0, .int .u8 0, .int .u8 0, .int .u8 0, .int .u8 0, .int .u8 0, .int .u8 0] : List Value).drop 16).toArray 71 (0, 0)) → (∃ u, w'.cell? ⟨bb, 16, none⟩ = some u) ∧ w'.frozen? ⟨bb, 16, none⟩ = false ∧
                  (w'.setCell ⟨bb, 16, none⟩ (.int .u8 1)).heap[bb]? = some (.cells (B17.map u8v).toArray 71 (0, 0)) := fun w' h => by
                have hlen : ((rest.take 16).map u8v ++ ([.int .u8 0, .int .u8 0, .int .u8 0, .int .u8 0, .int .u8 0, .int .u8 0, .int .u8 0, .int .u8 0, .int .u8 0, .int .u8 0, .int .u8 0, .int .u8 0, .int .u8 0, .int .u8 0, .int .u8 0, .int .u8 0, .int .u8 0] : List Value).drop 16).length = 17 := by rw [List.length_append, List.length_map, ← hch, hchl, List.length_drop]; simp <;> omega
                refine ⟨⟨_, cellD h 16 (by rw [List.size_toArray, hlen]; omega)⟩, freeAt h 16, ?_⟩
                rw [heapSet h]
                congr 2
                apply Array.ext (by rw [Array.size_setIfInBounds, List.size_toArray, List.size_toArray, hlen, List.length_map, hB17l])
                intro j h1 h2
                have hj : j < 17 := by rw [List.size_toArray, List.length_map, hB17l] at h2; exact h2
                rw [Array.getElem_setIfInBounds (by rw [List.size_toArray, hlen]; exact hj)]
                simp only [List.getElem_toArray, hB17, ← hch]
                exact row17 ch 16 hchl hK16 j hj
              have HCOPY := Lib.hid hcopy
              clear hchl hB17 hB17l htop hB16l hNv hNlt hN hNlow hNa1 hnum hiN hS hSl hSa hC hCm hClow htimes hacc hch hbb hzl hcopy ha hr hb
              by_cases hdc : dc = 16
              all_goals
                have hdcB := Lib.hid hdc
                clear hdc
                go_wp2_with (refine copyC rfl (.tmp 57) (.tmp 58) rfl wr.heap.size rfl _ rest rfl ((HRr.out.stay HBw.out).alloc _) [.int .u8 0, .int .u8 0, .int .u8 0, .int .u8 0, .int .u8 0, .int .u8 0, .int .u8 0, .int .u8 0, .int .u8 0, .int .u8 0, .int .u8 0, .int .u8 0, .int .u8 0, .int .u8 0, .int .u8 0, .int .u8 0, .int .u8 0] (heapNew wr _) rfl 16 (by rw [HRLn.out]; omega) ?_; rw [← HBB.out]; intro w6 hrow6 hb6; have P6 := Lib.hid (HCOPY.out w6 hrow6); have HB6 := Lib.hid hb6; obtain ⟨⟨ust, cst⟩, fst, _⟩ := P6.out; clear hrow6 hb6)
                have hw7r := P6.out.2.2
                have hbw7 : Below wr.heap.size wr (w6.setCell ⟨bb, 16, none⟩ (.int .u8 1)) := by
                  rw [← HBB.out]
                  exact (((Below.refl bb wr).alloc (by rw [HBB.out]; exact Nat.le_refl _) _).trans HB6.out).setCell (Nat.le_refl _) _
                generalize hW7 : w6.setCell ⟨bb, 16, none⟩ (.int .u8 1) = w7 at hw7r hbw7 ⊢
                have hb7 := HBw.out.trans (hbw7.mono HBw.out.size)
                have ha7 := (hbw7.block ba (lt_of_heap HAb.out)).trans HAb.out
                have hr7 := (hbw7.block br (lt_of_heap HRb.out)).trans HRb.out
                have hp7 : Rd w7 (.slice (some ⟨bb, 0, none⟩) 16 17) (B17.take 16) := rdRow17 hw7r HB17L.out
                have c7 : w7.cell? ⟨bb, 16, none⟩ = some (.int .u8 ((1 : Nat) : Int)) := cellAt hw7r 16 (by
                  rw [List.getElem?_toArray, List.getElem?_map]
                  have h := HTOP.out
                  rw [List.getD_eq_getElem?_getD] at h
                  rw [List.getElem?_eq_getElem (by rw [HB17L.out]; decide)] at h ⊢
                  simp only [Option.getD_some] at h
                  rw [Option.map_some, h]
                  rfl)
                have A7 := Lib.hid ha7
                have R7 := Lib.hid hr7
                have PP7 := Lib.hid hp7
                have B7 := Lib.hid hb7
                clear hw7r hbw7 hb7 ha7 hr7 hp7 hW7 cst fst P6 HB6
                go_region_with (go_at_call 37; refine (HNUM2.out _ (PP7.out.drewN 1)).mono ?_; rintro e w8 ⟨rfl, hb8⟩; have HB8 := Lib.hid hb8; clear hb8)
                have hbw8 : Below w7.heap.size w7 w8 := ((Below.refl _ w7).drew).trans HB8.out
                have hb8 := B7.out.trans (hbw8.mono B7.out.size)
                have ha8 : Big w8 ba 69 [a0, a1, a2, a3, a4] := (hbw8.block ba (lt_of_heap A7.out)).trans A7.out
                have hr8 := (hbw8.block br (lt_of_heap R7.out)).trans R7.out
                have A8 := Lib.hid ha8
                have R8 := Lib.hid hr8
                have B8 := Lib.hid hb8
                clear HB8 hbw8 hb8 ha8 hr8 A7 R7 PP7 B7 c7
                go_wp2_with fail
                go_loopw [67] (fun i wd => ∃ k : Nat, k ≤ 5 ∧ i = .int .i64 k ∧ Big wd ba 69 (Pol.addL [a0, a1, a2, a3, a4] [n0, n1, n2, n3, n4] k) ∧ wd.heap[br]? = some (.cells #[.int .u64 (r0 : Int), .int .u64 (r1 : Int), .int .u64 (r2 : Int), .int .u64 (r3 : Int), .int .u64 (r4 : Int)] 69 (0, 0)) ∧ Below w.heap.size w wd) (fun i _ => 5 - (intOf i).toNat)
                case atStart => exact ⟨0, by omega, rfl, A8.out, R8.out, B8.out⟩
                case round =>
                  obtain ⟨k, hk, rfl, ha, hr, hb⟩ := hrel
                  have HAd := Lib.hid ha
                  have HRd := Lib.hid hr
                  have HBd := Lib.hid hb
                  by_cases hlt : k < 5
                  · obtain ⟨x, hx⟩ : ∃ x, x = Pol.at0 [a0, a1, a2, a3, a4] k := ⟨_, rfl⟩
                    obtain ⟨y, hy⟩ : ∃ y, y = Pol.at0 [n0, n1, n2, n3, n4] k := ⟨_, rfl⟩
                    have hi := HIN.out k hlt
                    rw [show Pol.at0 (limbs5 ⟨n0, n1, n2, n3, n4⟩) k = y from hy.symm] at hi
                    have hxb : x ≤ 67110912 := by
                      rw [hx]
                      have h5 : k = 0 ∨ k = 1 ∨ k = 2 ∨ k = 3 ∨ k = 4 := by omega
                      rcases h5 with rfl | rfl | rfl | rfl | rfl
                      · show a0 ≤ _; omega
                      · show a1 ≤ _; omega
                      · show a2 ≤ _; omega
                      · show a3 ≤ _; omega
                      · show a4 ≤ _; omega
                    have hyb : y ≤ 67108864 := by
                      rw [hy]
                      have h5 : k = 0 ∨ k = 1 ∨ k = 2 ∨ k = 3 ∨ k = 4 := by omega
                      rcases h5 with rfl | rfl | rfl | rfl | rfl
                      · show n0 ≤ _; omega
                      · show n1 ≤ _; omega
                      · show n2 ≤ _; omega
                      · show n3 ≤ _; omega
                      · show n4 ≤ _; omega
                    have c1 := ha.cell k (by rw [Pol.addL_length]; exact hlt)
                    have f1 := freeAt ha k
                    have hxk : (Pol.addL [a0, a1, a2, a3, a4] [n0, n1, n2, n3, n4] k).getD k 0 = x := by
                      rw [hx]; exact Pol.addL_at _ _ k (by simp; omega) k (Nat.le_refl _)
                    rw [hxk] at c1
                    have hst : Pol.addL [a0, a1, a2, a3, a4] [n0, n1, n2, n3, n4] (k + 1) = (Pol.addL [a0, a1, a2, a3, a4] [n0, n1, n2, n3, n4] k).set k (x + y) := by rw [hx, hy]; rfl
                    have HST := Lib.hid hst
                    clear ha hr hb hx hy hxk hst
                    go_wp2
                    go_roundw
                    case rel =>
                      refine ⟨k + 1, by omega, by go_num, ?_, (heapSet_ne _ _ (by omega)).trans HRd.out, HBd.out.setCell (by show w.heap.size ≤ ba; omega) _⟩
                      rw [HST.out]
                      exact HAd.out.set k (x + y)
                    case measure => simp [intOf]; omega
                  · have hk5 : k = 5 := by omega
                    rw [hk5, HSA.out] at ha
                    have hrs : wr.rangeAt ba 0 [.int .u64 (s0 : Int), .int .u64 s1, .int .u64 s2, .int .u64 s3, .int .u64 s4] := range_of ha
                    have hrr : wr.rangeAt br 0 [.int .u64 (r0 : Int), .int .u64 r1, .int .u64 r2, .int .u64 r3, .int .u64 r4] := range_of hr
                    have HAe := Lib.hid ha
                    clear ha hr hb hk5
                    have hdcK := hdcB.out
                    go_wp2_with (first
                      | (refine wpList_load_mid rfl 69 (.tmp 11) rfl ba 0 rfl [.int .u64 (s0 : Int), .int .u64 s1, .int .u64 s2, .int .u64 s3, .int .u64 s4] _ hrs Try.underlying69 rfl sz5 ?_)
                      | (refine wpList_load_mid rfl 69 (.tmp 10) rfl br 0 rfl [.int .u64 (r0 : Int), .int .u64 r1, .int .u64 r2, .int .u64 r3, .int .u64 r4] _ hrr Try.underlying69 rfl sz5 ?_)
                      | (go_at_call 38; go_must (refine (HTI.out _).mono ?_); rintro e w9 ⟨rfl, hb9⟩; have HB9 := Lib.hid hb9; clear hb9)
                      | (show wpList _ _ _ ({ dst := none, op := .store _ _ _, type := _, pos := _, after := _, guard := _ } :: _) _ _
                         go_must (refine wpList_store_mid rfl 69 (.tmp 11) (.tmp 80) rfl ba 0 #[.int .u64 (c0 : Int), .int .u64 c1, .int .u64 c2, .int .u64 c3, .int .u64 c4] rfl rfl ?_ ?_ ?_ ?_)
                         go_must (exact there_of ((HB9.out.block ba (lt_of_heap HAe.out)).trans HAe.out) rfl)
                         go_must (exact sz5)
                         go_must (first | (simp [Value.oneCell']; done) | exact all_oneCell_toArray (by intro v hv; simp only [List.mem_cons, List.not_mem_nil, or_false] at hv; rcases hv with rfl | rfl | rfl | rfl | rfl <;> rfl))
                         go_must (generalize hW : World.setCells _ _ _ _ = w10)
                         go_must (have HW := Lib.hid hW; clear hW)
                         skip))
                    go_roundw
                    case rel =>
                      have hrow9 := (HB9.out.block ba (lt_of_heap HAe.out)).trans HAe.out
                      refine ⟨c0, c1, c2, c3, c4, rest.drop 16, ?_, by rw [List.length_drop, HRLn.out]; omega, ?_, ?_, HCLOW.out, HACC2, ?_⟩
                      · have h := HRr.out.cut 16 n (by omega) (Nat.le_refl _)
                        rw [show (rest.take n).drop 16 = rest.drop 16 by
                          rw [List.take_of_length_le (by rw [HRLn.out]; exact Nat.le_refl _)]
                          first | done | (rw [List.drop_of_length_le (by rw [HRLn.out]; omega), List.drop_of_length_le (by rw [HRLn.out]; omega)])] at h
                        first
                          | (rw [if_neg hdcK] at h; exact h)
                          | (rw [if_neg hdcK] at h; simp only [Nat.mul_one, Option.map_some, Addr.add, if_neg (show ¬ n = 0 by omega)] at h; exact h)
                          | (rw [if_pos hdcK] at h; first | exact h | (rw [hdcK] at h; exact h) | (simpa [hdcK] using h))
                          | (rw [if_neg hdcK, Nat.sub_self] at h; simp only [Nat.mul_one, Option.map_some, Addr.add, if_neg (show ¬ n = 0 by omega)] at h; exact h)
                      · rw [← HW.out]; exact storedRow hrow9 rfl
                      · rw [← HW.out]; exact ((below_setCells (Nat.le_refl ba) _ _ _ (Below.refl ba w9)).block br hbab).trans ((HB9.out.block br (lt_of_heap HRd.out)).trans HRd.out)
                      · rw [← HW.out]; exact below_setCells (by omega) _ _ _ (HBd.out.trans (HB9.out.mono HBd.out.size))
                    case measure => simp [lenV]; omega
            · -- fewer than sixteen
              have hK16 : n ≤ 16 := by omega
              obtain ⟨ch, hch⟩ : ∃ ch, ch = rest.take 16 := ⟨_, rfl⟩
              have hchl : ch.length = n := by rw [hch, List.length_take, HRLn.out]; omega
              obtain ⟨B17, hB17⟩ : ∃ B, B = ch ++ (1 :: List.replicate (16 - n) (0 : UInt8)) := ⟨_, rfl⟩
              have hB17l : B17.length = 17 := by rw [hB17]; simp only [List.length_append, List.length_cons, List.length_replicate, hchl] <;> omega
              have htop : B17.getD 16 0 = 0 := by
                rw [hB17]
                simp only [List.getD_eq_getElem?_getD]
                rw [List.getElem?_append_right (by omega), hchl]
                have e : 16 - n = (15 - n) + 1 := by omega
                rw [e, List.getElem?_cons_succ, List.getElem?_replicate, if_pos (by omega)]
                rfl
              have hB16l : (B17.take 16).length = 16 := by rw [List.length_take, hB17l]; rfl
              have hNv : Pol.leN ((B17.take 16).take 16) + 0 * 340282366920938463463374607431768211456 = Pol.leN ch + 256 ^ (min 16 rest.length) := by
                rw [HRLn.out, List.take_take, Nat.min_self, hB17, show min 16 n = n by omega]
                rw [List.take_append, List.take_of_length_le (by omega), Pol.leN_append, hchl]
                have e : 16 - n = (15 - n) + 1 := by omega
                rw [e, List.take_succ_cons, Pol.leN, List.take_replicate, Pol.leN_noughts]
                simp
              have hNlt : Pol.leN ch + 256 ^ (min 16 rest.length) < 1361129467683753853853498429727072845824 := by
                rw [← hNv]
                have := Pol.leN_lt ((B17.take 16).take 16)
                rw [List.take_take, Nat.min_self, hB16l] at this
                rw [List.take_take, Nat.min_self]
                simp at this
                omega
              obtain ⟨N, hN⟩ : ∃ N, Pol.ofN (Pol.leN ch + 256 ^ (min 16 rest.length)) = N := ⟨_, rfl⟩
              have hNlow := Pol.ofN_low _ hNlt
              rw [hN] at hNlow
              have hNa1 : N.a1 < 67108864 := by rw [← hN]; simp only [Pol.ofN]; omega
              obtain ⟨bb, hbb⟩ : ∃ bb, bb = wr.heap.size := ⟨_, rfl⟩
              have hnum := fun w' h => number_w bb 0 16 17 (B17.take 16) 0 (IntKind.u64.wrap 0) (by decide) w' N (by decide) (by rw [hB16l]; decide) hB16l h (by rw [hNv]; exact hN)
              obtain ⟨n0, n1, n2, n3, n4⟩ := N
              have hn0 : n0 < 67108864 := hNlow.h0
              have hn1 : n1 < 67108864 := hNa1
              have hn2 : n2 < 67108864 := hNlow.h2
              have hn3 : n3 < 67108864 := hNlow.h3
              have hn4 : n4 < 67108864 := hNlow.h4
              dsimp only at hnum
              have hiN := fun k hk W => index5 ⟨n0, n1, n2, n3, n4⟩ k hk W
              dsimp only at hiN
              obtain ⟨S, hS⟩ : ∃ S, S = Pol.plus ⟨a0, a1, a2, a3, a4⟩ ⟨n0, n1, n2, n3, n4⟩ := ⟨_, rfl⟩
              have hSl : ∀ j, Pol.at0 (limbs5 S) j ≤ 134221824 := by
                rw [hS]
                intro j
                match j with
                | 0 => show a0 + n0 ≤ _; omega
                | 1 => show a1 + n1 ≤ _; omega
                | 2 => show a2 + n2 ≤ _; omega
                | 3 => show a3 + n3 ≤ _; omega
                | 4 => show a4 + n4 ≤ _; omega
                | j + 5 => simp [Pol.at0, limbs5, Pol.plus]
              have hSa : Pol.addL [a0, a1, a2, a3, a4] [n0, n1, n2, n3, n4] 5 = limbs5 S := by rw [hS]; rfl
              obtain ⟨C, hC⟩ : ∃ C, C = Pol.carry (Pol.mul S ⟨r0, r1, r2, r3, r4⟩) := ⟨_, rfl⟩
              have hCm : C.val % Pol.P = (Pol.L5.val ⟨a0, a1, a2, a3, a4⟩ % Pol.P + (Pol.leN ch + 256 ^ (min 16 rest.length))) * Pol.L5.val ⟨r0, r1, r2, r3, r4⟩ % Pol.P := by
                rw [hC, hS, ← hN]; exact Pol.round_mod _ _ _
              have hClow : Pol.Low C := by
                rw [hC]
                have hmb := Pol.mi_bound (limbs5 S) (limbs5 ⟨r0, r1, r2, r3, r4⟩) [0, 0, 0, 0, 0] rfl hSl HRL.out (by intro j; match j with | 0 | 1 | 2 | 3 | 4 => decide | j + 5 => simp [Pol.at0]) 5 (by decide)
                rw [Pol.mul_list] at hmb
                refine Pol.carry_low _ ?_ ?_ ?_ ?_ ?_
                · have := hmb 0; simp only [Pol.at0, limbs5] at this; simp at this; omega
                · have := hmb 1; simp only [Pol.at0, limbs5] at this; simp at this; omega
                · have := hmb 2; simp only [Pol.at0, limbs5] at this; simp at this; omega
                · have := hmb 3; simp only [Pol.at0, limbs5] at this; simp at this; omega
                · have := hmb 4; simp only [Pol.at0, limbs5] at this; simp at this; omega
              have htimes := fun w' => times_x S ⟨r0, r1, r2, r3, r4⟩ C w' hSl HRL.out hC.symm
              have hacc : Pol.accF (Pol.L5.val ⟨r0, r1, r2, r3, r4⟩) (rest.drop 16).length (C.val % Pol.P) (rest.drop 16) = Tg := by
                rw [← HACC.out, Pol.accF_step _ _ rest (by intro h; rw [h] at HRLn; have := HRLn.out; simp at this; omega), hCm, hch]
              obtain ⟨s0, s1, s2, s3, s4⟩ := S
              obtain ⟨c0, c1, c2, c3, c4⟩ := C
              dsimp only at htimes
              have HNUM2 := Lib.hid hnum
              have HIN := Lib.hid hiN
              have HSA := Lib.hid hSa
              have HTI := Lib.hid htimes
              have HACC2 := Lib.hid hacc
              have HCLOW := Lib.hid hClow
              have HCH := Lib.hid hch
              have HCHL := Lib.hid hchl
              have HB17 := Lib.hid hB17
              have HB17L := Lib.hid hB17l
              have HTOP := Lib.hid htop
              have HBB := Lib.hid hbb
              have hzl : ([.int .u8 0, .int .u8 0, .int .u8 0, .int .u8 0, .int .u8 0, .int .u8 0, .int .u8 0, .int .u8 0, .int .u8 0, .int .u8 0, .int .u8 0, .int .u8 0, .int .u8 0, .int .u8 0, .int .u8 0, .int .u8 0, .int .u8 0] : List Value).length = 17 := rfl
              have hcopy : ∀ (w' : World), w'.heap[bb]? = some (.cells ((rest.take 16).map u8v ++ ([.int .u8 0, .int .u8 0, .int .u8 0, .int .u8 0, .int .u8 0, .int .u8 0, .int .u8 0, .int .u8 0, .int .u8 0, .int .u8 0, .int .u8 0, .int .u8 0, .int .u8 0, .int .u8 0, .int .u8 0, .int .u8 0, .int .u8 0] : List Value).drop n).toArray 71 (0, 0)) → (∃ u, w'.cell? ⟨bb, n, none⟩ = some u) ∧ w'.frozen? ⟨bb, n, none⟩ = false ∧
                  (w'.setCell ⟨bb, n, none⟩ (.int .u8 1)).heap[bb]? = some (.cells (B17.map u8v).toArray 71 (0, 0)) := fun w' h => by
                have hlen : ((rest.take 16).map u8v ++ ([.int .u8 0, .int .u8 0, .int .u8 0, .int .u8 0, .int .u8 0, .int .u8 0, .int .u8 0, .int .u8 0, .int .u8 0, .int .u8 0, .int .u8 0, .int .u8 0, .int .u8 0, .int .u8 0, .int .u8 0, .int .u8 0, .int .u8 0] : List Value).drop n).length = 17 := by rw [List.length_append, List.length_map, ← hch, hchl, List.length_drop]; simp <;> omega
                refine ⟨⟨_, cellD h n (by rw [List.size_toArray, hlen]; omega)⟩, freeAt h n, ?_⟩
                rw [heapSet h]
                congr 2
                apply Array.ext (by rw [Array.size_setIfInBounds, List.size_toArray, List.size_toArray, hlen, List.length_map, hB17l])
                intro j h1 h2
                have hj : j < 17 := by rw [List.size_toArray, List.length_map, hB17l] at h2; exact h2
                rw [Array.getElem_setIfInBounds (by rw [List.size_toArray, hlen]; exact hj)]
                simp only [List.getElem_toArray, hB17, ← hch]
                exact row17 ch n hchl hK16 j hj
              have HCOPY := Lib.hid hcopy
              clear hchl hB17 hB17l htop hB16l hNv hNlt hN hNlow hNa1 hnum hiN hS hSl hSa hC hCm hClow htimes hacc hch hbb hzl hcopy ha hr hb
              by_cases hdc : dc = n
              all_goals
                have hdcB := Lib.hid hdc
                clear hdc
                go_wp2_with (refine copyC rfl (.tmp 57) (.tmp 58) rfl wr.heap.size rfl _ rest rfl ((HRr.out.stay HBw.out).alloc _) [.int .u8 0, .int .u8 0, .int .u8 0, .int .u8 0, .int .u8 0, .int .u8 0, .int .u8 0, .int .u8 0, .int .u8 0, .int .u8 0, .int .u8 0, .int .u8 0, .int .u8 0, .int .u8 0, .int .u8 0, .int .u8 0, .int .u8 0] (heapNew wr _) rfl n (by rw [HRLn.out]; omega) ?_; rw [← HBB.out]; intro w6 hrow6 hb6; have P6 := Lib.hid (HCOPY.out w6 hrow6); have HB6 := Lib.hid hb6; obtain ⟨⟨ust, cst⟩, fst, _⟩ := P6.out; clear hrow6 hb6)
                have hw7r := P6.out.2.2
                have hbw7 : Below wr.heap.size wr (w6.setCell ⟨bb, n, none⟩ (.int .u8 1)) := by
                  rw [← HBB.out]
                  exact (((Below.refl bb wr).alloc (by rw [HBB.out]; exact Nat.le_refl _) _).trans HB6.out).setCell (Nat.le_refl _) _
                generalize hW7 : w6.setCell ⟨bb, n, none⟩ (.int .u8 1) = w7 at hw7r hbw7 ⊢
                have hb7 := HBw.out.trans (hbw7.mono HBw.out.size)
                have ha7 := (hbw7.block ba (lt_of_heap HAb.out)).trans HAb.out
                have hr7 := (hbw7.block br (lt_of_heap HRb.out)).trans HRb.out
                have hp7 : Rd w7 (.slice (some ⟨bb, 0, none⟩) 16 17) (B17.take 16) := rdRow17 hw7r HB17L.out
                have c7 : w7.cell? ⟨bb, 16, none⟩ = some (.int .u8 ((0 : Nat) : Int)) := cellAt hw7r 16 (by
                  rw [List.getElem?_toArray, List.getElem?_map]
                  have h := HTOP.out
                  rw [List.getD_eq_getElem?_getD] at h
                  rw [List.getElem?_eq_getElem (by rw [HB17L.out]; decide)] at h ⊢
                  simp only [Option.getD_some] at h
                  rw [Option.map_some, h]
                  rfl)
                have A7 := Lib.hid ha7
                have R7 := Lib.hid hr7
                have PP7 := Lib.hid hp7
                have B7 := Lib.hid hb7
                clear hw7r hbw7 hb7 ha7 hr7 hp7 hW7 cst fst P6 HB6
                go_region_with (go_at_call 37; refine (HNUM2.out _ (PP7.out.drewN 1)).mono ?_; rintro e w8 ⟨rfl, hb8⟩; have HB8 := Lib.hid hb8; clear hb8)
                have hbw8 : Below w7.heap.size w7 w8 := ((Below.refl _ w7).drew).trans HB8.out
                have hb8 := B7.out.trans (hbw8.mono B7.out.size)
                have ha8 : Big w8 ba 69 [a0, a1, a2, a3, a4] := (hbw8.block ba (lt_of_heap A7.out)).trans A7.out
                have hr8 := (hbw8.block br (lt_of_heap R7.out)).trans R7.out
                have A8 := Lib.hid ha8
                have R8 := Lib.hid hr8
                have B8 := Lib.hid hb8
                clear HB8 hbw8 hb8 ha8 hr8 A7 R7 PP7 B7 c7
                go_wp2_with fail
                go_loopw [67] (fun i wd => ∃ k : Nat, k ≤ 5 ∧ i = .int .i64 k ∧ Big wd ba 69 (Pol.addL [a0, a1, a2, a3, a4] [n0, n1, n2, n3, n4] k) ∧ wd.heap[br]? = some (.cells #[.int .u64 (r0 : Int), .int .u64 (r1 : Int), .int .u64 (r2 : Int), .int .u64 (r3 : Int), .int .u64 (r4 : Int)] 69 (0, 0)) ∧ Below w.heap.size w wd) (fun i _ => 5 - (intOf i).toNat)
                case atStart => exact ⟨0, by omega, rfl, A8.out, R8.out, B8.out⟩
                case round =>
                  obtain ⟨k, hk, rfl, ha, hr, hb⟩ := hrel
                  have HAd := Lib.hid ha
                  have HRd := Lib.hid hr
                  have HBd := Lib.hid hb
                  by_cases hlt : k < 5
                  · obtain ⟨x, hx⟩ : ∃ x, x = Pol.at0 [a0, a1, a2, a3, a4] k := ⟨_, rfl⟩
                    obtain ⟨y, hy⟩ : ∃ y, y = Pol.at0 [n0, n1, n2, n3, n4] k := ⟨_, rfl⟩
                    have hi := HIN.out k hlt
                    rw [show Pol.at0 (limbs5 ⟨n0, n1, n2, n3, n4⟩) k = y from hy.symm] at hi
                    have hxb : x ≤ 67110912 := by
                      rw [hx]
                      have h5 : k = 0 ∨ k = 1 ∨ k = 2 ∨ k = 3 ∨ k = 4 := by omega
                      rcases h5 with rfl | rfl | rfl | rfl | rfl
                      · show a0 ≤ _; omega
                      · show a1 ≤ _; omega
                      · show a2 ≤ _; omega
                      · show a3 ≤ _; omega
                      · show a4 ≤ _; omega
                    have hyb : y ≤ 67108864 := by
                      rw [hy]
                      have h5 : k = 0 ∨ k = 1 ∨ k = 2 ∨ k = 3 ∨ k = 4 := by omega
                      rcases h5 with rfl | rfl | rfl | rfl | rfl
                      · show n0 ≤ _; omega
                      · show n1 ≤ _; omega
                      · show n2 ≤ _; omega
                      · show n3 ≤ _; omega
                      · show n4 ≤ _; omega
                    have c1 := ha.cell k (by rw [Pol.addL_length]; exact hlt)
                    have f1 := freeAt ha k
                    have hxk : (Pol.addL [a0, a1, a2, a3, a4] [n0, n1, n2, n3, n4] k).getD k 0 = x := by
                      rw [hx]; exact Pol.addL_at _ _ k (by simp; omega) k (Nat.le_refl _)
                    rw [hxk] at c1
                    have hst : Pol.addL [a0, a1, a2, a3, a4] [n0, n1, n2, n3, n4] (k + 1) = (Pol.addL [a0, a1, a2, a3, a4] [n0, n1, n2, n3, n4] k).set k (x + y) := by rw [hx, hy]; rfl
                    have HST := Lib.hid hst
                    clear ha hr hb hx hy hxk hst
                    go_wp2
                    go_roundw
                    case rel =>
                      refine ⟨k + 1, by omega, by go_num, ?_, (heapSet_ne _ _ (by omega)).trans HRd.out, HBd.out.setCell (by show w.heap.size ≤ ba; omega) _⟩
                      rw [HST.out]
                      exact HAd.out.set k (x + y)
                    case measure => simp [intOf]; omega
                  · have hk5 : k = 5 := by omega
                    rw [hk5, HSA.out] at ha
                    have hrs : wr.rangeAt ba 0 [.int .u64 (s0 : Int), .int .u64 s1, .int .u64 s2, .int .u64 s3, .int .u64 s4] := range_of ha
                    have hrr : wr.rangeAt br 0 [.int .u64 (r0 : Int), .int .u64 r1, .int .u64 r2, .int .u64 r3, .int .u64 r4] := range_of hr
                    have HAe := Lib.hid ha
                    clear ha hr hb hk5
                    have hdcK := hdcB.out
                    go_wp2_with (first
                      | (refine wpList_load_mid rfl 69 (.tmp 11) rfl ba 0 rfl [.int .u64 (s0 : Int), .int .u64 s1, .int .u64 s2, .int .u64 s3, .int .u64 s4] _ hrs Try.underlying69 rfl sz5 ?_)
                      | (refine wpList_load_mid rfl 69 (.tmp 10) rfl br 0 rfl [.int .u64 (r0 : Int), .int .u64 r1, .int .u64 r2, .int .u64 r3, .int .u64 r4] _ hrr Try.underlying69 rfl sz5 ?_)
                      | (go_at_call 38; go_must (refine (HTI.out _).mono ?_); rintro e w9 ⟨rfl, hb9⟩; have HB9 := Lib.hid hb9; clear hb9)
                      | (show wpList _ _ _ ({ dst := none, op := .store _ _ _, type := _, pos := _, after := _, guard := _ } :: _) _ _
                         go_must (refine wpList_store_mid rfl 69 (.tmp 11) (.tmp 80) rfl ba 0 #[.int .u64 (c0 : Int), .int .u64 c1, .int .u64 c2, .int .u64 c3, .int .u64 c4] rfl rfl ?_ ?_ ?_ ?_)
                         go_must (exact there_of ((HB9.out.block ba (lt_of_heap HAe.out)).trans HAe.out) rfl)
                         go_must (exact sz5)
                         go_must (first | (simp [Value.oneCell']; done) | exact all_oneCell_toArray (by intro v hv; simp only [List.mem_cons, List.not_mem_nil, or_false] at hv; rcases hv with rfl | rfl | rfl | rfl | rfl <;> rfl))
                         go_must (generalize hW : World.setCells _ _ _ _ = w10)
                         go_must (have HW := Lib.hid hW; clear hW)
                         skip))
                    go_roundw
                    case rel =>
                      have hrow9 := (HB9.out.block ba (lt_of_heap HAe.out)).trans HAe.out
                      refine ⟨c0, c1, c2, c3, c4, rest.drop 16, ?_, by rw [List.length_drop, HRLn.out]; omega, ?_, ?_, HCLOW.out, HACC2, ?_⟩
                      · have h := HRr.out.cut n n (by omega) (Nat.le_refl _)
                        rw [show (rest.take n).drop n = rest.drop 16 by
                          rw [List.take_of_length_le (by rw [HRLn.out]; exact Nat.le_refl _)]
                          first | done | (rw [List.drop_of_length_le (by rw [HRLn.out]; omega), List.drop_of_length_le (by rw [HRLn.out]; omega)])] at h
                        first
                          | (rw [if_neg hdcK] at h; exact h)
                          | (rw [if_neg hdcK] at h; simp only [Nat.mul_one, Option.map_some, Addr.add, if_neg (show ¬ n = 0 by omega)] at h; exact h)
                          | (rw [if_pos hdcK] at h; first | exact h | (rw [hdcK] at h; exact h) | (simpa [hdcK] using h))
                          | (rw [if_neg hdcK, Nat.sub_self] at h; simp only [Nat.mul_one, Option.map_some, Addr.add, if_neg (show ¬ n = 0 by omega)] at h; exact h)
                      · rw [← HW.out]; exact storedRow hrow9 rfl
                      · rw [← HW.out]; exact ((below_setCells (Nat.le_refl ba) _ _ _ (Below.refl ba w9)).block br hbab).trans ((HB9.out.block br (lt_of_heap HRd.out)).trans HRd.out)
                      · rw [← HW.out]; exact below_setCells (by omega) _ _ _ (HBd.out.trans (HB9.out.mono HBd.out.size))
                    case measure => simp [lenV]; omega
end Go.Proofs.Ytoekopdogfnkhaa
