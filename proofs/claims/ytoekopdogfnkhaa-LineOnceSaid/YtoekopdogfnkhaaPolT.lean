/-
  The walk of poly's times.
-/
import Derived.Test.YtoekopdogfnkhaaPolC
set_option linter.unusedVariables false
set_option linter.unusedSimpArgs false
namespace Go.Con.Pol
def mstep (x y s : List Nat) (i k : Nat) : List Nat := if i + k < 5 then s.set (i + k) (at0 s (i + k) + at0 x i * at0 y k) else s.set (i + k - 5) (at0 s (i + k - 5) + 5 * at0 x i * at0 y k)
def mk (x y s : List Nat) (i : Nat) : Nat → List Nat
  | 0 => s
  | k + 1 => mstep x y (mk x y s i k) i k
def mi (x y s : List Nat) : Nat → List Nat
  | 0 => s
  | i + 1 => mk x y (mi x y s i) i 5
theorem mstep_length (x y s : List Nat) (i k : Nat) : (mstep x y s i k).length = s.length := by unfold mstep; split <;> simp
theorem mk_length (x y s : List Nat) (i k : Nat) : (mk x y s i k).length = s.length := by
  induction k with
  | zero => rfl
  | succ k ih => rw [mk, mstep_length, ih]
theorem mi_length (x y s : List Nat) (i : Nat) : (mi x y s i).length = s.length := by
  induction i with
  | zero => rfl
  | succ i ih => rw [mi, mk_length, ih]
theorem mul_list (x y : L5) : mi (limbs5 x) (limbs5 y) [0, 0, 0, 0, 0] 5 = limbs5 (mul x y) := by
  obtain ⟨a, b, c, d, e⟩ := x
  obtain ⟨p, q, r, s, t⟩ := y
  simp [mi, mk, mstep, at0, limbs5, mul]
theorem prod_bound (a b : Nat) (ha : a ≤ 134221824) (hb : b ≤ 67108864) : a * b ≤ 9007474132647936 ∧ 5 * a * b ≤ 45037370663239680 := by
  have h := Nat.mul_le_mul ha hb
  rw [Nat.mul_assoc]
  omega
theorem mstep_bound (x y s : List Nat) (i k B : Nat) (hs : s.length = 5) (hi : i < 5) (hk : k < 5) (hx : at0 x i ≤ 134221824) (hy : at0 y k ≤ 67108864) (h : ∀ j, at0 s j ≤ B) : ∀ j, at0 (mstep x y s i k) j ≤ B + 45037370663239680 := by
  intro j
  have hp := prod_bound _ _ hx hy
  have h1 := h j
  have h2 := h (i + k)
  have h3 := h (i + k - 5)
  unfold mstep
  split
  · rw [at_set _ _ _ _ (by omega)]; split <;> omega
  · rw [at_set _ _ _ _ (by omega)]; split <;> omega
theorem mk_bound (x y s : List Nat) (i B : Nat) (hs : s.length = 5) (hi : i < 5) (hx : ∀ j, at0 x j ≤ 134221824) (hy : ∀ j, at0 y j ≤ 67108864) (h : ∀ j, at0 s j ≤ B) : ∀ k, k ≤ 5 → ∀ j, at0 (mk x y s i k) j ≤ B + k * 45037370663239680
  | 0, _ => by simpa [mk] using h
  | k + 1, hk => by
    have ih := mk_bound x y s i B hs hi hx hy h k (by omega)
    intro j
    have := mstep_bound x y (mk x y s i k) i k (B + k * 45037370663239680) (by rw [mk_length]; exact hs) hi (by omega) (hx i) (hy k) ih j
    rw [mk]; omega
theorem mi_bound (x y s : List Nat) (hs : s.length = 5) (hx : ∀ j, at0 x j ≤ 134221824) (hy : ∀ j, at0 y j ≤ 67108864) (h : ∀ j, at0 s j ≤ 0) : ∀ i, i ≤ 5 → ∀ j, at0 (mi x y s i) j ≤ i * 225186853316198400
  | 0, _ => by simpa [mi] using h
  | i + 1, hi => by
    have ih := mi_bound x y s hs hx hy h i (by omega)
    intro j
    have := mk_bound x y (mi x y s i) i (i * 225186853316198400) (by rw [mi_length]; exact hs) (by omega) hx hy ih 5 (by omega) j
    rw [mi]; omega
end Go.Con.Pol
namespace Go.Proofs.Ytoekopdogfnkhaa
open Go.RowKit Go.Con
theorem heapNew2 (w : World) (A B C : Obj) : (((w.alloc A).alloc B).alloc C).heap[w.heap.size + 2]? = some C := by
  have e : ((w.alloc A).alloc B).heap.size = w.heap.size + 2 := by simp
  rw [← e]; exact heapNew _ _
theorem heapNew3 (w : World) (A B C D : Obj) : ((((w.alloc A).alloc B).alloc C).alloc D).heap[w.heap.size + 3]? = some D := by
  have e : (((w.alloc A).alloc B).alloc C).heap.size = w.heap.size + 3 := by simp
  rw [← e]; exact heapNew _ _
theorem index5 (x : Pol.L5) (k : Nat) (hk : k < 5) (W : World) : (Instr.index 69 (.agg #[.int .u64 x.a0, .int .u64 x.a1, .int .u64 x.a2, .int .u64 x.a3, .int .u64 x.a4]) (.int .i64 k)).run Try.prog W = .ok (.int .u64 (Pol.at0 (limbs5 x) k)) W := by
  have h5 : k = 0 ∨ k = 1 ∨ k = 2 ∨ k = 3 ∨ k = 4 := by omega
  rcases h5 with rfl | rfl | rfl | rfl | rfl <;> (show _ = _; kernel_rfl)
theorem storeBig {w : World} {b : Nat} {t : TypeId} {s : List Nat} {cur : Array Value} (h : w.heap[b]? = some (.cells cur t (0, 0))) (hn : cur.size = s.length) : Big (w.setCells b 0 (s.map u64v)) b t s := storedRow h (by simpa using hn)
set_option maxRecDepth 100000 in
set_option maxHeartbeats 2000000 in
theorem times_any (x y : Pol.L5) (w : World) (hx : ∀ j, Pol.at0 (limbs5 x) j ≤ 134221824) (hy : ∀ j, Pol.at0 (limbs5 y) j ≤ 67108864) :
    Calls Try.prog 38 #[.agg #[.int .u64 x.a0, .int .u64 x.a1, .int .u64 x.a2, .int .u64 x.a3, .int .u64 x.a4], .agg #[.int .u64 y.a0, .int .u64 y.a1, .int .u64 y.a2, .int .u64 y.a3, .int .u64 y.a4]] w
      fun e w' => e = .returned (.agg ((limbs5 (Pol.carry (Pol.mul x y))).map u64v).toArray) ∧ Below w.heap.size w w' := by
  have hix := fun k hk W => index5 x k hk W
  have hiy := fun k hk W => index5 y k hk W
  have hbd := Pol.mi_bound (limbs5 x) (limbs5 y) [0, 0, 0, 0, 0] rfl hx hy (by intro j; match j with | 0 | 1 | 2 | 3 | 4 => decide | j + 5 => simp [Pol.at0])
  have HIX := Lib.hid hix
  have HIY := Lib.hid hiy
  have HBD := Lib.hid hbd
  have HX := Lib.hid hx
  have HY := Lib.hid hy
  have hlast : Pol.fin (Pol.ck (Pol.mi (limbs5 x) (limbs5 y) [0, 0, 0, 0, 0] 5) 5) = limbs5 (Pol.carry (Pol.mul x y)) := by rw [Pol.mul_list, Pol.carry_list]
  have HLAST := Lib.hid hlast
  obtain ⟨xs, hxs⟩ : ∃ xs, xs = limbs5 x := ⟨_, rfl⟩
  obtain ⟨ys, hys⟩ : ∃ ys, ys = limbs5 y := ⟨_, rfl⟩
  rw [← hxs] at HIX HBD HX HLAST
  rw [← hys] at HIY HBD HY HLAST
  have HXS := Lib.hid hxs
  have HYS := Lib.hid hys
  clear hix hiy hbd hx hy hlast hxs hys
  obtain ⟨x0, x1, x2, x3, x4⟩ := x
  obtain ⟨y0, y1, y2, y3, y4⟩ := y
  dsimp only at HIX HIY ⊢
  go_enter Try.func38, Try.ntmps38
  go_wp2_with fail
  obtain ⟨w0, hw0⟩ : ∃ w0, w0 = (((w.alloc (.cells #[.int .u64 x0, .int .u64 x1, .int .u64 x2, .int .u64 x3, .int .u64 x4] 69)).alloc (.cells #[.int .u64 y0, .int .u64 y1, .int .u64 y2, .int .u64 y3, .int .u64 y4] 69)).alloc (.cells #[.int .u64 0, .int .u64 0, .int .u64 0, .int .u64 0, .int .u64 0] 69)).alloc (.cells #[.int .u64 0, .int .u64 0, .int .u64 0, .int .u64 0, .int .u64 0] 69) := ⟨_, rfl⟩
  rw [← hw0]
  have hy0 : w0.heap[w.heap.size + 1]? = some (.cells #[.int .u64 y0, .int .u64 y1, .int .u64 y2, .int .u64 y3, .int .u64 y4] 69) := by rw [hw0]; exact (heapOld _ _ _ (by simp)).trans ((heapOld _ _ _ (by simp)).trans (heapNew1 w _ _))
  have hr0 : Room w0 (w.heap.size + 1 + 1) 5 69 := ⟨_, by rw [hw0]; exact (heapOld _ _ _ (by simp)).trans (heapNew2 w _ _ _), rfl⟩
  have ho0 : Big w0 (w.heap.size + 1 + 1 + 1) 69 [0, 0, 0, 0, 0] := by rw [hw0]; exact heapNew3 w _ _ _ _
  have hb0 : Below w.heap.size w w0 := by rw [hw0]; exact ((((Below.refl _ _).alloc (Nat.le_refl _) _).alloc (by simp) _).alloc (by simp; omega) _).alloc (by simp; omega) _
  have HY0 := Lib.hid hy0
  have HR0 := Lib.hid hr0
  have HO0 := Lib.hid ho0
  have HB0 := Lib.hid hb0
  clear hw0 hy0 hr0 ho0 hb0
  go_loopw [11] (fun i wr => ∃ i' : Nat, i' ≤ 5 ∧ i = .int .i64 i' ∧ Big wr (w.heap.size + 1 + 1 + 1) 69 (Pol.mi xs ys [0, 0, 0, 0, 0] i') ∧ wr.heap[w.heap.size + 1]? = some (.cells #[.int .u64 y0, .int .u64 y1, .int .u64 y2, .int .u64 y3, .int .u64 y4] 69) ∧ Room wr (w.heap.size + 1 + 1) 5 69 ∧ Below w.heap.size w wr) (fun i _ => 5 - (intOf i).toNat)
  case atStart => exact ⟨0, by omega, rfl, HO0.out, HY0.out, HR0.out, HB0.out⟩
  case round =>
    obtain ⟨i, hi, rfl, ho, hy, hr, hb⟩ := hrel
    have HO := Lib.hid ho
    have HYb := Lib.hid hy
    have HR := Lib.hid hr
    have HB := Lib.hid hb
    by_cases hlt : i < 5
    · have hdi : decide ((i : Int) < 5) = true := by rw [decide_eq_true_eq]; omega
      obtain ⟨o, hoe⟩ : ∃ o, o = Pol.mi xs ys [0, 0, 0, 0, 0] i := ⟨_, rfl⟩
      have hol : o.length = 5 := by rw [hoe, Pol.mi_length]; rfl
      have hmb := Pol.mk_bound xs ys o i (i * 225186853316198400) hol hlt HX.out HY.out (by rw [hoe]; exact HBD.out i hi)
      have hmi : Pol.mi xs ys [0, 0, 0, 0, 0] (i + 1) = Pol.mk xs ys o i 5 := by rw [hoe]; rfl
      rw [← hoe] at HO
      have hii := HIX.out i hlt
      obtain ⟨a, ha⟩ : ∃ a, a = Pol.at0 xs i := ⟨_, rfl⟩
      rw [← ha] at hii
      have hab : a ≤ 134221824 := by rw [ha]; exact HX.out i
      have e0 := cellAt hy 0 rfl
      have e1 := cellAt hy 1 rfl
      have e2 := cellAt hy 2 rfl
      have e3 := cellAt hy 3 rfl
      have e4 := cellAt hy 4 rfl
      have HOL := Lib.hid hol
      have HMB := Lib.hid hmb
      have HMI := Lib.hid hmi
      have HA := Lib.hid ha
      clear ho hy hr hb hol hmb hmi ha hoe
      go_wp2_with fail
      clear e0 e1 e2 e3 e4 hii
      go_loopw [16] (fun k wr => ∃ k' : Nat, k' ≤ 5 ∧ k = .int .i64 k' ∧ Big wr (w.heap.size + 1 + 1 + 1) 69 (Pol.mk xs ys o i k') ∧ wr.heap[w.heap.size + 1]? = some (.cells #[.int .u64 y0, .int .u64 y1, .int .u64 y2, .int .u64 y3, .int .u64 y4] 69) ∧ Room wr (w.heap.size + 1 + 1) 5 69 ∧ Below w.heap.size w wr) (fun k _ => 5 - (intOf k).toNat)
      case atStart => exact ⟨0, by omega, rfl, HO.out, HYb.out, HR.out, HB.out⟩
      case round =>
        obtain ⟨k, hk, rfl, ho, hy, hr, hb⟩ := hrel
        have HO := Lib.hid ho
        have HYb := Lib.hid hy
        have HR := Lib.hid hr
        have HB := Lib.hid hb
        by_cases hlk : k < 5
        · have hdk : decide ((k : Int) < 5) = true := by rw [decide_eq_true_eq]; omega
          obtain ⟨q, hq⟩ : ∃ q, q = Pol.mk xs ys o i k := ⟨_, rfl⟩
          have hql : q.length = 5 := by rw [hq, Pol.mk_length]; exact HOL.out
          have hqb : ∀ j, Pol.at0 q j ≤ 1125934266580992000 := fun j => by
            have := HMB.out k hk j
            rw [hq]; omega
          have hqs : Pol.mk xs ys o i (k + 1) = Pol.mstep xs ys q i k := by rw [hq]; rfl
          rw [← hq] at HO
          obtain ⟨c, hc⟩ : ∃ c, c = Pol.at0 ys k := ⟨_, rfl⟩
          have hcb : c ≤ 67108864 := by rw [hc]; exact HY.out k
          have hik := HIY.out k hlk
          rw [← hc] at hik
          have hp := Pol.prod_bound a c hab hcb
          obtain ⟨m, hm⟩ : ∃ m, m = a * c := ⟨_, rfl⟩
          obtain ⟨m5, hm5⟩ : ∃ m, m = 5 * a * c := ⟨_, rfl⟩
          have p1 : (a : Int) * (c : Int) = (m : Int) := by rw [hm, Int.natCast_mul]
          have p5 : (5 : Int) * (a : Int) * (c : Int) = (m5 : Int) := by rw [hm5, Int.natCast_mul, Int.natCast_mul]; rfl
          have p2 : m ≤ 9007474132647936 := by rw [hm]; exact hp.1
          have p4 : m5 ≤ 45037370663239680 := by rw [hm5]; exact hp.2
          have HM := Lib.hid hm
          have HM5 := Lib.hid hm5
          have HQL := Lib.hid hql
          have HQS := Lib.hid hqs
          have HC := Lib.hid hc
          by_cases h5 : i + k < 5
          · have hdik : decide ((i : Int) + (k : Int) < 5) = true := by rw [decide_eq_true_eq]; omega
            obtain ⟨z, hz⟩ : ∃ z, z = Pol.at0 q (i + k) := ⟨_, rfl⟩
            have hzb : z ≤ 1125934266580992000 := by rw [hz]; exact hqb _
            have c1 := HO.out.cell (i + k) (by omega)
            have f1 := freeAt HO.out (i + k)
            rw [show q.getD (i + k) 0 = z from hz.symm] at c1
            have HZ := Lib.hid hz
            clear ho hy hr hb hq hql hqb hqs hc hp p5 p4 hz hm hm5
            go_wp2
            go_roundw
            case rel =>
              refine ⟨k + 1, by omega, by go_num, ?_, ?_, HR.out.set, HB.out.setCell (by show w.heap.size ≤ w.heap.size + 1 + 1 + 1; omega) _⟩
              · rw [HQS.out, Pol.mstep, if_pos h5, ← HZ.out, ← HA.out, ← HC.out, ← HM.out, ← Int.natCast_add]
                exact HO.out.set _ _
              · rw [heapSet_ne _ _ (by omega)]; exact HYb.out
            case measure => simp [intOf]; omega
          · have hdik : decide ((i : Int) + (k : Int) < 5) = false := by rw [decide_eq_false_iff_not]; omega
            obtain ⟨z, hz⟩ : ∃ z, z = Pol.at0 q (i + k - 5) := ⟨_, rfl⟩
            have hzb : z ≤ 1125934266580992000 := by rw [hz]; exact hqb _
            have c1 := HO.out.cell (i + k - 5) (by omega)
            have f1 := freeAt HO.out (i + k - 5)
            rw [show q.getD (i + k - 5) 0 = z from hz.symm] at c1
            have HZ := Lib.hid hz
            clear ho hy hr hb hq hql hqb hqs hc hp p1 p2 hz hm hm5
            go_wp2
            go_roundw
            case rel =>
              refine ⟨k + 1, by omega, by go_num, ?_, ?_, HR.out.set, HB.out.setCell (by show w.heap.size ≤ w.heap.size + 1 + 1 + 1; omega) _⟩
              · rw [HQS.out, Pol.mstep, if_neg h5, ← HZ.out, ← HA.out, ← HC.out, ← HM5.out, ← Int.natCast_add]
                exact HO.out.set _ _
              · rw [heapSet_ne _ _ (by omega)]; exact HYb.out
            case measure => simp [intOf]; omega
        · have hdk : decide ((k : Int) < 5) = false := by rw [decide_eq_false_iff_not]; omega
          have hk5 : k = 5 := by omega
          have ho5 := ho
          rw [hk5, ← HMI.out] at ho5
          have HO5 := Lib.hid ho5
          clear ho hy hr hb ho5 hk5
          go_wp2_with fail
          go_roundw
          case rel => exact ⟨i + 1, by omega, by go_num, HO5.out, HYb.out, HR.out, HB.out⟩
          case measure => simp [intOf]; omega
    · have hi5 : i = 5 := by omega
      rw [hi5] at ho
      obtain ⟨o, hoe⟩ : ∃ o, o = Pol.mi xs ys [0, 0, 0, 0, 0] 5 := ⟨_, rfl⟩
      have hol : o.length = 5 := by rw [hoe, Pol.mi_length]; rfl
      have hob : ∀ j, Pol.at0 o j ≤ 1152921504606846976 := fun j => by
        have := HBD.out 5 (by decide) j
        rw [hoe]; omega
      rw [← hoe] at ho HLAST
      have HO5 := Lib.hid ho
      have HOL := Lib.hid hol
      have HOB := Lib.hid hob
      clear ho hy hr hb hoe hol hob hi5
      go_wp2_with fail
      refine (carry_any _ _ o _ HOL.out HOB.out HO5.out).mono ?_
      rintro e w5 ⟨rfl, hw5, hk5⟩
      rw [HLAST.out] at hw5
      have hlt3 := lt_of_heap HO5.out
      have HW5 := Lib.hid hw5
      have HR5 := Lib.hid (HR.out.keep hk5 (by omega) (by omega))
      have HB5 := Lib.hid (HB.out.trans ((hk5.mono (B' := w.heap.size) (S' := fun _ => False) HB.out.size (fun k hk e => by omega)).below (fun _ _ h => h)))
      obtain ⟨R, hRe⟩ : ∃ R, R = limbs5 (Pol.carry (Pol.mul ⟨x0, x1, x2, x3, x4⟩ ⟨y0, y1, y2, y3, y4⟩)) := ⟨_, rfl⟩
      have hRl : R.length = 5 := by rw [hRe]; rfl
      rw [← hRe] at HW5
      have HRE := Lib.hid hRe
      have HRL := Lib.hid hRl
      have hrg := range_of HW5.out
      have hth : w5.there (w.heap.size + 1 + 1) 0 5 := by
        obtain ⟨cur, h1, h2⟩ := HR5.out
        exact there_of h1 h2
      have HTH := Lib.hid hth
      have hsz : (R.map u64v).toArray.size = 5 := by simp [hRl]
      have SZ := Lib.hid hsz
      clear hw5 hk5 hRe hRl hth hsz
      go_wp2_with (first
        | (refine wpList_load_mid rfl 69 (.tmp 5) rfl (w.heap.size + 1 + 1 + 1) 0 rfl (R.map u64v) _ hrg Try.underlying69 rfl (by rw [List.length_map, HRL.out]; kernel_rfl) ?_)
        | (refine wpList_store_mid rfl 69 (.tmp 4) (.tmp 49) rfl (w.heap.size + 1 + 1) 0 (R.map u64v).toArray rfl rfl (by rw [SZ.out]; exact HTH.out) (by rw [SZ.out]; kernel_rfl) (all_oneCell_toArray (by intro v hv; obtain ⟨x, _, rfl⟩ := List.mem_map.1 hv; rfl)) ?_))
      generalize hW9 : World.setCells _ _ _ _ = w9
      have hb9 : Below w.heap.size w w9 := by rw [← hW9]; exact below_setCells (by omega) _ _ _ HB5.out
      have hf9 : Big w9 (w.heap.size + 1 + 1) 69 R := by
        obtain ⟨cur, h1, h2⟩ := HR5.out
        rw [← hW9]
        exact storeBig h1 (by rw [h2, HRL.out])
      have hl9 := run_loadVar_mid (P := Try.prog) w9 (w.heap.size + 1 + 1) 0 69 (R.map u64v) _ (range_of hf9) Try.underlying69 rfl (by rw [List.length_map, HRL.out]; kernel_rfl)
      exact bodyPost_ret (v := .agg (R.map u64v).toArray) (results_c Try.results38 rfl hl9) rfl ⟨by rw [HRE.out], hb9⟩
end Go.Proofs.Ytoekopdogfnkhaa
