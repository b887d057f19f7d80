/-
  Operations of curve's ladder, in regions that draw: what a load, a call, a new variable and a store make of numbers in limbs.
-/
import Derived.Test.YthoganfinpfibaaFdw
import Derived.Test.YthoganfinpfibaaRegL
set_option linter.unusedVariables false
set_option linter.unusedSimpArgs false
namespace Go.Con.Cv
/-- limbs that may be multiplied (r: that may be added too) and are a number modulo the prime -/
def Nm (r : Bool) (zs : List Int) (v : Int) : Prop := (if r = true then Red zs else Fit zs) ∧ Cg (val zs) v
theorem Nm.fit {r : Bool} {zs : List Int} {v : Int} (h : Nm r zs v) : Fit zs := by
  unfold Nm at h
  cases r
  · simpa using h.1
  · have := h.1; rw [if_pos rfl] at this; exact this.fit
theorem Nm.red {zs : List Int} {v : Int} (h : Nm true zs v) : Red zs := by unfold Nm at h; have := h.1; rwa [if_pos rfl] at this
theorem Nm.cg {r : Bool} {zs : List Int} {v : Int} (h : Nm r zs v) : Cg (val zs) v := h.2
theorem Nm.of_red {zs : List Int} {v : Int} (h : Red zs) (g : Cg (val zs) v) : Nm true zs v := ⟨by rw [if_pos rfl]; exact h, g⟩
theorem Nm.of_fit {zs : List Int} {v : Int} (h : Fit zs) (g : Cg (val zs) v) : Nm false zs v := ⟨by simpa using h, g⟩
theorem Nm.len {r : Bool} {zs : List Int} {v : Int} (h : Nm r zs v) : zs.length = 16 := h.fit.1
theorem Nm.bd {r : Bool} {zs : List Int} {v : Int} (h : Nm r zs v) : ∀ j, -1000000000 ≤ at0 zs j ∧ at0 zs j ≤ 1000000000 := fun j => by have := h.fit.2 j; omega
theorem val_at (f : Int → Int → Int) (hf : ∀ a b c d p : Int, f a b * p + f c d = f (a * p + c) (b * p + d)) (h0 : f 0 0 = 0) {xs ys zs : List Int} (h : ∀ j, j < 16 → at0 zs j = f (at0 xs j) (at0 ys j)) : ∀ k, k ≤ 16 → val (zs.take k) = f (val (xs.take k)) (val (ys.take k))
  | 0, _ => by simp [val, h0]
  | k + 1, hk => by
    rw [val_take_succ, val_take_succ, val_take_succ, h k (by omega), val_at f hf h0 h k (by omega)]
    have := hf (at0 xs k) (at0 ys k) (val (xs.take k)) (val (ys.take k)) (pw k)
    rw [Int.add_comm, this, Int.add_comm, Int.add_comm (at0 ys k * pw k)]
theorem val_full {s : List Int} (h : s.length = 16) : val (s.take 16) = val s := by rw [List.take_of_length_le (by omega)]
end Go.Con.Cv
namespace Go.Proofs.Ythoganfinpfibaa
open Go.RowKit Go.Con
theorem plus_lim (xs ys : List Int) (x y : Int) (w : World) (hx : Cv.Nm true xs x) (hy : Cv.Nm true ys y) :
    Calls Try.prog 20 #[limV xs, limV ys] w
      fun e w' => (∃ zs, e = .returned (limV zs) ∧ Cv.Nm false zs (x + y)) ∧ Below w.heap.size w w' :=
  (plus_any xs ys w hx.len hy.len hx.bd hy.bd).mono fun e w' ⟨⟨zs, h1, h2⟩, hb⟩ => by
    have hat : ∀ j, j < 16 → Cv.at0 zs j = Cv.at0 xs j + Cv.at0 ys j := fun j hj => by rw [h2.at' j hj, if_pos hj]
    have hv := Cv.val_at (fun a b => a + b) (by intros; grind) (by decide) hat 16 (by omega)
    rw [Cv.val_full h2.len, Cv.val_full hx.len, Cv.val_full hy.len] at hv
    refine ⟨⟨zs, h1, Cv.Nm.of_fit ⟨h2.len, fun j => ?_⟩ (by rw [hv]; exact hx.cg.add hy.cg)⟩, hb⟩
    by_cases hj : j < 16
    · have a1 := hx.red.2 j; have a2 := hy.red.2 j; rw [hat j hj]; omega
    · rw [Cv.at_out _ _ (by rw [h2.len]; omega)]; omega
theorem minus_lim (xs ys : List Int) (x y : Int) (w : World) (hx : Cv.Nm true xs x) (hy : Cv.Nm true ys y) :
    Calls Try.prog 21 #[limV xs, limV ys] w
      fun e w' => (∃ zs, e = .returned (limV zs) ∧ Cv.Nm false zs (x - y)) ∧ Below w.heap.size w w' :=
  (minus_any xs ys w hx.len hy.len hx.bd hy.bd).mono fun e w' ⟨⟨zs, h1, h2⟩, hb⟩ => by
    have hat : ∀ j, j < 16 → Cv.at0 zs j = Cv.at0 xs j - Cv.at0 ys j := fun j hj => by rw [h2.at' j hj, if_pos hj]
    have hv := Cv.val_at (fun a b => a - b) (by intros; grind) (by decide) hat 16 (by omega)
    rw [Cv.val_full h2.len, Cv.val_full hx.len, Cv.val_full hy.len] at hv
    refine ⟨⟨zs, h1, Cv.Nm.of_fit ⟨h2.len, fun j => ?_⟩ (by rw [hv]; exact hx.cg.sub hy.cg)⟩, hb⟩
    by_cases hj : j < 16
    · have a1 := hx.red.2 j; have a2 := hy.red.2 j; rw [hat j hj]; omega
    · rw [Cv.at_out _ _ (by rw [h2.len]; omega)]; omega
theorem times_nm {r q : Bool} (xs ys : List Int) (x y : Int) (w : World) (hx : Cv.Nm r xs x) (hy : Cv.Nm q ys y) :
    Calls Try.prog 22 #[limV xs, limV ys] w
      fun e w' => (∃ zs, e = .returned (limV zs) ∧ Cv.Nm true zs (x * y % Cv.P)) ∧ Below w.heap.size w w' :=
  (times_lim xs ys x y w hx.fit hy.fit hx.cg hy.cg).mono fun e w' ⟨⟨zs, h1, h2, h3⟩, hb⟩ => ⟨⟨zs, h1, Cv.Nm.of_red h2 h3⟩, hb⟩
/-- a block with a number in limbs -/
def Num (w : World) (r : Bool) (b : Nat) (v : Int) : Prop := ∃ xs, Lim w b 39 xs ∧ Cv.Nm r xs v
theorem Num.stay {w w' : World} {r : Bool} {b : Nat} {v : Int} (h : Num w r b v) (hb : Below w.heap.size w w') : Num w' r b v := by
  obtain ⟨xs, h1, h2⟩ := h; exact ⟨xs, h1.stay hb, h2⟩
theorem Num.sets {w : World} {r : Bool} {b c : Nat} {v : Int} {vs : List Value} (h : Num w r b v) (hne : b ≠ c) : Num (w.setCells c 0 vs) r b v := by
  obtain ⟨xs, h1, h2⟩ := h; exact ⟨xs, h1.sets hne, h2⟩
theorem Num.rom {w : World} {r : Bool} {b : Nat} {v : Int} (h : Num w r b v) : Rom w b 16 39 := by
  obtain ⟨xs, h1, h2⟩ := h; have := h1.rom; rwa [h2.len] at this
theorem Num.stored {w : World} {r : Bool} {b : Nat} {v : Int} {zs : List Int} (h : Rom w b 16 39) (hz : Cv.Nm r zs v) : Num (w.setCells b 0 (zs.map i64v)) r b v :=
  ⟨zs, Lim.stored (by rw [hz.len]; exact h), hz⟩
theorem Num.lt {w : World} {r : Bool} {b : Nat} {v : Int} (h : Num w r b v) : b < w.heap.size := by obtain ⟨xs, h1, _⟩ := h; exact lt_of_heap h1
section
variable {ops : Array Oper} {Q : Exit → Act → World → Prop} {a : Act} {w : World} {i : Nat} {o : Oper}
theorem op_load {r : Bool} {v : Int} {t dd b : Nat} (hi : ops[i]? = some o) (hg : o.guard = none) (ho : o.op = .load 39 (.tmp t)) (hd : o.dst = some dd)
    (he : a.eval (.tmp t) = .pointer (some ⟨b, 0, none⟩)) (h : Num w r b v) : wpOp Try.prog ops Q i (fun a' w' => ∃ zs, a' = a.put (some dd) (limV zs) ∧ Cv.Nm r zs v ∧ Below w.heap.size w w') a w := by
  obtain ⟨xs, h1, h2⟩ := h
  refine wpOp_loadMid hi hg 39 (.tmp t) ho b 0 he (xs.map i64v) _ (range_of h1) Try.underlying39 rfl (szOf h2.len) ?_
  exact ⟨xs, by rw [hd]; rfl, h2, Below.refl _ _⟩
theorem op_call2 {dd f t1 t2 : Nat} {ts : Array TypeId} {R : List Int → Prop} {x y : List Int} {fn : Func} {ty : TypeId} {pos : String} {af : Array Edge}
    (hi : ops[i]? = some { dst := some dd, op := .call { callee := .value (.func f), args := #[.tmp t1, .tmp t2], argTypes := ts }, type := ty, pos := pos, after := af, guard := none })
    (hfn : Try.prog.funcs[f]? = some fn) (hname : (fn.name == "runtime.NumGoroutine") = false) (hb : fn.body.isNone = false)
    (h1 : a.eval (.tmp t1) = limV x) (h2 : a.eval (.tmp t2) = limV y)
    (hc : Calls Try.prog f #[limV x, limV y] w fun e w' => (∃ zs, e = .returned (limV zs) ∧ R zs) ∧ Below w.heap.size w w') :
    wpOp Try.prog ops Q i (fun a' w' => ∃ zs, a' = a.put (some dd) (limV zs) ∧ R zs ∧ Below w.heap.size w w') a w := by
  refine wpOp_call hi rfl f _ (run_callAt hfn hname hb (by simp [h1, h2]) rfl) (hc.mono fun e w' hh => ?_)
  obtain ⟨⟨zs, rfl, hz⟩, hbw⟩ := hh
  exact ⟨_, rfl, zs, rfl, hz, hbw⟩
theorem op_call1 {dd f t1 : Nat} {ts : Array TypeId} {R : List Int → Prop} {x : List Int} {fn : Func} {ty : TypeId} {pos : String} {af : Array Edge}
    (hi : ops[i]? = some { dst := some dd, op := .call { callee := .value (.func f), args := #[.tmp t1], argTypes := ts }, type := ty, pos := pos, after := af, guard := none })
    (hfn : Try.prog.funcs[f]? = some fn) (hname : (fn.name == "runtime.NumGoroutine") = false) (hb : fn.body.isNone = false)
    (h1 : a.eval (.tmp t1) = limV x)
    (hc : Calls Try.prog f #[limV x] w fun e w' => (∃ zs, e = .returned (limV zs) ∧ R zs) ∧ Below w.heap.size w w') :
    wpOp Try.prog ops Q i (fun a' w' => ∃ zs, a' = a.put (some dd) (limV zs) ∧ R zs ∧ Below w.heap.size w w') a w := by
  refine wpOp_call hi rfl f _ (run_callAt hfn hname hb (by simp [h1]) rfl) (hc.mono fun e w' hh => ?_)
  obtain ⟨⟨zs, rfl, hz⟩, hbw⟩ := hh
  exact ⟨_, rfl, zs, rfl, hz, hbw⟩
theorem op_store {K : Act → World → Prop} {r : Bool} {v : Int} {t s b : Nat} {zs : List Int} (hi : ops[i]? = some o) (hg : o.guard = none) (ho : o.op = .store 39 (.tmp t) (.tmp s)) (hd : o.dst = none)
    (he : a.eval (.tmp t) = .pointer (some ⟨b, 0, none⟩)) (hv : a.eval (.tmp s) = limV zs) (hr : Rom w b 16 39) (hz : Cv.Nm r zs v)
    (h : K a (w.setCells b 0 (zs.map i64v))) : wpOp Try.prog ops Q i K a w := by
  refine wpOp_storeMid hi hg 39 (.tmp t) (.tmp s) ho b 0 (zs.map i64v).toArray he hv (thOf hz.len hr) (szOf2 hz.len) (limOne zs) ?_
  rw [hd]
  exact h
end
end Go.Proofs.Ythoganfinpfibaa
