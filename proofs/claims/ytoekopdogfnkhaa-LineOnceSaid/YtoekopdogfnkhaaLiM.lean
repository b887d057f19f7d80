/-
  The walks of line.met and line.with.
-/
import Derived.Test.YtoekopdogfnkhaaLin
set_option linter.unusedVariables false
set_option linter.unusedSimpArgs false
namespace Go.Con
def metB (t n : Nat) (f : Nat → Bool) : Bool := decide (n + 8 < t) || (decide (n < t) && f (n + 8 - t))
def withF (t n : Nat) (f : Nat → Bool) : Nat → Bool := fun k => (decide (k + (max t (n + 1) - t) < 8) && f (k + (max t (n + 1) - t))) || decide (k + max t (n + 1) = n + 8)
/-- a channel's window tells just what was taken -/
structure Rep (t : Nat) (f : Nat → Bool) (T : Nat → Bool) : Prop where
  win : ∀ i, i < 8 → f i = (decide (8 ≤ t + i) && T (t + i - 8))
  lt : ∀ m, T m = true → m < t
  top : 0 < t → T (t - 1) = true
theorem Rep.ok {t : Nat} {f T : Nat → Bool} (h : Rep t f T) : SeenOk t f :=
  ⟨fun i hi hf => by rw [h.win i hi] at hf; simp at hf; exact hf.1, fun h0 => by
    rw [h.win 7 (by decide), show t + 7 - 8 = t - 1 by omega, h.top h0]; simp; omega⟩
theorem Rep.met {t : Nat} {f T : Nat → Bool} (h : Rep t f T) (n : Nat) : metB t n f = (decide (n + 8 < t) || T n) := by
  unfold metB
  by_cases h1 : n + 8 < t
  · simp [h1]
  · by_cases h2 : n < t
    · rw [h.win _ (by omega), show t + (n + 8 - t) - 8 = n by omega]
      simp [h1, h2]; intro _; omega
    · have h3 : T n = false := by
        cases hT : T n with
        | false => rfl
        | true => exact absurd (h.lt n hT) h2
      simp [h1, h2, h3]
theorem Rep.with' {t : Nat} {f T : Nat → Bool} (h : Rep t f T) (n : Nat) (hn : ¬ n + 8 < t) : Rep (max t (n + 1)) (withF t n f) (fun m => T m || decide (m = n)) := by
  refine ⟨fun i hi => ?_, fun m hm => ?_, fun h0 => ?_⟩
  · obtain ⟨t', ht'⟩ : ∃ t', t' = max t (n + 1) := ⟨_, rfl⟩
    unfold withF
    rw [← ht']
    have h1 : t ≤ t' := by omega
    have h2 : n + 1 ≤ t' := by omega
    by_cases hk : i + (t' - t) < 8
    · rw [h.win _ hk, show t + (i + (t' - t)) = t' + i by omega]
      by_cases h8 : 8 ≤ t' + i
      · by_cases hm : t' + i - 8 = n
        · have : i + t' = n + 8 := by omega
          simp [hk, h8, hm, this]
        · have : ¬ (i + t' = n + 8) := by omega
          simp [hk, h8, hm, this]
      · have : ¬ (i + t' = n + 8) := by omega
        simp [hk, h8, this]
    · have hT : T (t' + i - 8) = false := by
        cases hT : T (t' + i - 8) with
        | false => rfl
        | true => have := h.lt _ hT; omega
      by_cases h8 : 8 ≤ t' + i
      · by_cases hm : t' + i - 8 = n
        · have : i + t' = n + 8 := by omega
          simp [hk, h8, hm, this]
        · have : ¬ (i + t' = n + 8) := by omega
          simp [hk, h8, hm, this, hT]
      · omega
  · simp at hm
    rcases hm with hm | hm
    · have := h.lt m hm; omega
    · omega
  · by_cases h1 : t ≤ n
    · have : max t (n + 1) - 1 = n := by omega
      simp [this]
    · have : max t (n + 1) - 1 = t - 1 := by omega
      rw [this]
      simp [h.top (by omega)]
theorem Rep.none : Rep 0 (fun _ => false) (fun _ => false) := ⟨fun i hi => by simp, fun m hm => by simp at hm, fun h => by omega⟩
def gset (g : Nat → Bool) (k : Nat) : Nat → Bool := fun j => if j = k then true else g j
end Go.Con
namespace Go.Proofs.Ytoekopdogfnkhaa
open Go.RowKit Go.Con
set_option maxRecDepth 100000 in
set_option maxHeartbeats 2000000 in
theorem lineMet_any (kv : Value) (s : Int) (t n : Nat) (f : Nat → Bool) (w : World) (hk : kv.oneCell' = true) (ht : t ≤ 1073741824) (hn : n ≤ 4294967296) :
    Calls Try.prog 17 #[.agg #[kv, .int .i64 s, .int .i64 t, .bool (f 0), .bool (f 1), .bool (f 2), .bool (f 3), .bool (f 4), .bool (f 5), .bool (f 6), .bool (f 7)], .int .i64 n] w fun e w' => e = .returned (.bool (metB t n f)) ∧ Below w.heap.size w w' := by
  by_cases h1 : n + 8 < t
  · have e : metB t n f = true := by simp [metB, h1]
    rw [e]
    have d1 : decide ((n : Int) < (t : Int) - 8) = true := by rw [decide_eq_true_eq]; omega
    go_enter Try.func17, Try.ntmps17
    go_wp2
    go_ret
    exact ⟨rfl, (Below.refl _ _).alloc (Nat.le_refl _) _⟩
  · have d1 : decide ((n : Int) < (t : Int) - 8) = false := by rw [decide_eq_false_iff_not]; omega
    by_cases h2 : n < t
    · have d2 : decide ((n : Int) < (t : Int)) = true := by rw [decide_eq_true_eq]; omega
      have d2' : decide (n < t) = true := by rw [decide_eq_true_eq]; omega
      obtain ⟨k, hk⟩ : ∃ k, k = n + 8 - t := ⟨_, rfl⟩
      have e : metB t n f = f k := by simp [metB, h1, h2, hk]
      rw [e]
      have hx : (n : Int) - ((t : Int) - 8) = (k : Int) := by omega
      have hkw : IntKind.i64.wrap ((n : Int) - ((t : Int) - 8)) = (k : Int) := by rw [hx]; exact IntWalk.i64_in _ (by omega)
      have hk8 : k < 8 := by omega
      have hkt : n - (t - 8) = k ∨ t < 8 := by omega
      have hcell : ∀ (W : World), (W.alloc (.cells #[kv, .int .i64 s, .int .i64 t, .bool (f 0), .bool (f 1), .bool (f 2), .bool (f 3), .bool (f 4), .bool (f 5), .bool (f 6), .bool (f 7)] 28)).cell? ⟨W.heap.size, 3 + k, none⟩ = some (.bool (f k)) := fun W => by
        refine cellAt (heapNew W _) (3 + k) ?_
        have h8 : k = 0 ∨ k = 1 ∨ k = 2 ∨ k = 3 ∨ k = 4 ∨ k = 5 ∨ k = 6 ∨ k = 7 := by omega
        rcases h8 with h | h | h | h | h | h | h | h <;> (rw [h]; rfl)
      have hc := hcell w
      have HC := Lib.hid hcell
      have HX := Lib.hid hx
      obtain ⟨b, hb⟩ : ∃ b, b = f k := ⟨_, rfl⟩
      rw [← hb] at hc ⊢
      clear hcell e hk hkt hb
      go_enter Try.func17, Try.ntmps17
      go_wp2_with fail
      go_ret
      exact ⟨rfl, (Below.refl _ _).alloc (Nat.le_refl _) _⟩
    · have d2 : decide ((n : Int) < (t : Int)) = false := by rw [decide_eq_false_iff_not]; omega
      have d2' : decide (n < t) = false := by rw [decide_eq_false_iff_not]; omega
      have e : metB t n f = false := by simp [metB, h1, h2]
      rw [e]
      go_enter Try.func17, Try.ntmps17
      go_wp2
      go_ret
      exact ⟨rfl, (Below.refl _ _).alloc (Nat.le_refl _) _⟩
theorem own_frame {w2 wr W : World} {base b c kg n kcap : Nat} {key : List UInt8} (h : Own w2 base (.slice (some ⟨kg, 0, none⟩) n kcap) key) (hb : Below b w2 wr) (hk : kg < b) (hc : kg ≠ c) (hW : ∀ k, k ≠ b → k ≠ c → W.heap[k]? = wr.heap[k]?) : Own W base (.slice (some ⟨kg, 0, none⟩) n kcap) key :=
  h.ofHeap (fun k hk2 => by
    have e : kg = k := Option.some.inj hk2
    rw [← e, hW kg (by omega) hc]; exact hb.block kg hk)
theorem gsetRow (kv : Value) (s t : Int) (g : Nat → Bool) (k : Nat) (hk : k < 8) : (chanC kv s t g).toArray.setIfInBounds (3 + k) (.bool true) = (chanC kv s t (gset g k)).toArray := by
  have h8 : k = 0 ∨ k = 1 ∨ k = 2 ∨ k = 3 ∨ k = 4 ∨ k = 5 ∨ k = 6 ∨ k = 7 := by omega
  rcases h8 with rfl | rfl | rfl | rfl | rfl | rfl | rfl | rfl <;> rfl
set_option maxRecDepth 100000 in
set_option maxHeartbeats 4000000 in
theorem lineWith_any (a : Addr) (c : Nat) (key : List UInt8) (s t n : Nat) (f : Nat → Bool) (w : World) (hv : Rd w (.slice (some a) 32 c) key) (hkl : key.length = 32) (ht : t ≤ 1073741824) (hn : n ≤ 4294967296) (hnt : ¬ n + 8 < t) :
    Calls Try.prog 20 #[.agg #[.slice (some a) 32 c, .int .i64 s, .int .i64 t, .bool (f 0), .bool (f 1), .bool (f 2), .bool (f 3), .bool (f 4), .bool (f 5), .bool (f 6), .bool (f 7)], .int .i64 n] w
      fun e w' => ∃ kv, e = .returned (.agg (chanC kv s (max t (n + 1) : Nat) (withF t n f)).toArray) ∧ Own w' w.heap.size kv key ∧ Below w.heap.size w w' := by
  have HIX := Lib.hid (fun k hk W => cindex8 f k hk W)
  obtain ⟨T, hT⟩ : ∃ T, T = max t (n + 1) := ⟨_, rfl⟩
  obtain ⟨d, hd⟩ : ∃ d, d = T - t := ⟨_, rfl⟩
  have hTt : t ≤ T := by omega
  have hTn : n + 1 ≤ T := by omega
  have hTd : T = t + d := by omega
  have hTe : T = t ∨ T = n + 1 := by omega
  have hwf : ∀ k, k < 8 → withF t n f k = ((decide (k + d < 8) && f (k + d)) || decide (k + T = n + 8)) := fun k hk => by unfold withF; rw [← hT, ← hd]
  rw [← hT]
  have HV := Lib.hid hv
  have HKL := Lib.hid hkl
  have HWF := Lib.hid hwf
  have HTE := Lib.hid hTd
  obtain ⟨f0, hf0⟩ : ∃ b, b = f 0 := ⟨_, rfl⟩
  obtain ⟨f1, hf1⟩ : ∃ b, b = f 1 := ⟨_, rfl⟩
  obtain ⟨f2, hf2⟩ : ∃ b, b = f 2 := ⟨_, rfl⟩
  obtain ⟨f3, hf3⟩ : ∃ b, b = f 3 := ⟨_, rfl⟩
  obtain ⟨f4, hf4⟩ : ∃ b, b = f 4 := ⟨_, rfl⟩
  obtain ⟨f5, hf5⟩ : ∃ b, b = f 5 := ⟨_, rfl⟩
  obtain ⟨f6, hf6⟩ : ∃ b, b = f 6 := ⟨_, rfl⟩
  obtain ⟨f7, hf7⟩ : ∃ b, b = f 7 := ⟨_, rfl⟩
  rw [← hf0, ← hf1, ← hf2, ← hf3, ← hf4, ← hf5, ← hf6, ← hf7] at HIX ⊢
  clear hv hkl hwf hT hd hTd hf0 hf1 hf2 hf3 hf4 hf5 hf6 hf7
  go_enter Try.func20, Try.ntmps20
  go_wp2_with fail
  refine (own_any a c key s t f0 f1 f2 f3 f4 f5 f6 f7 _ ((HV.out.alloc _).alloc _) HKL.out).mono ?_
  rintro e w1 ⟨kv, rfl, hok, hb1⟩
  obtain ⟨kg, kcap, hkv, _, _, _, _⟩ := hok.shape (by intro h; have := HKL.out; rw [h] at this; cases this)
  rw [HKL.out] at hkv
  subst hkv
  have x1 := (hb1.block w.heap.size (by simp; omega)).trans (heapNew0 w (.cells #[.slice (some a) 32 c, .int .i64 s, .int .i64 t, .bool f0, .bool f1, .bool f2, .bool f3, .bool f4, .bool f5, .bool f6, .bool f7] 28) _)
  have y1 := (hb1.block (w.heap.size + 1) (by simp)).trans (heapNew1 w _ (.cells #[.slice none 0 0, .int .i64 0, .int .i64 0, .bool false, .bool false, .bool false, .bool false, .bool false, .bool false, .bool false, .bool false] 28))
  have B1 := Lib.hid ((((Below.refl w.heap.size w).alloc (Nat.le_refl _) _).alloc (by simp) _).trans (hb1.mono (by simp; omega)))
  have O1 := Lib.hid hok
  have z1 := lt_of_heap y1
  have X1 := Lib.hid x1
  have Y1 := Lib.hid y1
  have d2 : ∀ o, (w1.alloc o).cell? ⟨w.heap.size, 2, none⟩ = some (.int .i64 t) := fun o => (((Below.refl w1.heap.size w1).alloc (Nat.le_refl _) o).cell (p := ⟨w.heap.size, 2, none⟩) (lt_of_heap x1)).trans (cellAt x1 2 rfl)
  have d3 : ∀ o, (w1.alloc o).cell? ⟨w.heap.size, 3, none⟩ = some (.bool f0) := fun o => (((Below.refl w1.heap.size w1).alloc (Nat.le_refl _) o).cell (p := ⟨w.heap.size, 3, none⟩) (lt_of_heap x1)).trans (cellAt x1 3 rfl)
  have d4 : ∀ o, (w1.alloc o).cell? ⟨w.heap.size, 4, none⟩ = some (.bool f1) := fun o => (((Below.refl w1.heap.size w1).alloc (Nat.le_refl _) o).cell (p := ⟨w.heap.size, 4, none⟩) (lt_of_heap x1)).trans (cellAt x1 4 rfl)
  have d5 : ∀ o, (w1.alloc o).cell? ⟨w.heap.size, 5, none⟩ = some (.bool f2) := fun o => (((Below.refl w1.heap.size w1).alloc (Nat.le_refl _) o).cell (p := ⟨w.heap.size, 5, none⟩) (lt_of_heap x1)).trans (cellAt x1 5 rfl)
  have d6 : ∀ o, (w1.alloc o).cell? ⟨w.heap.size, 6, none⟩ = some (.bool f3) := fun o => (((Below.refl w1.heap.size w1).alloc (Nat.le_refl _) o).cell (p := ⟨w.heap.size, 6, none⟩) (lt_of_heap x1)).trans (cellAt x1 6 rfl)
  have d7 : ∀ o, (w1.alloc o).cell? ⟨w.heap.size, 7, none⟩ = some (.bool f4) := fun o => (((Below.refl w1.heap.size w1).alloc (Nat.le_refl _) o).cell (p := ⟨w.heap.size, 7, none⟩) (lt_of_heap x1)).trans (cellAt x1 7 rfl)
  have d8 : ∀ o, (w1.alloc o).cell? ⟨w.heap.size, 8, none⟩ = some (.bool f5) := fun o => (((Below.refl w1.heap.size w1).alloc (Nat.le_refl _) o).cell (p := ⟨w.heap.size, 8, none⟩) (lt_of_heap x1)).trans (cellAt x1 8 rfl)
  have d9 : ∀ o, (w1.alloc o).cell? ⟨w.heap.size, 9, none⟩ = some (.bool f6) := fun o => (((Below.refl w1.heap.size w1).alloc (Nat.le_refl _) o).cell (p := ⟨w.heap.size, 9, none⟩) (lt_of_heap x1)).trans (cellAt x1 9 rfl)
  have d10 : ∀ o, (w1.alloc o).cell? ⟨w.heap.size, 10, none⟩ = some (.bool f7) := fun o => (((Below.refl w1.heap.size w1).alloc (Nat.le_refl _) o).cell (p := ⟨w.heap.size, 10, none⟩) (lt_of_heap x1)).trans (cellAt x1 10 rfl)
  clear hok hb1 x1 y1
  have hkg := (O1.out.lt kg rfl)
  have KGN := Lib.hid (show w.heap.size + 1 < kg by have h := hkg.1; simp at h; omega)
  have key2 : ∀ (w2 : World), w2 = w1.alloc (.cells #[.slice (some ⟨kg, 0, none⟩) 32 kcap, .int .i64 s, .int .i64 T, .bool false, .bool false, .bool false, .bool false, .bool false, .bool false, .bool false, .bool false] 28) →
      w2.heap[w1.heap.size]? = some (.cells (chanC (.slice (some ⟨kg, 0, none⟩) 32 kcap) s T (fun _ => false)).toArray 28 (0, 0)) ∧ w2.heap[w.heap.size]? = some (.cells #[.slice (some a) 32 c, .int .i64 s, .int .i64 t, .bool f0, .bool f1, .bool f2, .bool f3, .bool f4, .bool f5, .bool f6, .bool f7] 28 (0, 0)) ∧ w2.heap[w.heap.size + 1]? = some (.cells #[.slice none 0 0, .int .i64 0, .int .i64 0, .bool false, .bool false, .bool false, .bool false, .bool false, .bool false, .bool false, .bool false] 28 (0, 0)) ∧ Below w.heap.size w w2 ∧ Own w2 w.heap.size (.slice (some ⟨kg, 0, none⟩) 32 kcap) key := fun w2 hw2 => by
    rw [hw2]
    exact ⟨heapNew w1 _, (heapOld _ _ _ (by omega)).trans X1.out, (heapOld _ _ _ z1).trans Y1.out, B1.out.alloc B1.out.size _, (O1.out.alloc _).mono (by simp; omega)⟩
  have KEY2 := Lib.hid key2
  have hkb : kg < w1.heap.size := hkg.2
  have hsb : w.heap.size + 1 < w1.heap.size := z1
  clear key2 hkg z1 X1 Y1 B1 O1
  by_cases hmx : (t : Int) < (n : Int) + 1
  · have hTn1 : (n : Int) + 1 = (T : Int) := by omega
    have HTN := Lib.hid hTn1
    clear hTn1
    go_wp2_with fail
    rw [HTN.out]
    obtain ⟨w2, hw2⟩ : ∃ w2, w2 = w1.alloc (.cells #[.slice (some ⟨kg, 0, none⟩) 32 kcap, .int .i64 s, .int .i64 T, .bool false, .bool false, .bool false, .bool false, .bool false, .bool false, .bool false, .bool false] 28) := ⟨_, rfl⟩
    rw [← hw2]
    have k2 := KEY2.out w2 hw2
    obtain ⟨b, hb⟩ : ∃ b, b = w1.heap.size := ⟨_, rfl⟩
    rw [← hb] at k2 hkb hsb ⊢
    have K2 := Lib.hid k2
    clear k2 hw2 hb d2 d3 d4 d5 d6 d7 d8 d9 d10
    go_loopw [21] (fun i wr => ∃ (k : Nat) (g : Nat → Bool), k ≤ 8 ∧ Hid (∀ j, j < 8 → g j = (decide (j + d < k) && f (j + d))) ∧ i = .int .i64 k ∧ wr.heap[b]? = some (.cells (chanC (.slice (some ⟨kg, 0, none⟩) 32 kcap) s T g).toArray 28 (0, 0)) ∧ Below b w2 wr) (fun i _ => 8 - (intOf i).toNat)
    case atStart => exact ⟨0, fun _ => false, by omega, Lib.hid (fun j hj => by simp), rfl, K2.out.1, Below.refl _ _⟩
    case round =>
      obtain ⟨k, g, hk, HG, rfl, hx, hbl⟩ := hrel
      have HX := Lib.hid hx
      have HB := Lib.hid hbl
      have hbox := (hbl.block w.heap.size (by omega)).trans K2.out.2.1
      by_cases hlt : k < 8
      · have hdk : decide ((k : Int) < 8) = true := by rw [decide_eq_true_eq]; omega
        have hix := HIX.out k hlt
        obtain ⟨v, hv⟩ : ∃ v, v = f k := ⟨_, rfl⟩
        rw [← hv] at hix
        have c2 := cellAt hbox 2 rfl
        have e2 : wr.cell? ⟨b, 2, none⟩ = some (.int .i64 (T : Int)) := cellAt hx 2 rfl
        have hrows : ∀ j, j < 8 → wr.cell? ⟨b, 3 + j, none⟩ = some (.bool (g j)) := fun j hj => by
          have h8 : j = 0 ∨ j = 1 ∨ j = 2 ∨ j = 3 ∨ j = 4 ∨ j = 5 ∨ j = 6 ∨ j = 7 := by omega
          rcases h8 with h | h | h | h | h | h | h | h <;> (rw [h]; exact cellAt hx _ rfl)
        have hTd := HTE.out
        by_cases hkd : d ≤ k
        · obtain ⟨j, hj⟩ : ∃ j, j = k - d := ⟨_, rfl⟩
          have hjk : (t : Int) + (k : Int) - (T : Int) = (j : Int) := by omega
          have hj8 : j < 8 := by omega
          have cj := hrows j hj8
          have fj := freeAt hx (3 + j)
          have HJ := Lib.hid hj
          have HV2 := Lib.hid hv
          cases v with
          | false =>
            have hg2 : ∀ i, i < 8 → g i = (decide (i + d < k + 1) && f (i + d)) := fun i hi => by
              rw [HG.out i hi]
              by_cases hik : i + d = k
              · rw [hik, ← HV2.out]; simp
              · rw [show decide (i + d < k + 1) = decide (i + d < k) by rw [decide_eq_decide]; omega]
            have HG2 := Lib.hid hg2
            clear hx hbl hbox hv hrows hj hg2 hTd
            go_wp2_with fail
            go_roundw
            case rel => exact ⟨k + 1, g, by omega, HG2, by go_num, HX.out, HB.out⟩
            case measure => simp [intOf]; omega
          | true =>
            have hg2 : ∀ i, i < 8 → gset g j i = (decide (i + d < k + 1) && f (i + d)) := fun i hi => by
              unfold gset
              by_cases hik : i = j
              · have : i + d = k := by omega
                rw [if_pos hik, this, ← HV2.out]; simp
              · rw [if_neg hik, HG.out i hi, show decide (i + d < k + 1) = decide (i + d < k) by rw [decide_eq_decide]; omega]
            have HG2 := Lib.hid hg2
            clear hx hbl hbox hv hrows hj hg2 hTd
            go_wp2_with fail
            go_roundw
            case rel =>
              refine ⟨k + 1, gset g j, by omega, HG2, by go_num, ?_, HB.out.setCell (Nat.le_refl _) _⟩
              rw [← gsetRow _ _ _ _ _ hj8]
              exact heapSet HX.out _
            case measure => simp [intOf]; omega
        · have hg2 : ∀ i, i < 8 → g i = (decide (i + d < k + 1) && f (i + d)) := fun i hi => by
            rw [HG.out i hi, show decide (i + d < k + 1) = decide (i + d < k) by rw [decide_eq_decide]; omega]
          have HG2 := Lib.hid hg2
          have hneg : decide ((0 : Int) ≤ (t : Int) + (k : Int) - (T : Int)) = false := by rw [decide_eq_false_iff_not]; omega
          have hneg2 : decide ((T : Int) ≤ (t : Int) + (k : Int)) = false := by rw [decide_eq_false_iff_not]; omega
          clear hx hbl hbox hv hrows hg2 hTd
          cases v with
          | false =>
            go_wp2_with fail
            go_roundw
            case rel => exact ⟨k + 1, g, by omega, HG2, by go_num, HX.out, HB.out⟩
            case measure => simp [intOf]; omega
          | true =>
            go_wp2_with fail
            go_roundw
            case rel => exact ⟨k + 1, g, by omega, HG2, by go_num, HX.out, HB.out⟩
            case measure => simp [intOf]; omega
      · have hdk : decide ((k : Int) < 8) = false := by rw [decide_eq_false_iff_not]; omega
        have hk8 : k = 8 := by omega
        obtain ⟨q, hq⟩ : ∃ q, q = n + 8 - T := ⟨_, rfl⟩
        have hqn : (n : Int) - ((T : Int) - 8) = (q : Int) := by omega
        have hq8 : q < 8 := by omega
        have e2 : wr.cell? ⟨b, 2, none⟩ = some (.int .i64 (T : Int)) := cellAt hx 2 rfl
        have cq : wr.cell? ⟨b, 3 + q, none⟩ = some (.bool (g q)) := by
          have h8 : q = 0 ∨ q = 1 ∨ q = 2 ∨ q = 3 ∨ q = 4 ∨ q = 5 ∨ q = 6 ∨ q = 7 := by omega
          rcases h8 with h | h | h | h | h | h | h | h <;> (rw [h]; exact cellAt hx _ rfl)
        have fq := freeAt hx (3 + q)
        have hg2 : ∀ i, i < 8 → gset g q i = withF t n f i := fun i hi => by
          rw [HWF.out i hi]
          unfold gset
          by_cases hiq : i = q
          · have : i + T = n + 8 := by omega
            rw [if_pos hiq]; simp [this]
          · have : ¬ (i + T = n + 8) := by omega
            rw [if_neg hiq, HG.out i hi, hk8]; simp [this]
        have hrow : (wr.setCell ⟨b, 3 + q, none⟩ (.bool true)).heap[b]? = some (.cells (chanC (.slice (some ⟨kg, 0, none⟩) 32 kcap) s T (withF t n f)).toArray 28 (0, 0)) := by
          have h := heapSet (o := 3 + q) hx (.bool true)
          rw [gsetRow _ _ _ _ _ hq8] at h
          rw [h]
          unfold chanC
          rw [hg2 0 (by decide), hg2 1 (by decide), hg2 2 (by decide), hg2 3 (by decide), hg2 4 (by decide), hg2 5 (by decide), hg2 6 (by decide), hg2 7 (by decide)]
        have hrg := range_of hrow
        have hz := (hbl.block (w.heap.size + 1) (by omega)).trans K2.out.2.2.1
        have hz2 := (heapSet_ne (3 + q) (.bool true) (w := wr) (b := b) (k := w.heap.size + 1) (by omega)).trans hz
        have hth : (wr.setCell ⟨b, 3 + q, none⟩ (.bool true)).there (w.heap.size + 1) 0 11 := there_of hz2 rfl
        have HTH := Lib.hid hth
        have HZ2 := Lib.hid hz2
        have HQ := Lib.hid hq
        clear hx hbl hbox hk8 hg2 hrow hz hz2 hth hq
        go_wp2_with (first
          | (refine wpList_load_mid rfl 28 (.tmp 5) rfl b 0 rfl (chanC (.slice (some ⟨kg, 0, none⟩) 32 kcap) s T (withF t n f)) _ hrg Try.underlying28 rfl chanSz ?_)
          | (refine wpList_store_mid rfl 28 (.tmp 4) (.tmp 48) rfl (w.heap.size + 1) 0 (chanC (.slice (some ⟨kg, 0, none⟩) 32 kcap) s T (withF t n f)).toArray rfl rfl HTH.out chanSz (chanOne _ _ _ _ rfl) ?_))
        have hst := storedRow (vs := chanC (.slice (some ⟨kg, 0, none⟩) 32 kcap) s T (withF t n f)) HZ2.out rfl
        have hl := run_loadVar_mid (P := Try.prog) _ (w.heap.size + 1) 0 28 _ _ (range_of hst) Try.underlying28 rfl chanSz
        refine bodyPost_ret (v := .agg (chanC (.slice (some ⟨kg, 0, none⟩) 32 kcap) s T (withF t n f)).toArray) (results_c Try.results20 rfl hl) rfl ⟨_, rfl, ?_, ?_⟩
        · exact own_frame (c := w.heap.size + 1) K2.out.2.2.2.2 HB.out hkb (by have := KGN.out; omega) (fun k h1 h2 => by rw [heap_setCells_ne h2, heapSet_ne _ _ h1])
        · exact below_setCells (by omega) _ _ _ ((K2.out.2.2.2.1.trans (HB.out.mono (by omega))).setCell (by show w.heap.size ≤ b; omega) _)
  · have hTn1 : (T : Int) = (t : Int) := by omega
    have HTN := Lib.hid hTn1
    clear hTn1
    go_wp2_with fail
    rw [show w1.alloc (.cells #[.slice (some ⟨kg, 0, none⟩) 32 kcap, .int .i64 s, .int .i64 t, .bool false, .bool false, .bool false, .bool false, .bool false, .bool false, .bool false, .bool false] 28) = w1.alloc (.cells #[.slice (some ⟨kg, 0, none⟩) 32 kcap, .int .i64 s, .int .i64 T, .bool false, .bool false, .bool false, .bool false, .bool false, .bool false, .bool false, .bool false] 28) by rw [HTN.out]]
    obtain ⟨w2, hw2⟩ : ∃ w2, w2 = w1.alloc (.cells #[.slice (some ⟨kg, 0, none⟩) 32 kcap, .int .i64 s, .int .i64 T, .bool false, .bool false, .bool false, .bool false, .bool false, .bool false, .bool false, .bool false] 28) := ⟨_, rfl⟩
    rw [← hw2]
    have k2 := KEY2.out w2 hw2
    obtain ⟨b, hb⟩ : ∃ b, b = w1.heap.size := ⟨_, rfl⟩
    rw [← hb] at k2 hkb hsb ⊢
    have K2 := Lib.hid k2
    clear k2 hw2 hb d2 d3 d4 d5 d6 d7 d8 d9 d10
    go_loopw [21] (fun i wr => ∃ (k : Nat) (g : Nat → Bool), k ≤ 8 ∧ Hid (∀ j, j < 8 → g j = (decide (j + d < k) && f (j + d))) ∧ i = .int .i64 k ∧ wr.heap[b]? = some (.cells (chanC (.slice (some ⟨kg, 0, none⟩) 32 kcap) s T g).toArray 28 (0, 0)) ∧ Below b w2 wr) (fun i _ => 8 - (intOf i).toNat)
    case atStart => exact ⟨0, fun _ => false, by omega, Lib.hid (fun j hj => by simp), rfl, K2.out.1, Below.refl _ _⟩
    case round =>
      obtain ⟨k, g, hk, HG, rfl, hx, hbl⟩ := hrel
      have HX := Lib.hid hx
      have HB := Lib.hid hbl
      have hbox := (hbl.block w.heap.size (by omega)).trans K2.out.2.1
      by_cases hlt : k < 8
      · have hdk : decide ((k : Int) < 8) = true := by rw [decide_eq_true_eq]; omega
        have hix := HIX.out k hlt
        obtain ⟨v, hv⟩ : ∃ v, v = f k := ⟨_, rfl⟩
        rw [← hv] at hix
        have c2 := cellAt hbox 2 rfl
        have e2 : wr.cell? ⟨b, 2, none⟩ = some (.int .i64 (T : Int)) := cellAt hx 2 rfl
        have hrows : ∀ j, j < 8 → wr.cell? ⟨b, 3 + j, none⟩ = some (.bool (g j)) := fun j hj => by
          have h8 : j = 0 ∨ j = 1 ∨ j = 2 ∨ j = 3 ∨ j = 4 ∨ j = 5 ∨ j = 6 ∨ j = 7 := by omega
          rcases h8 with h | h | h | h | h | h | h | h <;> (rw [h]; exact cellAt hx _ rfl)
        have hTd := HTE.out
        by_cases hkd : d ≤ k
        · obtain ⟨j, hj⟩ : ∃ j, j = k - d := ⟨_, rfl⟩
          have hjk : (t : Int) + (k : Int) - (T : Int) = (j : Int) := by omega
          have hj8 : j < 8 := by omega
          have cj := hrows j hj8
          have fj := freeAt hx (3 + j)
          have HJ := Lib.hid hj
          have HV2 := Lib.hid hv
          cases v with
          | false =>
            have hg2 : ∀ i, i < 8 → g i = (decide (i + d < k + 1) && f (i + d)) := fun i hi => by
              rw [HG.out i hi]
              by_cases hik : i + d = k
              · rw [hik, ← HV2.out]; simp
              · rw [show decide (i + d < k + 1) = decide (i + d < k) by rw [decide_eq_decide]; omega]
            have HG2 := Lib.hid hg2
            clear hx hbl hbox hv hrows hj hg2 hTd
            go_wp2_with fail
            go_roundw
            case rel => exact ⟨k + 1, g, by omega, HG2, by go_num, HX.out, HB.out⟩
            case measure => simp [intOf]; omega
          | true =>
            have hg2 : ∀ i, i < 8 → gset g j i = (decide (i + d < k + 1) && f (i + d)) := fun i hi => by
              unfold gset
              by_cases hik : i = j
              · have : i + d = k := by omega
                rw [if_pos hik, this, ← HV2.out]; simp
              · rw [if_neg hik, HG.out i hi, show decide (i + d < k + 1) = decide (i + d < k) by rw [decide_eq_decide]; omega]
            have HG2 := Lib.hid hg2
            clear hx hbl hbox hv hrows hj hg2 hTd
            go_wp2_with fail
            go_roundw
            case rel =>
              refine ⟨k + 1, gset g j, by omega, HG2, by go_num, ?_, HB.out.setCell (Nat.le_refl _) _⟩
              rw [← gsetRow _ _ _ _ _ hj8]
              exact heapSet HX.out _
            case measure => simp [intOf]; omega
        · have hg2 : ∀ i, i < 8 → g i = (decide (i + d < k + 1) && f (i + d)) := fun i hi => by
            rw [HG.out i hi, show decide (i + d < k + 1) = decide (i + d < k) by rw [decide_eq_decide]; omega]
          have HG2 := Lib.hid hg2
          have hneg : decide ((0 : Int) ≤ (t : Int) + (k : Int) - (T : Int)) = false := by rw [decide_eq_false_iff_not]; omega
          have hneg2 : decide ((T : Int) ≤ (t : Int) + (k : Int)) = false := by rw [decide_eq_false_iff_not]; omega
          clear hx hbl hbox hv hrows hg2 hTd
          cases v with
          | false =>
            go_wp2_with fail
            go_roundw
            case rel => exact ⟨k + 1, g, by omega, HG2, by go_num, HX.out, HB.out⟩
            case measure => simp [intOf]; omega
          | true =>
            go_wp2_with fail
            go_roundw
            case rel => exact ⟨k + 1, g, by omega, HG2, by go_num, HX.out, HB.out⟩
            case measure => simp [intOf]; omega
      · have hdk : decide ((k : Int) < 8) = false := by rw [decide_eq_false_iff_not]; omega
        have hk8 : k = 8 := by omega
        obtain ⟨q, hq⟩ : ∃ q, q = n + 8 - T := ⟨_, rfl⟩
        have hqn : (n : Int) - ((T : Int) - 8) = (q : Int) := by omega
        have hq8 : q < 8 := by omega
        have e2 : wr.cell? ⟨b, 2, none⟩ = some (.int .i64 (T : Int)) := cellAt hx 2 rfl
        have cq : wr.cell? ⟨b, 3 + q, none⟩ = some (.bool (g q)) := by
          have h8 : q = 0 ∨ q = 1 ∨ q = 2 ∨ q = 3 ∨ q = 4 ∨ q = 5 ∨ q = 6 ∨ q = 7 := by omega
          rcases h8 with h | h | h | h | h | h | h | h <;> (rw [h]; exact cellAt hx _ rfl)
        have fq := freeAt hx (3 + q)
        have hg2 : ∀ i, i < 8 → gset g q i = withF t n f i := fun i hi => by
          rw [HWF.out i hi]
          unfold gset
          by_cases hiq : i = q
          · have : i + T = n + 8 := by omega
            rw [if_pos hiq]; simp [this]
          · have : ¬ (i + T = n + 8) := by omega
            rw [if_neg hiq, HG.out i hi, hk8]; simp [this]
        have hrow : (wr.setCell ⟨b, 3 + q, none⟩ (.bool true)).heap[b]? = some (.cells (chanC (.slice (some ⟨kg, 0, none⟩) 32 kcap) s T (withF t n f)).toArray 28 (0, 0)) := by
          have h := heapSet (o := 3 + q) hx (.bool true)
          rw [gsetRow _ _ _ _ _ hq8] at h
          rw [h]
          unfold chanC
          rw [hg2 0 (by decide), hg2 1 (by decide), hg2 2 (by decide), hg2 3 (by decide), hg2 4 (by decide), hg2 5 (by decide), hg2 6 (by decide), hg2 7 (by decide)]
        have hrg := range_of hrow
        have hz := (hbl.block (w.heap.size + 1) (by omega)).trans K2.out.2.2.1
        have hz2 := (heapSet_ne (3 + q) (.bool true) (w := wr) (b := b) (k := w.heap.size + 1) (by omega)).trans hz
        have hth : (wr.setCell ⟨b, 3 + q, none⟩ (.bool true)).there (w.heap.size + 1) 0 11 := there_of hz2 rfl
        have HTH := Lib.hid hth
        have HZ2 := Lib.hid hz2
        have HQ := Lib.hid hq
        clear hx hbl hbox hk8 hg2 hrow hz hz2 hth hq
        go_wp2_with (first
          | (refine wpList_load_mid rfl 28 (.tmp 5) rfl b 0 rfl (chanC (.slice (some ⟨kg, 0, none⟩) 32 kcap) s T (withF t n f)) _ hrg Try.underlying28 rfl chanSz ?_)
          | (refine wpList_store_mid rfl 28 (.tmp 4) (.tmp 48) rfl (w.heap.size + 1) 0 (chanC (.slice (some ⟨kg, 0, none⟩) 32 kcap) s T (withF t n f)).toArray rfl rfl HTH.out chanSz (chanOne _ _ _ _ rfl) ?_))
        have hst := storedRow (vs := chanC (.slice (some ⟨kg, 0, none⟩) 32 kcap) s T (withF t n f)) HZ2.out rfl
        have hl := run_loadVar_mid (P := Try.prog) _ (w.heap.size + 1) 0 28 _ _ (range_of hst) Try.underlying28 rfl chanSz
        refine bodyPost_ret (v := .agg (chanC (.slice (some ⟨kg, 0, none⟩) 32 kcap) s T (withF t n f)).toArray) (results_c Try.results20 rfl hl) rfl ⟨_, rfl, ?_, ?_⟩
        · exact own_frame (c := w.heap.size + 1) K2.out.2.2.2.2 HB.out hkb (by have := KGN.out; omega) (fun k h1 h2 => by rw [heap_setCells_ne h2, heapSet_ne _ _ h1])
        · exact below_setCells (by omega) _ _ _ ((K2.out.2.2.2.1.trans (HB.out.mono (by omega))).setCell (by show w.heap.size ≤ b; omega) _)
end Go.Proofs.Ytoekopdogfnkhaa
