/-
  Texts put together: Lin, LiM, LiS.
-/
import Derived.Test.YtpkfbmafbkgcmaaDoorMg11
import Derived.Deep.RegionHeld3
set_option linter.unusedVariables false
set_option linter.unusedSimpArgs false
namespace Go.Con
/-- which numbers of a window are met may be, below a top -/
structure SeenOk (t : Nat) (f : Nat → Bool) : Prop where
  low : ∀ i, i < 8 → f i = true → 8 ≤ t + i
  top : 0 < t → f 7 = true
end Go.Con
namespace Go.Proofs.YtpkfbmafbkgcmaaDoor
open Go.RowKit Go.Con
theorem cindex8 (f : Nat → Bool) (k : Nat) (hk : k < 8) (W : World) : (Instr.index 40 (.agg #[.bool (f 0), .bool (f 1), .bool (f 2), .bool (f 3), .bool (f 4), .bool (f 5), .bool (f 6), .bool (f 7)]) (.int .i64 k)).run Tryd.prog W = .ok (.bool (f k)) W := by
  have h8 : k = 0 ∨ k = 1 ∨ k = 2 ∨ k = 3 ∨ k = 4 ∨ k = 5 ∨ k = 6 ∨ k = 7 := by omega
  rcases h8 with rfl | rfl | rfl | rfl | rfl | rfl | rfl | rfl <;> (show _ = _; kernel_rfl)
set_option maxRecDepth 100000 in
set_option maxHeartbeats 2000000 in
theorem lineCheck_ok (a : Option Addr) (c s t : Nat) (f : Nat → Bool) (w : World) (hs : s ≤ 1073741824) (ht : t ≤ 1073741824) (hf : SeenOk t f) :
    Calls Tryd.prog 26 #[.agg #[.slice a 32 c, .int .i64 s, .int .i64 t, .bool (f 0), .bool (f 1), .bool (f 2), .bool (f 3), .bool (f 4), .bool (f 5), .bool (f 6), .bool (f 7)]] w fun e w' => e = .returned (.int .i64 0) ∧ Below w.heap.size w w' := by
  have d1 : decide ((s : Int) < 0) = false := by rw [decide_eq_false_iff_not]; omega
  have d2 : decide ((1073741824 : Int) < (s : Int)) = false := by rw [decide_eq_false_iff_not]; omega
  have d3 : decide ((t : Int) < 0) = false := by rw [decide_eq_false_iff_not]; omega
  have d4 : decide ((1073741824 : Int) < (t : Int)) = false := by rw [decide_eq_false_iff_not]; omega
  have HIX := Lib.hid (fun k hk W => cindex8 f k hk W)
  have HF := Lib.hid hf
  obtain ⟨fn, hfn⟩ : ∃ fn : Nat → Value, fn = fun k => .bool (f k) := ⟨_, rfl⟩
  obtain ⟨b0, hb0⟩ : ∃ b, b = f 0 := ⟨_, rfl⟩
  obtain ⟨b1, hb1⟩ : ∃ b, b = f 1 := ⟨_, rfl⟩
  obtain ⟨b2, hb2⟩ : ∃ b, b = f 2 := ⟨_, rfl⟩
  obtain ⟨b3, hb3⟩ : ∃ b, b = f 3 := ⟨_, rfl⟩
  obtain ⟨b4, hb4⟩ : ∃ b, b = f 4 := ⟨_, rfl⟩
  obtain ⟨b5, hb5⟩ : ∃ b, b = f 5 := ⟨_, rfl⟩
  obtain ⟨b6, hb6⟩ : ∃ b, b = f 6 := ⟨_, rfl⟩
  obtain ⟨b7, hb7⟩ : ∃ b, b = f 7 := ⟨_, rfl⟩
  rw [← hb0, ← hb1, ← hb2, ← hb3, ← hb4, ← hb5, ← hb6, ← hb7] at HIX ⊢
  have H7 := Lib.hid hb7
  clear hf hfn hb0 hb1 hb2 hb3 hb4 hb5 hb6 hb7
  go_enter Tryd.func26, Tryd.ntmps26
  go_wp2_with fail
  go_loop [31] (fun i => ∃ k : Nat, k ≤ 8 ∧ i = .int .i64 k) (fun i => 8 - (intOf i).toNat)
  case atStart => exact ⟨0, by omega, rfl⟩
  case round =>
    obtain ⟨k, hk, rfl⟩ := hrel
    by_cases hlt : k < 8
    · have hdk : decide ((k : Int) < 8) = true := by rw [decide_eq_true_eq]; omega
      have hix := HIX.out k hlt
      obtain ⟨b, hb⟩ : ∃ b, b = f k := ⟨_, rfl⟩
      rw [← hb] at hix
      cases b with
      | false =>
        clear hb
        go_wp2_with fail
        go_round
        case rel => exact ⟨k + 1, by omega, by go_num⟩
        case measure => simp [intOf]; omega
      | true =>
        have hl := HF.out.low k hlt hb.symm
        have hl2 : decide ((t : Int) - 8 + (k : Int) < 0) = false := by rw [decide_eq_false_iff_not]; omega
        clear hb
        go_wp2_with fail
        go_round
        case rel => exact ⟨k + 1, by omega, by go_num⟩
        case measure => simp [intOf]; omega
    · have hdk : decide ((k : Int) < 8) = false := by rw [decide_eq_false_iff_not]; omega
      by_cases h0 : 0 < t
      · have hd0 : decide ((0 : Int) < (t : Int)) = true := by rw [decide_eq_true_eq]; omega
        have h7 : b7 = true := by rw [H7.out]; exact HF.out.top h0
        subst h7
        go_wp2
        go_ret
        exact ⟨rfl, (Below.refl _ _).alloc (Nat.le_refl _) _⟩
      · have hd0 : decide ((0 : Int) < (t : Int)) = false := by rw [decide_eq_false_iff_not]; omega
        have ht0 : t = 0 := by omega
        subst ht0
        go_wp2
        go_ret
        exact ⟨rfl, (Below.refl _ _).alloc (Nat.le_refl _) _⟩
/-- A key of another length. -/
theorem lineCheck_key (a : Option Addr) (n c s t : Nat) (b0 b1 b2 b3 b4 b5 b6 b7 : Bool) (w : World) (hn : n ≠ 32) :
    Calls Tryd.prog 26 #[.agg #[.slice a n c, .int .i64 s, .int .i64 t, .bool b0, .bool b1, .bool b2, .bool b3, .bool b4, .bool b5, .bool b6, .bool b7]] w fun e w' => e = .returned (.int .i64 5) ∧ Below w.heap.size w w' := by
  have h1 : ((n : Int) != 32) = true := by rw [bne_iff_ne]; omega
  have h2 : ((n : Int) == 32) = false := by rw [beq_eq_false_iff_ne]; omega
  go_enter Tryd.func26, Tryd.ntmps26
  go_wp2
  go_ret
  exact ⟨rfl, (Below.refl _ _).alloc (Nat.le_refl _) _⟩
set_option maxRecDepth 100000 in
set_option maxHeartbeats 1000000 in
/-- A top with nothing met. -/
theorem lineCheck_top (a : Option Addr) (c : Nat) (w : World) :
    Calls Tryd.prog 26 #[.agg #[.slice a 32 c, .int .i64 0, .int .i64 1, .bool false, .bool false, .bool false, .bool false, .bool false, .bool false, .bool false, .bool false]] w fun e w' => e = .returned (.int .i64 5) ∧ Below w.heap.size w w' := by
  have HIX := Lib.hid (fun k hk W => cindex8 (fun _ => false) k hk W)
  go_enter Tryd.func26, Tryd.ntmps26
  go_wp2_with fail
  go_loop [31] (fun i => ∃ k : Nat, k ≤ 8 ∧ i = .int .i64 k) (fun i => 8 - (intOf i).toNat)
  case atStart => exact ⟨0, by omega, rfl⟩
  case round =>
    obtain ⟨k, hk, rfl⟩ := hrel
    by_cases hlt : k < 8
    · have hdk : decide ((k : Int) < 8) = true := by rw [decide_eq_true_eq]; omega
      have hix := HIX.out k hlt
      go_wp2_with fail
      go_round
      case rel => exact ⟨k + 1, by omega, by go_num⟩
      case measure => simp [intOf]; omega
    · have hdk : decide ((k : Int) < 8) = false := by rw [decide_eq_false_iff_not]; omega
      go_wp2
      go_ret
      exact ⟨rfl, (Below.refl _ _).alloc (Nat.le_refl _) _⟩
end Go.Proofs.YtpkfbmafbkgcmaaDoor

set_option linter.unusedVariables false
set_option linter.unusedSimpArgs false
namespace Go.Con
def metB (t n : Nat) (f : Nat → Bool) : Bool := decide (n + 8 < t) || (decide (n < t) && f (n + 8 - t))
def withF (t n : Nat) (f : Nat → Bool) : Nat → Bool := fun k => (decide (k + (max t (n + 1) - t) < 8) && f (k + (max t (n + 1) - t))) || decide (k + max t (n + 1) = n + 8)
/-- a channel's window tells just what was taken -/
structure Rep (t : Nat) (f : Nat → Bool) (T : Nat → Bool) : Prop where
  win : ∀ i, i < 8 → f i = (decide (8 ≤ t + i) && T (t + i - 8))
  lt : ∀ m, T m = true → m < t
  top : 0 < t → T (t - 1) = true
theorem Rep.ok {t : Nat} {f T : Nat → Bool} (h : Rep t f T) : SeenOk t f :=
  ⟨fun i hi hf => by rw [h.win i hi] at hf; simp at hf; exact hf.1, fun h0 => by
    rw [h.win 7 (by decide), show t + 7 - 8 = t - 1 by omega, h.top h0]; simp; omega⟩
theorem Rep.met {t : Nat} {f T : Nat → Bool} (h : Rep t f T) (n : Nat) : metB t n f = (decide (n + 8 < t) || T n) := by
  unfold metB
  by_cases h1 : n + 8 < t
  · simp [h1]
  · by_cases h2 : n < t
    · rw [h.win _ (by omega), show t + (n + 8 - t) - 8 = n by omega]
      simp [h1, h2]; intro _; omega
    · have h3 : T n = false := by
        cases hT : T n with
        | false => rfl
        | true => exact absurd (h.lt n hT) h2
      simp [h1, h2, h3]
theorem Rep.with' {t : Nat} {f T : Nat → Bool} (h : Rep t f T) (n : Nat) (hn : ¬ n + 8 < t) : Rep (max t (n + 1)) (withF t n f) (fun m => T m || decide (m = n)) := by
  refine ⟨fun i hi => ?_, fun m hm => ?_, fun h0 => ?_⟩
  · obtain ⟨t', ht'⟩ : ∃ t', t' = max t (n + 1) := ⟨_, rfl⟩
    unfold withF
    rw [← ht']
    have h1 : t ≤ t' := by omega
    have h2 : n + 1 ≤ t' := by omega
    by_cases hk : i + (t' - t) < 8
    · rw [h.win _ hk, show t + (i + (t' - t)) = t' + i by omega]
      by_cases h8 : 8 ≤ t' + i
      · by_cases hm : t' + i - 8 = n
        · have : i + t' = n + 8 := by omega
          simp [hk, h8, hm, this]
        · have : ¬ (i + t' = n + 8) := by omega
          simp [hk, h8, hm, this]
      · have : ¬ (i + t' = n + 8) := by omega
        simp [hk, h8, this]
    · have hT : T (t' + i - 8) = false := by
        cases hT : T (t' + i - 8) with
        | false => rfl
        | true => have := h.lt _ hT; omega
      by_cases h8 : 8 ≤ t' + i
      · by_cases hm : t' + i - 8 = n
        · have : i + t' = n + 8 := by omega
          simp [hk, h8, hm, this]
        · have : ¬ (i + t' = n + 8) := by omega
          simp [hk, h8, hm, this, hT]
      · omega
  · simp at hm
    rcases hm with hm | hm
    · have := h.lt m hm; omega
    · omega
  · by_cases h1 : t ≤ n
    · have : max t (n + 1) - 1 = n := by omega
      simp [this]
    · have : max t (n + 1) - 1 = t - 1 := by omega
      rw [this]
      simp [h.top (by omega)]
theorem Rep.none : Rep 0 (fun _ => false) (fun _ => false) := ⟨fun i hi => by simp, fun m hm => by simp at hm, fun h => by omega⟩
def gset (g : Nat → Bool) (k : Nat) : Nat → Bool := fun j => if j = k then true else g j
end Go.Con
namespace Go.Proofs.YtpkfbmafbkgcmaaDoor
open Go.RowKit Go.Con
set_option maxRecDepth 100000 in
set_option maxHeartbeats 2000000 in
theorem lineMet_any (kv : Value) (s : Int) (t n : Nat) (f : Nat → Bool) (w : World) (hk : kv.oneCell' = true) (ht : t ≤ 1073741824) (hn : n ≤ 4294967296) :
    Calls Tryd.prog 42 #[.agg #[kv, .int .i64 s, .int .i64 t, .bool (f 0), .bool (f 1), .bool (f 2), .bool (f 3), .bool (f 4), .bool (f 5), .bool (f 6), .bool (f 7)], .int .i64 n] w fun e w' => e = .returned (.bool (metB t n f)) ∧ Below w.heap.size w w' := by
  by_cases h1 : n + 8 < t
  · have e : metB t n f = true := by simp [metB, h1]
    rw [e]
    have d1 : decide ((n : Int) < (t : Int) - 8) = true := by rw [decide_eq_true_eq]; omega
    go_enter Tryd.func42, Tryd.ntmps42
    go_wp2
    go_ret
    exact ⟨rfl, (Below.refl _ _).alloc (Nat.le_refl _) _⟩
  · have d1 : decide ((n : Int) < (t : Int) - 8) = false := by rw [decide_eq_false_iff_not]; omega
    by_cases h2 : n < t
    · have d2 : decide ((n : Int) < (t : Int)) = true := by rw [decide_eq_true_eq]; omega
      have d2' : decide (n < t) = true := by rw [decide_eq_true_eq]; omega
      obtain ⟨k, hk⟩ : ∃ k, k = n + 8 - t := ⟨_, rfl⟩
      have e : metB t n f = f k := by simp [metB, h1, h2, hk]
      rw [e]
      have hx : (n : Int) - ((t : Int) - 8) = (k : Int) := by omega
      have hkw : IntKind.i64.wrap ((n : Int) - ((t : Int) - 8)) = (k : Int) := by rw [hx]; exact IntWalk.i64_in _ (by omega)
      have hk8 : k < 8 := by omega
      have hkt : n - (t - 8) = k ∨ t < 8 := by omega
      have hcell : ∀ (W : World), (W.alloc (.cells #[kv, .int .i64 s, .int .i64 t, .bool (f 0), .bool (f 1), .bool (f 2), .bool (f 3), .bool (f 4), .bool (f 5), .bool (f 6), .bool (f 7)] 42)).cell? ⟨W.heap.size, 3 + k, none⟩ = some (.bool (f k)) := fun W => by
        refine cellAt (heapNew W _) (3 + k) ?_
        have h8 : k = 0 ∨ k = 1 ∨ k = 2 ∨ k = 3 ∨ k = 4 ∨ k = 5 ∨ k = 6 ∨ k = 7 := by omega
        rcases h8 with h | h | h | h | h | h | h | h <;> (rw [h]; rfl)
      have hc := hcell w
      have HC := Lib.hid hcell
      have HX := Lib.hid hx
      obtain ⟨b, hb⟩ : ∃ b, b = f k := ⟨_, rfl⟩
      rw [← hb] at hc ⊢
      clear hcell e hk hkt hb
      go_enter Tryd.func42, Tryd.ntmps42
      go_wp2_with fail
      go_ret
      exact ⟨rfl, (Below.refl _ _).alloc (Nat.le_refl _) _⟩
    · have d2 : decide ((n : Int) < (t : Int)) = false := by rw [decide_eq_false_iff_not]; omega
      have d2' : decide (n < t) = false := by rw [decide_eq_false_iff_not]; omega
      have e : metB t n f = false := by simp [metB, h1, h2]
      rw [e]
      go_enter Tryd.func42, Tryd.ntmps42
      go_wp2
      go_ret
      exact ⟨rfl, (Below.refl _ _).alloc (Nat.le_refl _) _⟩
theorem own_frame {w2 wr W : World} {base b c kg n kcap : Nat} {key : List UInt8} (h : Own w2 base (.slice (some ⟨kg, 0, none⟩) n kcap) key) (hb : Below b w2 wr) (hk : kg < b) (hc : kg ≠ c) (hW : ∀ k, k ≠ b → k ≠ c → W.heap[k]? = wr.heap[k]?) : Own W base (.slice (some ⟨kg, 0, none⟩) n kcap) key :=
  h.ofHeap (fun k hk2 => by
    have e : kg = k := Option.some.inj hk2
    rw [← e, hW kg (by omega) hc]; exact hb.block kg hk)
theorem gsetRow (kv : Value) (s t : Int) (g : Nat → Bool) (k : Nat) (hk : k < 8) : (chanC kv s t g).toArray.setIfInBounds (3 + k) (.bool true) = (chanC kv s t (gset g k)).toArray := by
  have h8 : k = 0 ∨ k = 1 ∨ k = 2 ∨ k = 3 ∨ k = 4 ∨ k = 5 ∨ k = 6 ∨ k = 7 := by omega
  rcases h8 with rfl | rfl | rfl | rfl | rfl | rfl | rfl | rfl <;> rfl
set_option maxRecDepth 100000 in
set_option maxHeartbeats 4000000 in
theorem lineWith_any (a : Addr) (c : Nat) (key : List UInt8) (s t n : Nat) (f : Nat → Bool) (w : World) (hv : Rd w (.slice (some a) 32 c) key) (hkl : key.length = 32) (ht : t ≤ 1073741824) (hn : n ≤ 4294967296) (hnt : ¬ n + 8 < t) :
    Calls Tryd.prog 44 #[.agg #[.slice (some a) 32 c, .int .i64 s, .int .i64 t, .bool (f 0), .bool (f 1), .bool (f 2), .bool (f 3), .bool (f 4), .bool (f 5), .bool (f 6), .bool (f 7)], .int .i64 n] w
      fun e w' => ∃ kv, e = .returned (.agg (chanC kv s (max t (n + 1) : Nat) (withF t n f)).toArray) ∧ Own w' w.heap.size kv key ∧ Below w.heap.size w w' := by
  have HIX := Lib.hid (fun k hk W => cindex8 f k hk W)
  obtain ⟨T, hT⟩ : ∃ T, T = max t (n + 1) := ⟨_, rfl⟩
  obtain ⟨d, hd⟩ : ∃ d, d = T - t := ⟨_, rfl⟩
  have hTt : t ≤ T := by omega
  have hTn : n + 1 ≤ T := by omega
  have hTd : T = t + d := by omega
  have hTe : T = t ∨ T = n + 1 := by omega
  have hwf : ∀ k, k < 8 → withF t n f k = ((decide (k + d < 8) && f (k + d)) || decide (k + T = n + 8)) := fun k hk => by unfold withF; rw [← hT, ← hd]
  rw [← hT]
  have HV := Lib.hid hv
  have HKL := Lib.hid hkl
  have HWF := Lib.hid hwf
  have HTE := Lib.hid hTd
  obtain ⟨f0, hf0⟩ : ∃ b, b = f 0 := ⟨_, rfl⟩
  obtain ⟨f1, hf1⟩ : ∃ b, b = f 1 := ⟨_, rfl⟩
  obtain ⟨f2, hf2⟩ : ∃ b, b = f 2 := ⟨_, rfl⟩
  obtain ⟨f3, hf3⟩ : ∃ b, b = f 3 := ⟨_, rfl⟩
  obtain ⟨f4, hf4⟩ : ∃ b, b = f 4 := ⟨_, rfl⟩
  obtain ⟨f5, hf5⟩ : ∃ b, b = f 5 := ⟨_, rfl⟩
  obtain ⟨f6, hf6⟩ : ∃ b, b = f 6 := ⟨_, rfl⟩
  obtain ⟨f7, hf7⟩ : ∃ b, b = f 7 := ⟨_, rfl⟩
  rw [← hf0, ← hf1, ← hf2, ← hf3, ← hf4, ← hf5, ← hf6, ← hf7] at HIX ⊢
  clear hv hkl hwf hT hd hTd hf0 hf1 hf2 hf3 hf4 hf5 hf6 hf7
  go_enter Tryd.func44, Tryd.ntmps44
  go_wp2_with fail
  refine (own_any a c key s t f0 f1 f2 f3 f4 f5 f6 f7 _ ((HV.out.alloc _).alloc _) HKL.out).mono ?_
  rintro e w1 ⟨kv, rfl, hok, hb1⟩
  obtain ⟨kg, kcap, hkv, _, _, _, _⟩ := hok.shape (by intro h; have := HKL.out; rw [h] at this; cases this)
  rw [HKL.out] at hkv
  subst hkv
  have x1 := (hb1.block w.heap.size (by simp; omega)).trans (heapNew0 w (.cells #[.slice (some a) 32 c, .int .i64 s, .int .i64 t, .bool f0, .bool f1, .bool f2, .bool f3, .bool f4, .bool f5, .bool f6, .bool f7] 42) _)
  have y1 := (hb1.block (w.heap.size + 1) (by simp)).trans (heapNew1 w _ (.cells #[.slice none 0 0, .int .i64 0, .int .i64 0, .bool false, .bool false, .bool false, .bool false, .bool false, .bool false, .bool false, .bool false] 42))
  have B1 := Lib.hid ((((Below.refl w.heap.size w).alloc (Nat.le_refl _) _).alloc (by simp) _).trans (hb1.mono (by simp; omega)))
  have O1 := Lib.hid hok
  have z1 := lt_of_heap y1
  have X1 := Lib.hid x1
  have Y1 := Lib.hid y1
  have d2 : ∀ o, (w1.alloc o).cell? ⟨w.heap.size, 2, none⟩ = some (.int .i64 t) := fun o => (((Below.refl w1.heap.size w1).alloc (Nat.le_refl _) o).cell (p := ⟨w.heap.size, 2, none⟩) (lt_of_heap x1)).trans (cellAt x1 2 rfl)
  have d3 : ∀ o, (w1.alloc o).cell? ⟨w.heap.size, 3, none⟩ = some (.bool f0) := fun o => (((Below.refl w1.heap.size w1).alloc (Nat.le_refl _) o).cell (p := ⟨w.heap.size, 3, none⟩) (lt_of_heap x1)).trans (cellAt x1 3 rfl)
  have d4 : ∀ o, (w1.alloc o).cell? ⟨w.heap.size, 4, none⟩ = some (.bool f1) := fun o => (((Below.refl w1.heap.size w1).alloc (Nat.le_refl _) o).cell (p := ⟨w.heap.size, 4, none⟩) (lt_of_heap x1)).trans (cellAt x1 4 rfl)
  have d5 : ∀ o, (w1.alloc o).cell? ⟨w.heap.size, 5, none⟩ = some (.bool f2) := fun o => (((Below.refl w1.heap.size w1).alloc (Nat.le_refl _) o).cell (p := ⟨w.heap.size, 5, none⟩) (lt_of_heap x1)).trans (cellAt x1 5 rfl)
  have d6 : ∀ o, (w1.alloc o).cell? ⟨w.heap.size, 6, none⟩ = some (.bool f3) := fun o => (((Below.refl w1.heap.size w1).alloc (Nat.le_refl _) o).cell (p := ⟨w.heap.size, 6, none⟩) (lt_of_heap x1)).trans (cellAt x1 6 rfl)
  have d7 : ∀ o, (w1.alloc o).cell? ⟨w.heap.size, 7, none⟩ = some (.bool f4) := fun o => (((Below.refl w1.heap.size w1).alloc (Nat.le_refl _) o).cell (p := ⟨w.heap.size, 7, none⟩) (lt_of_heap x1)).trans (cellAt x1 7 rfl)
  have d8 : ∀ o, (w1.alloc o).cell? ⟨w.heap.size, 8, none⟩ = some (.bool f5) := fun o => (((Below.refl w1.heap.size w1).alloc (Nat.le_refl _) o).cell (p := ⟨w.heap.size, 8, none⟩) (lt_of_heap x1)).trans (cellAt x1 8 rfl)
  have d9 : ∀ o, (w1.alloc o).cell? ⟨w.heap.size, 9, none⟩ = some (.bool f6) := fun o => (((Below.refl w1.heap.size w1).alloc (Nat.le_refl _) o).cell (p := ⟨w.heap.size, 9, none⟩) (lt_of_heap x1)).trans (cellAt x1 9 rfl)
  have d10 : ∀ o, (w1.alloc o).cell? ⟨w.heap.size, 10, none⟩ = some (.bool f7) := fun o => (((Below.refl w1.heap.size w1).alloc (Nat.le_refl _) o).cell (p := ⟨w.heap.size, 10, none⟩) (lt_of_heap x1)).trans (cellAt x1 10 rfl)
  clear hok hb1 x1 y1
  have hkg := (O1.out.lt kg rfl)
  have KGN := Lib.hid (show w.heap.size + 1 < kg by have h := hkg.1; simp at h; omega)
  have key2 : ∀ (w2 : World), w2 = w1.alloc (.cells #[.slice (some ⟨kg, 0, none⟩) 32 kcap, .int .i64 s, .int .i64 T, .bool false, .bool false, .bool false, .bool false, .bool false, .bool false, .bool false, .bool false] 42) →
      w2.heap[w1.heap.size]? = some (.cells (chanC (.slice (some ⟨kg, 0, none⟩) 32 kcap) s T (fun _ => false)).toArray 42 (0, 0)) ∧ w2.heap[w.heap.size]? = some (.cells #[.slice (some a) 32 c, .int .i64 s, .int .i64 t, .bool f0, .bool f1, .bool f2, .bool f3, .bool f4, .bool f5, .bool f6, .bool f7] 42 (0, 0)) ∧ w2.heap[w.heap.size + 1]? = some (.cells #[.slice none 0 0, .int .i64 0, .int .i64 0, .bool false, .bool false, .bool false, .bool false, .bool false, .bool false, .bool false, .bool false] 42 (0, 0)) ∧ Below w.heap.size w w2 ∧ Own w2 w.heap.size (.slice (some ⟨kg, 0, none⟩) 32 kcap) key := fun w2 hw2 => by
    rw [hw2]
    exact ⟨heapNew w1 _, (heapOld _ _ _ (by omega)).trans X1.out, (heapOld _ _ _ z1).trans Y1.out, B1.out.alloc B1.out.size _, (O1.out.alloc _).mono (by simp; omega)⟩
  have KEY2 := Lib.hid key2
  have hkb : kg < w1.heap.size := hkg.2
  have hsb : w.heap.size + 1 < w1.heap.size := z1
  clear key2 hkg z1 X1 Y1 B1 O1
  by_cases hmx : (t : Int) < (n : Int) + 1
  · have hTn1 : (n : Int) + 1 = (T : Int) := by omega
    have HTN := Lib.hid hTn1
    clear hTn1
    go_wp2_with fail
    rw [HTN.out]
    obtain ⟨w2, hw2⟩ : ∃ w2, w2 = w1.alloc (.cells #[.slice (some ⟨kg, 0, none⟩) 32 kcap, .int .i64 s, .int .i64 T, .bool false, .bool false, .bool false, .bool false, .bool false, .bool false, .bool false, .bool false] 42) := ⟨_, rfl⟩
    rw [← hw2]
    have k2 := KEY2.out w2 hw2
    obtain ⟨b, hb⟩ : ∃ b, b = w1.heap.size := ⟨_, rfl⟩
    rw [← hb] at k2 hkb hsb ⊢
    have K2 := Lib.hid k2
    clear k2 hw2 hb d2 d3 d4 d5 d6 d7 d8 d9 d10
    go_loopw [21] (fun i wr => ∃ (k : Nat) (g : Nat → Bool), k ≤ 8 ∧ Hid (∀ j, j < 8 → g j = (decide (j + d < k) && f (j + d))) ∧ i = .int .i64 k ∧ wr.heap[b]? = some (.cells (chanC (.slice (some ⟨kg, 0, none⟩) 32 kcap) s T g).toArray 42 (0, 0)) ∧ Below b w2 wr) (fun i _ => 8 - (intOf i).toNat)
    case atStart => exact ⟨0, fun _ => false, by omega, Lib.hid (fun j hj => by simp), rfl, K2.out.1, Below.refl _ _⟩
    case round =>
      obtain ⟨k, g, hk, HG, rfl, hx, hbl⟩ := hrel
      have HX := Lib.hid hx
      have HB := Lib.hid hbl
      have hbox := (hbl.block w.heap.size (by omega)).trans K2.out.2.1
      by_cases hlt : k < 8
      · have hdk : decide ((k : Int) < 8) = true := by rw [decide_eq_true_eq]; omega
        have hix := HIX.out k hlt
        obtain ⟨v, hv⟩ : ∃ v, v = f k := ⟨_, rfl⟩
        rw [← hv] at hix
        have c2 := cellAt hbox 2 rfl
        have e2 : wr.cell? ⟨b, 2, none⟩ = some (.int .i64 (T : Int)) := cellAt hx 2 rfl
        have hrows : ∀ j, j < 8 → wr.cell? ⟨b, 3 + j, none⟩ = some (.bool (g j)) := fun j hj => by
          have h8 : j = 0 ∨ j = 1 ∨ j = 2 ∨ j = 3 ∨ j = 4 ∨ j = 5 ∨ j = 6 ∨ j = 7 := by omega
          rcases h8 with h | h | h | h | h | h | h | h <;> (rw [h]; exact cellAt hx _ rfl)
        have hTd := HTE.out
        by_cases hkd : d ≤ k
        · obtain ⟨j, hj⟩ : ∃ j, j = k - d := ⟨_, rfl⟩
          have hjk : (t : Int) + (k : Int) - (T : Int) = (j : Int) := by omega
          have hj8 : j < 8 := by omega
          have cj := hrows j hj8
          have fj := freeAt hx (3 + j)
          have HJ := Lib.hid hj
          have HV2 := Lib.hid hv
          cases v with
          | false =>
            have hg2 : ∀ i, i < 8 → g i = (decide (i + d < k + 1) && f (i + d)) := fun i hi => by
              rw [HG.out i hi]
              by_cases hik : i + d = k
              · rw [hik, ← HV2.out]; simp
              · rw [show decide (i + d < k + 1) = decide (i + d < k) by rw [decide_eq_decide]; omega]
            have HG2 := Lib.hid hg2
            clear hx hbl hbox hv hrows hj hg2 hTd
            go_wp2_with fail
            go_roundw
            case rel => exact ⟨k + 1, g, by omega, HG2, by go_num, HX.out, HB.out⟩
            case measure => simp [intOf]; omega
          | true =>
            have hg2 : ∀ i, i < 8 → gset g j i = (decide (i + d < k + 1) && f (i + d)) := fun i hi => by
              unfold gset
              by_cases hik : i = j
              · have : i + d = k := by omega
                rw [if_pos hik, this, ← HV2.out]; simp
              · rw [if_neg hik, HG.out i hi, show decide (i + d < k + 1) = decide (i + d < k) by rw [decide_eq_decide]; omega]
            have HG2 := Lib.hid hg2
            clear hx hbl hbox hv hrows hj hg2 hTd
            go_wp2_with fail
            go_roundw
            case rel =>
              refine ⟨k + 1, gset g j, by omega, HG2, by go_num, ?_, HB.out.setCell (Nat.le_refl _) _⟩
              rw [← gsetRow _ _ _ _ _ hj8]
              exact heapSet HX.out _
            case measure => simp [intOf]; omega
        · have hg2 : ∀ i, i < 8 → g i = (decide (i + d < k + 1) && f (i + d)) := fun i hi => by
            rw [HG.out i hi, show decide (i + d < k + 1) = decide (i + d < k) by rw [decide_eq_decide]; omega]
          have HG2 := Lib.hid hg2
          have hneg : decide ((0 : Int) ≤ (t : Int) + (k : Int) - (T : Int)) = false := by rw [decide_eq_false_iff_not]; omega
          have hneg2 : decide ((T : Int) ≤ (t : Int) + (k : Int)) = false := by rw [decide_eq_false_iff_not]; omega
          clear hx hbl hbox hv hrows hg2 hTd
          cases v with
          | false =>
            go_wp2_with fail
            go_roundw
            case rel => exact ⟨k + 1, g, by omega, HG2, by go_num, HX.out, HB.out⟩
            case measure => simp [intOf]; omega
          | true =>
            go_wp2_with fail
            go_roundw
            case rel => exact ⟨k + 1, g, by omega, HG2, by go_num, HX.out, HB.out⟩
            case measure => simp [intOf]; omega
      · have hdk : decide ((k : Int) < 8) = false := by rw [decide_eq_false_iff_not]; omega
        have hk8 : k = 8 := by omega
        obtain ⟨q, hq⟩ : ∃ q, q = n + 8 - T := ⟨_, rfl⟩
        have hqn : (n : Int) - ((T : Int) - 8) = (q : Int) := by omega
        have hq8 : q < 8 := by omega
        have e2 : wr.cell? ⟨b, 2, none⟩ = some (.int .i64 (T : Int)) := cellAt hx 2 rfl
        have cq : wr.cell? ⟨b, 3 + q, none⟩ = some (.bool (g q)) := by
          have h8 : q = 0 ∨ q = 1 ∨ q = 2 ∨ q = 3 ∨ q = 4 ∨ q = 5 ∨ q = 6 ∨ q = 7 := by omega
          rcases h8 with h | h | h | h | h | h | h | h <;> (rw [h]; exact cellAt hx _ rfl)
        have fq := freeAt hx (3 + q)
        have hg2 : ∀ i, i < 8 → gset g q i = withF t n f i := fun i hi => by
          rw [HWF.out i hi]
          unfold gset
          by_cases hiq : i = q
          · have : i + T = n + 8 := by omega
            rw [if_pos hiq]; simp [this]
          · have : ¬ (i + T = n + 8) := by omega
            rw [if_neg hiq, HG.out i hi, hk8]; simp [this]
        have hrow : (wr.setCell ⟨b, 3 + q, none⟩ (.bool true)).heap[b]? = some (.cells (chanC (.slice (some ⟨kg, 0, none⟩) 32 kcap) s T (withF t n f)).toArray 42 (0, 0)) := by
          have h := heapSet (o := 3 + q) hx (.bool true)
          rw [gsetRow _ _ _ _ _ hq8] at h
          rw [h]
          unfold chanC
          rw [hg2 0 (by decide), hg2 1 (by decide), hg2 2 (by decide), hg2 3 (by decide), hg2 4 (by decide), hg2 5 (by decide), hg2 6 (by decide), hg2 7 (by decide)]
        have hrg := range_of hrow
        have hz := (hbl.block (w.heap.size + 1) (by omega)).trans K2.out.2.2.1
        have hz2 := (heapSet_ne (3 + q) (.bool true) (w := wr) (b := b) (k := w.heap.size + 1) (by omega)).trans hz
        have hth : (wr.setCell ⟨b, 3 + q, none⟩ (.bool true)).there (w.heap.size + 1) 0 11 := there_of hz2 rfl
        have HTH := Lib.hid hth
        have HZ2 := Lib.hid hz2
        have HQ := Lib.hid hq
        clear hx hbl hbox hk8 hg2 hrow hz hz2 hth hq
        go_wp2_with (first
          | (refine wpList_load_mid rfl 42 (.tmp 5) rfl b 0 rfl (chanC (.slice (some ⟨kg, 0, none⟩) 32 kcap) s T (withF t n f)) _ hrg Tryd.underlying42 rfl chanSz ?_)
          | (refine wpList_store_mid rfl 42 (.tmp 4) (.tmp 48) rfl (w.heap.size + 1) 0 (chanC (.slice (some ⟨kg, 0, none⟩) 32 kcap) s T (withF t n f)).toArray rfl rfl HTH.out chanSz (chanOne _ _ _ _ rfl) ?_))
        have hst := storedRow (vs := chanC (.slice (some ⟨kg, 0, none⟩) 32 kcap) s T (withF t n f)) HZ2.out rfl
        have hl := run_loadVar_mid (P := Tryd.prog) _ (w.heap.size + 1) 0 42 _ _ (range_of hst) Tryd.underlying42 rfl chanSz
        refine bodyPost_ret (v := .agg (chanC (.slice (some ⟨kg, 0, none⟩) 32 kcap) s T (withF t n f)).toArray) (results_c Tryd.results44 rfl hl) rfl ⟨_, rfl, ?_, ?_⟩
        · exact own_frame (c := w.heap.size + 1) K2.out.2.2.2.2 HB.out hkb (by have := KGN.out; omega) (fun k h1 h2 => by rw [heap_setCells_ne h2, heapSet_ne _ _ h1])
        · exact below_setCells (by omega) _ _ _ ((K2.out.2.2.2.1.trans (HB.out.mono (by omega))).setCell (by show w.heap.size ≤ b; omega) _)
  · have hTn1 : (T : Int) = (t : Int) := by omega
    have HTN := Lib.hid hTn1
    clear hTn1
    go_wp2_with fail
    rw [show w1.alloc (.cells #[.slice (some ⟨kg, 0, none⟩) 32 kcap, .int .i64 s, .int .i64 t, .bool false, .bool false, .bool false, .bool false, .bool false, .bool false, .bool false, .bool false] 42) = w1.alloc (.cells #[.slice (some ⟨kg, 0, none⟩) 32 kcap, .int .i64 s, .int .i64 T, .bool false, .bool false, .bool false, .bool false, .bool false, .bool false, .bool false, .bool false] 42) by rw [HTN.out]]
    obtain ⟨w2, hw2⟩ : ∃ w2, w2 = w1.alloc (.cells #[.slice (some ⟨kg, 0, none⟩) 32 kcap, .int .i64 s, .int .i64 T, .bool false, .bool false, .bool false, .bool false, .bool false, .bool false, .bool false, .bool false] 42) := ⟨_, rfl⟩
    rw [← hw2]
    have k2 := KEY2.out w2 hw2
    obtain ⟨b, hb⟩ : ∃ b, b = w1.heap.size := ⟨_, rfl⟩
    rw [← hb] at k2 hkb hsb ⊢
    have K2 := Lib.hid k2
    clear k2 hw2 hb d2 d3 d4 d5 d6 d7 d8 d9 d10
    go_loopw [21] (fun i wr => ∃ (k : Nat) (g : Nat → Bool), k ≤ 8 ∧ Hid (∀ j, j < 8 → g j = (decide (j + d < k) && f (j + d))) ∧ i = .int .i64 k ∧ wr.heap[b]? = some (.cells (chanC (.slice (some ⟨kg, 0, none⟩) 32 kcap) s T g).toArray 42 (0, 0)) ∧ Below b w2 wr) (fun i _ => 8 - (intOf i).toNat)
    case atStart => exact ⟨0, fun _ => false, by omega, Lib.hid (fun j hj => by simp), rfl, K2.out.1, Below.refl _ _⟩
    case round =>
      obtain ⟨k, g, hk, HG, rfl, hx, hbl⟩ := hrel
      have HX := Lib.hid hx
      have HB := Lib.hid hbl
      have hbox := (hbl.block w.heap.size (by omega)).trans K2.out.2.1
      by_cases hlt : k < 8
      · have hdk : decide ((k : Int) < 8) = true := by rw [decide_eq_true_eq]; omega
        have hix := HIX.out k hlt
        obtain ⟨v, hv⟩ : ∃ v, v = f k := ⟨_, rfl⟩
        rw [← hv] at hix
        have c2 := cellAt hbox 2 rfl
        have e2 : wr.cell? ⟨b, 2, none⟩ = some (.int .i64 (T : Int)) := cellAt hx 2 rfl
        have hrows : ∀ j, j < 8 → wr.cell? ⟨b, 3 + j, none⟩ = some (.bool (g j)) := fun j hj => by
          have h8 : j = 0 ∨ j = 1 ∨ j = 2 ∨ j = 3 ∨ j = 4 ∨ j = 5 ∨ j = 6 ∨ j = 7 := by omega
          rcases h8 with h | h | h | h | h | h | h | h <;> (rw [h]; exact cellAt hx _ rfl)
        have hTd := HTE.out
        by_cases hkd : d ≤ k
        · obtain ⟨j, hj⟩ : ∃ j, j = k - d := ⟨_, rfl⟩
          have hjk : (t : Int) + (k : Int) - (T : Int) = (j : Int) := by omega
          have hj8 : j < 8 := by omega
          have cj := hrows j hj8
          have fj := freeAt hx (3 + j)
          have HJ := Lib.hid hj
          have HV2 := Lib.hid hv
          cases v with
          | false =>
            have hg2 : ∀ i, i < 8 → g i = (decide (i + d < k + 1) && f (i + d)) := fun i hi => by
              rw [HG.out i hi]
              by_cases hik : i + d = k
              · rw [hik, ← HV2.out]; simp
              · rw [show decide (i + d < k + 1) = decide (i + d < k) by rw [decide_eq_decide]; omega]
            have HG2 := Lib.hid hg2
            clear hx hbl hbox hv hrows hj hg2 hTd
            go_wp2_with fail
            go_roundw
            case rel => exact ⟨k + 1, g, by omega, HG2, by go_num, HX.out, HB.out⟩
            case measure => simp [intOf]; omega
          | true =>
            have hg2 : ∀ i, i < 8 → gset g j i = (decide (i + d < k + 1) && f (i + d)) := fun i hi => by
              unfold gset
              by_cases hik : i = j
              · have : i + d = k := by omega
                rw [if_pos hik, this, ← HV2.out]; simp
              · rw [if_neg hik, HG.out i hi, show decide (i + d < k + 1) = decide (i + d < k) by rw [decide_eq_decide]; omega]
            have HG2 := Lib.hid hg2
            clear hx hbl hbox hv hrows hj hg2 hTd
            go_wp2_with fail
            go_roundw
            case rel =>
              refine ⟨k + 1, gset g j, by omega, HG2, by go_num, ?_, HB.out.setCell (Nat.le_refl _) _⟩
              rw [← gsetRow _ _ _ _ _ hj8]
              exact heapSet HX.out _
            case measure => simp [intOf]; omega
        · have hg2 : ∀ i, i < 8 → g i = (decide (i + d < k + 1) && f (i + d)) := fun i hi => by
            rw [HG.out i hi, show decide (i + d < k + 1) = decide (i + d < k) by rw [decide_eq_decide]; omega]
          have HG2 := Lib.hid hg2
          have hneg : decide ((0 : Int) ≤ (t : Int) + (k : Int) - (T : Int)) = false := by rw [decide_eq_false_iff_not]; omega
          have hneg2 : decide ((T : Int) ≤ (t : Int) + (k : Int)) = false := by rw [decide_eq_false_iff_not]; omega
          clear hx hbl hbox hv hrows hg2 hTd
          cases v with
          | false =>
            go_wp2_with fail
            go_roundw
            case rel => exact ⟨k + 1, g, by omega, HG2, by go_num, HX.out, HB.out⟩
            case measure => simp [intOf]; omega
          | true =>
            go_wp2_with fail
            go_roundw
            case rel => exact ⟨k + 1, g, by omega, HG2, by go_num, HX.out, HB.out⟩
            case measure => simp [intOf]; omega
      · have hdk : decide ((k : Int) < 8) = false := by rw [decide_eq_false_iff_not]; omega
        have hk8 : k = 8 := by omega
        obtain ⟨q, hq⟩ : ∃ q, q = n + 8 - T := ⟨_, rfl⟩
        have hqn : (n : Int) - ((T : Int) - 8) = (q : Int) := by omega
        have hq8 : q < 8 := by omega
        have e2 : wr.cell? ⟨b, 2, none⟩ = some (.int .i64 (T : Int)) := cellAt hx 2 rfl
        have cq : wr.cell? ⟨b, 3 + q, none⟩ = some (.bool (g q)) := by
          have h8 : q = 0 ∨ q = 1 ∨ q = 2 ∨ q = 3 ∨ q = 4 ∨ q = 5 ∨ q = 6 ∨ q = 7 := by omega
          rcases h8 with h | h | h | h | h | h | h | h <;> (rw [h]; exact cellAt hx _ rfl)
        have fq := freeAt hx (3 + q)
        have hg2 : ∀ i, i < 8 → gset g q i = withF t n f i := fun i hi => by
          rw [HWF.out i hi]
          unfold gset
          by_cases hiq : i = q
          · have : i + T = n + 8 := by omega
            rw [if_pos hiq]; simp [this]
          · have : ¬ (i + T = n + 8) := by omega
            rw [if_neg hiq, HG.out i hi, hk8]; simp [this]
        have hrow : (wr.setCell ⟨b, 3 + q, none⟩ (.bool true)).heap[b]? = some (.cells (chanC (.slice (some ⟨kg, 0, none⟩) 32 kcap) s T (withF t n f)).toArray 42 (0, 0)) := by
          have h := heapSet (o := 3 + q) hx (.bool true)
          rw [gsetRow _ _ _ _ _ hq8] at h
          rw [h]
          unfold chanC
          rw [hg2 0 (by decide), hg2 1 (by decide), hg2 2 (by decide), hg2 3 (by decide), hg2 4 (by decide), hg2 5 (by decide), hg2 6 (by decide), hg2 7 (by decide)]
        have hrg := range_of hrow
        have hz := (hbl.block (w.heap.size + 1) (by omega)).trans K2.out.2.2.1
        have hz2 := (heapSet_ne (3 + q) (.bool true) (w := wr) (b := b) (k := w.heap.size + 1) (by omega)).trans hz
        have hth : (wr.setCell ⟨b, 3 + q, none⟩ (.bool true)).there (w.heap.size + 1) 0 11 := there_of hz2 rfl
        have HTH := Lib.hid hth
        have HZ2 := Lib.hid hz2
        have HQ := Lib.hid hq
        clear hx hbl hbox hk8 hg2 hrow hz hz2 hth hq
        go_wp2_with (first
          | (refine wpList_load_mid rfl 42 (.tmp 5) rfl b 0 rfl (chanC (.slice (some ⟨kg, 0, none⟩) 32 kcap) s T (withF t n f)) _ hrg Tryd.underlying42 rfl chanSz ?_)
          | (refine wpList_store_mid rfl 42 (.tmp 4) (.tmp 48) rfl (w.heap.size + 1) 0 (chanC (.slice (some ⟨kg, 0, none⟩) 32 kcap) s T (withF t n f)).toArray rfl rfl HTH.out chanSz (chanOne _ _ _ _ rfl) ?_))
        have hst := storedRow (vs := chanC (.slice (some ⟨kg, 0, none⟩) 32 kcap) s T (withF t n f)) HZ2.out rfl
        have hl := run_loadVar_mid (P := Tryd.prog) _ (w.heap.size + 1) 0 42 _ _ (range_of hst) Tryd.underlying42 rfl chanSz
        refine bodyPost_ret (v := .agg (chanC (.slice (some ⟨kg, 0, none⟩) 32 kcap) s T (withF t n f)).toArray) (results_c Tryd.results44 rfl hl) rfl ⟨_, rfl, ?_, ?_⟩
        · exact own_frame (c := w.heap.size + 1) K2.out.2.2.2.2 HB.out hkb (by have := KGN.out; omega) (fun k h1 h2 => by rw [heap_setCells_ne h2, heapSet_ne _ _ h1])
        · exact below_setCells (by omega) _ _ _ ((K2.out.2.2.2.1.trans (HB.out.mono (by omega))).setCell (by show w.heap.size ≤ b; omega) _)
end Go.Proofs.YtpkfbmafbkgcmaaDoor

set_option linter.unusedVariables false
set_option linter.unusedSimpArgs false
namespace Go.Con
/-- the record of a number -/
def recB (key : List UInt8) (s : Nat) (plain : List UInt8) : List UInt8 := Go.Proofs.YtpkfbmafbkgcmaaDoor.fourN s ++ Sea.boxed key (Go.Proofs.YtpkfbmafbkgcmaaDoor.nonceN (Go.Proofs.YtpkfbmafbkgcmaaDoor.fourN s)) (Go.Proofs.YtpkfbmafbkgcmaaDoor.fourN s) plain
theorem recB_length (key : List UInt8) (s : Nat) (plain : List UInt8) : (recB key s plain).length = plain.length + 20 := by
  simp [recB, Sea.boxed_length, Go.Proofs.YtpkfbmafbkgcmaaDoor.fourN]
end Go.Con
namespace Go.Proofs.YtpkfbmafbkgcmaaDoor
open Go.RowKit Go.Con
theorem grown_other {w w' : World} {g n c b : Nat} {v : Value} {o : Obj} (h : w.grownBy w' v.ownBlock) (hv : v = .slice (some ⟨g, 0, none⟩) n c) (hne : g ≠ b) (ho : w.heap[b]? = some o) : w'.heap[b]? = some o := by
  subst hv
  exact (h.block b (lt_of_heap ho) (fun e => hne (Option.some.inj e).symm)).trans ho
theorem cell_ne {w : World} {c b o k : Nat} {v : Value} (h : c ≠ b) : (w.setCell ⟨c, o, none⟩ v).cell? ⟨b, k, none⟩ = w.cell? ⟨b, k, none⟩ :=
  World.cell?_of_block (w := w) (heapSet_ne o v (fun e => h e.symm))
theorem keep11 {W : World} {c b : Nat} {x0 x1 x2 x3 x4 x5 x6 x7 x8 x9 x10 v0 v1 v2 v3 v4 v5 v6 v7 v8 v9 v10 : Value} (hne : c ≠ b) (h : W.cell? ⟨b, 0, none⟩ = some x0 ∧ W.cell? ⟨b, 1, none⟩ = some x1 ∧ W.cell? ⟨b, 2, none⟩ = some x2 ∧ W.cell? ⟨b, 3, none⟩ = some x3 ∧ W.cell? ⟨b, 4, none⟩ = some x4 ∧ W.cell? ⟨b, 5, none⟩ = some x5 ∧ W.cell? ⟨b, 6, none⟩ = some x6 ∧ W.cell? ⟨b, 7, none⟩ = some x7 ∧ W.cell? ⟨b, 8, none⟩ = some x8 ∧ W.cell? ⟨b, 9, none⟩ = some x9 ∧ W.cell? ⟨b, 10, none⟩ = some x10) :
    (((((((((((W.setCell ⟨c, 0, none⟩ v0).setCell ⟨c, 1, none⟩ v1).setCell ⟨c, 2, none⟩ v2).setCell ⟨c, 3, none⟩ v3).setCell ⟨c, 4, none⟩ v4).setCell ⟨c, 5, none⟩ v5).setCell ⟨c, 6, none⟩ v6).setCell ⟨c, 7, none⟩ v7).setCell ⟨c, 8, none⟩ v8).setCell ⟨c, 9, none⟩ v9).setCell ⟨c, 10, none⟩ v10).cell? ⟨b, 0, none⟩ = some x0 ∧ (((((((((((W.setCell ⟨c, 0, none⟩ v0).setCell ⟨c, 1, none⟩ v1).setCell ⟨c, 2, none⟩ v2).setCell ⟨c, 3, none⟩ v3).setCell ⟨c, 4, none⟩ v4).setCell ⟨c, 5, none⟩ v5).setCell ⟨c, 6, none⟩ v6).setCell ⟨c, 7, none⟩ v7).setCell ⟨c, 8, none⟩ v8).setCell ⟨c, 9, none⟩ v9).setCell ⟨c, 10, none⟩ v10).cell? ⟨b, 1, none⟩ = some x1 ∧ (((((((((((W.setCell ⟨c, 0, none⟩ v0).setCell ⟨c, 1, none⟩ v1).setCell ⟨c, 2, none⟩ v2).setCell ⟨c, 3, none⟩ v3).setCell ⟨c, 4, none⟩ v4).setCell ⟨c, 5, none⟩ v5).setCell ⟨c, 6, none⟩ v6).setCell ⟨c, 7, none⟩ v7).setCell ⟨c, 8, none⟩ v8).setCell ⟨c, 9, none⟩ v9).setCell ⟨c, 10, none⟩ v10).cell? ⟨b, 2, none⟩ = some x2 ∧ (((((((((((W.setCell ⟨c, 0, none⟩ v0).setCell ⟨c, 1, none⟩ v1).setCell ⟨c, 2, none⟩ v2).setCell ⟨c, 3, none⟩ v3).setCell ⟨c, 4, none⟩ v4).setCell ⟨c, 5, none⟩ v5).setCell ⟨c, 6, none⟩ v6).setCell ⟨c, 7, none⟩ v7).setCell ⟨c, 8, none⟩ v8).setCell ⟨c, 9, none⟩ v9).setCell ⟨c, 10, none⟩ v10).cell? ⟨b, 3, none⟩ = some x3 ∧ (((((((((((W.setCell ⟨c, 0, none⟩ v0).setCell ⟨c, 1, none⟩ v1).setCell ⟨c, 2, none⟩ v2).setCell ⟨c, 3, none⟩ v3).setCell ⟨c, 4, none⟩ v4).setCell ⟨c, 5, none⟩ v5).setCell ⟨c, 6, none⟩ v6).setCell ⟨c, 7, none⟩ v7).setCell ⟨c, 8, none⟩ v8).setCell ⟨c, 9, none⟩ v9).setCell ⟨c, 10, none⟩ v10).cell? ⟨b, 4, none⟩ = some x4 ∧ (((((((((((W.setCell ⟨c, 0, none⟩ v0).setCell ⟨c, 1, none⟩ v1).setCell ⟨c, 2, none⟩ v2).setCell ⟨c, 3, none⟩ v3).setCell ⟨c, 4, none⟩ v4).setCell ⟨c, 5, none⟩ v5).setCell ⟨c, 6, none⟩ v6).setCell ⟨c, 7, none⟩ v7).setCell ⟨c, 8, none⟩ v8).setCell ⟨c, 9, none⟩ v9).setCell ⟨c, 10, none⟩ v10).cell? ⟨b, 5, none⟩ = some x5 ∧ (((((((((((W.setCell ⟨c, 0, none⟩ v0).setCell ⟨c, 1, none⟩ v1).setCell ⟨c, 2, none⟩ v2).setCell ⟨c, 3, none⟩ v3).setCell ⟨c, 4, none⟩ v4).setCell ⟨c, 5, none⟩ v5).setCell ⟨c, 6, none⟩ v6).setCell ⟨c, 7, none⟩ v7).setCell ⟨c, 8, none⟩ v8).setCell ⟨c, 9, none⟩ v9).setCell ⟨c, 10, none⟩ v10).cell? ⟨b, 6, none⟩ = some x6 ∧ (((((((((((W.setCell ⟨c, 0, none⟩ v0).setCell ⟨c, 1, none⟩ v1).setCell ⟨c, 2, none⟩ v2).setCell ⟨c, 3, none⟩ v3).setCell ⟨c, 4, none⟩ v4).setCell ⟨c, 5, none⟩ v5).setCell ⟨c, 6, none⟩ v6).setCell ⟨c, 7, none⟩ v7).setCell ⟨c, 8, none⟩ v8).setCell ⟨c, 9, none⟩ v9).setCell ⟨c, 10, none⟩ v10).cell? ⟨b, 7, none⟩ = some x7 ∧ (((((((((((W.setCell ⟨c, 0, none⟩ v0).setCell ⟨c, 1, none⟩ v1).setCell ⟨c, 2, none⟩ v2).setCell ⟨c, 3, none⟩ v3).setCell ⟨c, 4, none⟩ v4).setCell ⟨c, 5, none⟩ v5).setCell ⟨c, 6, none⟩ v6).setCell ⟨c, 7, none⟩ v7).setCell ⟨c, 8, none⟩ v8).setCell ⟨c, 9, none⟩ v9).setCell ⟨c, 10, none⟩ v10).cell? ⟨b, 8, none⟩ = some x8 ∧ (((((((((((W.setCell ⟨c, 0, none⟩ v0).setCell ⟨c, 1, none⟩ v1).setCell ⟨c, 2, none⟩ v2).setCell ⟨c, 3, none⟩ v3).setCell ⟨c, 4, none⟩ v4).setCell ⟨c, 5, none⟩ v5).setCell ⟨c, 6, none⟩ v6).setCell ⟨c, 7, none⟩ v7).setCell ⟨c, 8, none⟩ v8).setCell ⟨c, 9, none⟩ v9).setCell ⟨c, 10, none⟩ v10).cell? ⟨b, 9, none⟩ = some x9 ∧ (((((((((((W.setCell ⟨c, 0, none⟩ v0).setCell ⟨c, 1, none⟩ v1).setCell ⟨c, 2, none⟩ v2).setCell ⟨c, 3, none⟩ v3).setCell ⟨c, 4, none⟩ v4).setCell ⟨c, 5, none⟩ v5).setCell ⟨c, 6, none⟩ v6).setCell ⟨c, 7, none⟩ v7).setCell ⟨c, 8, none⟩ v8).setCell ⟨c, 9, none⟩ v9).setCell ⟨c, 10, none⟩ v10).cell? ⟨b, 10, none⟩ = some x10 := by
  simp only [cell_ne hne]
  exact h
theorem results_ctt {P : Program} {fn : Func} {tmps : Array Value} {w : World} {a b c : Nat} {t : TypeId} {ad : Addr} {v : Value} (hr : fn.results = #[.cell a t, .tmp b, .tmp c]) (ht : tmps.getD a undef = .pointer (some ad))
    (hl : (loadVar t ad).run P w = .ok v w) : (results fn tmps).run P w = .ok (.tuple #[v, tmps.getD b undef, tmps.getD c undef]) w := by
  unfold results
  rw [hr]
  simp only [Array.getD_eq_getD_getElem?] at ht
  generalize loadVar = L at hl ⊢
  simp [ht, hl, go_sem]
/-- what sending leaves -/
def SendPost (w : World) (key : List UInt8) (s t : Nat) (f : Nat → Bool) (r : List UInt8) (e : Ending) (w' : World) : Prop :=
  ∃ kv rv, e = .returned (.tuple #[.agg (chanC kv (s : Nat) t f).toArray, rv, .int .i64 0]) ∧ Own w' w.heap.size kv key ∧ Own w' w.heap.size rv r ∧ Below w.heap.size w w'
set_option maxRecDepth 100000 in
set_option maxHeartbeats 4000000 in
theorem Send_ok (a : Addr) (c : Nat) (pv : Value) (key plain : List UInt8) (s t : Nat) (f : Nat → Bool) (w : World) (hv : Rd w (.slice (some a) 32 c) key) (hp : Rd w pv plain) (hkl : key.length = 32) (hpl : plain.length ≤ 2000) (hs : s < 1073741824) (ht : t ≤ 1073741824) (hf : SeenOk t f) :
    Calls Tryd.prog 15 #[.agg #[.slice (some a) 32 c, .int .i64 s, .int .i64 t, .bool (f 0), .bool (f 1), .bool (f 2), .bool (f 3), .bool (f 4), .bool (f 5), .bool (f 6), .bool (f 7)], pv] w (SendPost w key (s + 1) t f (recB key s plain)) := by
  obtain ⟨m, hm⟩ : ∃ m, plain.length = m := ⟨_, rfl⟩
  obtain ⟨pa, pc, rfl, _, _⟩ := hp.sliceN m hm
  have hml : m ≤ 2000 := by omega
  have hck := fun w => lineCheck_ok (some a) c s t f w (by omega) ht hf
  have HCK := Lib.hid hck
  obtain ⟨H, hH⟩ : ∃ H, H = fourN s := ⟨_, rfl⟩
  obtain ⟨N, hN⟩ : ∃ N, N = nonceN H := ⟨_, rfl⟩
  have hHl : H.length = 4 := by rw [hH]; rfl
  have hNl : N.length = 12 := by rw [hN, hH]; rfl
  obtain ⟨X, hX⟩ : ∃ X, X = Sea.boxed key N H plain := ⟨_, rfl⟩
  have hXl : X.length = m + 16 := by rw [hX, Sea.boxed_length, hm]
  have hrec : recB key s plain = H ++ X := by rw [recB, hX, hN, hH]
  have hseal := fun kv nv av pv w h1 h2 h3 h4 => Seal_ok kv nv av pv key N H plain w h1 h2 h3 h4 hkl hNl (by omega) hpl
  rw [← hX] at hseal
  have hfour := fun w => lineFour_any s w (by omega)
  rw [← hH] at hfour
  have hnon := fun v w h => lineNonce_any v H w h hHl
  rw [← hN] at hnon
  rw [hrec]
  have hSP : ∀ (W : World) (kv : Value), (chanC kv ((s + 1 : Nat) : Int) t f) = [kv, .int .i64 ((s : Int) + 1), .int .i64 t, .bool (f 0), .bool (f 1), .bool (f 2), .bool (f 3), .bool (f 4), .bool (f 5), .bool (f 6), .bool (f 7)] := fun _ _ => rfl
  unfold SendPost
  unfold chanC
  obtain ⟨f0, hf0⟩ : ∃ b, b = f 0 := ⟨_, rfl⟩
  obtain ⟨f1, hf1⟩ : ∃ b, b = f 1 := ⟨_, rfl⟩
  obtain ⟨f2, hf2⟩ : ∃ b, b = f 2 := ⟨_, rfl⟩
  obtain ⟨f3, hf3⟩ : ∃ b, b = f 3 := ⟨_, rfl⟩
  obtain ⟨f4, hf4⟩ : ∃ b, b = f 4 := ⟨_, rfl⟩
  obtain ⟨f5, hf5⟩ : ∃ b, b = f 5 := ⟨_, rfl⟩
  obtain ⟨f6, hf6⟩ : ∃ b, b = f 6 := ⟨_, rfl⟩
  obtain ⟨f7, hf7⟩ : ∃ b, b = f 7 := ⟨_, rfl⟩
  rw [← hf0, ← hf1, ← hf2, ← hf3, ← hf4, ← hf5, ← hf6, ← hf7] at HCK ⊢
  have HV := Lib.hid hv
  have HP := Lib.hid hp
  have HKL := Lib.hid hkl
  have HSEAL := Lib.hid hseal
  have HFOUR := Lib.hid hfour
  have HNON := Lib.hid hnon
  have HHL := Lib.hid hHl
  have HXL := Lib.hid hXl
  have d2000 : decide ((2000 : Int) < (m : Int)) = false := by rw [decide_eq_false_iff_not]; omega
  have hsn : ((s : Int) == 1073741824) = false := by rw [beq_eq_false_iff_ne]; omega
  clear hv hp hkl hpl hm hck hH hN hHl hNl hX hXl hrec hseal hfour hnon hSP hf hf0 hf1 hf2 hf3 hf4 hf5 hf6 hf7
  go_enter Tryd.func15, Tryd.ntmps15
  go_wp2_with fail
  refine (HCK.out _).mono ?_
  rintro e w1 ⟨rfl, hb1⟩
  have x1 := (hb1.block w.heap.size (by simp; omega)).trans (heapNew0 w (.cells #[.slice (some a) 32 c, .int .i64 s, .int .i64 t, .bool f0, .bool f1, .bool f2, .bool f3, .bool f4, .bool f5, .bool f6, .bool f7] 42) _)
  have y1 := (hb1.block (w.heap.size + 1) (by simp)).trans (heapNew1 w _ (.cells #[.slice none 0 0, .int .i64 0, .int .i64 0, .bool false, .bool false, .bool false, .bool false, .bool false, .bool false, .bool false, .bool false] 42))
  have b1 := (((Below.refl w.heap.size w).alloc (Nat.le_refl _) _).alloc (by simp) _).trans (hb1.mono (by simp; omega))
  have z1 := lt_of_heap y1
  have X1 := Lib.hid x1
  have Y1 := Lib.hid y1
  have B1 := Lib.hid b1
  have c1 := cellAt x1 1 rfl
  clear hb1 x1 y1 b1
  go_wp2_with fail
  refine (HFOUR.out _).mono ?_
  rintro e w2 ⟨g, rfl, hg, hoh, hb2⟩
  have x2 := (hb2.block w.heap.size (by omega)).trans X1.out
  have X2 := Lib.hid x2
  have Y2 := Lib.hid ((hb2.block (w.heap.size + 1) z1).trans Y1.out)
  have B2 := Lib.hid (B1.out.trans (hb2.mono B1.out.size))
  have RH2 := Lib.hid hoh.rd
  have OH2 := Lib.hid hoh
  have RP2 := Lib.hid (HP.out.stay B2.out)
  have RV2 := Lib.hid (HV.out.stay B2.out)
  have k0 : w2.cell? ⟨w.heap.size, 0, none⟩ = some (.slice (some a) 32 c) := cellAt x2 0 rfl
  have s2 := hb2.size
  have G2 := Lib.hid hg
  have GL := Lib.hid (hoh.lt g rfl).2
  have L2 := Lib.hid (lt_of_heap x2)
  clear hb2 x2 hoh c1 X1 Y1
  go_wp2_with fail
  go_region_held3 (fun w' => w'.cell? ⟨w.heap.size, 0, none⟩ = some (.slice (some a) 32 c)) (first | exact k0 | assumption) (first
    | (go_at_call 29; refine (HNON.out _ _ (RH2.out.drewN 1)).mono ?_; rintro e w3 ⟨vn, rfl, hon, hb3⟩; have RN3 := Lib.hid hon.rd; have B3 := Lib.hid hb3; have k3 : w3.cell? ⟨w.heap.size, 0, none⟩ = some (.slice (some a) 32 c) := (hb3.cell (p := ⟨w.heap.size, 0, none⟩) L2.out).trans k0; clear hon hb3)
    | (go_at_call 28; refine (HSEAL.out _ _ _ _ _ ((RV2.out.drewN 1).stay B3.out) RN3.out ((RH2.out.drewN 1).stay B3.out) ((RP2.out.drewN 1).stay B3.out)).mono ?_; rintro e w4 ⟨vx, rfl, hox, hb4⟩; have OX4 := Lib.hid hox; have B4 := Lib.hid hb4; have k4 : w4.cell? ⟨w.heap.size, 0, none⟩ = some (.slice (some a) 32 c) := (hb4.cell (p := ⟨w.heap.size, 0, none⟩) (Nat.lt_of_lt_of_le L2.out B3.out.size)).trans k3; clear hox hb4))
  have B24 := Lib.hid (show Below w2.heap.size w2 w4 from (below_drewN (Below.refl w2.heap.size w2) 1).trans (B3.out.trans (B4.out.mono B3.out.size)))
  have x4 := (B24.out.block w.heap.size L2.out).trans X2.out
  have y4 := (B24.out.block (w.heap.size + 1) (lt_of_heap Y2.out)).trans Y2.out
  have hrg := range_of (cs := [.slice (some a) 32 c, .int .i64 s, .int .i64 t, .bool f0, .bool f1, .bool f2, .bool f3, .bool f4, .bool f5, .bool f6, .bool f7]) x4
  have Y4 := Lib.hid y4
  have B0 := Lib.hid (B2.out.trans (B24.out.mono B2.out.size))
  have RV4 := Lib.hid (RV2.out.stay B24.out)
  have OH4 := Lib.hid (OH2.out.below B24.out (fun k hk => (OH2.out.lt k hk).2))
  have RX4 := Lib.hid OX4.out.rd
  clear x4 y4 k0 k3 k4 RN3 B3 B4 RH2 RP2 RV2 OH2 OX4
  go_wp2_with (refine wpList_load_mid rfl 42 (.tmp 2) rfl w.heap.size 0 rfl [.slice (some a) 32 c, .int .i64 s, .int .i64 t, .bool f0, .bool f1, .bool f2, .bool f3, .bool f4, .bool f5, .bool f6, .bool f7] _ hrg Tryd.underlying42 rfl chanSz ?_)
  refine (own_any a c key s t f0 f1 f2 f3 f4 f5 f6 f7 _ RV4.out HKL.out).mono ?_
  rintro e w5 ⟨kv, rfl, hok, hb5⟩
  obtain ⟨kg, kcap, hkv, _, _, _, _⟩ := hok.shape (by intro h; have := HKL.out; rw [h] at this; cases this)
  rw [HKL.out] at hkv
  subst hkv
  have OK5 := Lib.hid hok
  have B5 := Lib.hid (B0.out.trans (hb5.mono B0.out.size))
  have B45 := Lib.hid hb5.size
  have Y5 := Lib.hid ((hb5.block (w.heap.size + 1) (lt_of_heap Y4.out)).trans Y4.out)
  have OH5 := Lib.hid (OH4.out.below hb5 (fun k hk => (OH4.out.lt k hk).2))
  have RX5 := Lib.hid (RX4.out.stay hb5)
  clear hok hb5 hrg RX4 OH4 Y4 RV4
  go_wp2_with fail
  obtain ⟨w6, hw6⟩ : ∃ w6, w6 = w5.alloc (.cells #[.slice (some ⟨kg, 0, none⟩) 32 kcap, .int .i64 ((s : Int) + 1), .int .i64 t, .bool f0, .bool f1, .bool f2, .bool f3, .bool f4, .bool f5, .bool f6, .bool f7] 42) := ⟨_, rfl⟩
  rw [← hw6]
  obtain ⟨b, hb⟩ : ∃ b, b = w5.heap.size := ⟨_, rfl⟩
  have hgb : g < b := by rw [hb]; exact (OH5.out.lt g rfl).2
  have hyb : w.heap.size + 1 < b := by rw [hb]; exact lt_of_heap Y5.out
  have hgw : w.heap.size + 1 < g := by have := G2.out; omega
  have x6 : w6.heap[b]? = some (.cells [.slice (some ⟨kg, 0, none⟩) 32 kcap, .int .i64 ((s : Int) + 1), .int .i64 t, .bool f0, .bool f1, .bool f2, .bool f3, .bool f4, .bool f5, .bool f6, .bool f7].toArray 42 (0, 0)) := by rw [hw6, hb]; exact heapNew w5 _
  have y6 := (show w6.heap[w.heap.size + 1]? = w5.heap[w.heap.size + 1]? by rw [hw6]; exact heapOld _ _ _ (lt_of_heap Y5.out)).trans Y5.out
  have HX6 := Lib.hid x6
  have HY6 := Lib.hid y6
  have hrg := range_of x6
  have B6 := Lib.hid (show Below w.heap.size w w6 by rw [hw6]; exact B5.out.alloc B5.out.size _)
  have OH6 := Lib.hid (show Own w6 w1.heap.size (.slice (some ⟨g, 0, none⟩) 4 4) H by rw [hw6]; exact OH5.out.alloc _)
  have RX6 := Lib.hid (show Rd w6 vx X by rw [hw6]; exact RX5.out.alloc _)
  have OK6 := Lib.hid (show Own w6 w.heap.size (.slice (some ⟨kg, 0, none⟩) 32 kcap) key by rw [hw6]; exact (OK5.out.mono B0.out.size).alloc _)
  have KG := Lib.hid (show w4.heap.size ≤ kg ∧ kg < b by rw [hb]; exact OK5.out.lt kg rfl)
  have HG4 := Lib.hid (show g < w4.heap.size from Nat.lt_of_lt_of_le (GL.out) B24.out.size)
  have GNB := Lib.hid (show g ≠ b by omega)
  have GNY := Lib.hid (show g ≠ w.heap.size + 1 by omega)
  have hlenX : H.length + X.length ≤ 140737488355328 := by rw [HHL.out, HXL.out]; omega
  have HLX := Lib.hid hlenX
  have HS1 := Lib.hid (show w1.heap.size ≤ w6.heap.size from Nat.le_trans s2 (Nat.le_trans B24.out.size (by rw [hw6]; simp; have := B45.out; omega)))
  have hs1x : w1.heap.size ≤ w6.heap.size := Nat.le_trans s2 (Nat.le_trans B24.out.size (by rw [hw6]; simp; have := B45.out; omega))
  have hS6 : w6.cell? ⟨b, 0, none⟩ = some (.slice (some ⟨kg, 0, none⟩) 32 kcap) ∧ w6.cell? ⟨b, 1, none⟩ = some (.int .i64 ((s : Int) + 1)) ∧ w6.cell? ⟨b, 2, none⟩ = some (.int .i64 t) ∧ w6.cell? ⟨b, 3, none⟩ = some (.bool f0) ∧ w6.cell? ⟨b, 4, none⟩ = some (.bool f1) ∧ w6.cell? ⟨b, 5, none⟩ = some (.bool f2) ∧ w6.cell? ⟨b, 6, none⟩ = some (.bool f3) ∧ w6.cell? ⟨b, 7, none⟩ = some (.bool f4) ∧ w6.cell? ⟨b, 8, none⟩ = some (.bool f5) ∧ w6.cell? ⟨b, 9, none⟩ = some (.bool f6) ∧ w6.cell? ⟨b, 10, none⟩ = some (.bool f7) := ⟨cellAt x6 0 rfl, cellAt x6 1 rfl, cellAt x6 2 rfl, cellAt x6 3 rfl, cellAt x6 4 rfl, cellAt x6 5 rfl, cellAt x6 6 rfl, cellAt x6 7 rfl, cellAt x6 8 rfl, cellAt x6 9 rfl, cellAt x6 10 rfl⟩
  have hS6d : w6.drew.cell? ⟨b, 0, none⟩ = some (.slice (some ⟨kg, 0, none⟩) 32 kcap) ∧ w6.drew.cell? ⟨b, 1, none⟩ = some (.int .i64 ((s : Int) + 1)) ∧ w6.drew.cell? ⟨b, 2, none⟩ = some (.int .i64 t) ∧ w6.drew.cell? ⟨b, 3, none⟩ = some (.bool f0) ∧ w6.drew.cell? ⟨b, 4, none⟩ = some (.bool f1) ∧ w6.drew.cell? ⟨b, 5, none⟩ = some (.bool f2) ∧ w6.drew.cell? ⟨b, 6, none⟩ = some (.bool f3) ∧ w6.drew.cell? ⟨b, 7, none⟩ = some (.bool f4) ∧ w6.drew.cell? ⟨b, 8, none⟩ = some (.bool f5) ∧ w6.drew.cell? ⟨b, 9, none⟩ = some (.bool f6) ∧ w6.drew.cell? ⟨b, 10, none⟩ = some (.bool f7) := hS6
  have hcb : w.heap.size + 1 ≠ b := by omega
  rw [← hb]
  clear hlenX hs1x x6 y6 hw6 hb Y5 OH5 RX5 OK5 B5
  go_region_held3 (fun w' => w'.cell? ⟨b, 0, none⟩ = some (.slice (some ⟨kg, 0, none⟩) 32 kcap) ∧ w'.cell? ⟨b, 1, none⟩ = some (.int .i64 ((s : Int) + 1)) ∧ w'.cell? ⟨b, 2, none⟩ = some (.int .i64 t) ∧ w'.cell? ⟨b, 3, none⟩ = some (.bool f0) ∧ w'.cell? ⟨b, 4, none⟩ = some (.bool f1) ∧ w'.cell? ⟨b, 5, none⟩ = some (.bool f2) ∧ w'.cell? ⟨b, 6, none⟩ = some (.bool f3) ∧ w'.cell? ⟨b, 7, none⟩ = some (.bool f4) ∧ w'.cell? ⟨b, 8, none⟩ = some (.bool f5) ∧ w'.cell? ⟨b, 9, none⟩ = some (.bool f6) ∧ w'.cell? ⟨b, 10, none⟩ = some (.bool f7)) (first | with_reducible exact hS6 | with_reducible exact hS6d | with_reducible exact hS7 | with_reducible exact keep11 hcb hS7 | with_reducible assumption) (first
    | (refine step_apB rfl (.tmp 49) (.tmp 50) rfl w1.heap.size _ _ H X rfl (OH6.out.drewN 1) rfl (RX6.out.drewN 1) HLX.out HS1.out ?_; intro v7 w7 ho7 hg7; have O7 := Lib.hid ho7; have G7 := Lib.hid hg7; have x7 := grown_other hg7 rfl GNB.out HX6.out; have y7 := grown_other hg7 rfl GNY.out HY6.out; have hS7 : w7.cell? ⟨b, 0, none⟩ = some (.slice (some ⟨kg, 0, none⟩) 32 kcap) ∧ w7.cell? ⟨b, 1, none⟩ = some (.int .i64 ((s : Int) + 1)) ∧ w7.cell? ⟨b, 2, none⟩ = some (.int .i64 t) ∧ w7.cell? ⟨b, 3, none⟩ = some (.bool f0) ∧ w7.cell? ⟨b, 4, none⟩ = some (.bool f1) ∧ w7.cell? ⟨b, 5, none⟩ = some (.bool f2) ∧ w7.cell? ⟨b, 6, none⟩ = some (.bool f3) ∧ w7.cell? ⟨b, 7, none⟩ = some (.bool f4) ∧ w7.cell? ⟨b, 8, none⟩ = some (.bool f5) ∧ w7.cell? ⟨b, 9, none⟩ = some (.bool f6) ∧ w7.cell? ⟨b, 10, none⟩ = some (.bool f7) := ⟨cellAt x7 0 rfl, cellAt x7 1 rfl, cellAt x7 2 rfl, cellAt x7 3 rfl, cellAt x7 4 rfl, cellAt x7 5 rfl, cellAt x7 6 rfl, cellAt x7 7 rfl, cellAt x7 8 rfl, cellAt x7 9 rfl, cellAt x7 10 rfl⟩; have z20 := cellAt y7 0 rfl; have z21 := cellAt y7 1 rfl; have z22 := cellAt y7 2 rfl; have z23 := cellAt y7 3 rfl; have z24 := cellAt y7 4 rfl; have z25 := cellAt y7 5 rfl; have z26 := cellAt y7 6 rfl; have z27 := cellAt y7 7 rfl; have z28 := cellAt y7 8 rfl; have z29 := cellAt y7 9 rfl; have z30 := cellAt y7 10 rfl; have zf := freeAt y7; have Y7 := Lib.hid y7; clear ho7 hg7 x7 y7))
  clear hS6 hS6d hS7 z20 z21 z22 z23 z24 z25 z26 z27 z28 z29 z30 zf
  go_wp2_with fail
  have hst := storedRow (vs := [.slice (some ⟨kg, 0, none⟩) 32 kcap, .int .i64 ((s : Int) + 1), .int .i64 t, .bool f0, .bool f1, .bool f2, .bool f3, .bool f4, .bool f5, .bool f6, .bool f7]) Y7.out rfl
  have hl := run_loadVar_mid (P := Tryd.prog) _ (w.heap.size + 1) 0 42 _ _ (range_of hst) Tryd.underlying42 rfl chanSz
  have hB : Below w.heap.size w (w7.setCells (w.heap.size + 1) 0 [.slice (some ⟨kg, 0, none⟩) 32 kcap, .int .i64 ((s : Int) + 1), .int .i64 t, .bool f0, .bool f1, .bool f2, .bool f3, .bool f4, .bool f5, .bool f6, .bool f7]) := below_setCells (by omega) _ _ _ ((below_drewN B6.out 1).grown G7.out B6.out.size (fun k hk => by have e : g = k := Option.some.inj hk; omega))
  have hK : Own (w7.setCells (w.heap.size + 1) 0 [.slice (some ⟨kg, 0, none⟩) 32 kcap, .int .i64 ((s : Int) + 1), .int .i64 t, .bool f0, .bool f1, .bool f2, .bool f3, .bool f4, .bool f5, .bool f6, .bool f7]) w.heap.size (.slice (some ⟨kg, 0, none⟩) 32 kcap) key :=
    ((OK6.out.drewN 1).kept G7.out (fun k hk e => by have e1 : g = k := Option.some.inj hk; have e2 : kg = k := Option.some.inj e; have := KG.out; have := HG4.out; omega)).ofHeap (fun k hk => heap_setCells_ne (by have e2 : kg = k := Option.some.inj hk; have := KG.out; have := HG4.out; omega) _ _ _)
  have hR : Own (w7.setCells (w.heap.size + 1) 0 [.slice (some ⟨kg, 0, none⟩) 32 kcap, .int .i64 ((s : Int) + 1), .int .i64 t, .bool f0, .bool f1, .bool f2, .bool f3, .bool f4, .bool f5, .bool f6, .bool f7]) w.heap.size v7 (H ++ X) :=
    (O7.out.ofHeap (fun k hk => heap_setCells_ne (by have := (O7.out.lt k hk).1; omega) _ _ _)).mono (by omega)
  exact bodyPost_ret (v := .tuple #[.agg #[.slice (some ⟨kg, 0, none⟩) 32 kcap, .int .i64 ((s : Int) + 1), .int .i64 t, .bool f0, .bool f1, .bool f2, .bool f3, .bool f4, .bool f5, .bool f6, .bool f7], v7, .int .i64 0]) (results_ctt Tryd.results15 rfl hl) rfl ⟨_, _, rfl, hK, hR, hB⟩
end Go.Proofs.YtpkfbmafbkgcmaaDoor
