/-
  Ballots and votes: compare, ballot, vote.
-/
import Derived.Test.YtdkbajdnckmckaaOrd
import Derived.Test.YtdkbajdnckmckaaRes
import Derived.Test.YtdkbajdnckmckaaQt
import Derived.Deep.RegionHeld3
import Derived.Deep.Cut
set_option linter.unusedVariables false
set_option linter.unusedSimpArgs false
namespace Go.Con
open Go
/-- which of two numbers is greater -/
def cmpI (a b : Int) : Int := if a < b then -1 else if b < a then 1 else 0
/-- which of two ballots is greater: a round, then a node -/
def cmpB (a b : Int × Int) : Int := if cmpI a.1 b.1 ≠ 0 then cmpI a.1 b.1 else cmpI a.2 b.2
/-- may it be a proposer's? -/
def okB (b : Int × Int) : Bool := decide (1 ≤ b.1) && (decide (b.1 ≤ 65536) && (decide (0 ≤ b.2) && decide (b.2 < 5)))
structure Vot where
  slot : Int
  bal : Int × Int
  what : Cmd
  deriving DecidableEq
def Vot.zero : Vot := ⟨0, (0, 0), Cmd.zero⟩
def votCells (v : Vot) : List Value := [.int .i64 v.slot, .int .i64 v.bal.1, .int .i64 v.bal.2, .int .i64 v.what.kind, .int .i64 v.what.client, .int .i64 v.what.seq, .int .i64 v.what.name, .int .i64 v.what.value]
def votV (v : Vot) : Value := .agg (votCells v).toArray
/-- may a vote be? -/
def okV (v : Vot) : Bool := decide (0 ≤ v.slot) && (decide (v.slot < 40) && (okB v.bal && decide (checkC v.what = 0)))
theorem cmpI_cases (a b : Int) : (a < b ∧ cmpI a b = -1) ∨ (a = b ∧ cmpI a b = 0) ∨ (b < a ∧ cmpI a b = 1) := by
  unfold cmpI
  split
  · exact .inl ⟨by assumption, rfl⟩
  · split
    · exact .inr (.inr ⟨by assumption, rfl⟩)
    · exact .inr (.inl ⟨by omega, rfl⟩)
end Go.Con
namespace Go.Proofs.Ytdkbajdnckmckaa
open Go.RowKit Go.Con
set_option maxRecDepth 100000 in
theorem cmp_any (a b : Int) (w : World) :
    Calls Try.prog 26 #[.int .i64 a, .int .i64 b] w fun e w' => e = .returned (.int .i64 (cmpI a b)) ∧ w' = w := by
  have e1 : (a != a) = false := by simp
  have e2 : (b != b) = false := by simp
  rcases cmpI_cases a b with ⟨h, hr⟩ | ⟨h, hr⟩ | ⟨h, hr⟩
  · have d1 : decide (a < b) = true := by rw [decide_eq_true_eq]; exact h
    rw [hr]
    go_enter Try.func26, Try.ntmps26
    go_wp2
    go_ret
    exact ⟨rfl, rfl⟩
  · have d1 : decide (a < b) = false := by rw [decide_eq_false_iff_not]; omega
    have d2 : decide (b < a) = false := by rw [decide_eq_false_iff_not]; omega
    rw [hr]
    clear h
    go_enter Try.func26, Try.ntmps26
    go_wp2
    go_ret
    exact ⟨rfl, rfl⟩
  · have d1 : decide (a < b) = false := by rw [decide_eq_false_iff_not]; omega
    have d2 : decide (b < a) = true := by rw [decide_eq_true_eq]; omega
    rw [hr]
    go_enter Try.func26, Try.ntmps26
    go_wp2
    go_ret
    exact ⟨rfl, rfl⟩
set_option maxRecDepth 100000 in
set_option maxHeartbeats 1000000 in
theorem or2_any (x y : Int) (b : Nat) (w : World) (h0 : w.cell? ⟨b, 0, none⟩ = some (.int .i64 x)) (h1 : w.cell? ⟨b, 1, none⟩ = some (.int .i64 y)) :
    Calls Try.prog 32 #[.slice (some ⟨b, 0, none⟩) 2 2] w fun e w' => e = .returned (.int .i64 (if x ≠ 0 then x else y)) ∧ w' = w := by
  obtain ⟨r, hr⟩ : ∃ r, r = if x ≠ 0 then x else y := ⟨_, rfl⟩
  rw [← hr]
  have HR := Lib.hid hr
  clear hr
  go_enter Try.func32, Try.ntmps32
  go_wp2_with fail
  go_loopw [5, 8] (fun _ i wr => wr = w ∧ (i = .int .i64 0 ∨ (i = .int .i64 1 ∧ x = 0) ∨ (i = .int .i64 2 ∧ x = 0 ∧ y = 0))) (fun _ i _ => 2 - (intOf i).toNat)
  case atStart => exact ⟨rfl, .inl rfl⟩
  case round =>
    obtain ⟨rfl, rfl | ⟨rfl, hx⟩ | ⟨rfl, hx, hy⟩⟩ := hrel
    · by_cases hx : x = 0
      · have d : (x != 0) = false := by simp [hx]
        go_wp2_with fail
        go_roundw
        case rel => exact ⟨trivial, .inr (.inl ⟨rfl, hx⟩)⟩
        case measure => simp [intOf]
      · have d : (x != 0) = true := by simp [hx]
        have hrx : r = x := by rw [HR.out, if_pos hx]
        subst hrx
        go_wp2_with fail
        go_ret
        exact ⟨rfl, rfl⟩
    · have HX := Lib.hid hx
      clear hx
      by_cases hy : y = 0
      · have d : (y != 0) = false := by simp [hy]
        go_wp2_with fail
        go_roundw
        case rel => exact ⟨trivial, .inr (.inr ⟨rfl, HX.out, hy⟩)⟩
        case measure => simp [intOf]
      · have d : (y != 0) = true := by simp [hy]
        have hrx : r = y := by rw [HR.out, if_neg (by rw [HX.out]; decide)]
        subst hrx
        go_wp2_with fail
        go_ret
        exact ⟨rfl, rfl⟩
    · have hrx : r = 0 := by rw [HR.out, if_neg (by rw [hx]; decide), hy]
      subst hrx
      clear hx hy
      go_wp2_with fail
      go_ret
      exact ⟨rfl, rfl⟩
set_option maxRecDepth 100000 in
set_option maxHeartbeats 1000000 in
theorem ballot_any (b : Int × Int) (w : World) :
    Calls Try.prog 22 #[.agg #[.int .i64 b.1, .int .i64 b.2]] w fun e w' => e = .returned (.bool (okB b)) ∧ Below w.heap.size w w' := by
  obtain ⟨r, n⟩ := b
  dsimp only
  have hc : (decide (1 ≤ r) = false ∧ okB (r, n) = false) ∨ (decide (1 ≤ r) = true ∧ decide (r ≤ 65536) = false ∧ okB (r, n) = false) ∨ (decide (1 ≤ r) = true ∧ decide (r ≤ 65536) = true ∧ decide (0 ≤ n) = false ∧ okB (r, n) = false) ∨ (decide (1 ≤ r) = true ∧ decide (r ≤ 65536) = true ∧ decide (0 ≤ n) = true ∧ decide (n < 5) = false ∧ okB (r, n) = false) ∨ (decide (1 ≤ r) = true ∧ decide (r ≤ 65536) = true ∧ decide (0 ≤ n) = true ∧ decide (n < 5) = true ∧ okB (r, n) = true) := by
    unfold okB
    dsimp only
    cases decide (1 ≤ r) <;> cases decide (r ≤ 65536) <;> cases decide (0 ≤ n) <;> cases decide (n < 5) <;> simp
  rcases hc with ⟨h1, hr⟩ | ⟨h1, h2, hr⟩ | ⟨h1, h2, h3, hr⟩ | ⟨h1, h2, h3, h4, hr⟩ | ⟨h1, h2, h3, h4, hr⟩
  all_goals
    rw [hr]
    clear hr
    go_enter Try.func22, Try.ntmps22
    go_wp2_with fail
    go_ret
    exact ⟨rfl, (Below.refl _ _).alloc (Nat.le_refl _) _⟩
theorem alloc3P {w w0 : World} {A B C : Obj} (h : ((w.alloc A).alloc B).alloc C = w0) : w0.heap[w.heap.size]? = some A ∧ w0.heap[w.heap.size + 1]? = some B ∧ w0.heap[w.heap.size + 1 + 1]? = some C ∧ Below w.heap.size w w0 ∧ w0.heap.size = w.heap.size + 3 := by
  subst h
  have e : ((w.alloc A).alloc B).heap.size = w.heap.size + 1 + 1 := by simp
  have e1 : (w.alloc A).heap.size = w.heap.size + 1 := by simp
  refine ⟨?_, ?_, ?_, (((Below.refl w.heap.size w).alloc (Nat.le_refl _) _).alloc (by simp) _).alloc (by simp; omega) _, by simp⟩
  · rw [heapOld _ _ _ (by omega), heapOld _ _ _ (by omega)]; exact heapNew _ _
  · rw [heapOld _ _ _ (by omega)]
    have := heapNew (w.alloc A) B
    rwa [e1] at this
  · have := heapNew ((w.alloc A).alloc B) C
    rwa [e] at this
theorem new3c {w : World} {A B : Obj} {x y : Value} {t : TypeId} : (((w.alloc A).alloc B).alloc (.cells #[x, y] t)).drew.cell? ⟨w.heap.size + 1 + 1, 0, none⟩ = some x ∧ (((w.alloc A).alloc B).alloc (.cells #[x, y] t)).drew.cell? ⟨w.heap.size + 1 + 1, 1, none⟩ = some y := by
  have h := (alloc3P (w := w) (A := A) (B := B) (C := .cells #[x, y] t) rfl).2.2.1
  exact ⟨cellAt h 0 rfl, cellAt h 1 rfl⟩
theorem cmp_to (a b c : Int) (w : World) (h : Hid (cmpI a b = c)) :
    Calls Try.prog 26 #[.int .i64 a, .int .i64 b] w fun e w' => e = .returned (.int .i64 c) ∧ w' = w := by
  rw [← h.out]; exact cmp_any a b w
theorem or2_to (x y c : Int) (b : Nat) (w : World) (h0 : w.cell? ⟨b, 0, none⟩ = some (.int .i64 x)) (h1 : w.cell? ⟨b, 1, none⟩ = some (.int .i64 y)) (h : Hid ((if x ≠ 0 then x else y) = c)) :
    Calls Try.prog 32 #[.slice (some ⟨b, 0, none⟩) 2 2] w fun e w' => e = .returned (.int .i64 c) ∧ w' = w := by
  rw [← h.out]; exact or2_any x y b w h0 h1
set_option maxRecDepth 100000 in
set_option maxHeartbeats 1000000 in
theorem compare_any (a b : Int × Int) (w : World) :
    Calls Try.prog 21 #[.agg #[.int .i64 a.1, .int .i64 a.2], .agg #[.int .i64 b.1, .int .i64 b.2]] w fun e w' => e = .returned (.int .i64 (cmpB a b)) ∧ Below w.heap.size w w' := by
  obtain ⟨r, n⟩ := a
  obtain ⟨s, m⟩ := b
  dsimp only
  obtain ⟨c1, hc1⟩ : ∃ c, c = cmpI r s := ⟨_, rfl⟩
  obtain ⟨c2, hc2⟩ : ∃ c, c = cmpI n m := ⟨_, rfl⟩
  have hr : cmpB (r, n) (s, m) = if c1 ≠ 0 then c1 else c2 := by unfold cmpB; rw [hc1, hc2]
  have HC1 := Lib.hid hc1.symm
  have HC2 := Lib.hid hc2.symm
  rw [hr]
  clear hr hc1 hc2
  generalize hcr : (if c1 ≠ 0 then c1 else c2) = cr
  have HO := Lib.hid hcr
  clear hcr
  go_enter Try.func21, Try.ntmps21
  go_wp2_with fail
  go_region_held3 (fun w' => w'.cell? ⟨w.heap.size, 0, none⟩ = some (.int .i64 r) ∧ w'.cell? ⟨w.heap.size, 1, none⟩ = some (.int .i64 n) ∧ w'.cell? ⟨w.heap.size + 1, 0, none⟩ = some (.int .i64 s) ∧ w'.cell? ⟨w.heap.size + 1, 1, none⟩ = some (.int .i64 m)) (go_keep) (first
    | (go_at_call 26; refine (cmp_to _ _ _ _ (by assumption)).mono ?_; rintro e _ ⟨rfl, rfl⟩)
    | (go_at_call 32; refine (or2_to _ _ _ _ _ new3c.1 new3c.2 HO).mono ?_; rintro e _ ⟨rfl, rfl⟩))
  go_wp2_with fail
  go_ret
  exact ⟨rfl, (alloc3P rfl).2.2.2.1.drew⟩
theorem ballot_to (r n : Int) (c : Bool) (w : World) (h : Hid (okB (r, n) = c)) :
    Calls Try.prog 22 #[.agg #[.int .i64 r, .int .i64 n]] w fun e w' => e = .returned (.bool c) ∧ Below w.heap.size w w' := by
  rw [← h.out]; exact ballot_any (r, n) w
theorem ordCheck_to (k cl sq nm vl c : Int) (w : World) (h : Hid (checkC ⟨k, cl, sq, nm, vl⟩ = c)) :
    Calls Try.prog 31 #[.agg #[.int .i64 k, .int .i64 cl, .int .i64 sq, .int .i64 nm, .int .i64 vl]] w fun e w' => e = .returned (.int .i64 c) ∧ Below w.heap.size w w' := by
  rw [← h.out]; exact Check_any ⟨k, cl, sq, nm, vl⟩ w
theorem compare_to (r n s m c : Int) (w : World) (h : Hid (cmpB (r, n) (s, m) = c)) :
    Calls Try.prog 21 #[.agg #[.int .i64 r, .int .i64 n], .agg #[.int .i64 s, .int .i64 m]] w fun e w' => e = .returned (.int .i64 c) ∧ Below w.heap.size w w' := by
  rw [← h.out]; exact compare_any (r, n) (s, m) w
set_option maxRecDepth 100000 in
set_option maxHeartbeats 1000000 in
theorem vote_any (v : Vot) (w : World) :
    Calls Try.prog 20 #[votV v] w fun e w' => e = .returned (.bool (okV v)) ∧ Below w.heap.size w w' := by
  obtain ⟨sl, ⟨r, n⟩, ⟨k, cl, sq, nm, vl⟩⟩ := v
  show Calls Try.prog 20 #[.agg #[.int .i64 sl, .int .i64 r, .int .i64 n, .int .i64 k, .int .i64 cl, .int .i64 sq, .int .i64 nm, .int .i64 vl]] w _
  obtain ⟨b, hb⟩ : ∃ b, b = okB (r, n) := ⟨_, rfl⟩
  obtain ⟨c, hc⟩ : ∃ c, c = checkC ⟨k, cl, sq, nm, vl⟩ := ⟨_, rfl⟩
  have hcase : (decide (0 ≤ sl) = false ∧ okV ⟨sl, (r, n), ⟨k, cl, sq, nm, vl⟩⟩ = false) ∨ (decide (0 ≤ sl) = true ∧ decide (sl < 40) = false ∧ okV ⟨sl, (r, n), ⟨k, cl, sq, nm, vl⟩⟩ = false) ∨
      (decide (0 ≤ sl) = true ∧ decide (sl < 40) = true ∧ b = false ∧ okV ⟨sl, (r, n), ⟨k, cl, sq, nm, vl⟩⟩ = false) ∨
      (decide (0 ≤ sl) = true ∧ decide (sl < 40) = true ∧ b = true ∧ (c == 0) = false ∧ okV ⟨sl, (r, n), ⟨k, cl, sq, nm, vl⟩⟩ = false) ∨
      (decide (0 ≤ sl) = true ∧ decide (sl < 40) = true ∧ b = true ∧ (c == 0) = true ∧ okV ⟨sl, (r, n), ⟨k, cl, sq, nm, vl⟩⟩ = true) := by
    unfold okV
    dsimp only
    rw [← hb, ← hc]
    have e : decide (c = 0) = (c == 0) := by rw [Bool.eq_iff_iff]; simp
    rw [e]
    cases decide (0 ≤ sl) <;> cases decide (sl < 40) <;> cases b <;> cases (c == 0) <;> simp
  have HB := Lib.hid hb.symm
  have HC := Lib.hid hc.symm
  clear hb hc
  rcases hcase with ⟨h1, hr⟩ | ⟨h1, h2, hr⟩ | ⟨h1, h2, rfl, hr⟩ | ⟨h1, h2, rfl, h4, hr⟩ | ⟨h1, h2, rfl, h4, hr⟩
  · rw [hr]
    clear hr
    go_enter Try.func20, Try.ntmps20
    go_wp2_with fail
    go_ret
    exact ⟨rfl, (Below.refl _ _).alloc (Nat.le_refl _) _⟩
  · rw [hr]
    clear hr
    go_enter Try.func20, Try.ntmps20
    go_wp2_with fail
    go_ret
    exact ⟨rfl, (Below.refl _ _).alloc (Nat.le_refl _) _⟩
  all_goals
    rw [hr]
    clear hr
    go_enter Try.func20, Try.ntmps20
    go_wp2_with (first
      | (go_at_call 22; refine (ballot_to _ _ _ _ (by assumption)).mono ?_; rintro e w1 ⟨rfl, hb1⟩; have B1 := Lib.hid (((Below.refl w.heap.size w).alloc (Nat.le_refl _) (.cells #[.int .i64 sl, .int .i64 r, .int .i64 n, .int .i64 k, .int .i64 cl, .int .i64 sq, .int .i64 nm, .int .i64 vl] 32)).trans (hb1.mono (by simp))); have hz := (hb1.block w.heap.size (by simp)).trans (heapNew _ _); have y3 := cellAt hz 3 rfl; have y4 := cellAt hz 4 rfl; have y5 := cellAt hz 5 rfl; have y6 := cellAt hz 6 rfl; have y7 := cellAt hz 7 rfl; clear hb1 hz)
      | (go_at_call 31; refine (ordCheck_to _ _ _ _ _ _ _ (by assumption)).mono ?_; rintro e w2 ⟨rfl, hb2⟩; have B2 := Lib.hid (B1.out.trans (hb2.mono B1.out.size)); clear hb2))
    go_ret
    exact ⟨rfl, by first | exact B2.out | exact B1.out⟩
end Go.Proofs.Ytdkbajdnckmckaa
