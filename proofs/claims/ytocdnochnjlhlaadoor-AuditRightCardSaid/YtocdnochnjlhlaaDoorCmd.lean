/-
  The walk of conclavekeep.Command: a wish as a command that may be.
-/
import Derived.Test.YtocdnochnjlhlaaDoorOrdE
import Derived.Test.YtocdnochnjlhlaaDoorPick
import Derived.Deep.RegionHeld3
set_option linter.unusedVariables false
set_option linter.unusedSimpArgs false
namespace Go.Con
def Int64 (n : Int) : Prop := -9223372036854775808 ≤ n ∧ n ≤ 9223372036854775807
/-- every number of a wish is an int -/
def WishOk (x : Cmd) : Prop := Int64 x.kind ∧ Int64 x.client ∧ Int64 x.seq ∧ Int64 x.name ∧ Int64 x.value
/-- a wish as a command -/
def cmdOf (x : Cmd) : Cmd :=
  let k := 1 + pick x.kind 5 / 2
  ⟨k, pick x.client 4, pick x.seq 6, pick x.name 4, if k = 1 then pick x.value 1000 else 0⟩
theorem cmdOf_check (x : Cmd) : checkC (cmdOf x) = 0 := by
  have h1 := pick_nonneg x.kind 5 (by omega)
  have h2 := pick_lt x.kind 5 (by omega)
  have h3 := pick_nonneg x.client 4 (by omega)
  have h4 := pick_lt x.client 4 (by omega)
  have h5 := pick_nonneg x.seq 6 (by omega)
  have h6 := pick_lt x.seq 6 (by omega)
  have h7 := pick_nonneg x.name 4 (by omega)
  have h8 := pick_lt x.name 4 (by omega)
  have h9 := pick_nonneg x.value 1000 (by omega)
  have h10 := pick_lt x.value 1000 (by omega)
  unfold checkC
  have hk : 1 ≤ (cmdOf x).kind ∧ (cmdOf x).kind ≤ 3 := by simp only [cmdOf]; omega
  rw [if_neg (by omega), if_pos hk]
  have hr : inRange (cmdOf x) = true := by
    unfold inRange
    rw [decide_eq_true_eq]
    simp only [cmdOf]
    refine ⟨h3, by omega, h5, by omega, h7, by omega, ?_⟩
    split <;> omega
  rw [if_neg (by rw [hr]; decide), if_neg]
  intro ⟨ha, hb⟩
  apply hb
  simp only [cmdOf] at ha ⊢
  rw [if_neg ha]
end Go.Con
namespace Go.Proofs.YtocdnochnjlhlaaDoor
open Go.RowKit Go.Con

set_option maxRecDepth 100000 in
set_option maxHeartbeats 1000000 in
theorem Command_any (x : Cmd) (w : World) (hx : WishOk x) :
    Calls Tryd.prog 9 #[cmdV x] w fun e w' => e = .returned (cmdV (cmdOf x)) ∧ Below w.heap.size w w' := by
  obtain ⟨k, cl, sq, nm, vl⟩ := x
  obtain ⟨⟨a1, a2⟩, ⟨b1, b2⟩, ⟨c1, c2⟩, ⟨d1, d2⟩, ⟨e1, e2⟩⟩ := hx
  dsimp only at a1 a2 b1 b2 c1 c2 d1 d2 e1 e2
  have k0 := pick_nonneg k 5 (by omega)
  have k1 := pick_lt k 5 (by omega)
  have hco : cmdOf ⟨k, cl, sq, nm, vl⟩ = ⟨1 + pick k 5 / 2, pick cl 4, pick sq 6, pick nm 4, if 1 + pick k 5 / 2 = 1 then pick vl 1000 else 0⟩ := rfl
  have HCO := Lib.hid hco
  have hq : IntKind.i64.wrap ((pick k 5).tdiv 2) = pick k 5 / 2 := by rw [Int.tdiv_eq_ediv_of_nonneg k0]; exact IntWalk.i64_in _ (by omega)
  obtain ⟨q, hqe⟩ : ∃ q, q = pick k 5 / 2 := ⟨_, rfl⟩
  have hq0 : 0 ≤ q := by omega
  have hq2 : q ≤ 2 := by omega
  rw [← hqe] at hq HCO
  clear hco hqe k0 k1
  obtain ⟨r, hr⟩ : ∃ r : Int, r = if 1 + q = 1 then pick vl 1000 else 0 := ⟨_, rfl⟩
  rw [HCO.out, ← hr]
  have HR := Lib.hid hr
  clear HCO hr
  unfold cmdV
  dsimp only
  go_enter Tryd.func9, Tryd.ntmps9
  go_wp2
  go_region_held3 (fun w' => w'.cell? ⟨w.heap.size, 0, none⟩ = some (.int .i64 k) ∧ w'.cell? ⟨w.heap.size, 1, none⟩ = some (.int .i64 cl) ∧ w'.cell? ⟨w.heap.size, 2, none⟩ = some (.int .i64 sq) ∧ w'.cell? ⟨w.heap.size, 3, none⟩ = some (.int .i64 nm)) (go_keep) (first | (go_at_call 8; refine (picked_any _ _ _ (by assumption) (by assumption) (by decide)).mono ?_; rintro e w' ⟨rfl, rfl⟩))
  all_goals by_cases hq1 : 1 + q = 1
  all_goals first
    | (have hqb : (1 + q == 1) = true := by simpa using hq1
       have HQ1 := Lib.hid hq1
       clear hq1
       go_wp2_with (go_at_call 8; refine (picked_any _ _ _ (by assumption) (by assumption) (by decide)).mono ?_; rintro e w' ⟨rfl, rfl⟩)
       refine bodyPost_ret (v := .agg #[.int .i64 (1 + q), .int .i64 (pick cl 4), .int .i64 (pick sq 6), .int .i64 (pick nm 4), .int .i64 (pick vl 1000)]) ?_ rfl ⟨by rw [HR.out, if_pos HQ1.out], ?_⟩
       · simp [results, Tryd.results9, go_sem]
       · exact below_drewN ((((Below.refl _ _).alloc (Nat.le_refl _) _).alloc (by simp) _).alloc (by simp; omega) _) 1)
    | (have hqb : (1 + q == 1) = false := by simpa using hq1
       have HQ1 := Lib.hid hq1
       clear hq1
       go_wp2
       refine bodyPost_ret (v := .agg #[.int .i64 (1 + q), .int .i64 (pick cl 4), .int .i64 (pick sq 6), .int .i64 (pick nm 4), .int .i64 0]) ?_ rfl ⟨by rw [HR.out, if_neg HQ1.out], ?_⟩
       · simp [results, Tryd.results9, go_sem]
       · exact below_drewN ((((Below.refl _ _).alloc (Nat.le_refl _) _).alloc (by simp) _).alloc (by simp; omega) _) 1)
end Go.Proofs.YtocdnochnjlhlaaDoor
