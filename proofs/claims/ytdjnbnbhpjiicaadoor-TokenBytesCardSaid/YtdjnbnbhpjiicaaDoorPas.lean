/-
  The walk of conclavekeep.Token: a pass as a token that may be.
-/
import Derived.Test.YtdjnbnbhpjiicaaDoorFrP
import Derived.Test.YtdjnbnbhpjiicaaDoorPick
import Derived.Deep.RegionHeld3
set_option linter.unusedVariables false
set_option linter.unusedSimpArgs false
namespace Go.Con
/-- a pass as a token -/
def tokOf (x : Tok) : Tok := ⟨pick x.client 8, pick x.rights 8, pick x.til 1048577⟩
theorem tokOf_ok (x : Tok) : (tokOf x).Ok := by
  have h1 := pick_nonneg x.client 8 (by omega)
  have h2 := pick_lt x.client 8 (by omega)
  have h3 := pick_nonneg x.rights 8 (by omega)
  have h4 := pick_lt x.rights 8 (by omega)
  have h5 := pick_nonneg x.til 1048577 (by omega)
  have h6 := pick_lt x.til 1048577 (by omega)
  constructor <;> simp only [tokOf] <;> omega
end Go.Con
namespace Go.Proofs.YtdjnbnbhpjiicaaDoor
open Go.RowKit Go.Con
set_option maxRecDepth 100000 in
set_option maxHeartbeats 1000000 in
theorem Token_any (x : Con.Tok) (w : World) (hx : PassOk x) :
    Calls Tryd.prog 22 #[tokV x] w fun e w' => e = .returned (tokV (tokOf x)) ∧ Below w.heap.size w w' := by
  obtain ⟨cl, r, u⟩ := x
  obtain ⟨⟨a1, a2⟩, ⟨b1, b2⟩, ⟨c1, c2⟩⟩ := hx
  dsimp only at a1 a2 b1 b2 c1 c2
  unfold tokV tokOf
  dsimp only
  go_enter Tryd.func22, Tryd.ntmps22
  go_wp2
  go_region_held3 (fun w' => w'.cell? ⟨w.heap.size, 0, none⟩ = some (.int .i64 cl) ∧ w'.cell? ⟨w.heap.size, 1, none⟩ = some (.int .i64 r) ∧ w'.cell? ⟨w.heap.size, 2, none⟩ = some (.int .i64 u)) (go_keep) (first | (go_at_call 23; refine (picked_any _ _ _ (by assumption) (by assumption) (by decide)).mono ?_; rintro e w' ⟨rfl, rfl⟩))
  go_wp2
  refine bodyPost_ret (v := .agg #[.int .i64 (pick cl 8), .int .i64 (pick r 8), .int .i64 (pick u 1048577)]) ?_ rfl ⟨rfl, ?_⟩
  · simp [results, Tryd.results22, go_sem]
  · exact below_drewN ((((Below.refl _ _).alloc (Nat.le_refl _) _).alloc (by simp) _)) 1
end Go.Proofs.YtdjnbnbhpjiicaaDoor
