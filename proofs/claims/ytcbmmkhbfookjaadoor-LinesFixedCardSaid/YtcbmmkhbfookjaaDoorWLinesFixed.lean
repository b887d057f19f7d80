/-
  The walk of LinesFixed.
-/
import Derived.Test.YtcbmmkhbfookjaaDoorLnF
set_option linter.unusedVariables false
set_option linter.unusedSimpArgs false
namespace Go.Proofs.YtcbmmkhbfookjaaDoor
open Go.RowKit Go.Con
set_option maxRecDepth 100000 in
set_option maxHeartbeats 1000000 in
theorem walk_LinesFixed (v : Value) (s : List UInt8) (w : World) (hv : IsStr v s) (hV : LnV w) (hR : LnR w) :
    Calls Tryd.prog 4 #[v] w fun e w' => e = .returned (.bool true) ∧ Below w.heap.size w w' := by
  unfold IsStr at hv
  subst hv
  have HV := Lib.hid hV
  have HR := Lib.hid hR
  clear hV hR
  go_enter Tryd.func4, Tryd.ntmps4
  go_upto_region 2 with (go_at_call 8; refine (Read_all s _ HV.out HR.out).mono ?_; rintro e w2 ⟨v, i, c, rfl, hb, hp⟩; have B2 := Lib.hid hb; have HP := Lib.hid hp; clear hb hp)
  rcases HP.out with ⟨-, rfl, rfl, rfl⟩ | ⟨pre, ⟨x, rest, -, -, hc⟩, rfl, rfl⟩ | ⟨-, hlen, rfl, rfl, L, hall, hacts⟩
  · clear HP
    go_wp2_with fail
    go_ret
    exact ⟨rfl, B2.out⟩
  · have hcc : c = 8 ∨ c = 3 := hc.elim (fun h => .inl h.2) (fun h => .inr h.2.2)
    have h0 : decide ((0 : Int) ≤ pre.length) = true := by rw [decide_eq_true_eq]; omega
    clear HP hc
    rcases hcc with rfl | rfl
    all_goals
      go_wp2_with fail
      go_ret
      exact ⟨rfl, B2.out⟩
  · have ALL := Lib.hid hall
    have TXT := Lib.hid (show linesX L = s by rw [linesX_flatten, hacts.text, linesOf_flat])
    have LEN := Lib.hid (show L.length ≤ 100000 by rw [hacts.1]; exact hlen)
    have V2 := Lib.hid (HV.out.stay B2.out)
    clear HP hall hacts hlen
    have hss : (s == s) = true := by simp
    go_wp2_with (go_at_call 7; refine (Show_any v L _ ALL.out.acts ALL.out.ok LEN.out V2.out).mono ?_; rw [TXT.out]; rintro e w3 ⟨rfl, h3⟩; have B3 := Lib.hid (B2.out.trans (h3.mono B2.out.size)); clear h3)
    go_ret
    exact ⟨rfl, B3.out⟩
end Go.Proofs.YtcbmmkhbfookjaaDoor
