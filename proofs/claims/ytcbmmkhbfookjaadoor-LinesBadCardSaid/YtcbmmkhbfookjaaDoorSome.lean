/-
  The walk of conclavekeep.some.
-/
import Derived.Test.YtcbmmkhbfookjaaDoorBy2
set_option linter.unusedVariables false
set_option linter.unusedSimpArgs false
namespace Go.Proofs.YtcbmmkhbfookjaaDoor
open Go.RowKit Go.Con

set_option maxHeartbeats 400000 in
theorem some_any (v : Value) (l : List UInt8) (m : Nat) (w : World) (hv : Rd w v l) (hm : m ≤ 1099511627776) :
    Calls Tryd.prog 18 #[v, .int .i64 m] w (FreshB w (l.take m)) := by
  obtain ⟨a, c, rfl, hlc, hcm⟩ := hv.slice
  have HV := Lib.hid hv
  clear hv
  have hcm' : c ≤ 9223372036854775807 := hcm
  clear hcm
  by_cases hml : (m : Int) < (l.length : Int)
  · have hr := Lib.hid (HV.out.pre m (by omega))
    go_enter Tryd.func18, Tryd.ntmps18
    go_wp2_with (at_builtin; refine apB rfl (.const (.slice none 0 0)) (.tmp 10) rfl w.heap.size (.slice none 0 0) _ [] (l.take m) rfl (Own.nil _ _) rfl hr.out (by simp; omega) (Nat.le_refl _) ?_; intro v1 w1 hown1 hg1; have HO1 := Lib.hid hown1; have HG1 := Lib.hid hg1; clear hown1 hg1)
    go_ret
    exact ⟨_, rfl, HO1.out, (Below.refl _ _).grown HG1.out (Nat.le_refl _) (fun k hk => by simp [Value.ownBlock] at hk)⟩
  · have ht : l.take m = l := List.take_of_length_le (by omega)
    rw [ht]
    clear ht
    have hr := Lib.hid HV.out
    go_enter Tryd.func18, Tryd.ntmps18
    go_wp2_with (at_builtin; refine apB rfl (.const (.slice none 0 0)) (.tmp 10) rfl w.heap.size (.slice none 0 0) _ [] l rfl (Own.nil _ _) rfl hr.out (by simp; omega) (Nat.le_refl _) ?_; intro v1 w1 hown1 hg1; have HO1 := Lib.hid hown1; have HG1 := Lib.hid hg1; clear hown1 hg1)
    go_ret
    exact ⟨_, rfl, HO1.out, (Below.refl _ _).grown HG1.out (Nat.le_refl _) (fun k hk => by simp [Value.ownBlock] at hk)⟩

end Go.Proofs.YtcbmmkhbfookjaaDoor
