/-
  The walk of conclavekeep.KnownCurve: what is shared is the standard's.
-/
import Derived.Test.YthoganfinpfibaaCvG
import Derived.Test.YthoganfinpfibaaFilled
import Derived.Test.YthoganfinpfibaaSameK
import Derived.Test.YthoganfinpfibaaFrm
import Derived.Test.YthoganfinpfibaaHex
set_option linter.unusedVariables false
set_option linter.unusedSimpArgs false
namespace Go.Proofs.Ythoganfinpfibaa
open Go.RowKit Go.Con

theorem knownS : Cv.out32 (Cv.share (hexB [97, 53, 52, 54, 101, 51, 54, 98, 102, 48, 53, 50, 55, 99, 57, 100, 51, 98, 49, 54, 49, 53, 52, 98, 56, 50, 52, 54, 53, 101, 100, 100, 54, 50, 49, 52, 52, 99, 48, 97, 99, 49, 102, 99, 53, 97, 49, 56, 53, 48, 54, 97, 50, 50, 52, 52, 98, 97, 52, 52, 57, 97, 99, 52]) (hexB [101, 54, 100, 98, 54, 56, 54, 55, 53, 56, 51, 48, 51, 48, 100, 98, 51, 53, 57, 52, 99, 49, 97, 52, 50, 52, 98, 49, 53, 102, 55, 99, 55, 50, 54, 54, 50, 52, 101, 99, 50, 54, 98, 51, 51, 53, 51, 98, 49, 48, 97, 57, 48, 51, 97, 54, 100, 48, 97, 98, 49, 99, 52, 99])) = hexB [99, 51, 100, 97, 53, 53, 51, 55, 57, 100, 101, 57, 99, 54, 57, 48, 56, 101, 57, 52, 101, 97, 52, 100, 102, 50, 56, 100, 48, 56, 52, 102, 51, 50, 101, 99, 99, 102, 48, 51, 52, 57, 49, 99, 55, 49, 102, 55, 53, 52, 98, 52, 48, 55, 53, 53, 55, 55, 97, 50, 56, 53, 53, 50] := by decide +kernel
theorem knownZ : Cv.share (hexB [97, 53, 52, 54, 101, 51, 54, 98, 102, 48, 53, 50, 55, 99, 57, 100, 51, 98, 49, 54, 49, 53, 52, 98, 56, 50, 52, 54, 53, 101, 100, 100, 54, 50, 49, 52, 52, 99, 48, 97, 99, 49, 102, 99, 53, 97, 49, 56, 53, 48, 54, 97, 50, 50, 52, 52, 98, 97, 52, 52, 57, 97, 99, 52]) (hexB [101, 54, 100, 98, 54, 56, 54, 55, 53, 56, 51, 48, 51, 48, 100, 98, 51, 53, 57, 52, 99, 49, 97, 52, 50, 52, 98, 49, 53, 102, 55, 99, 55, 50, 54, 54, 50, 52, 101, 99, 50, 54, 98, 51, 51, 53, 51, 98, 49, 48, 97, 57, 48, 51, 97, 54, 100, 48, 97, 98, 49, 99, 52, 99]) ≠ 0 := by decide +kernel
theorem knownL : (hexB [97, 53, 52, 54, 101, 51, 54, 98, 102, 48, 53, 50, 55, 99, 57, 100, 51, 98, 49, 54, 49, 53, 52, 98, 56, 50, 52, 54, 53, 101, 100, 100, 54, 50, 49, 52, 52, 99, 48, 97, 99, 49, 102, 99, 53, 97, 49, 56, 53, 48, 54, 97, 50, 50, 52, 52, 98, 97, 52, 52, 57, 97, 99, 52]).length = 32 := by decide +kernel
theorem knownM : (hexB [101, 54, 100, 98, 54, 56, 54, 55, 53, 56, 51, 48, 51, 48, 100, 98, 51, 53, 57, 52, 99, 49, 97, 52, 50, 52, 98, 49, 53, 102, 55, 99, 55, 50, 54, 54, 50, 52, 101, 99, 50, 54, 98, 51, 51, 53, 51, 98, 49, 48, 97, 57, 48, 51, 97, 54, 100, 48, 97, 98, 49, 99, 52, 99]).length = 32 := by decide +kernel
set_option maxRecDepth 100000 in
set_option maxHeartbeats 1000000 in
theorem walk_KnownCurve  (w : World)  :
    Calls Try.prog 4 #[] w fun e w' => e = .returned (.bool true) ∧ Below w.heap.size w w' := by
  have HB0 := Lib.hid (Below.refl w.heap.size w)
  have s0 : w.heap.size ≤ w.heap.size := Nat.le_refl _
  go_enter Try.func4, Try.ntmps4
  go_wp2_with fail
  refine (hex_any [97, 53, 52, 54, 101, 51, 54, 98, 102, 48, 53, 50, 55, 99, 57, 100, 51, 98, 49, 54, 49, 53, 52, 98, 56, 50, 52, 54, 53, 101, 100, 100, 54, 50, 49, 52, 52, 99, 48, 97, 99, 49, 102, 99, 53, 97, 49, 56, 53, 48, 54, 97, 50, 50, 52, 52, 98, 97, 52, 52, 57, 97, 99, 52] _ (by decide)).mono ?_
  rintro e w1 ⟨vk, rfl, hok, hb1⟩
  have T1 := Lib.hid hb1
  have HB1 := Lib.hid (HB0.out.trans (T1.out.mono s0))
  have s1 := HB1.out.size
  have R_k := Lib.hid hok.rd
  clear hb1 hok
  go_wp2_with fail
  refine (hex_any [101, 54, 100, 98, 54, 56, 54, 55, 53, 56, 51, 48, 51, 48, 100, 98, 51, 53, 57, 52, 99, 49, 97, 52, 50, 52, 98, 49, 53, 102, 55, 99, 55, 50, 54, 54, 50, 52, 101, 99, 50, 54, 98, 51, 51, 53, 51, 98, 49, 48, 97, 57, 48, 51, 97, 54, 100, 48, 97, 98, 49, 99, 52, 99] _ (by decide)).mono ?_
  rintro e w2 ⟨vu, rfl, hou, hb2⟩
  have T2 := Lib.hid hb2
  replace R_k := Lib.hid (R_k.out.stay T2.out)
  have HB2 := Lib.hid (HB1.out.trans (T2.out.mono s1))
  have s2 := HB2.out.size
  have R_u := Lib.hid hou.rd
  clear hb2 hou
  go_wp2_with fail
  refine (Shared_ok _ _ _ _ _ knownL knownM R_k.out R_u.out knownZ).mono ?_
  rintro e w3 ⟨vs, rfl, hos, hb3⟩
  have T3 := Lib.hid hb3
  replace R_k := Lib.hid (R_k.out.stay T3.out)
  replace R_u := Lib.hid (R_u.out.stay T3.out)
  have HB3 := Lib.hid (HB2.out.trans (T3.out.mono s2))
  have s3 := HB3.out.size
  have R_s := Lib.hid hos.rd
  clear hb3 hos
  clear R_k
  clear R_u
  go_wp2_with fail
  refine (hex_any [99, 51, 100, 97, 53, 53, 51, 55, 57, 100, 101, 57, 99, 54, 57, 48, 56, 101, 57, 52, 101, 97, 52, 100, 102, 50, 56, 100, 48, 56, 52, 102, 51, 50, 101, 99, 99, 102, 48, 51, 52, 57, 49, 99, 55, 49, 102, 55, 53, 52, 98, 52, 48, 55, 53, 53, 55, 55, 97, 50, 56, 53, 53, 50] _ (by decide)).mono ?_
  rintro e w4 ⟨vy, rfl, hoy, hb4⟩
  have T4 := Lib.hid hb4
  replace R_s := Lib.hid (R_s.out.stay T4.out)
  have HB4 := Lib.hid (HB3.out.trans (T4.out.mono s3))
  have s4 := HB4.out.size
  have R_y := Lib.hid hoy.rd
  clear hb4 hoy
  go_wp2_with fail
  refine (same_true _ _ _ _ _ R_s.out R_y.out knownS).mono ?_
  rintro e _ ⟨rfl, rfl⟩
  go_wp2
  go_ret
  exact ⟨rfl, HB4.out⟩

end Go.Proofs.Ythoganfinpfibaa
