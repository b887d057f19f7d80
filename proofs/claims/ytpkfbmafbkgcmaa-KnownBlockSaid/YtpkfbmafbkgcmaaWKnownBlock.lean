/-
  The walk of conclavekeep.KnownBlock: a block of the stream is the standard's.
-/
import Derived.Test.YtpkfbmafbkgcmaaChaP
import Derived.Test.YtpkfbmafbkgcmaaHex
import Derived.Test.YtpkfbmafbkgcmaaSameK
set_option linter.unusedVariables false
set_option linter.unusedSimpArgs false
namespace Go.Proofs.Ytpkfbmafbkgcmaa
open Go.RowKit Go.Con

theorem knownB : Cha.block (hexB [48, 48, 48, 49, 48, 50, 48, 51, 48, 52, 48, 53, 48, 54, 48, 55, 48, 56, 48, 57, 48, 97, 48, 98, 48, 99, 48, 100, 48, 101, 48, 102, 49, 48, 49, 49, 49, 50, 49, 51, 49, 52, 49, 53, 49, 54, 49, 55, 49, 56, 49, 57, 49, 97, 49, 98, 49, 99, 49, 100, 49, 101, 49, 102]) (UInt32.ofNat 1) (hexB [48, 48, 48, 48, 48, 48, 48, 57, 48, 48, 48, 48, 48, 48, 52, 97, 48, 48, 48, 48, 48, 48, 48, 48]) = hexB [49, 48, 102, 49, 101, 55, 101, 52, 100, 49, 51, 98, 53, 57, 49, 53, 53, 48, 48, 102, 100, 100, 49, 102, 97, 51, 50, 48, 55, 49, 99, 52, 99, 55, 100, 49, 102, 52, 99, 55, 51, 51, 99, 48, 54, 56, 48, 51, 48, 52, 50, 50, 97, 97, 57, 97, 99, 51, 100, 52, 54, 99, 52, 101, 100, 50, 56, 50, 54, 52, 52, 54, 48, 55, 57, 102, 97, 97, 48, 57, 49, 52, 99, 50, 100, 55, 48, 53, 100, 57, 56, 98, 48, 50, 97, 50, 98, 53, 49, 50, 57, 99, 100, 49, 100, 101, 49, 54, 52, 101, 98, 57, 99, 98, 100, 48, 56, 51, 101, 56, 97, 50, 53, 48, 51, 99, 52, 101] := by decide +kernel
set_option maxRecDepth 100000 in
set_option maxHeartbeats 1000000 in
theorem walk_KnownBlock  (w : World)  :
    Calls Try.prog 3 #[] w fun e w' => e = .returned (.bool true) ∧ Below w.heap.size w w' := by
  have HB0 := Lib.hid (Below.refl w.heap.size w)
  have s0 : w.heap.size ≤ w.heap.size := Nat.le_refl _
  go_enter Try.func3, Try.ntmps3
  go_wp2_with fail
  refine (hex_any [48, 48, 48, 49, 48, 50, 48, 51, 48, 52, 48, 53, 48, 54, 48, 55, 48, 56, 48, 57, 48, 97, 48, 98, 48, 99, 48, 100, 48, 101, 48, 102, 49, 48, 49, 49, 49, 50, 49, 51, 49, 52, 49, 53, 49, 54, 49, 55, 49, 56, 49, 57, 49, 97, 49, 98, 49, 99, 49, 100, 49, 101, 49, 102] _ (by decide)).mono ?_
  rintro e w1 ⟨vk, rfl, hok, hb1⟩
  have T1 := Lib.hid hb1
  have HB1 := Lib.hid (HB0.out.trans (T1.out.mono s0))
  have s1 := HB1.out.size
  have R_k := Lib.hid hok.rd
  clear hb1 hok
  go_wp2_with fail
  refine (hex_any [48, 48, 48, 48, 48, 48, 48, 57, 48, 48, 48, 48, 48, 48, 52, 97, 48, 48, 48, 48, 48, 48, 48, 48] _ (by decide)).mono ?_
  rintro e w2 ⟨vn, rfl, hon, hb2⟩
  have T2 := Lib.hid hb2
  replace R_k := Lib.hid (R_k.out.stay T2.out)
  have HB2 := Lib.hid (HB1.out.trans (T2.out.mono s1))
  have s2 := HB2.out.size
  have R_n := Lib.hid hon.rd
  clear hb2 hon
  go_wp2_with fail
  refine (Block_nat _ _ _ _ _ 1 _ R_k.out R_n.out (by decide) (by decide) (by decide) rfl).mono ?_
  rintro e w3 ⟨vx, rfl, hox, hb3⟩
  have T3 := Lib.hid hb3
  replace R_k := Lib.hid (R_k.out.stay T3.out)
  replace R_n := Lib.hid (R_n.out.stay T3.out)
  have HB3 := Lib.hid (HB2.out.trans (T3.out.mono s2))
  have s3 := HB3.out.size
  have R_x := Lib.hid hox.rd
  clear hb3 hox
  clear R_k
  clear R_n
  go_wp2_with fail
  refine (hex_any [49, 48, 102, 49, 101, 55, 101, 52, 100, 49, 51, 98, 53, 57, 49, 53, 53, 48, 48, 102, 100, 100, 49, 102, 97, 51, 50, 48, 55, 49, 99, 52, 99, 55, 100, 49, 102, 52, 99, 55, 51, 51, 99, 48, 54, 56, 48, 51, 48, 52, 50, 50, 97, 97, 57, 97, 99, 51, 100, 52, 54, 99, 52, 101, 100, 50, 56, 50, 54, 52, 52, 54, 48, 55, 57, 102, 97, 97, 48, 57, 49, 52, 99, 50, 100, 55, 48, 53, 100, 57, 56, 98, 48, 50, 97, 50, 98, 53, 49, 50, 57, 99, 100, 49, 100, 101, 49, 54, 52, 101, 98, 57, 99, 98, 100, 48, 56, 51, 101, 56, 97, 50, 53, 48, 51, 99, 52, 101] _ (by decide)).mono ?_
  rintro e w4 ⟨vy, rfl, hoy, hb4⟩
  have T4 := Lib.hid hb4
  replace R_x := Lib.hid (R_x.out.stay T4.out)
  have HB4 := Lib.hid (HB3.out.trans (T4.out.mono s3))
  have s4 := HB4.out.size
  have R_y := Lib.hid hoy.rd
  clear hb4 hoy
  go_wp2_with fail
  refine (same_true _ _ _ _ _ R_x.out R_y.out knownB).mono ?_
  rintro e _ ⟨rfl, rfl⟩
  go_wp2
  go_ret
  exact ⟨rfl, HB4.out⟩

end Go.Proofs.Ytpkfbmafbkgcmaa
