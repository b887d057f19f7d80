/-
  The walk of conclavekeep.KnownSums: three digests are the standard's.
-/
import Derived.Test.YtdjnbnbhpjiicaaDoorShaM
import Derived.Test.YtdjnbnbhpjiicaaDoorHex
import Derived.Test.YtdjnbnbhpjiicaaDoorSameK
import Derived.Test.YtdjnbnbhpjiicaaDoorKnF
import Derived.Lib.SlBytesConst
namespace Go.Proofs.YtdjnbnbhpjiicaaDoor
open Go.RowKit Go.Con

theorem known1 : Sha.sum [] = hexB [101, 51, 98, 48, 99, 52, 52, 50, 57, 56, 102, 99, 49, 99, 49, 52, 57, 97, 102, 98, 102, 52, 99, 56, 57, 57, 54, 102, 98, 57, 50, 52, 50, 55, 97, 101, 52, 49, 101, 52, 54, 52, 57, 98, 57, 51, 52, 99, 97, 52, 57, 53, 57, 57, 49, 98, 55, 56, 53, 50, 98, 56, 53, 53] := by decide +kernel
theorem known2 : Sha.sum [97, 98, 99] = hexB [98, 97, 55, 56, 49, 54, 98, 102, 56, 102, 48, 49, 99, 102, 101, 97, 52, 49, 52, 49, 52, 48, 100, 101, 53, 100, 97, 101, 50, 50, 50, 51, 98, 48, 48, 51, 54, 49, 97, 51, 57, 54, 49, 55, 55, 97, 57, 99, 98, 52, 49, 48, 102, 102, 54, 49, 102, 50, 48, 48, 49, 53, 97, 100] := by decide +kernel
theorem known3 : Sha.sum [97, 98, 99, 100, 98, 99, 100, 101, 99, 100, 101, 102, 100, 101, 102, 103, 101, 102, 103, 104, 102, 103, 104, 105, 103, 104, 105, 106, 104, 105, 106, 107, 105, 106, 107, 108, 106, 107, 108, 109, 107, 108, 109, 110, 108, 109, 110, 111, 109, 110, 111, 112, 110, 111, 112, 113] = hexB [50, 52, 56, 100, 54, 97, 54, 49, 100, 50, 48, 54, 51, 56, 98, 56, 101, 53, 99, 48, 50, 54, 57, 51, 48, 99, 51, 101, 54, 48, 51, 57, 97, 51, 51, 99, 101, 52, 53, 57, 54, 52, 102, 102, 50, 49, 54, 55, 102, 54, 101, 99, 101, 100, 100, 52, 49, 57, 100, 98, 48, 54, 99, 49] := by decide +kernel

set_option maxRecDepth 100000 in
set_option maxHeartbeats 1000000 in
theorem walk_KnownSums (w : World) (hk : Kn w) :
    Calls Tryd.prog 5 #[] w fun e w' => e = .returned (.bool true) ∧ Below w.heap.size w w' := by
  have HK := Lib.hid hk
  clear hk
  have kc := fun (w : World) (C : Array Value) (n c : Nat) => Lib.run_convert_bytes_const (P := Tryd.prog) w 35 5 C n c Tryd.underlying35 Tryd.underlying5
  go_enter Tryd.func5, Tryd.ntmps5
  go_wp2_with fail
  refine (Sum_ok _ [] _ (Rd.nil _) (by simp) HK.out).mono ?_
  rintro e w1 ⟨v1, rfl, ho1, hb1⟩
  have HO1 := Lib.hid ho1
  have HB1 := Lib.hid hb1
  clear ho1 hb1
  go_wp2_with fail
  have s1 := HB1.out.size
  have hba := Lib.hid (HB1.out.alloc s1 (.cells ([97, 98, 99].map u8v).toArray 5 (3, 4)))
  refine (Sum_ok _ [97, 98, 99] _ (Rd.newMark w1 [97, 98, 99] 3 (3, 4) rfl (by decide)) (by decide) (HK.out.stay hba.out)).mono ?_
  rintro e w2 ⟨v2, rfl, ho2, hb2⟩
  have HO2 := Lib.hid ho2
  have HB2 := Lib.hid (hba.out.trans (hb2.mono (by simp; omega)))
  have hsa : w1.heap.size + 1 ≤ w2.heap.size := by have := hb2.size; simpa using this
  have hbx := Lib.hid hb2
  clear ho2 hb2
  go_wp2_with fail
  have s2 := HB2.out.size
  have hbb := Lib.hid (HB2.out.alloc s2 (.cells ([97, 98, 99, 100, 98, 99, 100, 101, 99, 100, 101, 102, 100, 101, 102, 103, 101, 102, 103, 104, 102, 103, 104, 105, 103, 104, 105, 106, 104, 105, 106, 107, 105, 106, 107, 108, 106, 107, 108, 109, 107, 108, 109, 110, 108, 109, 110, 111, 109, 110, 111, 112, 110, 111, 112, 113].map u8v).toArray 5 (56, 57)))
  refine (Sum_ok _ [97, 98, 99, 100, 98, 99, 100, 101, 99, 100, 101, 102, 100, 101, 102, 103, 101, 102, 103, 104, 102, 103, 104, 105, 103, 104, 105, 106, 104, 105, 106, 107, 105, 106, 107, 108, 106, 107, 108, 109, 107, 108, 109, 110, 108, 109, 110, 111, 109, 110, 111, 112, 110, 111, 112, 113] _ (Rd.newMark w2 [97, 98, 99, 100, 98, 99, 100, 101, 99, 100, 101, 102, 100, 101, 102, 103, 101, 102, 103, 104, 102, 103, 104, 105, 103, 104, 105, 106, 104, 105, 106, 107, 105, 106, 107, 108, 106, 107, 108, 109, 107, 108, 109, 110, 108, 109, 110, 111, 109, 110, 111, 112, 110, 111, 112, 113] 56 (56, 57) rfl (by decide)) (by decide) (HK.out.stay hbb.out)).mono ?_
  rintro e w3 ⟨v3, rfl, ho3, hb3⟩
  have HO3 := Lib.hid ho3
  have HB3 := Lib.hid (hbb.out.trans (hb3.mono (by simp; omega)))
  have hsb : w2.heap.size + 1 ≤ w3.heap.size := by have := hb3.size; simpa using this
  have hby := Lib.hid hb3
  clear ho3 hb3
  have s3 := HB3.out.size
  have R1 := Lib.hid (((HO1.out.rd.stay ((Below.refl _ _).alloc (Nat.le_refl _) _)).stay hbx.out).stay ((Below.refl _ _).alloc (Nat.le_refl _) _) |>.stay hby.out)
  have R2 := Lib.hid ((HO2.out.rd.stay ((Below.refl _ _).alloc (Nat.le_refl _) _)).stay hby.out)
  have R3 := Lib.hid HO3.out.rd
  go_wp2_with fail
  refine (hex_any [101, 51, 98, 48, 99, 52, 52, 50, 57, 56, 102, 99, 49, 99, 49, 52, 57, 97, 102, 98, 102, 52, 99, 56, 57, 57, 54, 102, 98, 57, 50, 52, 50, 55, 97, 101, 52, 49, 101, 52, 54, 52, 57, 98, 57, 51, 52, 99, 97, 52, 57, 53, 57, 57, 49, 98, 55, 56, 53, 50, 98, 56, 53, 53] _ (by decide)).mono ?_
  rintro e w4 ⟨v4, rfl, ho4, hb4⟩
  have HO4 := Lib.hid ho4
  have HB4 := Lib.hid (HB3.out.trans (hb4.mono s3))
  have s4 := HB4.out.size
  have T4 := Lib.hid hb4
  clear ho4 hb4
  go_wp2_with fail
  refine (same_true _ _ _ _ _ (R1.out.stay T4.out) HO4.out.rd known1).mono ?_
  rintro e _ ⟨rfl, rfl⟩
  have R2 := Lib.hid (R2.out.stay T4.out)
  have R3 := Lib.hid (R3.out.stay T4.out)
  go_wp2_with fail
  refine (hex_any [98, 97, 55, 56, 49, 54, 98, 102, 56, 102, 48, 49, 99, 102, 101, 97, 52, 49, 52, 49, 52, 48, 100, 101, 53, 100, 97, 101, 50, 50, 50, 51, 98, 48, 48, 51, 54, 49, 97, 51, 57, 54, 49, 55, 55, 97, 57, 99, 98, 52, 49, 48, 102, 102, 54, 49, 102, 50, 48, 48, 49, 53, 97, 100] _ (by decide)).mono ?_
  rintro e w5 ⟨v5, rfl, ho5, hb5⟩
  have HO5 := Lib.hid ho5
  have HB5 := Lib.hid (HB4.out.trans (hb5.mono s4))
  have s5 := HB5.out.size
  have T5 := Lib.hid hb5
  clear ho5 hb5
  go_wp2_with fail
  refine (same_true _ _ _ _ _ (R2.out.stay T5.out) HO5.out.rd known2).mono ?_
  rintro e _ ⟨rfl, rfl⟩
  have R3 := Lib.hid (R3.out.stay T5.out)
  go_wp2_with fail
  refine (hex_any [50, 52, 56, 100, 54, 97, 54, 49, 100, 50, 48, 54, 51, 56, 98, 56, 101, 53, 99, 48, 50, 54, 57, 51, 48, 99, 51, 101, 54, 48, 51, 57, 97, 51, 51, 99, 101, 52, 53, 57, 54, 52, 102, 102, 50, 49, 54, 55, 102, 54, 101, 99, 101, 100, 100, 52, 49, 57, 100, 98, 48, 54, 99, 49] _ (by decide)).mono ?_
  rintro e w6 ⟨v6, rfl, ho6, hb6⟩
  have HO6 := Lib.hid ho6
  have HB6 := Lib.hid (HB5.out.trans (hb6.mono s5))
  have s6 := HB6.out.size
  have T6 := Lib.hid hb6
  clear ho6 hb6
  go_wp2_with fail
  refine (same_true _ _ _ _ _ (R3.out.stay T6.out) HO6.out.rd known3).mono ?_
  rintro e _ ⟨rfl, rfl⟩
  go_wp2
  go_ret
  exact ⟨rfl, HB6.out⟩

end Go.Proofs.YtdjnbnbhpjiicaaDoor
