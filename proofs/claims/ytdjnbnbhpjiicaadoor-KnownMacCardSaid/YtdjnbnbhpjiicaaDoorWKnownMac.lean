/-
  The walk of conclavekeep.KnownMac: a Mac is the standard's.
-/
import Derived.Test.YtdjnbnbhpjiicaaDoorShaMac
import Derived.Test.YtdjnbnbhpjiicaaDoorMootK
import Derived.Test.YtdjnbnbhpjiicaaDoorHex
import Derived.Test.YtdjnbnbhpjiicaaDoorSameK
import Derived.Test.YtdjnbnbhpjiicaaDoorKnF
import Derived.Test.YtdjnbnbhpjiicaaDoorFrm
import Derived.Lib.SlBytesConst
namespace Go.Proofs.YtdjnbnbhpjiicaaDoor
open Go.RowKit Go.Con

theorem knownM : Sha.mac [74, 101, 102, 101] [119, 104, 97, 116, 32, 100, 111, 32, 121, 97, 32, 119, 97, 110, 116, 32, 102, 111, 114, 32, 110, 111, 116, 104, 105, 110, 103, 63] = hexB [53, 98, 100, 99, 99, 49, 52, 54, 98, 102, 54, 48, 55, 53, 52, 101, 54, 97, 48, 52, 50, 52, 50, 54, 48, 56, 57, 53, 55, 53, 99, 55, 53, 97, 48, 48, 51, 102, 48, 56, 57, 100, 50, 55, 51, 57, 56, 51, 57, 100, 101, 99, 53, 56, 98, 57, 54, 52, 101, 99, 51, 56, 52, 51] := by decide +kernel

set_option maxRecDepth 100000 in
set_option maxHeartbeats 1000000 in
theorem walk_KnownMac (w : World) (hk : Kn w) :
    Calls Tryd.prog 7 #[] w fun e w' => e = .returned (.bool true) ∧ Below w.heap.size w w' := by
  have HK := Lib.hid hk
  clear hk
  have kc := fun (w : World) (C : Array Value) (n c : Nat) => Lib.run_convert_bytes_const (P := Tryd.prog) w 35 5 C n c Tryd.underlying35 Tryd.underlying5
  have kc2 := fun (w : World) (A : Obj) (C : Array Value) (n c : Nat) => kconst1 w A C n c
  go_enter Tryd.func7, Tryd.ntmps7
  go_wp2_with fail
  have b1 : Below w.heap.size w ((w.alloc (.cells ([74, 101, 102, 101].map u8v).toArray 5 (4, 5))).alloc (.cells ([119, 104, 97, 116, 32, 100, 111, 32, 121, 97, 32, 119, 97, 110, 116, 32, 102, 111, 114, 32, 110, 111, 116, 104, 105, 110, 103, 63].map u8v).toArray 5 (28, 29))) := ((Below.refl _ _).alloc (Nat.le_refl _) _).alloc (by simp) _
  have hr1 : Rd ((w.alloc (.cells ([74, 101, 102, 101].map u8v).toArray 5 (4, 5))).alloc (.cells ([119, 104, 97, 116, 32, 100, 111, 32, 121, 97, 32, 119, 97, 110, 116, 32, 102, 111, 114, 32, 110, 111, 116, 104, 105, 110, 103, 63].map u8v).toArray 5 (28, 29))) (.slice (some ⟨w.heap.size, 0, none⟩) 4 4) [74, 101, 102, 101] := (Rd.newMark w [74, 101, 102, 101] 4 (4, 5) rfl (by decide)).alloc _
  have hr2 : Rd ((w.alloc (.cells ([74, 101, 102, 101].map u8v).toArray 5 (4, 5))).alloc (.cells ([119, 104, 97, 116, 32, 100, 111, 32, 121, 97, 32, 119, 97, 110, 116, 32, 102, 111, 114, 32, 110, 111, 116, 104, 105, 110, 103, 63].map u8v).toArray 5 (28, 29))) (.slice (some ⟨w.heap.size + 1, 0, none⟩) 28 28) [119, 104, 97, 116, 32, 100, 111, 32, 121, 97, 32, 119, 97, 110, 116, 32, 102, 111, 114, 32, 110, 111, 116, 104, 105, 110, 103, 63] := by
    have h := Rd.newMark (w.alloc (.cells ([74, 101, 102, 101].map u8v).toArray 5 (4, 5))) [119, 104, 97, 116, 32, 100, 111, 32, 121, 97, 32, 119, 97, 110, 116, 32, 102, 111, 114, 32, 110, 111, 116, 104, 105, 110, 103, 63] 28 (28, 29) rfl (by decide)
    have e : (w.alloc (.cells ([74, 101, 102, 101].map u8v).toArray 5 (4, 5))).heap.size = w.heap.size + 1 := by simp
    rw [e] at h
    exact h
  refine (Mac_ok _ _ [74, 101, 102, 101] [119, 104, 97, 116, 32, 100, 111, 32, 121, 97, 32, 119, 97, 110, 116, 32, 102, 111, 114, 32, 110, 111, 116, 104, 105, 110, 103, 63] _ hr1 hr2 (by decide) (by decide) (HK.out.stay b1)).mono ?_
  rintro e w2 ⟨v2, rfl, hv2, hb2⟩
  have HV2 := Lib.hid hv2.rd
  have HB2 := Lib.hid (b1.trans (hb2.mono (by simp; omega)))
  clear hv2 hb2 b1 hr1 hr2
  go_wp2_with fail
  refine (hex_any [53, 98, 100, 99, 99, 49, 52, 54, 98, 102, 54, 48, 55, 53, 52, 101, 54, 97, 48, 52, 50, 52, 50, 54, 48, 56, 57, 53, 55, 53, 99, 55, 53, 97, 48, 48, 51, 102, 48, 56, 57, 100, 50, 55, 51, 57, 56, 51, 57, 100, 101, 99, 53, 56, 98, 57, 54, 52, 101, 99, 51, 56, 52, 51] _ (by decide)).mono ?_
  rintro e w3 ⟨v3, rfl, ho3, hb3⟩
  have HR3 := Lib.hid (HV2.out.stay hb3)
  have HB3 := Lib.hid (HB2.out.trans (hb3.mono HB2.out.size))
  have HO3 := Lib.hid ho3.rd
  clear hb3 ho3
  go_wp2_with fail
  refine (same_true _ _ _ _ _ HR3.out HO3.out knownM).mono ?_
  rintro e _ ⟨rfl, rfl⟩
  go_wp2
  go_ret
  exact ⟨rfl, HB3.out⟩
end Go.Proofs.YtdjnbnbhpjiicaaDoor
