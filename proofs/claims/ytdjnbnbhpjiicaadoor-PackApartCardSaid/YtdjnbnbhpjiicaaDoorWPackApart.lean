/-
  The walk of conclavekeep.PackApart: keys are each client's own.
-/
import Derived.Test.YtdjnbnbhpjiicaaDoorShaP
import Derived.Test.YtdjnbnbhpjiicaaDoorMootK
namespace Go.Proofs.YtdjnbnbhpjiicaaDoor
open Go.RowKit Go.Con

set_option maxRecDepth 100000 in
set_option maxHeartbeats 1000000 in
theorem walk_PackApart (vm : Value) (m : Int) (vn : Value) (n : Int) (w : World) (hm : IsInt vm m) (hn : IsInt vn n) (hk : Kn w) :
    Calls Tryd.prog 20 #[vm, vn] w fun e w' => e = .returned (.bool true) ∧ Below w.heap.size w w' := by
  obtain ⟨rfl, hm1, hm2⟩ := hm
  obtain ⟨rfl, hn1, hn2⟩ := hn
  have HK := Lib.hid hk
  clear hk
  have HB0 := Lib.hid (Below.refl w.heap.size w)
  have s0 : w.heap.size ≤ w.heap.size := Nat.le_refl _
  have p0 := pick_nonneg m 8 (by decide)
  have p1 := pick_lt m 8 (by decide)
  have q0 := pick_nonneg n 8 (by decide)
  have q1 := pick_lt n 8 (by decide)
  obtain ⟨b, hb⟩ : ∃ b : UInt8, pick m 8 = (b.toNat : Int) := ⟨UInt8.ofNat (pick m 8).toNat, by rw [UInt8.toNat_ofNat']; omega⟩
  obtain ⟨c, hc⟩ : ∃ c : UInt8, pick n 8 = (c.toNat : Int) := ⟨UInt8.ofNat (pick n 8).toNat, by rw [UInt8.toNat_ofNat']; omega⟩
  have hb7 : b.toNat ≤ 7 := by omega
  have hc7 : c.toNat ≤ 7 := by omega
  have hpm := fun w => picked_any m 8 w hm1 hm2 (by decide)
  have hpn := fun w => picked_any n 8 w hn1 hn2 (by decide)
  rw [hb] at hpm
  rw [hc] at hpn
  have HPM := Lib.hid hpm
  have HPN := Lib.hid hpn
  have hsame : (keyC b == keyC c) = ((b.toNat : Int) == (c.toNat : Int)) := by
    by_cases h : b = c
    · subst h; simp
    · rw [beq_eq_false_iff_ne.2 (fun e => h (keyC_inj b c hb7 hc7 e)), beq_eq_false_iff_ne.2 (fun e => h (UInt8.toNat_inj.1 (by exact_mod_cast e)))]
  have HSAME := Lib.hid hsame
  clear hpm hpn hb hc p0 p1 q0 q1 hsame
  go_enter Tryd.func20, Tryd.ntmps20
  go_wp2_with fail
  refine (HPM.out _).mono ?_
  rintro e _ ⟨rfl, rfl⟩
  go_wp2_with fail
  refine (HPN.out _).mono ?_
  rintro e _ ⟨rfl, rfl⟩
  go_wp2_with fail
  refine (Key_ok b _ hb7 (HK.out.stay HB0.out)).mono ?_
  rintro e w1 ⟨vx, rfl, hrx, _, hb1⟩
  have T1 := Lib.hid hb1
  have HB1 := Lib.hid (HB0.out.trans (T1.out.mono s0))
  have s1 := HB1.out.size
  have R_x := Lib.hid hrx
  clear hb1 hrx
  obtain ⟨ax, cx, rfl, hlcx, hcmx⟩ := R_x.out.sliceN 32 (keyC_length _)
  go_wp2_with fail
  refine (Key_ok c _ hc7 (HK.out.stay HB1.out)).mono ?_
  rintro e w2 ⟨vy, rfl, hry, _, hb2⟩
  have T2 := Lib.hid hb2
  replace R_x := Lib.hid (R_x.out.stay T2.out)
  have HB2 := Lib.hid (HB1.out.trans (T2.out.mono s1))
  have s2 := HB2.out.size
  have R_y := Lib.hid hry
  clear hb2 hry
  obtain ⟨ay, cy, rfl, hlcy, hcmy⟩ := R_y.out.sliceN 32 (keyC_length _)
  go_wp2_with fail
  refine (Key_bad 8 _ (by omega)).mono ?_
  rintro e _ ⟨rfl, rfl⟩
  go_wp2_with fail
  refine (Issuer_any _ (HK.out.stay HB2.out)).mono ?_
  rintro e w3 ⟨vz, rfl, hrz, _, hb3⟩
  have T3 := Lib.hid hb3
  replace R_x := Lib.hid (R_x.out.stay T3.out)
  replace R_y := Lib.hid (R_y.out.stay T3.out)
  have HB3 := Lib.hid (HB2.out.trans (T3.out.mono s2))
  have s3 := HB3.out.size
  have R_z := Lib.hid hrz
  clear hb3 hrz
  obtain ⟨az, cz, rfl, hlcz, hcmz⟩ := R_z.out.sliceN 32 (keyI_length)
  go_wp2_with fail
  refine (same_any _ _ _ _ _ R_x.out R_y.out).mono ?_
  rintro e _ ⟨rfl, rfl⟩
  rw [HSAME.out]
  go_wp2_with fail
  refine (same_any _ _ _ _ _ R_x.out R_z.out).mono ?_
  rintro e _ ⟨rfl, rfl⟩
  rw [beq_eq_false_iff_ne.2 (keyI_ne b hb7)]
  go_wp2
  go_ret
  exact ⟨rfl, HB3.out⟩

end Go.Proofs.YtdjnbnbhpjiicaaDoor
