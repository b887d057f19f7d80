/-
  The walks of sha.mac, Mac and Draw.
-/
import Derived.Test.YtdjnbnbhpjiicaaDoorShaM
set_option linter.unusedVariables false
set_option linter.unusedSimpArgs false
namespace Go.Proofs.YtdjnbnbhpjiicaaDoor
open Go.RowKit Go.Con

theorem Own.ne {w : World} {base : Nat} {v : Value} {l : List UInt8} (h : Own w base v l) {k : Nat} (hk : k < base) : v.ownBlock ≠ some k := fun e => by have := (h.lt k e).1; omega

set_option maxRecDepth 100000 in
set_option maxHeartbeats 1000000 in
theorem mac_any (kv v : Value) (k l : List UInt8) (w : World) (hkv : Rd w kv k) (hv : Rd w v l) (hkl : k.length ≤ 1099511627776) (hl : l.length ≤ 1099511627000) (hk : Kn w) :
    Calls Tryd.prog 46 #[kv, v] w (FreshB w (Sha.mac k l)) := by
  have HKV := Lib.hid hkv
  have HV := Lib.hid hv
  have HK := Lib.hid hk
  clear hkv hv hk
  have hp : ∀ x, (Sha.padKey k x).length = 64 := Sha.padKey_length k
  have HP := Lib.hid hp
  clear hp
  go_enter Tryd.func46, Tryd.ntmps46
  go_wp2_with fail
  refine (pad_any _ k 92 _ HKV.out hkl HK.out).mono ?_
  rintro e w1 ⟨v1, rfl, ho1, hb1⟩
  have HO1 := Lib.hid ho1
  have HB1 := Lib.hid hb1
  clear ho1 hb1
  go_wp2_with fail
  refine (pad_any _ k 54 _ (HKV.out.stay HB1.out) hkl (HK.out.stay HB1.out)).mono ?_
  rintro e w2 ⟨v2, rfl, ho2, hb2⟩
  have HO2 := Lib.hid ho2
  have HB2 := Lib.hid hb2
  clear ho2 hb2
  have h12 := HB1.out.size
  have h23 := HB2.out.size
  have HB02 := Lib.hid (HB1.out.trans (HB2.out.mono h12))
  have hv2 := Lib.hid (HV.out.stay HB02.out)
  have ho12 := Lib.hid (HO1.out.below HB2.out (fun k hk => (HO1.out.lt k hk).2))
  go_wp2_with (first
    | (go_at_call 45; fail)
    | (at_builtin; refine apB rfl (.tmp 8) (.tmp 9) rfl w1.heap.size v2 _ (Sha.padKey k 54) l rfl HO2.out rfl hv2.out (by rw [HP.out]; omega) h23 ?_; intro v3 w3 ho3 hg3; have HO3 := Lib.hid ho3; have HG3 := Lib.hid hg3; clear ho3 hg3))
  have HB3 := Lib.hid (HB02.out.grown HG3.out (by omega) (fun k hk => by have := (HO2.out.lt k hk).1; omega))
  refine (sum_any _ _ _ HO3.out.rd (by rw [List.length_append, HP.out]; omega) (HK.out.stay HB3.out)).mono ?_
  rintro e w4 ⟨v4, rfl, ho4, hb4⟩
  have HO4 := Lib.hid ho4
  have HB4 := Lib.hid hb4
  clear ho4 hb4
  have h34 := HB4.out.size
  have h23' := HG3.out.size
  have ho13 := Lib.hid (ho12.out.kept HG3.out (fun k hk hk' => by have := (HO2.out.lt k hk).1; have := (HO1.out.lt k hk').2; omega))
  have ho14 := Lib.hid (ho13.out.below HB4.out (fun k hk => by have := (HO1.out.lt k hk).2; omega))
  go_wp2_with (first
    | (go_at_call 45; fail)
    | (at_builtin; refine apB rfl (.tmp 6) (.tmp 11) rfl w.heap.size v1 v4 (Sha.padKey k 92) _ rfl ho14.out rfl HO4.out.rd (by rw [HP.out, Sha.sum_length]; omega) (by omega) ?_; intro v5 w5 ho5 hg5; have HO5 := Lib.hid ho5; have HG5 := Lib.hid hg5; clear ho5 hg5))
  have HB5 := Lib.hid ((HB3.out.trans (HB4.out.mono (by omega))).grown HG5.out (by omega) (fun k hk => (ho14.out.lt k hk).1))
  refine (sum_any _ _ _ HO5.out.rd (by rw [List.length_append, HP.out, Sha.sum_length]; omega) (HK.out.stay HB5.out)).mono ?_
  rintro e w6 ⟨v6, rfl, ho6, hb6⟩
  have HO6 := Lib.hid ho6
  have HB6 := Lib.hid hb6
  clear ho6 hb6
  have h56 := HG5.out.size
  go_wp2
  go_ret
  exact ⟨_, rfl, HO6.out.mono (by omega), HB5.out.trans (HB6.out.mono (by omega))⟩

set_option maxHeartbeats 400000 in
theorem Mac_ok (kv v : Value) (k l : List UInt8) (w : World) (hkv : Rd w kv k) (hv : Rd w v l) (hkl : k.length ≤ 256) (hl : l.length ≤ 2000) (hk : Kn w) :
    Calls Tryd.prog 30 #[kv, v] w (FreshBE w (Sha.mac k l) 0) := by
  obtain ⟨a, c, rfl, hlc, hcm⟩ := hv.slice
  obtain ⟨ka, kc, rfl, hklc, hkcm⟩ := hkv.slice
  have HKV := Lib.hid hkv
  have HV := Lib.hid hv
  have HK := Lib.hid hk
  clear hkv hv hk
  go_enter Tryd.func30, Tryd.ntmps30
  go_wp2_with (go_at_call 46; refine (mac_any _ _ k l _ HKV.out HV.out (by omega) (by omega) HK.out).mono ?_; rintro e w1 ⟨v1, rfl, ho1, hb1⟩; have HO1 := Lib.hid ho1; have HB1 := Lib.hid hb1; clear ho1 hb1)
  go_ret2
  exact ⟨_, rfl, HO1.out, HB1.out⟩

end Go.Proofs.YtdjnbnbhpjiicaaDoor
