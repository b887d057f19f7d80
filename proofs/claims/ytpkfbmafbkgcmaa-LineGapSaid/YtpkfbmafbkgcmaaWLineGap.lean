/-
  The walk of conclavekeep.LineGap: a jump forgets what is too far behind.
-/
import Derived.Test.YtpkfbmafbkgcmaaLiV
import Derived.Test.YtpkfbmafbkgcmaaFrm
import Derived.Test.YtpkfbmafbkgcmaaPick
set_option linter.unusedVariables false
set_option linter.unusedSimpArgs false
namespace Go.Proofs.Ytpkfbmafbkgcmaa
open Go.RowKit Go.Con

theorem newBe (W : World) (b : Nat) (x : Int) (y : UInt8) (hb : b = W.heap.size) (hx : x = y.toNat) : Rd (W.alloc (.cells #[.int .u8 x] 5)) (.slice (some ⟨b, 0, none⟩) 1 1) [y] := by
  subst hb; exact newB W x y hx
set_option maxRecDepth 100000 in
set_option maxHeartbeats 4000000 in
theorem walk_LineGap (vk : Value) (k : List UInt8) (vi : Value) (i : Int) (vj : Value) (j : Int) (w : World) (hk : Rd w vk k) (hi : IsInt vi i) (hj : IsInt vj j) :
    Calls Try.prog 20 #[vk, vi, vj] w fun e w' => e = .returned (.bool true) ∧ Below w.heap.size w w' := by
  obtain ⟨ak, ck, rfl, hlck, hcmk⟩ := hk.slice
  have R_k := Lib.hid hk
  clear hk
  obtain ⟨rfl, hi1, hi2⟩ := hi
  obtain ⟨rfl, hj1, hj2⟩ := hj
  have HB0 := Lib.hid (Below.refl w.heap.size w)
  have s0 : w.heap.size ≤ w.heap.size := Nat.le_refl _
  obtain ⟨K, hKe⟩ : ∃ K, K = fill k 32 := ⟨_, rfl⟩
  have hKl : K.length = 32 := by rw [hKe]; exact fill_length _ _
  have hfK := fun v w (h : Rd w v k) => filled_any v k 32 w h (by decide)
  rw [← hKe] at hfK
  have HFK := Lib.hid hfK
  have HLK := Lib.hid hKl
  have HEK := Lib.hid hKe
  clear hKe hKl hfK
  have p0 := pick_nonneg i 1000 (by decide)
  have p1 := pick_lt i 1000 (by decide)
  obtain ⟨n, hn⟩ : ∃ c : Nat, pick i 1000 = (c : Int) := ⟨(pick i 1000).toNat, by omega⟩
  have hpn := fun w => picked_any i 1000 w hi1 hi2 (by decide)
  rw [hn] at hpn
  have HPn := Lib.hid hpn
  have hnb : n < 1000 := by omega
  clear hpn hn p0 p1
  have p0 := pick_nonneg j 1000 (by decide)
  have p1 := pick_lt j 1000 (by decide)
  obtain ⟨jn, hjn⟩ : ∃ c : Nat, pick j 1000 = (c : Int) := ⟨(pick j 1000).toNat, by omega⟩
  have hpjn := fun w => picked_any j 1000 w hj1 hj2 (by decide)
  rw [hjn] at hpjn
  have HPjn := Lib.hid hpjn
  have hjnb : jn < 1000 := by omega
  clear hpjn hjn p0 p1
  obtain ⟨m, hm⟩ : ∃ m, m = n + 8 + jn := ⟨_, rfl⟩
  obtain ⟨z, hz⟩ : ∃ z, z = m - 7 := ⟨_, rfl⟩
  have hmi : (n : Int) + 8 + (jn : Int) = (m : Int) := by omega
  have hzi : (m : Int) - 8 + 1 = (z : Int) := by omega
  have hmb : m < 3000 := by omega
  have hzb : z < 3000 := by omega
  obtain ⟨T, hT⟩ : ∃ T, T = max 0 (m + 1) := ⟨_, rfl⟩
  obtain ⟨g, hg⟩ : ∃ g, g = withF 0 m (fun _ => false) := ⟨_, rfl⟩
  have hrep : Rep T g (fun k => false || decide (k = m)) := by rw [hT, hg]; exact Rep.none.with' m (by omega)
  have hTv : T = m + 1 := by omega
  have hmx : metB T n g = true := by rw [hrep.met n]; simp; omega
  have hmz : metB T z g = false := by rw [hrep.met z]; simp; omega
  obtain ⟨U, hU⟩ : ∃ U, U = max T (z + 1) := ⟨_, rfl⟩
  obtain ⟨h, hh⟩ : ∃ h, h = withF T z g := ⟨_, rfl⟩
  have hUi : (U : Int) = (m : Int) + 1 := by omega
  have htk1 := fun (a : Addr) (c : Nat) (rv : Value) (w : World) h2 h3 hkl => Take_rec a c rv K (recB K m [2]) [2] 0 0 m (fun _ => false) w h2 h3 hkl rfl (by decide) (by omega) (by decide) (by decide) Rep.none.ok (by simp [metB])
  rw [← hT, ← hg] at htk1
  have htk2 := fun (a : Addr) (c : Nat) (rv : Value) (w : World) h2 h3 hkl => Take_recOld a c rv K (recB K n [1]) [1] 0 T n g w h2 h3 hkl rfl (by decide) (by omega) (by decide) (by omega) hrep.ok hmx
  have htk3 := fun (a : Addr) (c : Nat) (rv : Value) (w : World) h2 h3 hkl => Take_rec a c rv K (recB K z [3]) [3] 0 T z g w h2 h3 hkl rfl (by decide) (by omega) (by decide) (by omega) hrep.ok hmz
  rw [← hU, ← hh] at htk3
  have HTK1_ := Lib.hid htk1
  have HTK2_ := Lib.hid htk2
  have HTK3_ := Lib.hid htk3
  have HUI_ := Lib.hid hUi
  have hTb : T ≤ 4000 := by omega
  clear hm hz hT hg hrep hTv hmx hmz hU hh htk1 htk2 htk3 hUi
  go_enter Try.func20, Try.ntmps20
  go_wp2_with fail
  refine (HFK.out _ _ R_k.out).mono ?_
  rintro e w1 ⟨vkk, rfl, hokk, hb1⟩
  have T1 := Lib.hid hb1
  replace R_k := Lib.hid (R_k.out.stay T1.out)
  have HB1 := Lib.hid (HB0.out.trans (T1.out.mono s0))
  have s1 := HB1.out.size
  have R_kk := Lib.hid hokk.rd
  clear hb1 hokk
  obtain ⟨bk, ok, ck, hvk, _, _⟩ := R_kk.out.shapeN 32 HLK.out (by decide)
  subst hvk
  go_wp2_with fail
  refine (HPn.out _).mono ?_
  rintro e _ ⟨rfl, rfl⟩
  go_wp2_with fail
  refine (HPjn.out _).mono ?_
  rintro e _ ⟨rfl, rfl⟩
  go_wp2_with fail
  refine (Send_ok ⟨bk, ok, none⟩ ck _ K [1] n 0 (fun _ => false) _ (R_kk.out.alloc _) (newBe _ _ 1 1 (by simp) rfl) HLK.out (by decide) (by omega) (by decide) Rep.none.ok).mono ?_
  rintro e w2 ⟨kv2, rv2, rfl, hok, hor, hb2⟩
  obtain ⟨kg2, kcap2, hkv, _, _, _, _⟩ := hok.shape (by intro h; have := HLK.out; rw [h] at this; cases this)
  rw [HLK.out] at hkv
  subst hkv
  unfold chanC
  have T2 := Lib.hid (((Below.refl _ _).alloc (Nat.le_refl _) _).trans (hb2.mono (by simp)))
  replace R_k := Lib.hid (R_k.out.stay T2.out)
  replace R_kk := Lib.hid (R_kk.out.stay T2.out)
  have HB2 := Lib.hid (HB1.out.trans (T2.out.mono s1))
  have s2 := HB2.out.size
  have R_x := Lib.hid hor.rd
  clear hok hor hb2
  go_wp2_with fail
  refine (Send_ok ⟨bk, ok, none⟩ ck _ K [2] m 0 (fun _ => false) _ ((R_kk.out.alloc _).alloc _) (newBe _ _ 2 2 (by simp) rfl) HLK.out (by decide) (by omega) (by decide) Rep.none.ok).mono ?_
  rintro e w3 ⟨kv3, rv3, rfl, hok, hor, hb3⟩
  obtain ⟨kg3, kcap3, hkv, _, _, _, _⟩ := hok.shape (by intro h; have := HLK.out; rw [h] at this; cases this)
  rw [HLK.out] at hkv
  subst hkv
  unfold chanC
  have T3 := Lib.hid ((((Below.refl _ _).alloc (Nat.le_refl _) _).alloc (by simp) _).trans (hb3.mono (by simp; omega)))
  replace R_k := Lib.hid (R_k.out.stay T3.out)
  replace R_kk := Lib.hid (R_kk.out.stay T3.out)
  replace R_x := Lib.hid (R_x.out.stay T3.out)
  have HB3 := Lib.hid (HB2.out.trans (T3.out.mono s2))
  have s3 := HB3.out.size
  have R_y := Lib.hid hor.rd
  clear hok hor hb3
  go_wp2_with fail
  refine (Send_ok ⟨bk, ok, none⟩ ck _ K [3] z 0 (fun _ => false) _ ((R_kk.out.alloc _).alloc _) (newBe _ _ 3 3 (by simp) rfl) HLK.out (by decide) (by omega) (by decide) Rep.none.ok).mono ?_
  rintro e w4 ⟨kv4, rv4, rfl, hok, hor, hb4⟩
  obtain ⟨kg4, kcap4, hkv, _, _, _, _⟩ := hok.shape (by intro h; have := HLK.out; rw [h] at this; cases this)
  rw [HLK.out] at hkv
  subst hkv
  unfold chanC
  have T4 := Lib.hid ((((Below.refl _ _).alloc (Nat.le_refl _) _).alloc (by simp) _).trans (hb4.mono (by simp; omega)))
  replace R_k := Lib.hid (R_k.out.stay T4.out)
  replace R_kk := Lib.hid (R_kk.out.stay T4.out)
  replace R_x := Lib.hid (R_x.out.stay T4.out)
  replace R_y := Lib.hid (R_y.out.stay T4.out)
  have HB4 := Lib.hid (HB3.out.trans (T4.out.mono s3))
  have s4 := HB4.out.size
  have R_z := Lib.hid hor.rd
  clear hok hor hb4
  go_wp2_with fail
  refine (HTK1_.out ⟨bk, ok, none⟩ ck _ _ (R_kk.out.alloc _) (R_y.out.alloc _) HLK.out).mono ?_
  rintro e w5 ⟨kv, pv, rfl, hok, hop, hb5⟩
  obtain ⟨kg, kcap, hkv, _, _, _, _⟩ := hok.shape (by intro h; have := HLK.out; rw [h] at this; cases this)
  rw [HLK.out] at hkv
  subst hkv
  unfold chanC
  have T5 := Lib.hid (((Below.refl _ _).alloc (Nat.le_refl _) _).trans (hb5.mono (by simp)))
  replace R_k := Lib.hid (R_k.out.stay T5.out)
  replace R_kk := Lib.hid (R_kk.out.stay T5.out)
  replace R_x := Lib.hid (R_x.out.stay T5.out)
  replace R_y := Lib.hid (R_y.out.stay T5.out)
  replace R_z := Lib.hid (R_z.out.stay T5.out)
  have HB5 := Lib.hid (HB4.out.trans (T5.out.mono s4))
  have s5 := HB5.out.size
  have R_p := Lib.hid hop.rd
  have R_c := Lib.hid hok.rd
  clear hok hop hb5
  go_wp2_with fail
  refine (HTK2_.out _ kcap _ _ (R_c.out.alloc _) (R_x.out.alloc _) HLK.out).mono ?_
  rintro e w6 ⟨rfl, hb6⟩
  have xc := (hb6.block w5.heap.size (by simp)).trans (heapNew w5 (.cells #[.slice (some ⟨kg, 0, none⟩) 32 kcap, .int .i64 0, .int .i64 T, .bool (g 0), .bool (g 1), .bool (g 2), .bool (g 3), .bool (g 4), .bool (g 5), .bool (g 6), .bool (g 7)] 43))
  have T6 := Lib.hid (((Below.refl _ _).alloc (Nat.le_refl _) _).trans (hb6.mono (by simp)))
  replace R_k := Lib.hid (R_k.out.stay T6.out)
  replace R_kk := Lib.hid (R_kk.out.stay T6.out)
  replace R_x := Lib.hid (R_x.out.stay T6.out)
  replace R_y := Lib.hid (R_y.out.stay T6.out)
  replace R_z := Lib.hid (R_z.out.stay T6.out)
  replace R_p := Lib.hid (R_p.out.stay T6.out)
  replace R_c := Lib.hid (R_c.out.stay T6.out)
  have HB6 := Lib.hid (HB5.out.trans (T6.out.mono s5))
  have s6 := HB6.out.size
  have XC := Lib.hid xc
  have hrg : ∀ o, (w6.alloc o).rangeAt w5.heap.size 0 [.slice (some ⟨kg, 0, none⟩) 32 kcap, .int .i64 0, .int .i64 T, .bool (g 0), .bool (g 1), .bool (g 2), .bool (g 3), .bool (g 4), .bool (g 5), .bool (g 6), .bool (g 7)] := fun o => range_of ((heapOld w6 o _ (lt_of_heap XC.out)).trans XC.out)
  clear hb6 xc
  go_wp2_with ((refine wpList_load_mid rfl 43 (.tmp 19) rfl w5.heap.size 0 rfl [.slice (some ⟨kg, 0, none⟩) 32 kcap, .int .i64 0, .int .i64 T, .bool (g 0), .bool (g 1), .bool (g 2), .bool (g 3), .bool (g 4), .bool (g 5), .bool (g 6), .bool (g 7)] _ (hrg _) Try.underlying43 rfl chanSz ?_))
  refine (HTK3_.out _ kcap _ _ (R_c.out.alloc _) (R_z.out.alloc _) HLK.out).mono ?_
  rintro e w7 ⟨kv, qv, rfl, hok, hop, hb7⟩
  obtain ⟨kgd, kcapd, hkv, _, _, _, _⟩ := hok.shape (by intro h; have := HLK.out; rw [h] at this; cases this)
  rw [HLK.out] at hkv
  subst hkv
  unfold chanC
  have T7 := Lib.hid (((Below.refl _ _).alloc (Nat.le_refl _) _).trans (hb7.mono (by simp)))
  replace R_k := Lib.hid (R_k.out.stay T7.out)
  replace R_kk := Lib.hid (R_kk.out.stay T7.out)
  replace R_x := Lib.hid (R_x.out.stay T7.out)
  replace R_y := Lib.hid (R_y.out.stay T7.out)
  replace R_z := Lib.hid (R_z.out.stay T7.out)
  replace R_p := Lib.hid (R_p.out.stay T7.out)
  replace R_c := Lib.hid (R_c.out.stay T7.out)
  have HB7 := Lib.hid (HB6.out.trans (T7.out.mono s6))
  have s7 := HB7.out.size
  have R_q := Lib.hid hop.rd
  clear hok hop hb7 hrg XC
  have hUi := HUI_.out
  go_wp2_with fail
  refine (same_true _ _ _ _ _ ((R_p.out.alloc _).alloc _) (newBe _ _ 2 2 (by simp) rfl) rfl).mono ?_
  rintro e _ ⟨rfl, rfl⟩
  go_wp2_with fail
  refine (same_true _ _ _ _ _ (((R_q.out.alloc _).alloc _).alloc _) (newBe _ _ 3 3 (by simp) rfl) rfl).mono ?_
  rintro e _ ⟨rfl, rfl⟩
  go_wp2
  go_ret
  exact ⟨rfl, (((HB7.out.alloc HB7.out.size _).alloc (by have := HB7.out.size; simp; omega) _).alloc (by have := HB7.out.size; simp; omega) _)⟩

end Go.Proofs.Ytpkfbmafbkgcmaa
