/-
  The walk of conclavekeep.LineFixed: what is taken is what sending makes.
-/
import Derived.Test.YtpkfbmafbkgcmaaLiU
import Derived.Test.YtpkfbmafbkgcmaaSeaL
import Derived.Test.YtpkfbmafbkgcmaaFrm
set_option linter.unusedVariables false
set_option linter.unusedSimpArgs false
namespace Go.Proofs.Ytpkfbmafbkgcmaa
open Go.RowKit Go.Con

theorem Rd.setNe {w : World} {c o : Nat} {x v : Value} {l : List UInt8} (h : Rd w v l) (hne : ∀ k, v.ownBlock = some k → k ≠ c) : Rd (w.setCell ⟨c, o, none⟩ x) v l := by
  obtain ⟨a, c', rfl, h1, h2, h0, h3⟩ := h
  refine ⟨a, c', rfl, h1, h2, h0, fun hl => ?_⟩
  obtain ⟨b, off, rfl, hc⟩ := h3 hl
  have hb := hne b rfl
  exact ⟨b, off, rfl, fun i hi => (cell_ne (fun e => hb e.symm)).trans (hc i hi)⟩
set_option maxRecDepth 100000 in
set_option maxHeartbeats 4000000 in
theorem walk_LineFixed (vk : Value) (k : List UInt8) (vd : Value) (d : List UInt8) (w : World) (hk : Rd w vk k) (hd : Rd w vd d) :
    Calls Try.prog 24 #[vk, vd] w fun e w' => e = .returned (.bool true) ∧ Below w.heap.size w w' := by
  obtain ⟨ak, ck, rfl, hlck, hcmk⟩ := hk.slice
  have R_k := Lib.hid hk
  clear hk
  obtain ⟨ad, cd, rfl, hlcd, hcmd⟩ := hd.slice
  have R_d := Lib.hid hd
  clear hd
  have HB0 := Lib.hid (Below.refl w.heap.size w)
  have s0 : w.heap.size ≤ w.heap.size := Nat.le_refl _
  obtain ⟨K, hKe⟩ : ∃ K, K = fill k 32 := ⟨_, rfl⟩
  have hKl : K.length = 32 := by rw [hKe]; exact fill_length _ _
  have hfK := fun v w (h : Rd w v k) => filled_any v k 32 w h (by decide)
  rw [← hKe] at hfK
  have HFK := Lib.hid hfK
  have HLK := Lib.hid hKl
  have HEK := Lib.hid hKe
  clear hKe hKl hfK
  obtain ⟨Dd, hDd⟩ : ∃ D, D = d.take 200 := ⟨_, rfl⟩
  have hDld : Dd.length ≤ 200 := by rw [hDd]; simp; omega
  have hsd := fun v w (h : Rd w v d) => some_any v d 200 w h (by decide)
  rw [← hDd] at hsd
  have HSd := Lib.hid hsd
  have DLd := Lib.hid hDld
  have HDd := Lib.hid hDd
  clear hDd hDld hsd
  obtain ⟨L, hL⟩ : ∃ L, Dd.length = L := ⟨_, rfl⟩
  have hLb : L ≤ 200 := by rw [← hL]; exact DLd.out
  have HL := Lib.hid hL
  clear hL
  by_cases hL20 : L < 20
  · have hd20 : decide ((20 : Int) ≤ (L : Int)) = false := by rw [decide_eq_false_iff_not]; omega
    go_enter Try.func24, Try.ntmps24
    go_wp2_with fail
    refine (HFK.out _ _ R_k.out).mono ?_
    rintro e w1 ⟨vkk, rfl, hokk, hb1⟩
    have T1 := Lib.hid hb1
    replace R_k := Lib.hid (R_k.out.stay T1.out)
    replace R_d := Lib.hid (R_d.out.stay T1.out)
    have HB1 := Lib.hid (HB0.out.trans (T1.out.mono s0))
    have s1 := HB1.out.size
    have R_kk := Lib.hid hokk.rd
    clear hb1 hokk
    obtain ⟨bk, ok, ck, hvk, _, _⟩ := R_kk.out.shapeN 32 HLK.out (by decide)
    subst hvk
    go_wp2_with fail
    refine (lineNew_any _ ck K _ R_kk.out HLK.out).mono ?_
    rintro e w2 ⟨kv, rfl, hok, hb2⟩
    obtain ⟨kg, kcap, hkv, _, _, _, _⟩ := hok.shape (by intro h; have := HLK.out; rw [h] at this; cases this)
    rw [HLK.out] at hkv
    subst hkv
    have KGL := Lib.hid (hok.lt kg rfl).2
    have T2 := Lib.hid hb2
    replace R_k := Lib.hid (R_k.out.stay T2.out)
    replace R_d := Lib.hid (R_d.out.stay T2.out)
    replace R_kk := Lib.hid (R_kk.out.stay T2.out)
    have HB2 := Lib.hid (HB1.out.trans (T2.out.mono s1))
    have s2 := HB2.out.size
    have R_c := Lib.hid hok.rd
    clear hok hb2
    go_wp2_with fail
    refine (HSd.out _ _ (R_d.out.alloc _)).mono ?_
    rintro e w3 ⟨vd, rfl, hod, hb3⟩
    have LD := Lib.hid (show ∀ k, vd.ownBlock = some k → k ≠ w2.heap.size from fun k hk => by have h := (hod.lt k hk).1; simp at h; omega)
    have xc := (hb3.block w2.heap.size (by simp)).trans (heapNew w2 (.cells #[.slice (some ⟨kg, 0, none⟩) 32 kcap, .int .i64 0, .int .i64 0, .bool false, .bool false, .bool false, .bool false, .bool false, .bool false, .bool false, .bool false] 43))
    have T3 := Lib.hid (((Below.refl _ _).alloc (Nat.le_refl _) _).trans (hb3.mono (by simp)))
    replace R_k := Lib.hid (R_k.out.stay T3.out)
    replace R_d := Lib.hid (R_d.out.stay T3.out)
    replace R_kk := Lib.hid (R_kk.out.stay T3.out)
    replace R_c := Lib.hid (R_c.out.stay T3.out)
    have HB3 := Lib.hid (HB2.out.trans (T3.out.mono s2))
    have s3 := HB3.out.size
    have R_p := Lib.hid hod.rd
    have XC := Lib.hid xc
    have hrg := range_of (cs := [.slice (some ⟨kg, 0, none⟩) 32 kcap, .int .i64 0, .int .i64 0, .bool false, .bool false, .bool false, .bool false, .bool false, .bool false, .bool false, .bool false]) xc
    clear hod hb3 xc
    go_wp2_with ((refine wpList_load_mid rfl 43 (.tmp 5) rfl w2.heap.size 0 rfl [.slice (some ⟨kg, 0, none⟩) 32 kcap, .int .i64 0, .int .i64 0, .bool false, .bool false, .bool false, .bool false, .bool false, .bool false, .bool false, .bool false] _ hrg Try.underlying43 rfl chanSz ?_))
    obtain ⟨ad2, cd2, hvd, _, _⟩ := R_p.out.sliceN L HL.out
    subst hvd
    refine (Take_short ⟨kg, 0, none⟩ ⟨kg, 0, none⟩ kcap L cd2 0 0 ad2 (fun _ => false) _ hL20 (by decide) (by decide) Rep.none.ok).mono ?_
    rintro e w4 ⟨rfl, hb4⟩
    have T4 := Lib.hid hb4
    replace R_k := Lib.hid (R_k.out.stay T4.out)
    replace R_d := Lib.hid (R_d.out.stay T4.out)
    replace R_kk := Lib.hid (R_kk.out.stay T4.out)
    replace R_c := Lib.hid (R_c.out.stay T4.out)
    replace R_p := Lib.hid (R_p.out.stay T4.out)
    have HB4 := Lib.hid (HB3.out.trans (T4.out.mono s3))
    have s4 := HB4.out.size
    clear hb4
    go_wp2
    go_ret
    exact ⟨rfl, HB4.out.alloc HB4.out.size _⟩
  obtain ⟨q, hq⟩ : ∃ q, L = q + 20 := ⟨L - 20, by omega⟩
  subst hq
  have hq2 : q ≤ 180 := by omega
  have hd20 : decide ((20 : Int) ≤ ((q + 20 : Nat) : Int)) = true := by rw [decide_eq_true_eq]; omega
  have hd20b : decide ((20 : Int) ≤ (q : Int) + 20) = true := by rw [decide_eq_true_eq]; omega
  have hmt : ∀ n, metB 0 n (fun _ => false) = false := fun n => by simp [metB]
  by_cases hnn : 1073741824 ≤ beN (Dd.take 4)
  · have HNN := Lib.hid hnn
    clear hnn hmt
    go_enter Try.func24, Try.ntmps24
    go_wp2_with fail
    refine (HFK.out _ _ R_k.out).mono ?_
    rintro e w1 ⟨vkk, rfl, hokk, hb1⟩
    have T1 := Lib.hid hb1
    replace R_k := Lib.hid (R_k.out.stay T1.out)
    replace R_d := Lib.hid (R_d.out.stay T1.out)
    have HB1 := Lib.hid (HB0.out.trans (T1.out.mono s0))
    have s1 := HB1.out.size
    have R_kk := Lib.hid hokk.rd
    clear hb1 hokk
    obtain ⟨bk, ok, ck, hvk, _, _⟩ := R_kk.out.shapeN 32 HLK.out (by decide)
    subst hvk
    go_wp2_with fail
    refine (lineNew_any _ ck K _ R_kk.out HLK.out).mono ?_
    rintro e w2 ⟨kv, rfl, hok, hb2⟩
    obtain ⟨kg, kcap, hkv, _, _, _, _⟩ := hok.shape (by intro h; have := HLK.out; rw [h] at this; cases this)
    rw [HLK.out] at hkv
    subst hkv
    have KGL := Lib.hid (hok.lt kg rfl).2
    have T2 := Lib.hid hb2
    replace R_k := Lib.hid (R_k.out.stay T2.out)
    replace R_d := Lib.hid (R_d.out.stay T2.out)
    replace R_kk := Lib.hid (R_kk.out.stay T2.out)
    have HB2 := Lib.hid (HB1.out.trans (T2.out.mono s1))
    have s2 := HB2.out.size
    have R_c := Lib.hid hok.rd
    clear hok hb2
    go_wp2_with fail
    refine (HSd.out _ _ (R_d.out.alloc _)).mono ?_
    rintro e w3 ⟨vd, rfl, hod, hb3⟩
    have LD := Lib.hid (show ∀ k, vd.ownBlock = some k → k ≠ w2.heap.size from fun k hk => by have h := (hod.lt k hk).1; simp at h; omega)
    have xc := (hb3.block w2.heap.size (by simp)).trans (heapNew w2 (.cells #[.slice (some ⟨kg, 0, none⟩) 32 kcap, .int .i64 0, .int .i64 0, .bool false, .bool false, .bool false, .bool false, .bool false, .bool false, .bool false, .bool false] 43))
    have T3 := Lib.hid (((Below.refl _ _).alloc (Nat.le_refl _) _).trans (hb3.mono (by simp)))
    replace R_k := Lib.hid (R_k.out.stay T3.out)
    replace R_d := Lib.hid (R_d.out.stay T3.out)
    replace R_kk := Lib.hid (R_kk.out.stay T3.out)
    replace R_c := Lib.hid (R_c.out.stay T3.out)
    have HB3 := Lib.hid (HB2.out.trans (T3.out.mono s2))
    have s3 := HB3.out.size
    have R_p := Lib.hid hod.rd
    have XC := Lib.hid xc
    have hrg := range_of (cs := [.slice (some ⟨kg, 0, none⟩) 32 kcap, .int .i64 0, .int .i64 0, .bool false, .bool false, .bool false, .bool false, .bool false, .bool false, .bool false, .bool false]) xc
    clear hod hb3 xc
    go_wp2_with ((refine wpList_load_mid rfl 43 (.tmp 5) rfl w2.heap.size 0 rfl [.slice (some ⟨kg, 0, none⟩) 32 kcap, .int .i64 0, .int .i64 0, .bool false, .bool false, .bool false, .bool false, .bool false, .bool false, .bool false, .bool false] _ hrg Try.underlying43 rfl chanSz ?_))
    obtain ⟨ad2, cd2, hvd, _, _⟩ := R_p.out.sliceN (q + 20) HL.out
    subst hvd
    refine (Take_range _ kcap _ K Dd 0 0 q (fun _ => false) _ R_c.out R_p.out HLK.out HL.out (by omega) (by decide) (by decide) Rep.none.ok HNN.out).mono ?_
    rintro e w4 ⟨rfl, hb4⟩
    have T4 := Lib.hid hb4
    replace R_k := Lib.hid (R_k.out.stay T4.out)
    replace R_d := Lib.hid (R_d.out.stay T4.out)
    replace R_kk := Lib.hid (R_kk.out.stay T4.out)
    replace R_c := Lib.hid (R_c.out.stay T4.out)
    replace R_p := Lib.hid (R_p.out.stay T4.out)
    have HB4 := Lib.hid (HB3.out.trans (T4.out.mono s3))
    have s4 := HB4.out.size
    clear hb4
    go_wp2
    go_ret
    exact ⟨rfl, HB4.out.alloc HB4.out.size _⟩
  have hn2 : beN (Dd.take 4) < 1073741824 := by omega
  clear hnn
  by_cases htg : Sea.tag K (nonceN (Dd.take 4)) (Dd.take 4) ((Dd.drop 4).take q) = (Dd.drop 4).drop q
  rotate_left
  · have HTG := Lib.hid htg
    have HNN := Lib.hid hn2
    have HMT := Lib.hid hmt
    clear htg hn2 hmt
    go_enter Try.func24, Try.ntmps24
    go_wp2_with fail
    refine (HFK.out _ _ R_k.out).mono ?_
    rintro e w1 ⟨vkk, rfl, hokk, hb1⟩
    have T1 := Lib.hid hb1
    replace R_k := Lib.hid (R_k.out.stay T1.out)
    replace R_d := Lib.hid (R_d.out.stay T1.out)
    have HB1 := Lib.hid (HB0.out.trans (T1.out.mono s0))
    have s1 := HB1.out.size
    have R_kk := Lib.hid hokk.rd
    clear hb1 hokk
    obtain ⟨bk, ok, ck, hvk, _, _⟩ := R_kk.out.shapeN 32 HLK.out (by decide)
    subst hvk
    go_wp2_with fail
    refine (lineNew_any _ ck K _ R_kk.out HLK.out).mono ?_
    rintro e w2 ⟨kv, rfl, hok, hb2⟩
    obtain ⟨kg, kcap, hkv, _, _, _, _⟩ := hok.shape (by intro h; have := HLK.out; rw [h] at this; cases this)
    rw [HLK.out] at hkv
    subst hkv
    have KGL := Lib.hid (hok.lt kg rfl).2
    have T2 := Lib.hid hb2
    replace R_k := Lib.hid (R_k.out.stay T2.out)
    replace R_d := Lib.hid (R_d.out.stay T2.out)
    replace R_kk := Lib.hid (R_kk.out.stay T2.out)
    have HB2 := Lib.hid (HB1.out.trans (T2.out.mono s1))
    have s2 := HB2.out.size
    have R_c := Lib.hid hok.rd
    clear hok hb2
    go_wp2_with fail
    refine (HSd.out _ _ (R_d.out.alloc _)).mono ?_
    rintro e w3 ⟨vd, rfl, hod, hb3⟩
    have LD := Lib.hid (show ∀ k, vd.ownBlock = some k → k ≠ w2.heap.size from fun k hk => by have h := (hod.lt k hk).1; simp at h; omega)
    have xc := (hb3.block w2.heap.size (by simp)).trans (heapNew w2 (.cells #[.slice (some ⟨kg, 0, none⟩) 32 kcap, .int .i64 0, .int .i64 0, .bool false, .bool false, .bool false, .bool false, .bool false, .bool false, .bool false, .bool false] 43))
    have T3 := Lib.hid (((Below.refl _ _).alloc (Nat.le_refl _) _).trans (hb3.mono (by simp)))
    replace R_k := Lib.hid (R_k.out.stay T3.out)
    replace R_d := Lib.hid (R_d.out.stay T3.out)
    replace R_kk := Lib.hid (R_kk.out.stay T3.out)
    replace R_c := Lib.hid (R_c.out.stay T3.out)
    have HB3 := Lib.hid (HB2.out.trans (T3.out.mono s2))
    have s3 := HB3.out.size
    have R_p := Lib.hid hod.rd
    have XC := Lib.hid xc
    have hrg := range_of (cs := [.slice (some ⟨kg, 0, none⟩) 32 kcap, .int .i64 0, .int .i64 0, .bool false, .bool false, .bool false, .bool false, .bool false, .bool false, .bool false, .bool false]) xc
    clear hod hb3 xc
    go_wp2_with ((refine wpList_load_mid rfl 43 (.tmp 5) rfl w2.heap.size 0 rfl [.slice (some ⟨kg, 0, none⟩) 32 kcap, .int .i64 0, .int .i64 0, .bool false, .bool false, .bool false, .bool false, .bool false, .bool false, .bool false, .bool false] _ hrg Try.underlying43 rfl chanSz ?_))
    obtain ⟨ad2, cd2, hvd, _, _⟩ := R_p.out.sliceN (q + 20) HL.out
    subst hvd
    refine (Take_tag _ kcap _ K Dd 0 0 q (fun _ => false) _ R_c.out R_p.out HLK.out HL.out (by omega) (by decide) (by decide) Rep.none.ok HNN.out (HMT.out _) HTG.out).mono ?_
    rintro e w4 ⟨rfl, hb4⟩
    have T4 := Lib.hid hb4
    replace R_k := Lib.hid (R_k.out.stay T4.out)
    replace R_d := Lib.hid (R_d.out.stay T4.out)
    replace R_kk := Lib.hid (R_kk.out.stay T4.out)
    replace R_c := Lib.hid (R_c.out.stay T4.out)
    replace R_p := Lib.hid (R_p.out.stay T4.out)
    have HB4 := Lib.hid (HB3.out.trans (T4.out.mono s3))
    have s4 := HB4.out.size
    clear hb4
    go_wp2
    go_ret
    exact ⟨rfl, HB4.out.alloc HB4.out.size _⟩
  obtain ⟨n, hn⟩ : ∃ n, n = beN (Dd.take 4) := ⟨_, rfl⟩
  have hnb : n < 1073741824 := by rw [hn]; exact hn2
  obtain ⟨P, hP⟩ : ∃ P, P = Cha.mix K 1 (nonceN (Dd.take 4)) ((Dd.drop 4).take q) := ⟨_, rfl⟩
  obtain ⟨T, hT⟩ : ∃ T, T = max 0 (n + 1) := ⟨_, rfl⟩
  have hTn : (T : Int) - 1 = (n : Int) := by omega
  have hTb : T ≤ 1073741824 := by omega
  obtain ⟨g, hg⟩ : ∃ g, g = withF 0 n (fun _ => false) := ⟨_, rfl⟩
  have hPl : P.length = q := by rw [hP, Cha.mix_length, List.length_take, List.length_drop, HL.out]; omega
  have htk := fun (a : Addr) (c : Nat) (rv : Value) (w : World) h2 h3 => Take_ok a c rv K Dd 0 0 q (fun _ => false) w h2 h3 HLK.out HL.out (by omega) (by decide) (by decide) Rep.none.ok hn2 (hmt _) htg
  rw [← hn, ← hP, ← hT, ← hg] at htk
  have hrec : recB K n P = Dd := by
    have h4 : fourN n = Dd.take 4 := by rw [hn]; exact four_beN _ (by rw [List.length_take, HL.out]; omega)
    have h5 := Sea.boxed_again K (nonceN (Dd.take 4)) (Dd.take 4) (Dd.drop 4) q htg
    rw [recB, h4, hP, h5, List.take_append_drop]
  have HTK_ := Lib.hid htk
  have HREC_ := Lib.hid hrec
  have HPL_ := Lib.hid hPl
  have HTN := Lib.hid hTn
  clear hn2 hn hP hT hTn hg hmt htg htk hrec hPl
  go_enter Try.func24, Try.ntmps24
  go_wp2_with fail
  refine (HFK.out _ _ R_k.out).mono ?_
  rintro e w1 ⟨vkk, rfl, hokk, hb1⟩
  have T1 := Lib.hid hb1
  replace R_k := Lib.hid (R_k.out.stay T1.out)
  replace R_d := Lib.hid (R_d.out.stay T1.out)
  have HB1 := Lib.hid (HB0.out.trans (T1.out.mono s0))
  have s1 := HB1.out.size
  have R_kk := Lib.hid hokk.rd
  clear hb1 hokk
  obtain ⟨bk, ok, ck, hvk, _, _⟩ := R_kk.out.shapeN 32 HLK.out (by decide)
  subst hvk
  go_wp2_with fail
  refine (lineNew_any _ ck K _ R_kk.out HLK.out).mono ?_
  rintro e w2 ⟨kv, rfl, hok, hb2⟩
  obtain ⟨kg, kcap, hkv, _, _, _, _⟩ := hok.shape (by intro h; have := HLK.out; rw [h] at this; cases this)
  rw [HLK.out] at hkv
  subst hkv
  have KGL := Lib.hid (hok.lt kg rfl).2
  have T2 := Lib.hid hb2
  replace R_k := Lib.hid (R_k.out.stay T2.out)
  replace R_d := Lib.hid (R_d.out.stay T2.out)
  replace R_kk := Lib.hid (R_kk.out.stay T2.out)
  have HB2 := Lib.hid (HB1.out.trans (T2.out.mono s1))
  have s2 := HB2.out.size
  have R_c := Lib.hid hok.rd
  clear hok hb2
  go_wp2_with fail
  refine (HSd.out _ _ (R_d.out.alloc _)).mono ?_
  rintro e w3 ⟨vd, rfl, hod, hb3⟩
  have LD := Lib.hid (show ∀ k, vd.ownBlock = some k → k ≠ w2.heap.size from fun k hk => by have h := (hod.lt k hk).1; simp at h; omega)
  have xc := (hb3.block w2.heap.size (by simp)).trans (heapNew w2 (.cells #[.slice (some ⟨kg, 0, none⟩) 32 kcap, .int .i64 0, .int .i64 0, .bool false, .bool false, .bool false, .bool false, .bool false, .bool false, .bool false, .bool false] 43))
  have T3 := Lib.hid (((Below.refl _ _).alloc (Nat.le_refl _) _).trans (hb3.mono (by simp)))
  replace R_k := Lib.hid (R_k.out.stay T3.out)
  replace R_d := Lib.hid (R_d.out.stay T3.out)
  replace R_kk := Lib.hid (R_kk.out.stay T3.out)
  replace R_c := Lib.hid (R_c.out.stay T3.out)
  have HB3 := Lib.hid (HB2.out.trans (T3.out.mono s2))
  have s3 := HB3.out.size
  have R_p := Lib.hid hod.rd
  have XC := Lib.hid xc
  have hrg := range_of (cs := [.slice (some ⟨kg, 0, none⟩) 32 kcap, .int .i64 0, .int .i64 0, .bool false, .bool false, .bool false, .bool false, .bool false, .bool false, .bool false, .bool false]) xc
  clear hod hb3 xc
  go_wp2_with ((refine wpList_load_mid rfl 43 (.tmp 5) rfl w2.heap.size 0 rfl [.slice (some ⟨kg, 0, none⟩) 32 kcap, .int .i64 0, .int .i64 0, .bool false, .bool false, .bool false, .bool false, .bool false, .bool false, .bool false, .bool false] _ hrg Try.underlying43 rfl chanSz ?_))
  obtain ⟨ad2, cd2, hvd, _, _⟩ := R_p.out.sliceN (q + 20) HL.out
  subst hvd
  refine (HTK_.out _ kcap _ _ R_c.out R_p.out).mono ?_
  rintro e w4 ⟨kv2, pv, rfl, hok2, hop2, hb4⟩
  obtain ⟨kg2, kcap2, hkv, _, _, _, _⟩ := hok2.shape (by intro h; have := HLK.out; rw [h] at this; cases this)
  rw [HLK.out] at hkv
  subst hkv
  obtain ⟨pa, pc, hpv, _, _⟩ := hop2.rd.sliceN q HPL_.out
  subst hpv
  unfold chanC
  have xc4 := (hb4.block w2.heap.size (lt_of_heap XC.out)).trans XC.out
  have T4 := Lib.hid hb4
  replace R_k := Lib.hid (R_k.out.stay T4.out)
  replace R_d := Lib.hid (R_d.out.stay T4.out)
  replace R_kk := Lib.hid (R_kk.out.stay T4.out)
  replace R_c := Lib.hid (R_c.out.stay T4.out)
  replace R_p := Lib.hid (R_p.out.stay T4.out)
  have HB4 := Lib.hid (HB3.out.trans (T4.out.mono s3))
  have s4 := HB4.out.size
  have R_pp := Lib.hid hop2.rd
  have LP := Lib.hid (show ∀ k, (Value.slice pa q pc).ownBlock = some k → k ≠ w2.heap.size from fun k hk => by have h := (hop2.lt k hk).1; have := lt_of_heap XC.out; omega)
  have XC4 := Lib.hid xc4
  clear hok2 hop2 hb4 XC
  have d1 : ∀ o, (w4.alloc o).cell? ⟨w2.heap.size, 1, none⟩ = some (.int .i64 0) := fun o => (((Below.refl w4.heap.size w4).alloc (Nat.le_refl _) o).cell (p := ⟨w2.heap.size, 1, none⟩) (lt_of_heap xc4)).trans (cellAt xc4 1 rfl)
  have e1 : ∀ o, (w4.alloc o).frozen? ⟨w2.heap.size, 1, none⟩ = false := fun o => (((Below.refl w4.heap.size w4).alloc (Nat.le_refl _) o).frozen (p := ⟨w2.heap.size, 1, none⟩) (lt_of_heap xc4)).trans (freeAt xc4 1)
  clear xc4
  have hTn := HTN.out
  have hrg4 : ∀ o, ((w4.alloc o).setCell ⟨w2.heap.size, 1, none⟩ (.int .i64 (n : Int))).rangeAt w2.heap.size 0 [.slice (some ⟨kg, 0, none⟩) 32 kcap, .int .i64 (n : Int), .int .i64 0, .bool false, .bool false, .bool false, .bool false, .bool false, .bool false, .bool false, .bool false] := fun o => range_of (heapSet (o := 1) ((heapOld w4 o _ (lt_of_heap XC4.out)).trans XC4.out) (.int .i64 (n : Int)))
  go_wp2_with ((refine wpList_load_mid rfl 43 (.tmp 5) rfl w2.heap.size 0 rfl [.slice (some ⟨kg, 0, none⟩) 32 kcap, .int .i64 (n : Int), .int .i64 0, .bool false, .bool false, .bool false, .bool false, .bool false, .bool false, .bool false, .bool false] _ (hrg4 _) Try.underlying43 rfl chanSz ?_))
  clear d1 e1 hTn
  have hW : ∀ o, Below w.heap.size w ((w4.alloc o).setCell ⟨w2.heap.size, 1, none⟩ (.int .i64 (n : Int))) := fun o => (HB4.out.alloc HB4.out.size o).setCell (by show w.heap.size ≤ w2.heap.size; exact s2) _
  have hRc : ∀ o, Rd ((w4.alloc o).setCell ⟨w2.heap.size, 1, none⟩ (.int .i64 (n : Int))) (.slice (some ⟨kg, 0, none⟩) 32 kcap) K := fun o => (R_c.out.alloc o).setNe (fun k hk => by have e : kg = k := Option.some.inj hk; have := KGL.out; omega)
  have hRp : ∀ o, Rd ((w4.alloc o).setCell ⟨w2.heap.size, 1, none⟩ (.int .i64 (n : Int))) (.slice pa q pc) P := fun o => (R_pp.out.alloc o).setNe LP.out
  have hRd : ∀ o, Rd ((w4.alloc o).setCell ⟨w2.heap.size, 1, none⟩ (.int .i64 (n : Int))) (.slice ad2 (q + 20) cd2) Dd := fun o => (R_p.out.alloc o).setNe LD.out
  refine (Send_ok ⟨kg, 0, none⟩ kcap _ K P n 0 (fun _ => false) _ (hRc _) (hRp _) HLK.out (by rw [HPL_.out]; omega) hnb (by decide) Rep.none.ok).mono ?_
  rintro e w6 ⟨kv3, rv, rfl, hok3, hor, hb6⟩
  obtain ⟨kg3, kcap3, hkv, _, _, _, _⟩ := hok3.shape (by intro h; have := HLK.out; rw [h] at this; cases this)
  rw [HLK.out] at hkv
  subst hkv
  unfold chanC
  have RD6 := Lib.hid ((hRd _).stay hb6)
  have RR6 := Lib.hid hor.rd
  have B6 := Lib.hid ((hW _).trans (hb6.mono (hW _).size))
  clear hok3 hor hb6 hW hRc hRp hRd hrg4
  go_wp2_with fail
  refine (same_true _ _ _ _ _ (RR6.out.alloc _) (RD6.out.alloc _) HREC_.out).mono ?_
  rintro e _ ⟨rfl, rfl⟩
  go_wp2
  go_ret
  exact ⟨rfl, B6.out.alloc B6.out.size _⟩

end Go.Proofs.Ytpkfbmafbkgcmaa
