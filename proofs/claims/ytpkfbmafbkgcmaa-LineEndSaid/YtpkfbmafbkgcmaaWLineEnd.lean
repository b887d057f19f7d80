/-
  The walk of conclavekeep.LineEnd: a channel that has sent all numbers sends no more.
-/
import Derived.Test.YtpkfbmafbkgcmaaReg
import Derived.Test.YtpkfbmafbkgcmaaFrm
import Derived.Test.YtpkfbmafbkgcmaaPick
set_option linter.unusedVariables false
set_option linter.unusedSimpArgs false
namespace Go.Proofs.Ytpkfbmafbkgcmaa
open Go.RowKit Go.Con

def EndRel (w : World) (bc : Nat) (K : List UInt8) (q0 n : Nat) (i : Value) (wr : World) : Prop :=
  ∃ (j s kg kc : Nat), j ≤ n ∧ Hid (s = q0 + j) ∧ i = .int .i64 j ∧ wr.heap[bc]? = some (.cells #[.slice (some ⟨kg, 0, none⟩) 32 kc, .int .i64 (s : Nat), .int .i64 0, .bool false, .bool false, .bool false, .bool false, .bool false, .bool false, .bool false, .bool false] 43 (0, 0)) ∧ Rd wr (.slice (some ⟨kg, 0, none⟩) 32 kc) K ∧ kg ≠ bc ∧ Below w.heap.size w wr
set_option maxRecDepth 100000 in
set_option maxHeartbeats 4000000 in
theorem walk_LineEnd (vk : Value) (k : List UInt8) (vd : Value) (d : List UInt8) (vm : Value) (m : Int) (w : World) (hk : Rd w vk k) (hd : Rd w vd d) (hm : IsInt vm m) :
    Calls Try.prog 19 #[vk, vd, vm] w fun e w' => e = .returned (.bool true) ∧ Below w.heap.size w w' := by
  obtain ⟨ak, ck, rfl, hlck, hcmk⟩ := hk.slice
  have R_k := Lib.hid hk
  clear hk
  obtain ⟨ad, cd, rfl, hlcd, hcmd⟩ := hd.slice
  have R_d := Lib.hid hd
  clear hd
  obtain ⟨rfl, hm1, hm2⟩ := hm
  have HB0 := Lib.hid (Below.refl w.heap.size w)
  have s0 : w.heap.size ≤ w.heap.size := Nat.le_refl _
  obtain ⟨K, hKe⟩ : ∃ K, K = fill k 32 := ⟨_, rfl⟩
  have hKl : K.length = 32 := by rw [hKe]; exact fill_length _ _
  have hfK := fun v w (h : Rd w v k) => filled_any v k 32 w h (by decide)
  rw [← hKe] at hfK
  have HFK := Lib.hid hfK
  have HLK := Lib.hid hKl
  have HEK := Lib.hid hKe
  clear hKe hKl hfK
  obtain ⟨Dd, hDd⟩ : ∃ D, D = d.take 40 := ⟨_, rfl⟩
  have hDld : Dd.length ≤ 40 := by rw [hDd]; simp; omega
  have hsd := fun v w (h : Rd w v d) => some_any v d 40 w h (by decide)
  rw [← hDd] at hsd
  have HSd := Lib.hid hsd
  have DLd := Lib.hid hDld
  have HDd := Lib.hid hDd
  clear hDd hDld hsd
  have p0 := pick_nonneg m 3 (by decide)
  have p1 := pick_lt m 3 (by decide)
  obtain ⟨n, hn⟩ : ∃ c : Nat, pick m 3 = (c : Int) := ⟨(pick m 3).toNat, by omega⟩
  have hpm := fun w => picked_any m 3 w hm1 hm2 (by decide)
  rw [hn] at hpm
  have HPM := Lib.hid hpm
  have hn3 : n < 3 := by omega
  clear hpm hn p0 p1
  obtain ⟨sq0, hs0⟩ : ∃ s, s = 1073741824 - n := ⟨_, rfl⟩
  have hsi : (1073741824 : Int) - (n : Int) = (sq0 : Int) := by omega
  have HS0 := Lib.hid hs0
  clear hs0
  have R_d00 := R_d
  go_enter Try.func19, Try.ntmps19
  go_wp2_with fail
  refine (HFK.out _ _ R_k.out).mono ?_
  rintro e w1 ⟨vkk, rfl, hokk, hb1⟩
  have T1 := Lib.hid hb1
  replace R_k := Lib.hid (R_k.out.stay T1.out)
  replace R_d := Lib.hid (R_d.out.stay T1.out)
  have HB1 := Lib.hid (HB0.out.trans (T1.out.mono s0))
  have s1 := HB1.out.size
  have R_kk := Lib.hid hokk.rd
  have O_kk := Lib.hid hokk
  clear hb1 hokk
  obtain ⟨kg0, kc0, hvk, _, _, hkc32, _⟩ := O_kk.out.shape (by intro h; have := HLK.out; rw [h] at this; cases this)
  rw [HLK.out] at hvk
  subst hvk
  rw [HLK.out] at hkc32
  have KC0 := Lib.hid hkc32
  have KG0 := Lib.hid (O_kk.out.lt kg0 rfl).2
  go_wp2_with fail
  refine (HPM.out _).mono ?_
  rintro e _ ⟨rfl, rfl⟩
  go_wp2_with fail
  obtain ⟨bc, hbc⟩ : ∃ b, b = w1.heap.size := ⟨_, rfl⟩
  have hx0 := heapNew w1 (.cells #[.slice (some ⟨kg0, 0, none⟩) 32 kc0, .int .i64 (sq0 : Nat), .int .i64 0, .bool false, .bool false, .bool false, .bool false, .bool false, .bool false, .bool false, .bool false] 43)
  have hb0 : Below w.heap.size w (w1.alloc (.cells #[.slice (some ⟨kg0, 0, none⟩) 32 kc0, .int .i64 (sq0 : Nat), .int .i64 0, .bool false, .bool false, .bool false, .bool false, .bool false, .bool false, .bool false, .bool false] 43)) := HB1.out.alloc HB1.out.size _
  have hr0 := R_kk.out.alloc (.cells #[.slice (some ⟨kg0, 0, none⟩) 32 kc0, .int .i64 (sq0 : Nat), .int .i64 0, .bool false, .bool false, .bool false, .bool false, .bool false, .bool false, .bool false, .bool false] 43)
  rw [← hbc] at hx0 ⊢
  have hwbc : w.heap.size ≤ bc := by rw [hbc]; exact s1
  have hk0 : kg0 ≠ bc := by have := KG0.out; omega
  have HX0 := Lib.hid hx0
  have HB0x := Lib.hid hb0
  have HR0 := Lib.hid hr0
  clear hx0 hb0 hr0 hbc
  have R_d0 := Lib.hid (R_d00.out)
  go_loopw [10] (fun i wr => EndRel w bc K sq0 n i wr) (fun i _ => 3 - (intOf i).toNat)
  case atStart => exact ⟨0, sq0, kg0, kc0, by omega, Lib.hid rfl, rfl, HX0.out, HR0.out, hk0, HB0x.out⟩
  case round =>
    obtain ⟨j, s, kg, kc, hj, HS, rfl, hx, hr, hk, hb⟩ := hrel
    have X := Lib.hid hx
    have RK := Lib.hid hr
    have B := Lib.hid hb
    have RDw := Lib.hid (R_d0.out.stay hb)
    have hlb := lt_of_heap hx
    clear hx hr hb
    by_cases hlt : j < n
    · have hs30 : s < 1073741824 := by have h1 := HS.out; have h2 := HS0.out; omega
      obtain ⟨R, hR⟩ : ∃ R, recB K s Dd = R := ⟨_, rfl⟩
      have hsend := fun (c : Nat) (a : Addr) (pv : Value) (w : World) h1 h2 => Send_lit a c pv K Dd R s 0 (fun _ => false) w h1 h2 HLK.out (by have := DLd.out; omega) hs30 (by decide) Rep.none.ok hR
      have HSEND := Lib.hid hsend
      clear hsend hR
      have S0 := cells_of X.out
      have S0d := S0.drew
      go_wp2_with fail
      go_cut [11, 12, 13] from 31 to 46 (fun vp vr ve wc => ve = .int .i64 0 ∧ ResRel wr K ((s : Int) + 1) 0 (fun _ => false) R vp vr wc)
      case first =>
        go_region_held3 (fun w' => w'.cell? ⟨bc, 0, none⟩ = some (.slice (some ⟨kg, 0, none⟩) 32 kc) ∧ w'.cell? ⟨bc, 1, none⟩ = some (.int .i64 s) ∧ w'.cell? ⟨bc, 2, none⟩ = some (.int .i64 0) ∧ w'.cell? ⟨bc, 3, none⟩ = some (.bool false) ∧ w'.cell? ⟨bc, 4, none⟩ = some (.bool false) ∧ w'.cell? ⟨bc, 5, none⟩ = some (.bool false) ∧ w'.cell? ⟨bc, 6, none⟩ = some (.bool false) ∧ w'.cell? ⟨bc, 7, none⟩ = some (.bool false) ∧ w'.cell? ⟨bc, 8, none⟩ = some (.bool false) ∧ w'.cell? ⟨bc, 9, none⟩ = some (.bool false) ∧ w'.cell? ⟨bc, 10, none⟩ = some (.bool false)) (first | with_reducible exact S0 | with_reducible exact S0d | with_reducible exact S0.alloc _ | with_reducible exact (S0.alloc _).drew | with_reducible exact S1 | with_reducible exact S1.alloc _ | with_reducible exact S2 | with_reducible exact S2.alloc _ | with_reducible exact Cells.set HNE S2) (first
          | (go_at_call 31; refine (HSd.out _ _ (RDw.out.drewN 1)).mono ?_; rintro e v1 ⟨vp, rfl, hop, hb1⟩; have RP1 := Lib.hid hop.rd; have B1 := Lib.hid (show Below wr.heap.size wr v1 from (below_drewN (Below.refl _ _) 1).trans hb1); have S1 := cells_of ((B1.out.block bc hlb).trans X.out); clear hop hb1)
          | (go_at_call 31; refine (HSd.out _ _ ((RDw.out.alloc _).drewN 1)).mono ?_; rintro e v1 ⟨vp, rfl, hop, hb1⟩; have RP1 := Lib.hid hop.rd; have B1 := Lib.hid (show Below wr.heap.size wr v1 from (below_drewN ((Below.refl _ _).alloc (Nat.le_refl _) _) 1).trans (hb1.mono (by simp))); have Z1 := Lib.hid ((hb1.block wr.heap.size (by simp)).trans (heapNew wr (.cells #[.slice none 0 0, .int .i64 0, .int .i64 0, .bool false, .bool false, .bool false, .bool false, .bool false, .bool false, .bool false, .bool false] 43))); have HNE : wr.heap.size ≠ bc := (by omega); have S1 := cells_of ((B1.out.block bc hlb).trans X.out); clear hop hb1)
          | (go_at_call 37; refine (HSEND.out kc _ _ _ ((RK.out.stay B1.out).alloc _) (RP1.out.alloc _)).mono ?_; rintro e v2 ⟨kg2, kc2, rv, rfl, hok, hor, hb2⟩; have OK2 := Lib.hid hok; have OR2 := Lib.hid hor; have B2 := Lib.hid (show Below wr.heap.size wr v2 from (B1.out.alloc B1.out.size _).trans (hb2.mono (Nat.le_trans B1.out.size (by simp)))); have ZZ := (hb2.block v1.heap.size (by simp)).trans (heapNew v1 (.cells #[.slice none 0 0, .int .i64 0, .int .i64 0, .bool false, .bool false, .bool false, .bool false, .bool false, .bool false, .bool false, .bool false] 43)); have HNE : v1.heap.size ≠ bc := (by have := B1.out.size; omega); have S2 := cells_of ((B2.out.block bc hlb).trans X.out); have z20 := cellAt ZZ 0 rfl; have z21 := cellAt ZZ 1 rfl; have z22 := cellAt ZZ 2 rfl; have z23 := cellAt ZZ 3 rfl; have z24 := cellAt ZZ 4 rfl; have z25 := cellAt ZZ 5 rfl; have z26 := cellAt ZZ 6 rfl; have z27 := cellAt ZZ 7 rfl; have z28 := cellAt ZZ 8 rfl; have z29 := cellAt ZZ 9 rfl; have z30 := cellAt ZZ 10 rfl; have zfr := freeAt ZZ; have ZH := Lib.hid ZZ; clear hok hor hb2 ZZ)
          | (go_at_call 37; refine (HSEND.out kc _ _ _ (RK.out.stay B1.out) RP1.out).mono ?_; rintro e v2 ⟨kg2, kc2, rv, rfl, hok, hor, hb2⟩; have OK2 := Lib.hid hok; have OR2 := Lib.hid hor; have B2 := Lib.hid (show Below wr.heap.size wr v2 from B1.out.trans (hb2.mono B1.out.size)); have ZZ := (hb2.block wr.heap.size (lt_of_heap Z1.out)).trans Z1.out; have S2 := cells_of ((B2.out.block bc hlb).trans X.out); have z20 := cellAt ZZ 0 rfl; have z21 := cellAt ZZ 1 rfl; have z22 := cellAt ZZ 2 rfl; have z23 := cellAt ZZ 3 rfl; have z24 := cellAt ZZ 4 rfl; have z25 := cellAt ZZ 5 rfl; have z26 := cellAt ZZ 6 rfl; have z27 := cellAt ZZ 7 rfl; have z28 := cellAt ZZ 8 rfl; have z29 := cellAt ZZ 9 rfl; have z30 := cellAt ZZ 10 rfl; have zfr := freeAt ZZ; have ZH := Lib.hid ZZ; clear hok hor hb2 ZZ)
          | (go_at_call 37; refine (HSEND.out kc _ _ _ (RK.out.stay B1.out) RP1.out).mono ?_; rintro e v2 ⟨kg2, kc2, rv, rfl, hok, hor, hb2⟩; have OK2 := Lib.hid hok; have OR2 := Lib.hid hor; have B2 := Lib.hid (show Below wr.heap.size wr v2 from B1.out.trans (hb2.mono B1.out.size)); have S2 := cells_of ((B2.out.block bc hlb).trans X.out); clear hok hor hb2))
        all_goals
          clear S0 S0d S1 S2
          go_wp2_with fail
          go_meet
          case rel =>
            refine ⟨rfl, ?_⟩
            first | (have hz1 := lt_of_heap Z1.out; exact res_first B2.out OK2.out OR2.out (Nat.le_refl _) hz1 ZH.out) | (have hz1 := ZH.out; exact res_first B2.out OK2.out OR2.out B1.out.size (by simp) hz1) | exact res_last B2.out OK2.out OR2.out B1.out.size
      case rest =>
        obtain ⟨hve, b, kg2, kc2, hvp, hxb, hwb, hrk, hkw, hkb, hrr, hrb, hbw⟩ := hcut
        subst hve
        subst hvp
        have hxc := (hbw.block bc hlb).trans X.out
        have hrg := range_of (cs := [.slice (some ⟨kg2, 0, none⟩) 32 kc2, .int .i64 ((s : Int) + 1), .int .i64 0, .bool false, .bool false, .bool false, .bool false, .bool false, .bool false, .bool false, .bool false]) hxb
        have HXC := Lib.hid hxc
        have HRK := Lib.hid hrk
        have HBW := Lib.hid hbw
        clear hxb hxc hrk hrr hrb hbw S0 S0d
        go_wp2_with (first
      | (refine wpList_load_mid rfl 43 (.tmp 11) rfl b 0 rfl [.slice (some ⟨kg2, 0, none⟩) 32 kc2, .int .i64 ((s : Int) + 1), .int .i64 0, .bool false, .bool false, .bool false, .bool false, .bool false, .bool false, .bool false, .bool false] _ hrg Try.underlying43 rfl chanSz ?_)
      | (refine wpList_store_mid rfl 43 (.tmp 9) (.tmp 46) rfl bc 0 #[.slice (some ⟨kg2, 0, none⟩) 32 kc2, .int .i64 ((s : Int) + 1), .int .i64 0, .bool false, .bool false, .bool false, .bool false, .bool false, .bool false, .bool false, .bool false] rfl rfl (there_of HXC.out rfl) chanSz (chanOne' _ _ _ _ _ _ _ _ _ _ _ rfl) ?_; generalize hW : World.setCells _ _ _ _ = wz; have HW := Lib.hid hW; clear hW))
        have hxz : wz.heap[bc]? = some (.cells #[.slice (some ⟨kg2, 0, none⟩) 32 kc2, .int .i64 ((s : Int) + 1), .int .i64 0, .bool false, .bool false, .bool false, .bool false, .bool false, .bool false, .bool false, .bool false] 43 (0, 0)) := by rw [← HW.out]; exact storedRow HXC.out rfl
        have hrz : Rd wz (.slice (some ⟨kg2, 0, none⟩) 32 kc2) K := by rw [← HW.out]; exact HRK.out.setsNe (fun k hk => by have e : kg2 = k := Option.some.inj hk; omega)
        have hbz : Below w.heap.size w wz := by rw [← HW.out]; exact below_setCells hwbc _ _ _ (B.out.trans (HBW.out.mono B.out.size))
        go_roundw
        case rel =>
          refine ⟨j + 1, s + 1, kg2, kc2, by omega, Lib.hid (by rw [HS.out]; omega), by go_num, hxz, hrz, by omega, hbz⟩
        case measure => simp [intOf]; omega
    · have hjn : j = n := by omega
      have hsf : s = 1073741824 := by have h1 := HS.out; have h2 := HS0.out; omega
      have hfull := fun (m pc : Nat) (pa : Option Addr) (w : World) hm => Send_full ⟨kg, 0, none⟩ kc m pc s 0 pa (fun _ => false) w hm hsf (by decide) Rep.none.ok
      have HFULL := Lib.hid hfull
      clear hfull hsf
      have hdj : decide ((j : Int) < (n : Int)) = false := by rw [decide_eq_false_iff_not]; omega
      have hdj2 : decide (j < n) = false := by rw [decide_eq_false_iff_not]; omega
      have S0 := cells_of X.out
      have S0d := S0.drew
      clear hjn hlt hj
      go_wp2_with fail
      go_cut [14, 15, 16] from 47 (fun vp vr ve wc => ve = .int .i64 8 ∧ Below wr.heap.size wr wc)
      case first =>
        go_region_held3 (fun w' => w'.cell? ⟨bc, 0, none⟩ = some (.slice (some ⟨kg, 0, none⟩) 32 kc) ∧ w'.cell? ⟨bc, 1, none⟩ = some (.int .i64 s) ∧ w'.cell? ⟨bc, 2, none⟩ = some (.int .i64 0) ∧ w'.cell? ⟨bc, 3, none⟩ = some (.bool false) ∧ w'.cell? ⟨bc, 4, none⟩ = some (.bool false) ∧ w'.cell? ⟨bc, 5, none⟩ = some (.bool false) ∧ w'.cell? ⟨bc, 6, none⟩ = some (.bool false) ∧ w'.cell? ⟨bc, 7, none⟩ = some (.bool false) ∧ w'.cell? ⟨bc, 8, none⟩ = some (.bool false) ∧ w'.cell? ⟨bc, 9, none⟩ = some (.bool false) ∧ w'.cell? ⟨bc, 10, none⟩ = some (.bool false)) (first | with_reducible exact S0 | with_reducible exact S0d | with_reducible exact S0.alloc _ | with_reducible exact (S0.alloc _).drew | with_reducible exact S1 | with_reducible exact S1.alloc _ | with_reducible exact S2 | with_reducible exact S2.alloc _ | with_reducible exact Cells.set HNE S2) (first
          | (go_at_call 31; refine (HSd.out _ _ (RDw.out.drewN 1)).mono ?_; rintro e v1 ⟨vp, rfl, hop, hb1⟩; obtain ⟨pa, pc, hvp, _, _⟩ := hop.rd.slice; subst hvp; have B1 := Lib.hid (show Below wr.heap.size wr v1 from (below_drewN (Below.refl _ _) 1).trans hb1); have S1 := cells_of ((B1.out.block bc hlb).trans X.out); clear hop hb1)
          | (go_at_call 31; refine (HSd.out _ _ ((RDw.out.alloc _).drewN 1)).mono ?_; rintro e v1 ⟨vp, rfl, hop, hb1⟩; obtain ⟨pa, pc, hvp, _, _⟩ := hop.rd.slice; subst hvp; have B1 := Lib.hid (show Below wr.heap.size wr v1 from (below_drewN ((Below.refl _ _).alloc (Nat.le_refl _) _) 1).trans (hb1.mono (by simp))); have Z1 := Lib.hid ((hb1.block wr.heap.size (by simp)).trans (heapNew wr (.cells #[.slice none 0 0, .int .i64 0, .int .i64 0, .bool false, .bool false, .bool false, .bool false, .bool false, .bool false, .bool false, .bool false] 43))); have HNE : wr.heap.size ≠ bc := (by omega); have S1 := cells_of ((B1.out.block bc hlb).trans X.out); clear hop hb1)
          | (go_at_call 37; refine (HFULL.out _ _ _ (v1.alloc _) (by have := DLd.out; omega)).mono ?_; rintro e v2 ⟨rfl, hb2⟩; have B2 := Lib.hid (show Below wr.heap.size wr v2 from (B1.out.alloc B1.out.size _).trans (hb2.mono (Nat.le_trans B1.out.size (by simp)))); have ZZ := (hb2.block v1.heap.size (by simp)).trans (heapNew v1 (.cells #[.slice none 0 0, .int .i64 0, .int .i64 0, .bool false, .bool false, .bool false, .bool false, .bool false, .bool false, .bool false, .bool false] 43)); have HNE : v1.heap.size ≠ bc := (by have := B1.out.size; omega); have S2 := cells_of ((B2.out.block bc hlb).trans X.out); have z20 := cellAt ZZ 0 rfl; have z21 := cellAt ZZ 1 rfl; have z22 := cellAt ZZ 2 rfl; have z23 := cellAt ZZ 3 rfl; have z24 := cellAt ZZ 4 rfl; have z25 := cellAt ZZ 5 rfl; have z26 := cellAt ZZ 6 rfl; have z27 := cellAt ZZ 7 rfl; have z28 := cellAt ZZ 8 rfl; have z29 := cellAt ZZ 9 rfl; have z30 := cellAt ZZ 10 rfl; have zfr := freeAt ZZ; clear hb2 ZZ)
          | (go_at_call 37; refine (HFULL.out _ _ _ v1 (by have := DLd.out; omega)).mono ?_; rintro e v2 ⟨rfl, hb2⟩; have B2 := Lib.hid (show Below wr.heap.size wr v2 from B1.out.trans (hb2.mono B1.out.size)); have ZZ := (hb2.block wr.heap.size (lt_of_heap Z1.out)).trans Z1.out; have S2 := cells_of ((B2.out.block bc hlb).trans X.out); have z20 := cellAt ZZ 0 rfl; have z21 := cellAt ZZ 1 rfl; have z22 := cellAt ZZ 2 rfl; have z23 := cellAt ZZ 3 rfl; have z24 := cellAt ZZ 4 rfl; have z25 := cellAt ZZ 5 rfl; have z26 := cellAt ZZ 6 rfl; have z27 := cellAt ZZ 7 rfl; have z28 := cellAt ZZ 8 rfl; have z29 := cellAt ZZ 9 rfl; have z30 := cellAt ZZ 10 rfl; have zfr := freeAt ZZ; clear hb2 ZZ)
          | (go_at_call 37; refine (HFULL.out _ _ _ v1 (by have := DLd.out; omega)).mono ?_; rintro e v2 ⟨rfl, hb2⟩; have B2 := Lib.hid (show Below wr.heap.size wr v2 from B1.out.trans (hb2.mono B1.out.size)); have S2 := cells_of ((B2.out.block bc hlb).trans X.out); clear hb2))
        all_goals
          clear S0 S0d S1 S2
          go_wp2_with fail
          go_meet
          case rel =>
            refine ⟨rfl, ?_⟩
            first | (have hz1 := lt_of_heap Z1.out; exact below_set11 (Nat.le_refl _) B2.out) | (with_reducible exact B2.out.alloc B2.out.size _) | exact below_set11 B1.out.size B2.out
      case rest =>
        obtain ⟨hve, hbw⟩ := hcut
        subst hve
        have BW := Lib.hid (B.out.trans (hbw.mono B.out.size))
        clear hbw S0 S0d
        go_wp2_with fail
        refine (Send_top (some ⟨kg0, 0, none⟩) kc0 _ _).mono ?_
        rintro e u1 ⟨rfl, hb1⟩
        have BU1 := Lib.hid (BW.out.trans (hb1.mono BW.out.size))
        clear hb1
        have hkc1 : (31 : Int) ≤ (kc0 : Int) := by have := KC0.out; omega
        have hmk : ∀ W : World, (Instr.makeSlice 22 (.int .i64 20) (.int .i64 20)).run Try.prog W = .ok (.slice (some ⟨W.heap.size, 0, none⟩) 20 20) (W.alloc (.cells (Array.replicate 20 (.int .u8 0)) 5)) := fun _ => by kernel_rfl
        go_wp2_with fail
        obtain ⟨u, hu⟩ : ∃ u, u = u1.alloc (.cells #[.slice none 0 0, .int .i64 0, .int .i64 0, .bool false, .bool false, .bool false, .bool false, .bool false, .bool false, .bool false, .bool false] 43) := ⟨_, rfl⟩
        rw [← hu]
        have BU := Lib.hid (show Below w.heap.size w u by rw [hu]; exact BU1.out.alloc BU1.out.size _)
        clear hu
        go_region_held3 (fun _ => True) (trivial) (first
          | (go_at_call 38; refine (Take_key _ 31 _ 20 20 _ _ (by decide)).mono ?_; rintro e v3 ⟨rfl, hb3⟩; have B3 := Lib.hid (show Below w.heap.size w v3 from ((((BU.out.alloc BU.out.size (.cells #[.slice none 0 0, .int .i64 0, .int .i64 0, .bool false, .bool false, .bool false, .bool false, .bool false, .bool false, .bool false, .bool false] 43)).alloc (by have := BU.out.size; simp; omega) (.cells (Array.replicate 20 (.int .u8 0)) 5)).drew).trans (hb3.mono (by have := BU.out.size; simp; omega)))); have HU := Lib.hid BU.out.size; have ZZ := (hb3.block u.heap.size (by simp; omega)).trans (heapNew0 u (.cells #[.slice none 0 0, .int .i64 0, .int .i64 0, .bool false, .bool false, .bool false, .bool false, .bool false, .bool false, .bool false, .bool false] 43) (.cells (Array.replicate 20 (.int .u8 0)) 5)); have z20 := cellAt ZZ 0 rfl; have z21 := cellAt ZZ 1 rfl; have z22 := cellAt ZZ 2 rfl; have z23 := cellAt ZZ 3 rfl; have z24 := cellAt ZZ 4 rfl; have z25 := cellAt ZZ 5 rfl; have z26 := cellAt ZZ 6 rfl; have z27 := cellAt ZZ 7 rfl; have z28 := cellAt ZZ 8 rfl; have z29 := cellAt ZZ 9 rfl; have z30 := cellAt ZZ 10 rfl; have zfr := freeAt ZZ; have T1 := trivial; clear hb3 ZZ)
          | (go_at_call 38; refine (Take_key _ 31 _ 20 20 _ _ (by decide)).mono ?_; rintro e v3 ⟨rfl, hb3⟩; have B3 := Lib.hid (show Below w.heap.size w v3 from ((((BU.out.alloc BU.out.size (.cells (Array.replicate 20 (.int .u8 0)) 5)).alloc (by have := BU.out.size; simp; omega) (.cells #[.slice none 0 0, .int .i64 0, .int .i64 0, .bool false, .bool false, .bool false, .bool false, .bool false, .bool false, .bool false, .bool false] 43)).drew).trans (hb3.mono (by have := BU.out.size; simp; omega)))); have HU2 := Lib.hid BU.out.size; have ZZ := (hb3.block (u.heap.size + 1) (by simp)).trans (heapNew1 u (.cells (Array.replicate 20 (.int .u8 0)) 5) (.cells #[.slice none 0 0, .int .i64 0, .int .i64 0, .bool false, .bool false, .bool false, .bool false, .bool false, .bool false, .bool false, .bool false] 43)); have z20 := cellAt ZZ 0 rfl; have z21 := cellAt ZZ 1 rfl; have z22 := cellAt ZZ 2 rfl; have z23 := cellAt ZZ 3 rfl; have z24 := cellAt ZZ 4 rfl; have z25 := cellAt ZZ 5 rfl; have z26 := cellAt ZZ 6 rfl; have z27 := cellAt ZZ 7 rfl; have z28 := cellAt ZZ 8 rfl; have z29 := cellAt ZZ 9 rfl; have z30 := cellAt ZZ 10 rfl; have zfr := freeAt ZZ; clear hb3 ZZ)
          | (go_at_call 38; refine (Take_key _ 31 _ 20 20 _ _ (by decide)).mono ?_; rintro e v3 ⟨rfl, hb3⟩; have B3 := Lib.hid (show Below w.heap.size w v3 from (((BU.out.alloc BU.out.size (.cells (Array.replicate 20 (.int .u8 0)) 5)).drew).trans (hb3.mono (by have := BU.out.size; simp; omega)))); clear hb3))
        all_goals
          go_wp2_with fail
          go_ret
          refine ⟨rfl, ?_⟩
          first | (have hz := HU.out; exact below_set11 hz B3.out) | (have hz := HU2.out; exact below_set11 (Nat.le_succ_of_le hz) B3.out) | exact B3.out.alloc B3.out.size _

end Go.Proofs.Ytpkfbmafbkgcmaa
