/-
  The walk of conclavekeep.LineWays: what a channel sends does not touch what it has met.
-/
import Derived.Test.YtoekopdogfnkhaaChi2
import Derived.Test.YtoekopdogfnkhaaEq8
set_option linter.unusedVariables false
set_option linter.unusedSimpArgs false
namespace Go.Proofs.Ytoekopdogfnkhaa
open Go.RowKit Go.Con
set_option maxRecDepth 100000 in
set_option maxHeartbeats 4000000 in
theorem walk_LineWays (vk : Value) (k : List UInt8) (vp : Value) (ps : List (List UInt8)) (w : World) (hk : Rd w vk k) (hp : RdRows w vp ps) :
    Calls Try.prog 6 #[vk, vp] w fun e w' => e = .returned (.bool true) ∧ Below w.heap.size w w' := by
  obtain ⟨ak, ck, rfl, hlck, hcmk⟩ := hk.slice
  have R_k := Lib.hid hk
  clear hk
  obtain ⟨ap, cp, rfl, hlcp, hcmp, hpe⟩ := id hp
  have R_p := Lib.hid hp
  clear hp hpe
  obtain ⟨L, hL⟩ : ∃ L, L = ps.length := ⟨_, rfl⟩
  rw [← hL] at hlcp ⊢
  rw [← hL] at R_p
  have hcm2 : cp ≤ 9223372036854775807 := hcmp
  obtain ⟨n, hn⟩ : ∃ n, n = min ps.length (6 : Int).toNat := ⟨_, rfl⟩
  have hnL : n ≤ L := by omega
  have hn8 : n ≤ 6 := by rw [hn]; exact Nat.min_le_right _ _
  obtain ⟨K, hK⟩ : ∃ K, K = fill k 32 := ⟨_, rfl⟩
  have hKl : K.length = 32 := by rw [hK]; exact fill_length _ _
  have hsent := fun w h1 h2 => sent_any (.slice ak k.length ck) k (.slice ap L cp) ps 6 K n w h1 h2 (by decide) (by decide) hK hn
  have HSENT := Lib.hid hsent
  have hfK := fun v w (h : Rd w v k) => filled_any v k 32 w h (by decide)
  rw [← hK] at hfK
  have HFK := Lib.hid hfK
  have HLK := Lib.hid hKl
  have HL := Lib.hid hL
  have HB0 := Lib.hid (Below.refl w.heap.size w)
  clear hK hKl hfK hL hn hsent
  go_enter Try.func6, Try.ntmps6
  go_wp2_with fail
  refine (HSENT.out _ R_k.out R_p.out).mono ?_
  rintro e w1 ⟨v5, rfl, hrs, hb1⟩
  obtain ⟨a5, c5, hv5, hlc5, hcm5, -⟩ := id hrs
  rw [recsTo_length] at hv5 hlc5
  subst hv5
  have hcm52 : c5 ≤ 9223372036854775807 := hcm5
  have RS1 := Lib.hid hrs
  have R_k1 := Lib.hid (R_k.out.stay hb1)
  have HB1 := Lib.hid hb1
  clear hrs hb1 hcm5
  go_wp2_with fail
  refine (HFK.out _ _ R_k1.out).mono ?_
  rintro e w2 ⟨vkk, rfl, hokk, hb2⟩
  obtain ⟨kg0, kc0, hvk, _, _, hkc32, _⟩ := hokk.shape (by intro h; have := HLK.out; rw [h] at this; cases this)
  rw [HLK.out] at hvk
  subst hvk
  have R_kk := Lib.hid hokk.rd
  have RS2 := Lib.hid (RS1.out.stay hb2)
  have HB2 := Lib.hid (HB1.out.trans (hb2.mono HB1.out.size))
  clear hokk hb2 hkc32 RS1 R_k1
  go_wp2_with fail
  refine (lineNew_lit _ _ K _ R_kk.out HLK.out).mono ?_
  rintro e w3 ⟨kg1, kc1, rfl, hok1, hb3⟩
  have RS3 := Lib.hid (RS2.out.stay hb3)
  have HB3 := Lib.hid (HB2.out.trans (hb3.mono HB2.out.size))
  have R_p3 := Lib.hid (R_p.out.stay (HB3.out))
  have INV0 := Lib.hid (ChInv.start (s := 0) (t := 0) (f := fun _ => false) hok1.rd (hok1.lt kg1 rfl).2)
  clear hb3 hok1 RS2 R_kk
  go_wp2_with fail
  generalize hW : w3.alloc _ = w4 at INV0 ⊢
  obtain ⟨bc, hbc⟩ : ∃ b, b = w3.heap.size := ⟨_, rfl⟩
  rw [← hbc] at INV0 ⊢
  clear hW hbc
  go_loopw [9] (fun i wr => ∃ (j : Nat) (f : Nat → Bool) (kg kc : Nat), j ≤ n ∧ i = .int .i64 j ∧ Hid (ChInv w3 wr bc K j j f kg kc) ∧ Hid (Rep j f fun m => decide (m < j))) (fun i _ => n - (intOf i).toNat)
  case atStart => exact ⟨0, _, kg1, kc1, by omega, rfl, INV0, Lib.hid (by have e : (fun m => decide (m < 0)) = (fun _ => false) := (by funext m; simp); rw [e]; exact Rep.none)⟩
  case round =>
    obtain ⟨j, f, kg, kc, hjn, rfl, H, HR⟩ := hrel
    have X := Lib.hid (show wr.heap[bc]? = some (.cells #[.slice (some ⟨kg, 0, none⟩) 32 kc, .int .i64 (j : Nat), .int .i64 (j : Nat), .bool (f 0), .bool (f 1), .bool (f 2), .bool (f 3), .bool (f 4), .bool (f 5), .bool (f 6), .bool (f 7)] 28 (0, 0)) from H.out.chan)
    have RK := Lib.hid H.out.key
    have hlb := lt_of_heap H.out.chan
    have RS := Lib.hid (RS3.out.stay H.out.below)
    have RP := Lib.hid (R_p3.out.stay H.out.below)
    by_cases hlt : j < n
    · have hd1 : decide ((j : Int) < n) = true := by rw [decide_eq_true_eq]; omega
      have hd1n : decide (j < n) = true := by rw [decide_eq_true_eq]; omega
      have hd2 : decide ((j : Int) < L) = true := by rw [decide_eq_true_eq]; omega
      have hd2n : decide (j < L) = true := by rw [decide_eq_true_eq]; omega
      obtain ⟨eb, eoff, ex, rfl, hec, her⟩ := RS.out.at (i := j) (by rw [recsTo_length]; exact hlt)
      rw [recsTo_get _ _ _ _ hlt] at her
      have hebl := World.block_lt_of_cell? wr _ hec
      obtain ⟨pl, hpl⟩ : ∃ x, x = ps.getD j [] := ⟨_, rfl⟩
      rw [← hpl] at her
      obtain ⟨D, hD⟩ : ∃ D, D = pl.take 40 := ⟨_, rfl⟩
      rw [← hD] at her
      have hDl : D.length ≤ 40 := by rw [hD]; simp; omega
      have hsd := fun v w (h : Rd w v pl) => some_any v pl 40 w h (by decide)
      rw [← hD] at hsd
      have HSD := Lib.hid hsd
      obtain ⟨R, hR⟩ : ∃ R, recB K j D = R := ⟨_, rfl⟩
      rw [hR] at her
      obtain ⟨ea, ecap, rfl, _, _⟩ := id her.slice
      have RE := Lib.hid her
      have hmet : metB j j f = false := by rw [HR.out.met]; simp
      obtain ⟨T, hT⟩ : ∃ T, max j (j + 1) = T := ⟨_, rfl⟩
      obtain ⟨g, hg⟩ : ∃ g, withF j j f = g := ⟨_, rfl⟩
      have hTi : (T : Int) = (j : Int) + 1 := by omega
      have hTn : T = j + 1 := by omega
      have hrep : Rep T g (fun m => decide (m < j) || decide (m = j)) := by rw [← hT, ← hg]; exact HR.out.with' j (by omega)
      have HREP := Lib.hid (show Rep (j + 1) g (fun m => decide (m < j + 1)) by
        have e : (fun m => decide (m < j + 1)) = (fun m => decide (m < j) || decide (m = j)) := by
          funext m
          rw [Bool.eq_iff_iff]; simp; omega
        rw [e, ← hTn]; exact hrep)
      have MET := Lib.hid hmet
      have HRR0 := Lib.hid hR
      have DL0 := Lib.hid hDl
      have HTT := Lib.hid (Lib.hid hT)
      have HGG := Lib.hid (Lib.hid hg)
      have HTI := Lib.hid hTi
      have HPL := Lib.hid hpl
      clear her hD hDl hsd hR hmet hT hg hTn hrep hpl hTi
      obtain ⟨Q5, hQ5⟩ : ∃ R, recB K j [5] = R := ⟨_, rfl⟩
      have hsend := fun (c : Nat) (a : Addr) (pv : Value) (w : World) h1 h2 => Send_lit a c pv K [5] Q5 j j f w h1 h2 HLK.out (by decide) (by omega) (by omega) HR.out.ok hQ5
      have HSEND := Lib.hid hsend
      have hrg := range_of X.out
      clear hsend hQ5
      go_wp2_with (first
        | (refine wpList_load_mid rfl 28 (.tmp 7) rfl bc 0 rfl [.slice (some ⟨kg, 0, none⟩) 32 kc, .int .i64 (j : Nat), .int .i64 (j : Nat), .bool (f 0), .bool (f 1), .bool (f 2), .bool (f 3), .bool (f 4), .bool (f 5), .bool (f 6), .bool (f 7)] _ hrg Try.underlying28 rfl chanSz ?_)
        | (go_at_call 15; refine (HSEND.out kc _ _ _ (RK.out.alloc _) (newB _ 5 5 rfl)).mono ?_; rintro e v5 ⟨kga, kca, rva, rfl, hoka, hora, hba⟩; have BA := Lib.hid (show Below wr.heap.size wr v5 from ((Below.refl _ _).alloc (Nat.le_refl _) _).trans (hba.mono (by simp))); have RKA := Lib.hid hoka.rd; have KGA := Lib.hid (hoka.lt kga rfl); clear hoka hora hba))
      generalize hW5 : World.alloc _ _ = w5
      obtain ⟨ab, hab⟩ : ∃ b, b = v5.heap.size := ⟨_, rfl⟩
      have hax : w5.heap[ab]? = some (.cells #[.slice (some ⟨kga, 0, none⟩) 32 kca, .int .i64 ((j : Int) + 1), .int .i64 (j : Nat), .bool (f 0), .bool (f 1), .bool (f 2), .bool (f 3), .bool (f 4), .bool (f 5), .bool (f 6), .bool (f 7)] 28 (0, 0)) := by rw [← hW5, hab]; exact heapNew _ _
      have hB5 : Below wr.heap.size wr w5 := by rw [← hW5]; exact BA.out.alloc BA.out.size _
      have hra : Rd w5 (.slice (some ⟨kga, 0, none⟩) 32 kca) K := by rw [← hW5]; exact RKA.out.alloc _
      have hlab : wr.heap.size ≤ ab := by rw [hab]; exact BA.out.size
      rw [← hab]
      have AX := Lib.hid hax
      have B5 := Lib.hid hB5
      have RA := Lib.hid hra
      have hlab2 := lt_of_heap hax
      have RE5 := Lib.hid (RE.out.stay hB5)
      have hec5 := (World.cell?_of_block (w := wr) (hB5.block eb hebl)).trans hec
      have hebl5 := World.block_lt_of_cell? w5 _ hec5
      have RP5 := Lib.hid (RP.out.stay hB5)
      clear hW5 hax hB5 hra hab hrg RK RE RP hec hebl BA RKA KGA
      have htake := fun (c : Nat) (a : Addr) (rv : Value) (w : World) h1 h2 => takeLit a c rv K R D (j + 1) j j T f g w (Lib.hid ⟨HR.out.ok, MET.out, HRR0.out.symm, by have := DL0.out; omega, by omega, by omega, by omega, HLK.out⟩) HTT.out HGG.out h1 h2
      have HTAKE := Lib.hid htake
      clear htake
      have S0 := (⟨cells_of AX.out, hec5⟩ : Cells w5 ab _ _ _ _ _ _ _ _ _ _ _ ∧ _)
      go_wp2_with fail
      go_cut [13, 14, 15] from 41 to 85 (fun vp vr ve wc => ve = .int .i64 0 ∧ ResRel w5 K ((j : Int) + 1) (T : Nat) g D vp vr wc)
      case first =>
        go_region_held3 (fun w' => (w'.cell? ⟨ab, 0, none⟩ = some (.slice (some ⟨kga, 0, none⟩) 32 kca) ∧ w'.cell? ⟨ab, 1, none⟩ = some (.int .i64 ((j : Int) + 1)) ∧ w'.cell? ⟨ab, 2, none⟩ = some (.int .i64 (j : Nat)) ∧ w'.cell? ⟨ab, 3, none⟩ = some (.bool (f 0)) ∧ w'.cell? ⟨ab, 4, none⟩ = some (.bool (f 1)) ∧ w'.cell? ⟨ab, 5, none⟩ = some (.bool (f 2)) ∧ w'.cell? ⟨ab, 6, none⟩ = some (.bool (f 3)) ∧ w'.cell? ⟨ab, 7, none⟩ = some (.bool (f 4)) ∧ w'.cell? ⟨ab, 8, none⟩ = some (.bool (f 5)) ∧ w'.cell? ⟨ab, 9, none⟩ = some (.bool (f 6)) ∧ w'.cell? ⟨ab, 10, none⟩ = some (.bool (f 7))) ∧ w'.cell? ⟨eb, eoff + j, none⟩ = some (.slice ea R.length ecap)) (first | with_reducible exact S0 | with_reducible exact SE.drew S0 | with_reducible exact SE.alloc S0 _ | with_reducible exact SE.drew (SE.alloc S0 _) | with_reducible exact S2 | with_reducible exact SE.alloc S2 _ | with_reducible exact SE.set HNE HNF S2) (first
          | (go_at_call 10; refine (HTAKE.out kca _ _ _ (RA.out.drewN 1) (RE5.out.drewN 1)).mono ?_; rintro e v2 ⟨kg2, kc2, rv, rfl, hok, hor, hb2⟩; have OK2 := Lib.hid hok; have OR2 := Lib.hid hor; have B2 := Lib.hid (show Below w5.heap.size w5 v2 from (below_drewN (Below.refl _ _) 1).trans hb2); have S2 := SE.next B2.out AX.out hlab2 hebl5 hec5; clear hok hor hb2)
          | (go_at_call 10; refine (HTAKE.out kca _ _ _ ((RA.out.alloc _).drewN 1) ((RE5.out.alloc _).drewN 1)).mono ?_; rintro e v2 ⟨kg2, kc2, rv, rfl, hok, hor, hb2⟩; have OK2 := Lib.hid hok; have OR2 := Lib.hid hor; have B2 := Lib.hid (show Below w5.heap.size w5 v2 from (below_drewN ((Below.refl _ _).alloc (Nat.le_refl _) _) 1).trans (hb2.mono (by simp))); have ZZ := (hb2.block w5.heap.size (by simp)).trans (heapNew w5 (.cells #[.slice none 0 0, .int .i64 0, .int .i64 0, .bool false, .bool false, .bool false, .bool false, .bool false, .bool false, .bool false, .bool false] 28)); have HNE : w5.heap.size ≠ ab := (by omega); have HNF : w5.heap.size ≠ eb := (by omega); have S2 := SE.next B2.out AX.out hlab2 hebl5 hec5; have z20 := cellAt ZZ 0 rfl; have z21 := cellAt ZZ 1 rfl; have z22 := cellAt ZZ 2 rfl; have z23 := cellAt ZZ 3 rfl; have z24 := cellAt ZZ 4 rfl; have z25 := cellAt ZZ 5 rfl; have z26 := cellAt ZZ 6 rfl; have z27 := cellAt ZZ 7 rfl; have z28 := cellAt ZZ 8 rfl; have z29 := cellAt ZZ 9 rfl; have z30 := cellAt ZZ 10 rfl; have zfr := freeAt ZZ; have ZH := Lib.hid ZZ; clear hok hor hb2 ZZ))
        all_goals
          clear S0 S2
          go_wp2_with fail
          go_meet
          case rel =>
            refine ⟨rfl, ?_⟩
            first | (have hz1 := ZH.out; exact res_first B2.out OK2.out OR2.out (Nat.le_refl _) (by simp) hz1) | exact res_last B2.out OK2.out OR2.out (Nat.le_refl _)
      case rest =>
        obtain ⟨hve, b, kg2, kc2, hvp, hxb, hwb, hrk, hkw, hkb, hrr, hrb, hbw⟩ := hcut
        subst hve
        subst hvp
        have HXB := Lib.hid hxb
        have HRK := Lib.hid hrk
        have HBW := Lib.hid (B5.out.trans (hbw.mono B5.out.size))
        have HCB := Lib.hid ((HBW.out.block bc hlb).trans X.out)
        have HAB := Lib.hid ((hbw.block ab hlab2).trans AX.out)
        have hkw2 : wr.heap.size ≤ kg2 := Nat.le_trans B5.out.size hkw
        clear hxb hrk hrr hrb hbw S0 hkw
        have x1 := cellAt HXB.out 1 rfl
        have a1 := cellAt HAB.out 1 rfl
        have a2 := cellAt HAB.out 2 rfl
        have a3 := cellAt HAB.out 3 rfl
        have a4 := cellAt HAB.out 4 rfl
        have a5 := cellAt HAB.out 5 rfl
        have a6 := cellAt HAB.out 6 rfl
        have a7 := cellAt HAB.out 7 rfl
        have a8 := cellAt HAB.out 8 rfl
        have a9 := cellAt HAB.out 9 rfl
        have a10 := cellAt HAB.out 10 rfl
        have c2 := cellAt HCB.out 2 rfl
        have c3 := cellAt HCB.out 3 rfl
        have c4 := cellAt HCB.out 4 rfl
        have c5' := cellAt HCB.out 5 rfl
        have c6 := cellAt HCB.out 6 rfl
        have c7 := cellAt HCB.out 7 rfl
        have c8 := cellAt HCB.out 8 rfl
        have c9 := cellAt HCB.out 9 rfl
        have c10 := cellAt HCB.out 10 rfl
        have hti := HTI.out
        have hrg := range_of (cs := [.slice (some ⟨kg2, 0, none⟩) 32 kc2, .int .i64 ((j : Int) + 1), .int .i64 (T : Nat), .bool (g 0), .bool (g 1), .bool (g 2), .bool (g 3), .bool (g 4), .bool (g 5), .bool (g 6), .bool (g 7)]) HXB.out
        have eqS := eq_seen f
        have TURN := Lib.hid (fun wz h => ChInv.turn (wz := wz) (s2 := j + 1) (t2 := T) (g := g) H.out HBW.out HRK.out hkw2 h)
        go_wp2_with (first
          | (refine wpList_load_mid rfl 28 (.tmp 13) rfl b 0 rfl [.slice (some ⟨kg2, 0, none⟩) 32 kc2, .int .i64 ((j : Int) + 1), .int .i64 (T : Nat), .bool (g 0), .bool (g 1), .bool (g 2), .bool (g 3), .bool (g 4), .bool (g 5), .bool (g 6), .bool (g 7)] _ hrg Try.underlying28 rfl chanSz ?_)
          | (refine wpList_store_mid rfl 28 (.tmp 7) (.tmp 85) rfl bc 0 #[.slice (some ⟨kg2, 0, none⟩) 32 kc2, .int .i64 ((j : Int) + 1), .int .i64 (T : Nat), .bool (g 0), .bool (g 1), .bool (g 2), .bool (g 3), .bool (g 4), .bool (g 5), .bool (g 6), .bool (g 7)] rfl rfl (there_of HCB.out rfl) chanSz (chanOne' _ _ _ _ _ _ _ _ _ _ _ rfl) ?_; generalize hW : World.setCells _ _ _ _ = wz; have HW := Lib.hid hW; clear hW))
        go_roundw
        case rel => exact ⟨j + 1, g, kg2, kc2, by omega, by go_num, Lib.hid (by have h1 := TURN.out wz HW.out; have e : T = j + 1 := (by have := HTI.out; omega); rw [e] at h1; exact h1), HREP⟩
        case measure => simp [intOf]; omega
    · have hd1 : decide ((j : Int) < n) = false := by rw [decide_eq_false_iff_not]; omega
      have hd1n : decide (j < n) = false := by rw [decide_eq_false_iff_not]; omega
      have hx2 := cellAt X.out 2 rfl
      have hjn2 : j = n := by omega
      rw [hjn2] at hx2
      have FIN := Lib.hid (HB3.out.trans (H.out.below.mono HB3.out.size))
      clear RP RS hlb hjn2
      go_wp2_with fail
      go_ret
      exact ⟨rfl, FIN.out⟩
end Go.Proofs.Ytoekopdogfnkhaa
