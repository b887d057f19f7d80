/-
  The walk of conclavekeep.LineTurns: within a window all records are taken, in whatever order.
-/
import Derived.Test.YtoekopdogfnkhaaChi2
set_option linter.unusedVariables false
set_option linter.unusedSimpArgs false
namespace Go.Proofs.Ytoekopdogfnkhaa
open Go.RowKit Go.Con
/-- the order of a turn -/
def kk (n p i : Nat) : Nat := (n - 1 - i + p) % n
def tk (n p : Nat) (i : Nat) : Nat → Bool := fun m => (List.range i).any fun q => decide (m = kk n p q)
theorem tk_succ (n p i : Nat) : tk n p (i + 1) = fun m => tk n p i m || decide (m = kk n p i) := by
  funext m
  unfold tk
  rw [List.range_succ, List.any_append]
  simp
theorem kk_lt (n p i : Nat) (hn : 0 < n) : kk n p i < n := Nat.mod_lt _ hn
theorem kk_inj {n p i q : Nat} (hi : i < n) (hq : q < n) (h : kk n p i = kk n p q) : i = q := by
  unfold kk at h
  have h1 := Nat.mod_add_div (n - 1 - i + p) n
  have h2 := Nat.mod_add_div (n - 1 - q + p) n
  rw [h] at h1
  generalize (n - 1 - i + p) / n = a at h1
  generalize (n - 1 - q + p) / n = b at h2
  generalize (n - 1 - q + p) % n = r at h1 h2
  rcases Nat.lt_trichotomy a b with hab | hab | hab
  · have : n * (a + 1) ≤ n * b := Nat.mul_le_mul_left n hab
    rw [Nat.mul_add] at this; omega
  · subst hab; omega
  · have : n * (b + 1) ≤ n * a := Nat.mul_le_mul_left n hab
    rw [Nat.mul_add] at this; omega
theorem tk_no {n p i : Nat} (hi : i < n) : tk n p i (kk n p i) = false := by
  unfold tk
  rw [List.any_eq_false]
  intro q hq
  rw [List.mem_range] at hq
  simp only [decide_eq_true_eq]
  intro h
  have := kk_inj hi (by omega) h
  omega
/-- all are taken in the end -/
theorem tk_all {n p : Nat} (hn : 0 < n) : ∃ q, q < n ∧ kk n p q = n - 1 := by
  refine ⟨p % n, Nat.mod_lt _ hn, ?_⟩
  unfold kk
  have h1 := Nat.mod_add_div p n
  have h2 := Nat.mod_lt p hn
  generalize p % n = r at *
  generalize p / n = d at *
  have e : n - 1 - r + p = (n - 1) + n * d := by omega
  rw [e, Nat.add_mul_mod_self_left, Nat.mod_eq_of_lt (by omega)]
set_option maxRecDepth 100000 in
set_option maxHeartbeats 4000000 in
theorem walk_LineTurns (vk : Value) (k : List UInt8) (vp : Value) (ps : List (List UInt8)) (vm : Value) (m : Int) (w : World) (hk : Rd w vk k) (hp : RdRows w vp ps) (hm : IsInt vm m) :
    Calls Try.prog 5 #[vk, vp, vm] w fun e w' => e = .returned (.bool true) ∧ Below w.heap.size w w' := by
  obtain ⟨ak, ck, rfl, hlck, hcmk⟩ := hk.slice
  have R_k := Lib.hid hk
  clear hk
  obtain ⟨ap, cp, rfl, hlcp, hcmp, hpe⟩ := id hp
  have R_p := Lib.hid hp
  clear hp hpe
  obtain ⟨rfl, hm1, hm2⟩ := hm
  obtain ⟨L, hL⟩ : ∃ L, L = ps.length := ⟨_, rfl⟩
  rw [← hL] at hlcp ⊢
  rw [← hL] at R_p
  have hcm2 : cp ≤ 9223372036854775807 := hcmp
  obtain ⟨n, hn⟩ : ∃ n, n = min ps.length (8 : Int).toNat := ⟨_, rfl⟩
  have hnL : n ≤ L := by omega
  have hn8 : n ≤ 8 := by rw [hn]; exact Nat.min_le_right _ _
  obtain ⟨K, hK⟩ : ∃ K, K = fill k 32 := ⟨_, rfl⟩
  have hKl : K.length = 32 := by rw [hK]; exact fill_length _ _
  have hsent := fun w h1 h2 => sent_any (.slice ak k.length ck) k (.slice ap L cp) ps 8 K n w h1 h2 (by decide) (by decide) hK hn
  have HSENT := Lib.hid hsent
  have hfK := fun v w (h : Rd w v k) => filled_any v k 32 w h (by decide)
  rw [← hK] at hfK
  have HFK := Lib.hid hfK
  have HLK := Lib.hid hKl
  have HL := Lib.hid hL
  have HB0 := Lib.hid (Below.refl w.heap.size w)
  have hpk : 0 < n → ∃ p : Nat, pick m n = (p : Int) ∧ p < n := fun h => by
    have p0 := pick_nonneg m n (by omega)
    have p1 := pick_lt m n (by omega)
    exact ⟨(pick m n).toNat, by omega, by omega⟩
  obtain ⟨p, hp⟩ : ∃ p : Nat, 0 < n → pick m n = (p : Int) ∧ p < n := by
    by_cases h0 : 0 < n
    · obtain ⟨p, h⟩ := hpk h0; exact ⟨p, fun _ => h⟩
    · exact ⟨0, fun h => absurd h h0⟩
  have HPK := Lib.hid hp
  clear hpk hp
  clear hK hKl hfK hL hn hsent
  go_enter Try.func5, Try.ntmps5
  go_wp2_with fail
  refine (HSENT.out _ R_k.out R_p.out).mono ?_
  rintro e w1 ⟨v5, rfl, hrs, hb1⟩
  obtain ⟨a5, c5, hv5, hlc5, hcm5, -⟩ := id hrs
  rw [recsTo_length] at hv5 hlc5
  subst hv5
  have hcm52 : c5 ≤ 9223372036854775807 := hcm5
  have RS1 := Lib.hid hrs
  have R_k1 := Lib.hid (R_k.out.stay hb1)
  have HB1 := Lib.hid hb1
  clear hrs hb1 hcm5
  go_wp2_with fail
  refine (HFK.out _ _ R_k1.out).mono ?_
  rintro e w2 ⟨vkk, rfl, hokk, hb2⟩
  obtain ⟨kg0, kc0, hvk, _, _, hkc32, _⟩ := hokk.shape (by intro h; have := HLK.out; rw [h] at this; cases this)
  rw [HLK.out] at hvk
  subst hvk
  have R_kk := Lib.hid hokk.rd
  have RS2 := Lib.hid (RS1.out.stay hb2)
  have HB2 := Lib.hid (HB1.out.trans (hb2.mono HB1.out.size))
  clear hokk hb2 hkc32 RS1 R_k1
  go_wp2_with fail
  refine (lineNew_lit _ _ K _ R_kk.out HLK.out).mono ?_
  rintro e w3 ⟨kg1, kc1, rfl, hok1, hb3⟩
  have RS3 := Lib.hid (RS2.out.stay hb3)
  have HB3 := Lib.hid (HB2.out.trans (hb3.mono HB2.out.size))
  have R_p3 := Lib.hid (R_p.out.stay (HB3.out))
  have INV0 := Lib.hid (ChInv.start (s := 0) (t := 0) (f := fun _ => false) hok1.rd (hok1.lt kg1 rfl).2)
  clear hb3 hok1 RS2 R_kk
  go_wp2_with fail
  generalize hW : w3.alloc _ = w4 at INV0 ⊢
  obtain ⟨bc, hbc⟩ : ∃ b, b = w3.heap.size := ⟨_, rfl⟩
  rw [← hbc] at INV0 ⊢
  clear hW hbc
  go_loopw [12] (fun i wr => ∃ (j t : Nat) (f : Nat → Bool) (kg kc : Nat), j ≤ n ∧ i = .int .i64 j ∧ t ≤ n ∧ Hid (ChInv w3 wr bc K 0 t f kg kc) ∧ Hid (Rep t f (tk n p j))) (fun i _ => n - (intOf i).toNat)
  case atStart => exact ⟨0, 0, _, kg1, kc1, by omega, rfl, by omega, INV0, Lib.hid (by have e : tk n p 0 = (fun _ => false) := (by funext m; simp [tk]); rw [e]; exact Rep.none)⟩
  case round =>
    obtain ⟨j, t, f, kg, kc, hjn, rfl, htn, H, HR⟩ := hrel
    have X := Lib.hid (show wr.heap[bc]? = some (.cells #[.slice (some ⟨kg, 0, none⟩) 32 kc, .int .i64 (0 : Nat), .int .i64 (t : Nat), .bool (f 0), .bool (f 1), .bool (f 2), .bool (f 3), .bool (f 4), .bool (f 5), .bool (f 6), .bool (f 7)] 28 (0, 0)) from H.out.chan)
    have RK := Lib.hid H.out.key
    have hlb := lt_of_heap H.out.chan
    have RS := Lib.hid (RS3.out.stay H.out.below)
    have RP := Lib.hid (R_p3.out.stay H.out.below)
    by_cases hlt : j < n
    · have hd1 : decide ((j : Int) < n) = true := by rw [decide_eq_true_eq]; omega
      have hd1n : decide (j < n) = true := by rw [decide_eq_true_eq]; omega
      obtain ⟨hpm, hpn⟩ := HPK.out (by omega)
      have hpm2 := fun w => picked_any m n w hm1 hm2 (by omega)
      rw [hpm] at hpm2
      have HPM := Lib.hid hpm2
      obtain ⟨q, hq⟩ : ∃ q, q = kk n p j := ⟨_, rfl⟩
      have hqn : q < n := by rw [hq]; exact kk_lt n p j (by omega)
      have hqi : ((n : Int) - 1 - (j : Int) + (p : Int)) % (n : Int) = (q : Int) := by
        rw [hq, kk, show (n : Int) - 1 - (j : Int) + (p : Int) = ((n - 1 - j + p : Nat) : Int) by omega]; rfl
      have hd2 : decide ((q : Int) < n) = true := by rw [decide_eq_true_eq]; omega
      have hd2n : decide (q < n) = true := by rw [decide_eq_true_eq]; omega
      have hd3 : decide ((q : Int) < L) = true := by rw [decide_eq_true_eq]; omega
      have hd3n : decide (q < L) = true := by rw [decide_eq_true_eq]; omega
      obtain ⟨eb, eoff, ex, rfl, hec, her⟩ := RS.out.at (i := q) (by rw [recsTo_length]; exact hqn)
      rw [recsTo_get _ _ _ _ hqn] at her
      have hebl := World.block_lt_of_cell? wr _ hec
      obtain ⟨pl, hpl⟩ : ∃ x, x = ps.getD q [] := ⟨_, rfl⟩
      rw [← hpl] at her
      obtain ⟨D, hD⟩ : ∃ D, D = pl.take 40 := ⟨_, rfl⟩
      rw [← hD] at her
      have hDl : D.length ≤ 40 := by rw [hD]; simp; omega
      have hsd := fun v w (h : Rd w v pl) => some_any v pl 40 w h (by decide)
      rw [← hD] at hsd
      have HSD := Lib.hid hsd
      obtain ⟨R, hR⟩ : ∃ R, recB K q D = R := ⟨_, rfl⟩
      rw [hR] at her
      obtain ⟨ea, ecap, rfl, _, _⟩ := id her.slice
      have RE := Lib.hid her
      have hmet : metB t q f = false := by rw [HR.out.met, hq, tk_no hlt]; simp; omega
      obtain ⟨T, hT⟩ : ∃ T, max t (q + 1) = T := ⟨_, rfl⟩
      obtain ⟨g, hg⟩ : ∃ g, withF t q f = g := ⟨_, rfl⟩
      have hTn : T ≤ n := by omega
      have HREP := Lib.hid (show Rep T g (tk n p (j + 1)) by
        rw [tk_succ, ← hT, ← hg, ← hq]; exact HR.out.with' q (by omega))
      have htake := fun (c : Nat) (a : Addr) (rv : Value) (w : World) h1 h2 => takeLit a c rv K R D 0 t q T f g w (Lib.hid ⟨HR.out.ok, hmet, hR.symm, by omega, by omega, by decide, by omega, HLK.out⟩) (Lib.hid hT) (Lib.hid hg) h1 h2
      have HTAKE := Lib.hid htake
      have HPL := Lib.hid hpl
      clear her hD hDl hsd hR hmet hT hg htake hpl hq hpm hpm2
      have S0 := (⟨cells_of X.out, hec⟩ : Cells wr bc _ _ _ _ _ _ _ _ _ _ _ ∧ _)
      go_wp2_with fail
      refine (HPM.out _).mono ?_
      rintro e _ ⟨rfl, rfl⟩
      go_wp2_with fail
      rw [hqi]
      go_cut [14, 15, 16] from 46 to 68 (fun vp vr ve wc => ve = .int .i64 0 ∧ ResRel wr K (0 : Nat) (T : Nat) g D vp vr wc)
      case first =>
        go_region_held3 (fun w' => (w'.cell? ⟨bc, 0, none⟩ = some (.slice (some ⟨kg, 0, none⟩) 32 kc) ∧ w'.cell? ⟨bc, 1, none⟩ = some (.int .i64 (0 : Nat)) ∧ w'.cell? ⟨bc, 2, none⟩ = some (.int .i64 (t : Nat)) ∧ w'.cell? ⟨bc, 3, none⟩ = some (.bool (f 0)) ∧ w'.cell? ⟨bc, 4, none⟩ = some (.bool (f 1)) ∧ w'.cell? ⟨bc, 5, none⟩ = some (.bool (f 2)) ∧ w'.cell? ⟨bc, 6, none⟩ = some (.bool (f 3)) ∧ w'.cell? ⟨bc, 7, none⟩ = some (.bool (f 4)) ∧ w'.cell? ⟨bc, 8, none⟩ = some (.bool (f 5)) ∧ w'.cell? ⟨bc, 9, none⟩ = some (.bool (f 6)) ∧ w'.cell? ⟨bc, 10, none⟩ = some (.bool (f 7))) ∧ w'.cell? ⟨eb, eoff + q, none⟩ = some (.slice ea R.length ecap)) (first | with_reducible exact S0 | with_reducible exact SE.drew S0 | with_reducible exact SE.alloc S0 _ | with_reducible exact SE.drew (SE.alloc S0 _) | with_reducible exact S2 | with_reducible exact SE.alloc S2 _ | with_reducible exact SE.set HNE HNF S2) (first
          | (go_at_call 10; refine (HTAKE.out kc _ _ _ (RK.out.drewN 1) (RE.out.drewN 1)).mono ?_; rintro e v2 ⟨kg2, kc2, rv, rfl, hok, hor, hb2⟩; have OK2 := Lib.hid hok; have OR2 := Lib.hid hor; have B2 := Lib.hid (show Below wr.heap.size wr v2 from (below_drewN (Below.refl _ _) 1).trans hb2); have S2 := SE.next B2.out X.out hlb hebl hec; clear hok hor hb2)
          | (go_at_call 10; refine (HTAKE.out kc _ _ _ ((RK.out.alloc _).drewN 1) ((RE.out.alloc _).drewN 1)).mono ?_; rintro e v2 ⟨kg2, kc2, rv, rfl, hok, hor, hb2⟩; have OK2 := Lib.hid hok; have OR2 := Lib.hid hor; have B2 := Lib.hid (show Below wr.heap.size wr v2 from (below_drewN ((Below.refl _ _).alloc (Nat.le_refl _) _) 1).trans (hb2.mono (by simp))); have ZZ := (hb2.block wr.heap.size (by simp)).trans (heapNew wr (.cells #[.slice none 0 0, .int .i64 0, .int .i64 0, .bool false, .bool false, .bool false, .bool false, .bool false, .bool false, .bool false, .bool false] 28)); have HNE : wr.heap.size ≠ bc := (by omega); have HNF : wr.heap.size ≠ eb := (by omega); have S2 := SE.next B2.out X.out hlb hebl hec; have z20 := cellAt ZZ 0 rfl; have z21 := cellAt ZZ 1 rfl; have z22 := cellAt ZZ 2 rfl; have z23 := cellAt ZZ 3 rfl; have z24 := cellAt ZZ 4 rfl; have z25 := cellAt ZZ 5 rfl; have z26 := cellAt ZZ 6 rfl; have z27 := cellAt ZZ 7 rfl; have z28 := cellAt ZZ 8 rfl; have z29 := cellAt ZZ 9 rfl; have z30 := cellAt ZZ 10 rfl; have zfr := freeAt ZZ; have ZH := Lib.hid ZZ; clear hok hor hb2 ZZ))
        all_goals
          clear S0 S2
          go_wp2_with fail
          go_meet
          case rel =>
            refine ⟨rfl, ?_⟩
            first | (have hz1 := ZH.out; exact res_first B2.out OK2.out OR2.out (Nat.le_refl _) (by simp) hz1) | exact res_last B2.out OK2.out OR2.out (Nat.le_refl _)
      case rest =>
        obtain ⟨hve, b, kg2, kc2, hvp, hxb, hwb, hrk, hkw, hkb, hrr, hrb, hbw⟩ := hcut
        subst hve
        subst hvp
        obtain ⟨ra, rc, hvr, _, _⟩ := id hrr.slice
        subst hvr
        obtain ⟨fb, foff, fx, hfa, hfc, hfr⟩ := (RP.out.stay hbw).at (i := q) (by rw [← HL.out]; omega)
        cases hfa
        rw [← HPL.out] at hfr
        obtain ⟨fa, fcap, hfx, _, _⟩ := id hfr.slice
        subst hfx
        have HFR := Lib.hid hfr
        have HXB := Lib.hid hxb
        have HRK := Lib.hid hrk
        have HBW := Lib.hid hbw
        have HRR := Lib.hid hrr
        clear hxb hrk hrr hrb hbw S0 hfr
        go_wp2_with fail
        refine (HSD.out _ _ HFR.out).mono ?_
        rintro e w6 ⟨vs, rfl, hos, hb6⟩
        have RS6 := Lib.hid hos.rd
        have RR6 := Lib.hid (HRR.out.stay hb6)
        have XB6 := Lib.hid ((hb6.block b (lt_of_heap HXB.out)).trans HXB.out)
        have HRK6 := Lib.hid (HRK.out.stay hb6)
        have HB6 := Lib.hid (HBW.out.trans (hb6.mono HBW.out.size))
        clear hos hb6
        go_wp2_with fail
        refine (same_true _ _ _ _ _ RR6.out RS6.out rfl).mono ?_
        rintro e _ ⟨rfl, rfl⟩
        have hx2 := cellAt XB6.out 2 rfl
        have hrg := range_of (cs := [.slice (some ⟨kg2, 0, none⟩) 32 kc2, .int .i64 (0 : Nat), .int .i64 (T : Nat), .bool (g 0), .bool (g 1), .bool (g 2), .bool (g 3), .bool (g 4), .bool (g 5), .bool (g 6), .bool (g 7)]) XB6.out
        have HXC := Lib.hid ((HB6.out.block bc hlb).trans X.out)
        have TURN := Lib.hid (fun wz h => ChInv.turn (wz := wz) (s2 := 0) (t2 := T) (g := g) H.out HB6.out HRK6.out hkw h)
        go_wp2_with (first
          | (refine wpList_load_mid rfl 28 (.tmp 14) rfl b 0 rfl [.slice (some ⟨kg2, 0, none⟩) 32 kc2, .int .i64 (0 : Nat), .int .i64 (T : Nat), .bool (g 0), .bool (g 1), .bool (g 2), .bool (g 3), .bool (g 4), .bool (g 5), .bool (g 6), .bool (g 7)] _ hrg Try.underlying28 rfl chanSz ?_)
          | (refine wpList_store_mid rfl 28 (.tmp 9) (.tmp 68) rfl bc 0 #[.slice (some ⟨kg2, 0, none⟩) 32 kc2, .int .i64 (0 : Nat), .int .i64 (T : Nat), .bool (g 0), .bool (g 1), .bool (g 2), .bool (g 3), .bool (g 4), .bool (g 5), .bool (g 6), .bool (g 7)] rfl rfl (there_of HXC.out rfl) chanSz (chanOne' _ _ _ _ _ _ _ _ _ _ _ rfl) ?_; generalize hW : World.setCells _ _ _ _ = wz; have HW := Lib.hid hW; clear hW))
        go_roundw
        case rel => exact ⟨j + 1, T, g, kg2, kc2, by omega, by go_num, hTn, Lib.hid (TURN.out wz HW.out), HREP⟩
        case measure => simp [intOf]; omega
    · have hd1 : decide ((j : Int) < n) = false := by rw [decide_eq_false_iff_not]; omega
      have hd1n : decide (j < n) = false := by rw [decide_eq_false_iff_not]; omega
      have hx2 := cellAt X.out 2 rfl
      have htT : t = n := by
        by_cases h0 : 0 < n
        · obtain ⟨q, hq1, hq2⟩ := tk_all (p := p) h0
          have h1 : tk n p j (n - 1) = true := by
            unfold tk
            rw [List.any_eq_true]
            exact ⟨q, by rw [List.mem_range]; omega, by simp [hq2]⟩
          have := HR.out.lt _ h1
          omega
        · omega
      rw [htT] at hx2
      have FIN := Lib.hid (HB3.out.trans (H.out.below.mono HB3.out.size))
      clear RP RS hlb htT
      go_wp2_with fail
      go_ret
      exact ⟨rfl, FIN.out⟩
end Go.Proofs.Ytoekopdogfnkhaa
