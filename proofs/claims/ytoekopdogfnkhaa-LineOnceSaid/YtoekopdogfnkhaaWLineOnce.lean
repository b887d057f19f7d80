/-
  The walk of conclavekeep.LineOnce: each record is taken once, in whatever order they come.
-/
import Derived.Test.YtoekopdogfnkhaaChi2
import Derived.Test.YtoekopdogfnkhaaFrI
set_option linter.unusedVariables false
set_option linter.unusedSimpArgs false
namespace Go.Proofs.Ytoekopdogfnkhaa
open Go.RowKit Go.Con
/-- which were taken, in memory -/
def tkO (T : Nat → Bool) : Obj := .cells ((List.range 16).map fun m => Value.bool (T m)).toArray 39 (0, 0)
theorem tk_cell {w : World} {b : Nat} {T : Nat → Bool} (h : w.heap[b]? = some (tkO T)) (k : Nat) (hk : k < 16) : w.cell? ⟨b, k, none⟩ = some (.bool (T k)) := cellAt h k (by simp [hk])
theorem tk_free {w : World} {b : Nat} {T : Nat → Bool} (h : w.heap[b]? = some (tkO T)) (k : Nat) : w.frozen? ⟨b, k, none⟩ = false := freeAt h k
theorem tk_set {w : World} {b : Nat} {T : Nat → Bool} (h : w.heap[b]? = some (tkO T)) (k : Nat) (hk : k < 16) : (w.setCell ⟨b, k, none⟩ (.bool true)).heap[b]? = some (tkO fun m => T m || decide (m = k)) := by
  have h1 := heapSet (o := k) h (.bool true)
  rw [h1]
  congr 2
  refine Array.ext_getElem? fun i => ?_
  rw [Array.getElem?_setIfInBounds]
  by_cases hik : k = i
  · subst hik; simp [hk]
  · simp only [hik, if_false, List.getElem?_toArray, List.getElem?_map]
    by_cases hi : i < 16
    · have : ¬ i = k := fun e => hik e.symm
      simp [hi, this]
    · simp [hi]
theorem ChInv.side {w wr : World} {bc : Nat} {K : List UInt8} {s t : Nat} {f : Nat → Bool} {kg kc : Nat} (H : ChInv w wr bc K s t f kg kc) {b : Nat} (h1 : bc ≠ b) (h2 : kg ≠ b) (h3 : w.heap.size ≤ b) (k : Nat) (v : Value) : ChInv w (wr.setCell ⟨b, k, none⟩ v) bc K s t f kg kc :=
  ⟨(heapSet_ne k v h1).trans H.chan, H.key.ofHeapB (fun j hj hl => heapSet_ne k v (by have e : kg = j := Option.some.inj hj; omega)), H.kne, H.low, H.below.setCell h3 v⟩
theorem oldLit (a : Addr) (c : Nat) (rv : Value) (key r p : List UInt8) (s t n : Nat) (f : Nat → Bool) (w : World) (h : Hid (SeenOk t f ∧ metB t n f = true ∧ r = recB key n p ∧ p.length ≤ 2000 ∧ n < 1073741824 ∧ s ≤ 1073741824 ∧ t ≤ 1073741824 ∧ key.length = 32)) (hv : Rd w (.slice (some a) 32 c) key) (hr : Rd w rv r) :
    Calls Try.prog 10 #[.agg #[.slice (some a) 32 c, .int .i64 s, .int .i64 t, .bool (f 0), .bool (f 1), .bool (f 2), .bool (f 3), .bool (f 4), .bool (f 5), .bool (f 6), .bool (f 7)], rv] w fun e w' => e = .returned (.tuple #[.agg #[.slice none 0 0, .int .i64 0, .int .i64 0, .bool false, .bool false, .bool false, .bool false, .bool false, .bool false, .bool false, .bool false], .slice none 0 0, .int .i64 7]) ∧ Below w.heap.size w w' := by
  obtain ⟨h1, h2, h3, h4, h5, h6, h7, h8⟩ := h
  exact Take_recOld a c rv key r p s t n f w hv hr h8 h3 h4 h5 h6 h7 h1 h2
structure OnceInv (w3 wr : World) (bc bt n : Nat) (K : List UInt8) (t : Nat) (f T : Nat → Bool) (kg kc : Nat) : Prop where
  tn : t ≤ n
  H : Hid (ChInv w3 wr bc K 0 t f kg kc)
  HR : Hid (Rep t f T)
  HTN : Hid (∀ m, T m = true → m < n)
  XT : Hid (wr.heap[bt]? = some (tkO T))
  HKB : Hid (kg ≠ bt)
set_option maxRecDepth 100000 in
set_option maxHeartbeats 16000000 in
theorem walk_LineOnce (vk : Value) (k : List UInt8) (vp : Value) (ps : List (List UInt8)) (vo : Value) (os : List Int) (w : World) (hk : Rd w vk k) (hp : RdRows w vp ps) (ho : RdInts w vo os) :
    Calls Try.prog 4 #[vk, vp, vo] w fun e w' => e = .returned (.bool true) ∧ Below w.heap.size w w' := by
  obtain ⟨ao, co, rfl, hlco, hcmo, hob, hoc⟩ := id ho
  obtain ⟨lo, hlo⟩ : ∃ l, l = os.length := ⟨_, rfl⟩
  rw [← hlo] at hlco hob hoc ⊢
  have R_o := Lib.hid ho
  have HOB := Lib.hid hob
  have HLO := Lib.hid hlo
  have hcmo2 : co ≤ 9223372036854775807 := hcmo
  clear ho hob hoc hlo
  obtain ⟨ak, ck, rfl, hlck, hcmk⟩ := hk.slice
  have R_k := Lib.hid hk
  clear hk
  obtain ⟨ap, cp, rfl, hlcp, hcmp, hpe⟩ := id hp
  have R_p := Lib.hid hp
  clear hp hpe
  obtain ⟨L, hL⟩ : ∃ L, L = ps.length := ⟨_, rfl⟩
  rw [← hL] at hlcp ⊢
  rw [← hL] at R_p
  have hcm2 : cp ≤ 9223372036854775807 := hcmp
  obtain ⟨n, hn⟩ : ∃ n, n = min ps.length (16 : Int).toNat := ⟨_, rfl⟩
  have hnL : n ≤ L := by omega
  have hn8 : n ≤ 16 := by rw [hn]; exact Nat.min_le_right _ _
  obtain ⟨K, hK⟩ : ∃ K, K = fill k 32 := ⟨_, rfl⟩
  have hKl : K.length = 32 := by rw [hK]; exact fill_length _ _
  have hsent := fun w h1 h2 => sent_any (.slice ak k.length ck) k (.slice ap L cp) ps 16 K n w h1 h2 (by decide) (by decide) hK hn
  have HSENT := Lib.hid hsent
  have hfK := fun v w (h : Rd w v k) => filled_any v k 32 w h (by decide)
  rw [← hK] at hfK
  have HFK := Lib.hid hfK
  have HLK := Lib.hid hKl
  have HL := Lib.hid hL
  have HB0 := Lib.hid (Below.refl w.heap.size w)
  clear hK hKl hfK hL hn hsent
  go_enter Try.func4, Try.ntmps4
  go_wp2_with fail
  refine (HSENT.out _ R_k.out R_p.out).mono ?_
  rintro e w1 ⟨v5, rfl, hrs, hb1⟩
  obtain ⟨a5, c5, hv5, hlc5, hcm5, -⟩ := id hrs
  rw [recsTo_length] at hv5 hlc5
  subst hv5
  have hcm52 : c5 ≤ 9223372036854775807 := hcm5
  have RS1 := Lib.hid hrs
  have R_k1 := Lib.hid (R_k.out.stay hb1)
  have HB1 := Lib.hid hb1
  clear hrs hb1 hcm5
  go_wp2_with fail
  refine (HFK.out _ _ R_k1.out).mono ?_
  rintro e w2 ⟨vkk, rfl, hokk, hb2⟩
  obtain ⟨kg0, kc0, hvk, _, _, hkc32, _⟩ := hokk.shape (by intro h; have := HLK.out; rw [h] at this; cases this)
  rw [HLK.out] at hvk
  subst hvk
  have R_kk := Lib.hid hokk.rd
  have RS2 := Lib.hid (RS1.out.stay hb2)
  have HB2 := Lib.hid (HB1.out.trans (hb2.mono HB1.out.size))
  clear hokk hb2 hkc32 RS1 R_k1
  go_wp2_with fail
  refine (lineNew_lit _ _ K _ R_kk.out HLK.out).mono ?_
  rintro e w3 ⟨kg1, kc1, rfl, hok1, hb3⟩
  have RS3 := Lib.hid (RS2.out.stay hb3)
  have HB3 := Lib.hid (HB2.out.trans (hb3.mono HB2.out.size))
  have R_p3 := Lib.hid (R_p.out.stay (HB3.out))
  have KG1 := Lib.hid ((hok1.lt kg1 rfl).2)
  have R_o3 := Lib.hid (R_o.out.stay (HB3.out))
  have INV0 := Lib.hid (ChInv.start (s := 0) (t := 0) (f := fun _ => false) hok1.rd (hok1.lt kg1 rfl).2)
  clear hb3 hok1 RS2 R_kk
  go_upto_region 3 with fail
  generalize hW : w3.alloc _ = w4 at INV0 ⊢
  obtain ⟨bc, hbc⟩ : ∃ b, b = w3.heap.size := ⟨_, rfl⟩
  rw [← hbc] at INV0 ⊢
  clear hW hbc
  have INV0b := Lib.hid (INV0.out.stay ((Below.refl _ _).alloc (Nat.le_refl _) (tkO fun _ => false)))
  have hbcl := lt_of_heap INV0.out.chan
  obtain ⟨bt, hbt⟩ : ∃ b, b = w4.heap.size := ⟨_, rfl⟩
  have XT0 : (w4.alloc (tkO fun _ => false)).heap[w4.heap.size]? = some (tkO fun _ => false) := heapNew w4 _
  have hkg1 : kg1 < w3.heap.size := KG1.out
  have hbt1 : w3.heap.size ≤ bt := by have := INV0.out.below.size; omega
  rw [← hbt] at XT0 hbcl
  have HNB := Lib.hid (show bc ≠ bt by omega)
  have HB3s := HB3.out.size
  have XT0H := Lib.hid XT0
  have KB0 := Lib.hid (show kg1 ≠ bt by omega)
  clear XT0 INV0 hkg1
  go_upto_region 4 with fail
  rw [← hbt]
  clear hbt
  generalize hW : w4.alloc _ = w5
  have hWW : w4.alloc (tkO fun _ => false) = w5 := hW
  rw [hWW] at INV0b XT0H
  clear hW hWW
  go_wp2_with fail
  go_loopw [12] (fun i wr => ∃ j : Nat, j ≤ 40 ∧ j ≤ lo ∧ i = .int .i64 j ∧ Hid (∃ (t : Nat) (f T : Nat → Bool) (kg kc : Nat), OnceInv w3 wr bc bt n K t f T kg kc)) (fun i _ => 40 - (intOf i).toNat)
  case atStart => exact ⟨0, by omega, by omega, rfl, Lib.hid ⟨0, _, _, kg1, kc1, ⟨by omega, INV0b, Lib.hid Rep.none, Lib.hid (fun m h => by cases h), XT0H, KB0⟩⟩⟩
  case round =>
    clear INV0b XT0H KB0
    obtain ⟨j, hj40, hjl, rfl, HALL⟩ := hrel
    obtain ⟨t, f, T, kg, kc, ⟨htn, H, HR, HTN, XT, HKB⟩⟩ := HALL.out
    clear HALL
    have X := Lib.hid (show wr.heap[bc]? = some (.cells #[.slice (some ⟨kg, 0, none⟩) 32 kc, .int .i64 (0 : Nat), .int .i64 (t : Nat), .bool (f 0), .bool (f 1), .bool (f 2), .bool (f 3), .bool (f 4), .bool (f 5), .bool (f 6), .bool (f 7)] 28 (0, 0)) from H.out.chan)
    have RK := Lib.hid H.out.key
    have hlb := lt_of_heap H.out.chan
    have RS := Lib.hid (RS3.out.stay H.out.below)
    have RP := Lib.hid (R_p3.out.stay H.out.below)
    have RO := Lib.hid (R_o3.out.stay H.out.below)
    by_cases hgo : j < lo ∧ j < 40 ∧ 0 < n
    · obtain ⟨hl1, hl2, hl3⟩ := hgo
      have hd1 : decide ((j : Int) < lo) = true := by rw [decide_eq_true_eq]; omega
      have hd1n : decide (j < lo) = true := by rw [decide_eq_true_eq]; omega
      have hd4 : decide ((j : Int) < 40) = true := by rw [decide_eq_true_eq]; omega
      have hd5 : decide (0 < (n : Int)) = true := by rw [decide_eq_true_eq]; omega
      have hd5n : decide (0 < n) = true := by rw [decide_eq_true_eq]; omega
      obtain ⟨zv, hzv⟩ : ∃ z, z = os.getD j 0 := ⟨_, rfl⟩
      have hzb := HOB.out j hl1
      rw [← hzv] at hzb
      obtain ⟨hz1, hz2⟩ := hzb
      obtain ⟨a', c', ea, _, _, _, hoc⟩ := id RO.out
      obtain ⟨ob, oo, ea2, hoc2⟩ := hoc (by intro h; have := HLO.out; rw [h] at this; simp at this; omega)
      rw [← HLO.out] at ea
      injection ea with ea1 ea3 ea4
      subst ea1
      subst ea4
      subst ea2
      have co1 := hoc2 j (by rw [← HLO.out]; exact hl1)
      rw [← hzv] at co1
      have p0 := pick_nonneg zv n (by omega)
      have p1 := pick_lt zv n (by omega)
      obtain ⟨q, hq⟩ : ∃ q : Nat, pick zv n = (q : Int) := ⟨(pick zv n).toNat, by omega⟩
      have hqn : q < n := by omega
      have hpm2 := fun w => picked_any zv n w hz1 hz2 (by omega)
      rw [hq] at hpm2
      have HPM := Lib.hid hpm2
      have hd2 : decide ((q : Int) < n) = true := by rw [decide_eq_true_eq]; omega
      have hd2n : decide (q < n) = true := by rw [decide_eq_true_eq]; omega
      have hd3 : decide ((q : Int) < L) = true := by rw [decide_eq_true_eq]; omega
      have hd3n : decide (q < L) = true := by rw [decide_eq_true_eq]; omega
      have hq16 : q < 16 := by omega
      obtain ⟨eb, eoff, ex, rfl, hec, her⟩ := RS.out.at (i := q) (by rw [recsTo_length]; exact hqn)
      rw [recsTo_get _ _ _ _ hqn] at her
      have hebl := World.block_lt_of_cell? wr _ hec
      obtain ⟨pl, hpl⟩ : ∃ x, x = ps.getD q [] := ⟨_, rfl⟩
      rw [← hpl] at her
      obtain ⟨D, hD⟩ : ∃ D, D = pl.take 40 := ⟨_, rfl⟩
      rw [← hD] at her
      have hDl : D.length ≤ 40 := by rw [hD]; simp; omega
      have hsd := fun v w (h : Rd w v pl) => some_any v pl 40 w h (by decide)
      rw [← hD] at hsd
      have HSD := Lib.hid hsd
      obtain ⟨R, hR⟩ : ∃ R, recB K q D = R := ⟨_, rfl⟩
      rw [hR] at her
      obtain ⟨ea, ecap, rfl, _, _⟩ := id her.slice
      have RE := Lib.hid her
      have HPL := Lib.hid hpl
      obtain ⟨met, hmet⟩ : ∃ b, metB t q f = b := ⟨_, rfl⟩
      have hmr := HR.out.met q
      rw [hmet] at hmr
      have MEM := hmr
      have S0 := (⟨cells_of X.out, hec⟩ : Cells wr bc _ _ _ _ _ _ _ _ _ _ _ ∧ _)
      cases met with
      | false =>
        have hTq : T q = false := by cases h : T q; rfl; rw [h] at hmr; simp at hmr
        obtain ⟨u, hu⟩ : ∃ u, max t (q + 1) = u := ⟨_, rfl⟩
        obtain ⟨g, hg⟩ : ∃ g, withF t q f = g := ⟨_, rfl⟩
        have hun : u ≤ n := by omega
        have hq8 : ¬ q + 8 < t := fun h => by rw [decide_eq_true h] at hmr; simp at hmr
        have HREP := Lib.hid (show Rep u g (fun m => T m || decide (m = q)) by
          rw [← hu, ← hg]; exact HR.out.with' q hq8)
        have HTN2 := Lib.hid (show ∀ m, (T m || decide (m = q)) = true → m < n from fun m h => by
          rw [Bool.or_eq_true, decide_eq_true_eq] at h
          rcases h with h | h
          · exact HTN.out m h
          · omega)
        have htake := fun (c : Nat) (a : Addr) (rv : Value) (w : World) h1 h2 => takeLit a c rv K R D 0 t q u f g w (Lib.hid ⟨HR.out.ok, hmet, hR.symm, by omega, by omega, by decide, by omega, HLK.out⟩) (Lib.hid hu) (Lib.hid hg) h1 h2
        have HTAKE := Lib.hid htake
        have HTQ := Lib.hid hTq
        clear her hD hDl hsd hR hmet hu hg htake hpl hq hpm2 hmr MEM p0 p1 hzv hoc hoc2 hTq hq8
        go_upto_region 8 with (refine (HPM.out _).mono ?_; rintro e _ ⟨rfl, rfl⟩)
        go_cut [14, 15, 16] from 52 to 60 (fun vp vr ve wc => ve = .int .i64 0 ∧ ResRel wr K (0 : Nat) (u : Nat) g D vp vr wc)
        case first =>
          go_region_held3 (fun w' => (w'.cell? ⟨bc, 0, none⟩ = some (.slice (some ⟨kg, 0, none⟩) 32 kc) ∧ w'.cell? ⟨bc, 1, none⟩ = some (.int .i64 (0 : Nat)) ∧ w'.cell? ⟨bc, 2, none⟩ = some (.int .i64 (t : Nat)) ∧ w'.cell? ⟨bc, 3, none⟩ = some (.bool (f 0)) ∧ w'.cell? ⟨bc, 4, none⟩ = some (.bool (f 1)) ∧ w'.cell? ⟨bc, 5, none⟩ = some (.bool (f 2)) ∧ w'.cell? ⟨bc, 6, none⟩ = some (.bool (f 3)) ∧ w'.cell? ⟨bc, 7, none⟩ = some (.bool (f 4)) ∧ w'.cell? ⟨bc, 8, none⟩ = some (.bool (f 5)) ∧ w'.cell? ⟨bc, 9, none⟩ = some (.bool (f 6)) ∧ w'.cell? ⟨bc, 10, none⟩ = some (.bool (f 7))) ∧ w'.cell? ⟨eb, eoff + q, none⟩ = some (.slice ea R.length ecap)) (first | with_reducible exact S0 | with_reducible exact SE.drew S0 | with_reducible exact SE.alloc S0 _ | with_reducible exact SE.drew (SE.alloc S0 _) | with_reducible exact S2 | with_reducible exact SE.alloc S2 _ | with_reducible exact SE.set HNE HNF S2) (first
            | (go_at_call 10; refine (HTAKE.out kc _ _ _ (RK.out.drewN 1) (RE.out.drewN 1)).mono ?_; rintro e v2 ⟨kg2, kc2, rv, rfl, hok, hor, hb2⟩; have OK2 := Lib.hid hok; have OR2 := Lib.hid hor; have B2 := Lib.hid (show Below wr.heap.size wr v2 from (below_drewN (Below.refl _ _) 1).trans hb2); have S2 := SE.next B2.out X.out hlb hebl hec; clear hok hor hb2)
            | (go_at_call 10; refine (HTAKE.out kc _ _ _ ((RK.out.alloc _).drewN 1) ((RE.out.alloc _).drewN 1)).mono ?_; rintro e v2 ⟨kg2, kc2, rv, rfl, hok, hor, hb2⟩; have OK2 := Lib.hid hok; have OR2 := Lib.hid hor; have B2 := Lib.hid (show Below wr.heap.size wr v2 from (below_drewN ((Below.refl _ _).alloc (Nat.le_refl _) _) 1).trans (hb2.mono (by simp))); have ZZ := (hb2.block wr.heap.size (by simp)).trans (heapNew wr (.cells #[.slice none 0 0, .int .i64 0, .int .i64 0, .bool false, .bool false, .bool false, .bool false, .bool false, .bool false, .bool false, .bool false] 28)); have HNE : wr.heap.size ≠ bc := (by omega); have HNF : wr.heap.size ≠ eb := (by omega); have S2 := SE.next B2.out X.out hlb hebl hec; have z20 := cellAt ZZ 0 rfl; have z21 := cellAt ZZ 1 rfl; have z22 := cellAt ZZ 2 rfl; have z23 := cellAt ZZ 3 rfl; have z24 := cellAt ZZ 4 rfl; have z25 := cellAt ZZ 5 rfl; have z26 := cellAt ZZ 6 rfl; have z27 := cellAt ZZ 7 rfl; have z28 := cellAt ZZ 8 rfl; have z29 := cellAt ZZ 9 rfl; have z30 := cellAt ZZ 10 rfl; have zfr := freeAt ZZ; have ZH := Lib.hid ZZ; clear hok hor hb2 ZZ))
          all_goals
            clear S0 S2
            go_wp2_with fail
            go_meet
            case rel =>
              refine ⟨rfl, ?_⟩
              first | (have hz1 := ZH.out; exact res_first B2.out OK2.out OR2.out (Nat.le_refl _) (by simp) hz1) | exact res_last B2.out OK2.out OR2.out (Nat.le_refl _)
        case rest =>
          obtain ⟨hve, b, kg2, kc2, hvp, hxb, hwb, hrk, hkw, hkb, hrr, hrb, hbw⟩ := hcut
          subst hve
          subst hvp
          obtain ⟨ra, rc, hvr, _, _⟩ := id hrr.slice
          subst hvr
          obtain ⟨fb, foff, fx, hfa, hfc, hfr⟩ := (RP.out.stay hbw).at (i := q) (by rw [← HL.out]; omega)
          cases hfa
          rw [← HPL.out] at hfr
          obtain ⟨fa, fcap, hfx, _, _⟩ := id hfr.slice
          subst hfx
          have HFR := Lib.hid hfr
          have HXB := Lib.hid hxb
          have HRK := Lib.hid hrk
          have HBW := Lib.hid hbw
          have HRR := Lib.hid hrr
          have XTb := Lib.hid ((hbw.block bt (lt_of_heap XT.out)).trans XT.out)
          have ct := tk_cell XTb.out q hq16
          rw [HTQ.out] at ct
          clear hxb hrk hrr hrb hbw S0 hfr
          go_wp2_with fail
          refine (HSD.out _ _ HFR.out).mono ?_
          rintro e w6 ⟨vs, rfl, hos, hb6⟩
          have RS6 := Lib.hid hos.rd
          have RR6 := Lib.hid (HRR.out.stay hb6)
          have XB6 := Lib.hid ((hb6.block b (lt_of_heap HXB.out)).trans HXB.out)
          have HRK6 := Lib.hid (HRK.out.stay hb6)
          have HB6 := Lib.hid (HBW.out.trans (hb6.mono HBW.out.size))
          have XT6 := Lib.hid ((hb6.block bt (lt_of_heap XTb.out)).trans XTb.out)
          have ft := tk_free XT6.out q
          have ct6 := tk_cell XT6.out q hq16
          clear hos hb6 ct
          go_wp2_with fail
          refine (same_true _ _ _ _ _ RR6.out RS6.out rfl).mono ?_
          rintro e _ ⟨rfl, rfl⟩
          go_upto_region 13 with fail
          have hbtl := lt_of_heap XT.out
          have hbne : b ≠ bt := by omega
          have xt7 := tk_set XT6.out q hq16
          have xb7 := (heapSet_ne (w := w6) q (.bool true) hbne).trans XB6.out
          have hin7 := (H.out.stay HB6.out).side HNB.out HKB.out hbt1 q (.bool true)
          have hkb7 : kg2 ≠ bt := by omega
          have hrk7 := HRK6.out.ofHeapB (w' := w6.setCell ⟨bt, q, none⟩ (.bool true)) (fun j hj hl => heapSet_ne q _ (by have e : kg2 = j := Option.some.inj hj; omega))
          generalize hW : w6.setCell ⟨bt, q, none⟩ (.bool true) = w7 at xt7 xb7 hin7 hrk7 ⊢
          have HIN7 := Lib.hid hin7
          have HXT7 := Lib.hid xt7
          have hrg := range_of (cs := [.slice (some ⟨kg2, 0, none⟩) 32 kc2, .int .i64 (0 : Nat), .int .i64 (u : Nat), .bool (g 0), .bool (g 1), .bool (g 2), .bool (g 3), .bool (g 4), .bool (g 5), .bool (g 6), .bool (g 7)]) xb7
          have HXC := Lib.hid hin7.chan
          have hkw7 : kg2 < w7.heap.size := by
            have h1 := HRK6.out.lt kg2 rfl (by intro h; have := HLK.out; rw [h] at this; cases this)
            rw [← hW]; simpa using h1
          have HNE7 := Lib.hid (show bc ≠ kg2 by omega)
          have HNT := Lib.hid (show bt ≠ bc from fun e => HNB.out e.symm)
          have HRK7 := Lib.hid hrk7
          have HKB7 := Lib.hid hkb7
          clear hW xt7 xb7 hin7 hrk7 hkb7 ft ct6 hbne
          go_wp2_with (first
            | (refine wpList_load_mid rfl 28 (.tmp 14) rfl b 0 rfl [.slice (some ⟨kg2, 0, none⟩) 32 kc2, .int .i64 (0 : Nat), .int .i64 (u : Nat), .bool (g 0), .bool (g 1), .bool (g 2), .bool (g 3), .bool (g 4), .bool (g 5), .bool (g 6), .bool (g 7)] _ hrg Try.underlying28 rfl chanSz ?_)
            | (refine wpList_store_mid rfl 28 (.tmp 9) (.tmp 78) rfl bc 0 #[.slice (some ⟨kg2, 0, none⟩) 32 kc2, .int .i64 (0 : Nat), .int .i64 (u : Nat), .bool (g 0), .bool (g 1), .bool (g 2), .bool (g 3), .bool (g 4), .bool (g 5), .bool (g 6), .bool (g 7)] rfl rfl (there_of HXC.out rfl) chanSz (chanOne' _ _ _ _ _ _ _ _ _ _ _ rfl) ?_; generalize hW : World.setCells _ _ _ _ = wz; have HW := Lib.hid hW; clear hW))
          go_roundw
          case rel =>
            refine ⟨j + 1, by omega, by omega, by go_num, Lib.hid ⟨u, g, _, kg2, kc2, ⟨hun, Lib.hid ?_, HREP, HTN2, Lib.hid ?_, HKB7⟩⟩⟩
            · have hin := HIN7.out
              have hc := hin.chan
              rw [← HW.out]
              exact ⟨storedRow hc rfl, HRK7.out.setsNe (fun k h => by have e : kg2 = k := Option.some.inj h; have := HNE7.out; omega), fun e => HNE7.out e.symm, hin.low, below_setCells hin.low _ _ _ hin.below⟩
            · rw [← HW.out]; exact (heap_setCells_ne HNT.out _ _ _).trans HXT7.out
          case measure => simp [intOf]; omega
      | true =>
        have hold := fun (c : Nat) (a : Addr) (rv : Value) (w : World) h1 h2 => oldLit a c rv K R D 0 t q f w (Lib.hid ⟨HR.out.ok, hmet, hR.symm, by omega, by omega, by decide, by omega, HLK.out⟩) h1 h2
        have HTAKE := Lib.hid hold
        have HMR := Lib.hid hmr
        clear her hD hDl hsd hR hmet hold hpl hq hpm2 hmr MEM p0 p1 hzv hoc hoc2
        go_upto_region 8 with (refine (HPM.out _).mono ?_; rintro e _ ⟨rfl, rfl⟩)
        go_cut [14, 15, 16] from 52 to 60 (fun vp vr ve wc => ve = .int .i64 7 ∧ Below wr.heap.size wr wc)
        case first =>
          go_region_held3 (fun w' => (w'.cell? ⟨bc, 0, none⟩ = some (.slice (some ⟨kg, 0, none⟩) 32 kc) ∧ w'.cell? ⟨bc, 1, none⟩ = some (.int .i64 (0 : Nat)) ∧ w'.cell? ⟨bc, 2, none⟩ = some (.int .i64 (t : Nat)) ∧ w'.cell? ⟨bc, 3, none⟩ = some (.bool (f 0)) ∧ w'.cell? ⟨bc, 4, none⟩ = some (.bool (f 1)) ∧ w'.cell? ⟨bc, 5, none⟩ = some (.bool (f 2)) ∧ w'.cell? ⟨bc, 6, none⟩ = some (.bool (f 3)) ∧ w'.cell? ⟨bc, 7, none⟩ = some (.bool (f 4)) ∧ w'.cell? ⟨bc, 8, none⟩ = some (.bool (f 5)) ∧ w'.cell? ⟨bc, 9, none⟩ = some (.bool (f 6)) ∧ w'.cell? ⟨bc, 10, none⟩ = some (.bool (f 7))) ∧ w'.cell? ⟨eb, eoff + q, none⟩ = some (.slice ea R.length ecap)) (first | with_reducible exact S0 | with_reducible exact SE.drew S0 | with_reducible exact SE.alloc S0 _ | with_reducible exact SE.drew (SE.alloc S0 _) | with_reducible exact S2 | with_reducible exact SE.alloc S2 _ | with_reducible exact SE.set HNE HNF S2) (first
            | (go_at_call 10; refine (HTAKE.out kc _ _ _ (RK.out.drewN 1) (RE.out.drewN 1)).mono ?_; rintro e v2 ⟨rfl, hb2⟩; have B2 := Lib.hid (show Below wr.heap.size wr v2 from (below_drewN (Below.refl _ _) 1).trans hb2); have S2 := SE.next B2.out X.out hlb hebl hec; clear hb2)
            | (go_at_call 10; refine (HTAKE.out kc _ _ _ ((RK.out.alloc _).drewN 1) ((RE.out.alloc _).drewN 1)).mono ?_; rintro e v2 ⟨rfl, hb2⟩; have B2 := Lib.hid (show Below wr.heap.size wr v2 from (below_drewN ((Below.refl _ _).alloc (Nat.le_refl _) _) 1).trans (hb2.mono (by simp))); have ZZ := (hb2.block wr.heap.size (by simp)).trans (heapNew wr (.cells #[.slice none 0 0, .int .i64 0, .int .i64 0, .bool false, .bool false, .bool false, .bool false, .bool false, .bool false, .bool false, .bool false] 28)); have HNE : wr.heap.size ≠ bc := (by omega); have HNF : wr.heap.size ≠ eb := (by omega); have S2 := SE.next B2.out X.out hlb hebl hec; have z20 := cellAt ZZ 0 rfl; have z21 := cellAt ZZ 1 rfl; have z22 := cellAt ZZ 2 rfl; have z23 := cellAt ZZ 3 rfl; have z24 := cellAt ZZ 4 rfl; have z25 := cellAt ZZ 5 rfl; have z26 := cellAt ZZ 6 rfl; have z27 := cellAt ZZ 7 rfl; have z28 := cellAt ZZ 8 rfl; have z29 := cellAt ZZ 9 rfl; have z30 := cellAt ZZ 10 rfl; have zfr := freeAt ZZ; have ZH := Lib.hid ZZ; clear hb2 ZZ))
          all_goals
            clear S0 S2
            go_wp2_with fail
            go_meet
            case rel =>
              refine ⟨rfl, ?_⟩
              first | with_reducible exact B2.out.alloc B2.out.size _ | with_reducible exact B2.out | with_reducible exact below_set11 (Nat.le_refl _) B2.out | trace_state
        case rest =>
          obtain ⟨hve, hbw⟩ := hcut
          subst hve
          have HBW := Lib.hid hbw
          have XT6 := Lib.hid ((hbw.block bt (lt_of_heap XT.out)).trans XT.out)
          have ct := tk_cell XT6.out q hq16
          have HC6 := Lib.hid ((hbw.block bc hlb).trans X.out)
          have c2 := cellAt HC6.out 2 rfl
          have HIN := Lib.hid (H.out.stay hbw)
          clear hbw S0
          cases hTq : T q with
          | true =>
            rw [hTq] at ct
            have HTQ := Lib.hid hTq
            clear hTq
            go_wp2_with fail
            go_roundw
            case rel => exact ⟨j + 1, by omega, by omega, by go_num, Lib.hid ⟨t, f, T, kg, kc, ⟨htn, HIN, HR, HTN, XT6, HKB⟩⟩⟩
            case measure => simp [intOf]; omega
          | false =>
            rw [hTq] at ct
            have hq8 : (q : Int) + 8 < t := by
              have h := HMR.out
              rw [hTq, Bool.or_false] at h
              have := of_decide_eq_true h.symm
              omega
            have hdq : decide ((t : Int) - 8 ≤ q) = false := by rw [decide_eq_false_iff_not]; omega
            clear hTq
            go_wp2_with fail
            go_roundw
            case rel => exact ⟨j + 1, by omega, by omega, by go_num, Lib.hid ⟨t, f, T, kg, kc, ⟨htn, HIN, HR, HTN, XT6, HKB⟩⟩⟩
            case measure => simp [intOf]; omega
    · have FIN := Lib.hid (HB3.out.trans (H.out.below.mono HB3.out.size))
      have hrg := range_of (cs := [.slice (some ⟨kg, 0, none⟩) 32 kc, .int .i64 (0 : Nat), .int .i64 (t : Nat), .bool (f 0), .bool (f 1), .bool (f 2), .bool (f 3), .bool (f 4), .bool (f 5), .bool (f 6), .bool (f 7)]) X.out
      have HCK := Lib.hid (fun w => lineCheck_ok (some ⟨kg, 0, none⟩) kc 0 t f w (by decide) (by omega) HR.out.ok)
      have hcase : (decide ((j : Int) < lo) = false ∧ decide (j < lo) = false) ∨ (decide ((j : Int) < lo) = true ∧ decide (j < lo) = true ∧ decide ((j : Int) < 40) = false) ∨ (decide ((j : Int) < lo) = true ∧ decide (j < lo) = true ∧ decide ((j : Int) < 40) = true ∧ decide (0 < (n : Int)) = false ∧ decide (0 < n) = false) := by
        simp only [decide_eq_true_eq, decide_eq_false_iff_not]
        omega
      clear hgo
      rcases hcase with ⟨d1, d2⟩ | ⟨d1, d2, d3⟩ | ⟨d1, d2, d3, d4, d5⟩
      all_goals
        go_wp2_with (first
          | (refine wpList_load_gC rfl 28 (.tmp 9) rfl bc 0 rfl [.slice (some ⟨kg, 0, none⟩) 32 kc, .int .i64 (0 : Nat), .int .i64 (t : Nat), .bool (f 0), .bool (f 1), .bool (f 2), .bool (f 3), .bool (f 4), .bool (f 5), .bool (f 6), .bool (f 7)] _ ?_ Try.underlying28 rfl chanSz ?_; (with_reducible exact hrg))
          | (go_at_call 13; refine (HCK.out _).mono ?_; rintro e w6 ⟨rfl, hb6⟩; have B6 := Lib.hid hb6; clear hb6))
        go_ret
        exact ⟨rfl, FIN.out.trans (B6.out.mono FIN.out.size)⟩
end Go.Proofs.Ytoekopdogfnkhaa
