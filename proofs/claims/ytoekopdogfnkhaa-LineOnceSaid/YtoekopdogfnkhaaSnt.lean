/-
  conclavekeep.sent: records of some plain bytes.
-/
import Derived.Test.YtoekopdogfnkhaaRwB
set_option linter.unusedVariables false
set_option linter.unusedSimpArgs false
namespace Go.Proofs.Ytoekopdogfnkhaa
open Go.RowKit Go.Con
section
variable {w : World} {bc eb eo : Nat} {x0 x1 x2 x3 x4 x5 x6 x7 x8 x9 x10 y : Value}
theorem SE.drew (h : Cells w bc x0 x1 x2 x3 x4 x5 x6 x7 x8 x9 x10 ∧ w.cell? ⟨eb, eo, none⟩ = some y) : Cells w.drew bc x0 x1 x2 x3 x4 x5 x6 x7 x8 x9 x10 ∧ w.drew.cell? ⟨eb, eo, none⟩ = some y := h
theorem SE.alloc (h : Cells w bc x0 x1 x2 x3 x4 x5 x6 x7 x8 x9 x10 ∧ w.cell? ⟨eb, eo, none⟩ = some y) (o : Obj) : Cells (w.alloc o) bc x0 x1 x2 x3 x4 x5 x6 x7 x8 x9 x10 ∧ (w.alloc o).cell? ⟨eb, eo, none⟩ = some y :=
  ⟨h.1.alloc o, (((Below.refl w.heap.size w).alloc (Nat.le_refl _) o).cell (p := ⟨eb, eo, none⟩) (World.block_lt_of_cell? w _ h.2)).trans h.2⟩
theorem SE.set {c : Nat} {v0 v1 v2 v3 v4 v5 v6 v7 v8 v9 v10 : Value} (hne : c ≠ bc) (hnf : c ≠ eb) (h : Cells w bc x0 x1 x2 x3 x4 x5 x6 x7 x8 x9 x10 ∧ w.cell? ⟨eb, eo, none⟩ = some y) :
    Cells (((((((((((w.setCell ⟨c, 0, none⟩ v0).setCell ⟨c, 1, none⟩ v1).setCell ⟨c, 2, none⟩ v2).setCell ⟨c, 3, none⟩ v3).setCell ⟨c, 4, none⟩ v4).setCell ⟨c, 5, none⟩ v5).setCell ⟨c, 6, none⟩ v6).setCell ⟨c, 7, none⟩ v7).setCell ⟨c, 8, none⟩ v8).setCell ⟨c, 9, none⟩ v9).setCell ⟨c, 10, none⟩ v10) bc x0 x1 x2 x3 x4 x5 x6 x7 x8 x9 x10 ∧ (((((((((((w.setCell ⟨c, 0, none⟩ v0).setCell ⟨c, 1, none⟩ v1).setCell ⟨c, 2, none⟩ v2).setCell ⟨c, 3, none⟩ v3).setCell ⟨c, 4, none⟩ v4).setCell ⟨c, 5, none⟩ v5).setCell ⟨c, 6, none⟩ v6).setCell ⟨c, 7, none⟩ v7).setCell ⟨c, 8, none⟩ v8).setCell ⟨c, 9, none⟩ v9).setCell ⟨c, 10, none⟩ v10).cell? ⟨eb, eo, none⟩ = some y := by
  refine ⟨h.1.set hne, ?_⟩
  simp only [cell_ne hnf]
  exact h.2
theorem SE.next {w w' : World} {t : TypeId} {f : Nat × Nat} (hb : Below w.heap.size w w') (h : w.heap[bc]? = some (.cells #[x0, x1, x2, x3, x4, x5, x6, x7, x8, x9, x10] t f)) (hl : bc < w.heap.size) (he : eb < w.heap.size) (hc : w.cell? ⟨eb, eo, none⟩ = some y) : Cells w' bc x0 x1 x2 x3 x4 x5 x6 x7 x8 x9 x10 ∧ w'.cell? ⟨eb, eo, none⟩ = some y :=
  ⟨cells_of ((hb.block bc hl).trans h), (World.cell?_of_block (w := w) (hb.block eb he)).trans hc⟩
end
theorem lineNew_lit (a : Addr) (c : Nat) (key : List UInt8) (w : World) (hk : Rd w (.slice (some a) 32 c) key) (hl : key.length = 32) :
    Calls Try.prog 8 #[.slice (some a) 32 c] w fun e w' => ∃ kg kcap, e = .returned (.tuple #[.agg #[.slice (some ⟨kg, 0, none⟩) 32 kcap, .int .i64 0, .int .i64 0, .bool false, .bool false, .bool false, .bool false, .bool false, .bool false, .bool false, .bool false], .int .i64 0]) ∧ Own w' w.heap.size (.slice (some ⟨kg, 0, none⟩) 32 kcap) key ∧ Below w.heap.size w w' := by
  refine (lineNew_any a c key w hk hl).mono ?_
  rintro e w' ⟨kv, rfl, hok, hb⟩
  obtain ⟨kg, kcap, hkv, _, _, _, _⟩ := hok.shape (by intro h; rw [h] at hl; cases hl)
  rw [hl] at hkv
  subst hkv
  exact ⟨kg, kcap, rfl, hok, hb⟩
set_option maxRecDepth 100000 in
set_option maxHeartbeats 4000000 in
theorem sent_any (vk : Value) (k : List UInt8) (vp : Value) (ps : List (List UInt8)) (m : Int) (K : List UInt8) (n : Nat) (w : World) (hk : Rd w vk k) (hp : RdRows w vp ps) (hm0 : 0 ≤ m) (hm : m ≤ 16) (hK : K = fill k 32) (hn : n = min ps.length m.toNat) :
    Calls Try.prog 7 #[vk, vp, .int .i64 m] w fun e w' => ∃ v, e = .returned (.tuple #[v, .bool true]) ∧ RdRows w' v (recsTo K ps n) ∧ Below w.heap.size w w' := by
  obtain ⟨ak, ck, rfl, hlck, hcmk⟩ := hk.slice
  have R_k := Lib.hid hk
  clear hk
  obtain ⟨ap, cp, rfl, hlcp, hcmp, hpe⟩ := id hp
  have R_p := Lib.hid hp
  clear hp hpe
  obtain ⟨L, hL⟩ : ∃ L, L = ps.length := ⟨_, rfl⟩
  rw [← hL] at hlcp ⊢
  have hcm2 : cp ≤ 9223372036854775807 := hcmp
  have HL := Lib.hid hL
  have HN := Lib.hid (show (n = L ∧ L ≤ m.toNat) ∨ (n = m.toNat ∧ m.toNat ≤ L) by omega)
  have hnm : (n : Int) ≤ m := by omega
  have hnL : n ≤ L := by omega
  have HB0 := Lib.hid (Below.refl w.heap.size w)
  have s0 : w.heap.size ≤ w.heap.size := Nat.le_refl _
  have hKl : K.length = 32 := by rw [hK]; exact fill_length _ _
  have hfK := fun v w (h : Rd w v k) => filled_any v k 32 w h (by decide)
  rw [← hK] at hfK
  have HFK := Lib.hid hfK
  have HLK := Lib.hid hKl
  have KNE := Lib.hid (show K ≠ [] by intro h; rw [h] at hKl; cases hKl)
  clear hK hKl hfK hL hn
  go_enter Try.func7, Try.ntmps7
  go_wp2_with fail
  refine (HFK.out _ _ R_k.out).mono ?_
  rintro e w1 ⟨vkk, rfl, hokk, hb1⟩
  have HB1 := Lib.hid hb1
  have s1 := hb1.size
  obtain ⟨kg0, kc0, hvk, _, _, hkc32, _⟩ := hokk.shape (by intro h; have := HLK.out; rw [h] at this; cases this)
  rw [HLK.out] at hvk
  subst hvk
  have R_kk := Lib.hid hokk.rd
  clear hb1 hokk hkc32 R_k
  go_wp2_with fail
  refine (lineNew_lit _ _ K _ R_kk.out HLK.out).mono ?_
  rintro e w2 ⟨kg1, kc1, rfl, hok1, hb2⟩
  have HB2 := Lib.hid (HB1.out.trans (hb2.mono s1))
  have s2 := HB2.out.size
  have R_k1 := Lib.hid hok1.rd
  have KG1 := Lib.hid (hok1.lt kg1 rfl).2
  clear hb2 hok1
  go_wp2_with fail
  obtain ⟨bc, hbc⟩ : ∃ b, b = w2.heap.size := ⟨_, rfl⟩
  have hx0 := heapNew w2 (.cells #[.slice (some ⟨kg1, 0, none⟩) 32 kc1, .int .i64 0, .int .i64 0, .bool false, .bool false, .bool false, .bool false, .bool false, .bool false, .bool false, .bool false] 28)
  have hb0 : Below w.heap.size w (w2.alloc (.cells #[.slice (some ⟨kg1, 0, none⟩) 32 kc1, .int .i64 0, .int .i64 0, .bool false, .bool false, .bool false, .bool false, .bool false, .bool false, .bool false, .bool false] 28)) := HB2.out.alloc HB2.out.size _
  have hr0 := R_k1.out.alloc (.cells #[.slice (some ⟨kg1, 0, none⟩) 32 kc1, .int .i64 0, .int .i64 0, .bool false, .bool false, .bool false, .bool false, .bool false, .bool false, .bool false, .bool false] 28)
  generalize hW : w2.alloc _ = w3 at hx0 hb0 hr0 ⊢
  rw [← hbc] at hx0 ⊢
  have hwbc : w.heap.size ≤ bc := by rw [hbc]; exact s2
  have hk0 : kg1 ≠ bc := by have := KG1.out; omega
  have INV0 := Lib.hid (show SentInv w w3 bc K ps 0 (.slice none 0 0) [] kg1 kc1 from ⟨World.ownsRow_nil _ _ _ _, (fun p x h => by simp at h), hx0, hr0, ⟨hk0, fun h => by cases h⟩, (fun h => by cases h), hwbc, hb0⟩)
  clear hx0 hb0 hr0 hbc hW R_k1 R_kk KG1 HB0 HB1 HB2
  go_loopw [10, 11] (fun v i wr => ∃ (j : Nat) (xs : List Value) (kg kc : Nat), j ≤ n ∧ i = .int .i64 j ∧ Hid (SentInv w wr bc K ps j v xs kg kc)) (fun _ i _ => n - (intOf i).toNat)
  case atStart => exact ⟨0, [], kg1, kc1, by omega, rfl, INV0⟩
  case round =>
    obtain ⟨j, xs, kg, kc, hjn, rfl, H⟩ := hrel
    have X := Lib.hid (show wr.heap[bc]? = some (.cells #[.slice (some ⟨kg, 0, none⟩) 32 kc, .int .i64 (j : Nat), .int .i64 0, .bool false, .bool false, .bool false, .bool false, .bool false, .bool false, .bool false, .bool false] 28 (0, 0)) from H.out.chan)
    have RK := Lib.hid H.out.key
    have hlb := lt_of_heap H.out.chan
    have RP := Lib.hid (R_p.out.stay H.out.below)
    by_cases hlt : j < n
    · have hd1 : decide ((j : Int) < L) = true := by rw [decide_eq_true_eq]; omega
      have hd1n : decide (j < L) = true := by rw [decide_eq_true_eq]; omega
      have hd2 : decide ((j : Int) < m) = true := by rw [decide_eq_true_eq]; omega
      have hjL : j < L := by omega
      have hj16 : j < 16 := by omega
      obtain ⟨eb, eoff, ex, rfl, hec, her⟩ := RP.out.at (i := j) (by rw [← HL.out]; exact hjL)
      have hebl := World.block_lt_of_cell? wr _ hec
      obtain ⟨pl, hpl⟩ : ∃ x, x = ps.getD j [] := ⟨_, rfl⟩
      rw [← hpl] at her
      obtain ⟨ea, ecap, rfl, _, _⟩ := id her.slice
      have RE := Lib.hid her
      obtain ⟨D, hD⟩ : ∃ D, D = pl.take 40 := ⟨_, rfl⟩
      have hDl : D.length ≤ 40 := by rw [hD]; simp; omega
      have hDe : (D.length : Int) = min (pl.length : Int) 40 := by rw [hD]; simp; omega
      have DLE := Lib.hid hDe
      have DL := Lib.hid hDl
      have hsd := fun v w (h : Rd w v pl) => some_any v pl 40 w h (by decide)
      rw [← hD] at hsd
      have HSD := Lib.hid hsd
      obtain ⟨R, hR⟩ : ∃ R, recB K j D = R := ⟨_, rfl⟩
      have hsend := fun (c : Nat) (a : Addr) (pv : Value) (w : World) h1 h2 => Send_lit a c pv K D R j 0 (fun _ => false) w h1 h2 HLK.out (by have := DL.out; omega) (by omega) (by decide) Rep.none.ok hR
      have HSEND := Lib.hid hsend
      have hRl : (R.length : Int) = (D.length : Int) + 20 := by rw [← hR, recB_length]; omega
      have HR := Lib.hid (show recB K j ((ps.getD j []).take 40) = R by rw [← hpl, ← hD]; exact hR)
      have HRL := Lib.hid hRl
      clear hpl her hD hDl hDe hsd hR hsend hRl
      have S0 : Cells wr bc _ _ _ _ _ _ _ _ _ _ _ ∧ _ := ⟨cells_of X.out, hec⟩
      go_wp2_with fail
      go_cut [12, 13, 14] from 33 to 68 (fun vp vr ve wc => ve = .int .i64 0 ∧ ResRel wr K ((j : Int) + 1) 0 (fun _ => false) R vp vr wc)
      case first =>
        go_region_held3 (fun w' => (w'.cell? ⟨bc, 0, none⟩ = some (.slice (some ⟨kg, 0, none⟩) 32 kc) ∧ w'.cell? ⟨bc, 1, none⟩ = some (.int .i64 j) ∧ w'.cell? ⟨bc, 2, none⟩ = some (.int .i64 0) ∧ w'.cell? ⟨bc, 3, none⟩ = some (.bool false) ∧ w'.cell? ⟨bc, 4, none⟩ = some (.bool false) ∧ w'.cell? ⟨bc, 5, none⟩ = some (.bool false) ∧ w'.cell? ⟨bc, 6, none⟩ = some (.bool false) ∧ w'.cell? ⟨bc, 7, none⟩ = some (.bool false) ∧ w'.cell? ⟨bc, 8, none⟩ = some (.bool false) ∧ w'.cell? ⟨bc, 9, none⟩ = some (.bool false) ∧ w'.cell? ⟨bc, 10, none⟩ = some (.bool false)) ∧ w'.cell? ⟨eb, eoff + j, none⟩ = some (.slice ea pl.length ecap)) (first | with_reducible exact S0 | with_reducible exact SE.drew S0 | with_reducible exact SE.alloc S0 _ | with_reducible exact SE.drew (SE.alloc S0 _) | with_reducible exact S1 | with_reducible exact SE.alloc S1 _ | with_reducible exact S2 | with_reducible exact SE.alloc S2 _ | with_reducible exact SE.set HNE HNF S2) (first
          | (go_at_call 12; refine (HSD.out _ _ (RE.out.drewN 1)).mono ?_; rintro e v1 ⟨vp, rfl, hop, hb1⟩; have RP1 := Lib.hid hop.rd; have B1 := Lib.hid (show Below wr.heap.size wr v1 from (below_drewN (Below.refl _ _) 1).trans hb1); have S1 := SE.next B1.out X.out hlb hebl hec; clear hop hb1)
          | (go_at_call 12; refine (HSD.out _ _ ((RE.out.alloc _).drewN 1)).mono ?_; rintro e v1 ⟨vp, rfl, hop, hb1⟩; have RP1 := Lib.hid hop.rd; have B1 := Lib.hid (show Below wr.heap.size wr v1 from (below_drewN ((Below.refl _ _).alloc (Nat.le_refl _) _) 1).trans (hb1.mono (by simp))); have Z1 := Lib.hid ((hb1.block wr.heap.size (by simp)).trans (heapNew wr (.cells #[.slice none 0 0, .int .i64 0, .int .i64 0, .bool false, .bool false, .bool false, .bool false, .bool false, .bool false, .bool false, .bool false] 28))); have HNE : wr.heap.size ≠ bc := (by omega); have HNF : wr.heap.size ≠ eb := (by omega); have S1 := SE.next B1.out X.out hlb hebl hec; clear hop hb1)
          | (go_at_call 15; refine (HSEND.out kc _ _ _ ((RK.out.stay B1.out).alloc _) (RP1.out.alloc _)).mono ?_; rintro e v2 ⟨kg2, kc2, rv, rfl, hok, hor, hb2⟩; have OK2 := Lib.hid hok; have OR2 := Lib.hid hor; have B2 := Lib.hid (show Below wr.heap.size wr v2 from (B1.out.alloc B1.out.size _).trans (hb2.mono (Nat.le_trans B1.out.size (by simp)))); have ZZ := (hb2.block v1.heap.size (by simp)).trans (heapNew v1 (.cells #[.slice none 0 0, .int .i64 0, .int .i64 0, .bool false, .bool false, .bool false, .bool false, .bool false, .bool false, .bool false, .bool false] 28)); have HNE : v1.heap.size ≠ bc := (by have := B1.out.size; omega); have HNF : v1.heap.size ≠ eb := (by have := B1.out.size; omega); have S2 := SE.next B2.out X.out hlb hebl hec; have z20 := cellAt ZZ 0 rfl; have z21 := cellAt ZZ 1 rfl; have z22 := cellAt ZZ 2 rfl; have z23 := cellAt ZZ 3 rfl; have z24 := cellAt ZZ 4 rfl; have z25 := cellAt ZZ 5 rfl; have z26 := cellAt ZZ 6 rfl; have z27 := cellAt ZZ 7 rfl; have z28 := cellAt ZZ 8 rfl; have z29 := cellAt ZZ 9 rfl; have z30 := cellAt ZZ 10 rfl; have zfr := freeAt ZZ; have ZH := Lib.hid ZZ; clear hok hor hb2 ZZ)
          | (go_at_call 15; refine (HSEND.out kc _ _ _ (RK.out.stay B1.out) RP1.out).mono ?_; rintro e v2 ⟨kg2, kc2, rv, rfl, hok, hor, hb2⟩; have OK2 := Lib.hid hok; have OR2 := Lib.hid hor; have B2 := Lib.hid (show Below wr.heap.size wr v2 from B1.out.trans (hb2.mono B1.out.size)); have ZZ := (hb2.block wr.heap.size (lt_of_heap Z1.out)).trans Z1.out; have S2 := SE.next B2.out X.out hlb hebl hec; have z20 := cellAt ZZ 0 rfl; have z21 := cellAt ZZ 1 rfl; have z22 := cellAt ZZ 2 rfl; have z23 := cellAt ZZ 3 rfl; have z24 := cellAt ZZ 4 rfl; have z25 := cellAt ZZ 5 rfl; have z26 := cellAt ZZ 6 rfl; have z27 := cellAt ZZ 7 rfl; have z28 := cellAt ZZ 8 rfl; have z29 := cellAt ZZ 9 rfl; have z30 := cellAt ZZ 10 rfl; have zfr := freeAt ZZ; have ZH := Lib.hid ZZ; clear hok hor hb2 ZZ)
          | (go_at_call 15; refine (HSEND.out kc _ _ _ (RK.out.stay B1.out) RP1.out).mono ?_; rintro e v2 ⟨kg2, kc2, rv, rfl, hok, hor, hb2⟩; have OK2 := Lib.hid hok; have OR2 := Lib.hid hor; have B2 := Lib.hid (show Below wr.heap.size wr v2 from B1.out.trans (hb2.mono B1.out.size)); have S2 := SE.next B2.out X.out hlb hebl hec; clear hok hor hb2))
        all_goals
          clear S0 S1 S2
          go_wp2_with fail
          go_meet
          case rel =>
            refine ⟨rfl, ?_⟩
            first | (have hz1 := lt_of_heap Z1.out; exact res_first B2.out OK2.out OR2.out (Nat.le_refl _) hz1 ZH.out) | (have hz1 := ZH.out; exact res_first B2.out OK2.out OR2.out B1.out.size (by simp) hz1) | exact res_last B2.out OK2.out OR2.out B1.out.size
      case rest =>
        obtain ⟨hve, b, kg2, kc2, hvp, hxb, hwb, hrk, hkw, hkb, hrr, hrb, hbw⟩ := hcut
        subst hve
        subst hvp
        obtain ⟨ra, rc, hvr, _, _⟩ := id hrr.slice
        subst hvr
        have hrg := range_of (cs := [.slice (some ⟨kg2, 0, none⟩) 32 kc2, .int .i64 ((j : Int) + 1), .int .i64 0, .bool false, .bool false, .bool false, .bool false, .bool false, .bool false, .bool false, .bool false]) hxb
        have hsx := cellAt hxb 1 rfl
        have hec2 := (World.cell?_of_block (w := wr) (hbw.block eb hebl)).trans hec
        have HXC := Lib.hid ((hbw.block bc hlb).trans X.out)
        have HRK := Lib.hid hrk
        have HBW := Lib.hid hbw
        have HRR := Lib.hid (show ∀ q, q = R.length → Rd wc (.slice ra q rc) R from fun q hq => by rw [hq]; exact hrr)
        have HRB := Lib.hid (show ∀ (q k : Nat), (Value.slice ra q rc).ownBlock = some k → wr.heap.size ≤ k from fun q k hk => (hrb k (by cases ra <;> exact hk)).1)
        clear hxb hrk hrr hrb hbw S0
        have hcase : (decide ((40 : Int) < (pl.length : Int)) = true ∧ (40 : Int) < (pl.length : Int) ∧ (R.length : Int) = 60) ∨ (decide ((40 : Int) < (pl.length : Int)) = false ∧ ¬ ((40 : Int) < (pl.length : Int)) ∧ (R.length : Int) = (pl.length : Int) + 20 ∧ pl.length ≤ 40) := by
          have h1 := HRL.out
          have h2 := DLE.out
          simp only [decide_eq_true_eq, decide_eq_false_iff_not]
          omega
        have OWN := Lib.hid (show ∀ wz, World.setCells wc bc 0 [.slice (some ⟨kg2, 0, none⟩) 32 kc2, .int .i64 ((j : Int) + 1), .int .i64 0, .bool false, .bool false, .bool false, .bool false, .bool false, .bool false, .bool false, .bool false] = wz → ∀ D, (wz.alloc D).ownsRow w.heap.size 22 1 u10 j xs from fun wz hz D => rowB_ofHeap H.out.own (fun k hk => by
          have h1 := (rowB_lt H.out.own k hk).2
          have h2 := HBW.out.size
          have h3 : wz.heap.size = wc.heap.size := by rw [← hz]; exact size_setCells _ _ _
          rw [heapOld _ _ _ (by omega), ← hz, heap_setCells_ne (fun e => H.out.ne (by rw [← e]; exact hk))]
          exact HBW.out.block k h1))
        have SZ := Lib.hid (show ∀ wz, World.setCells wc bc 0 [.slice (some ⟨kg2, 0, none⟩) 32 kc2, .int .i64 ((j : Int) + 1), .int .i64 0, .bool false, .bool false, .bool false, .bool false, .bool false, .bool false, .bool false, .bool false] = wz → w.heap.size ≤ wz.heap.size from fun wz hz => by
          have h3 : wz.heap.size = wc.heap.size := by rw [← hz]; exact size_setCells _ _ _
          have := HBW.out.size; have := H.out.below.size; omega)
        have FIN := Lib.hid (show ∀ (q : Nat) (v' : Value) (wz w6 : World) (D : Obj), q = R.length → World.setCells wc bc 0 [.slice (some ⟨kg2, 0, none⟩) 32 kc2, .int .i64 ((j : Int) + 1), .int .i64 0, .bool false, .bool false, .bool false, .bool false, .bool false, .bool false, .bool false, .bool false] = wz → w6.ownsRow w.heap.size 22 1 v' (j + 1) (xs ++ [.slice ra q rc]) → (wz.alloc D).grownBy w6 u10.ownBlock → (v'.ownBlock = u10.ownBlock ∨ v'.ownBlock = some (wz.alloc D).heap.size) → SentInv w w6 bc K ps (j + 1) v' (xs ++ [.slice ra q rc]) kg2 kc2 from fun q v' wz w6 D hq hz h1 h2 h3 => by
          have hb1 := H.out.below.trans (HBW.out.mono H.out.below.size)
          refine SentInv.more H.out HBW.out (b := 0) (D := D) (wz := wz) (by rw [← hz]; exact storedRow HXC.out rfl) (by rw [← hz]; exact size_setCells _ _ _) (fun k hk => by rw [← hz]; exact heap_setCells_ne hk _ _ _) (by rw [← hz]; exact below_setCells hwbc _ _ _ hb1) HRK.out KNE.out hkw ?_ (HRB.out q) h1 h2 h3
          rw [HR.out]; exact HRR.out q hq)
        rcases hcase with ⟨c1, c2, c3⟩ | ⟨c1, c2, c3, c4⟩
        · have c5 : R.length = 60 := by omega
          have t1 : decide (R.length = 60) = true := by rw [decide_eq_true_eq]; exact c5
          have t2 : decide ((R.length : Int) = 60) = true := by rw [decide_eq_true_eq]; exact c3
          go_wp2_with (first
            | (refine wpList_load_mid rfl 28 (.tmp 12) rfl b 0 rfl [.slice (some ⟨kg2, 0, none⟩) 32 kc2, .int .i64 ((j : Int) + 1), .int .i64 0, .bool false, .bool false, .bool false, .bool false, .bool false, .bool false, .bool false, .bool false] _ hrg Try.underlying28 rfl chanSz ?_)
            | (refine wpList_store_mid rfl 28 (.tmp 8) (.tmp 64) rfl bc 0 #[.slice (some ⟨kg2, 0, none⟩) 32 kc2, .int .i64 ((j : Int) + 1), .int .i64 0, .bool false, .bool false, .bool false, .bool false, .bool false, .bool false, .bool false, .bool false] rfl rfl (there_of HXC.out rfl) chanSz (chanOne' _ _ _ _ _ _ _ _ _ _ _ rfl) ?_; generalize hW : World.setCells _ _ _ _ = wz; have HW := Lib.hid hW; clear hW)
            | (refine apRows rfl (.tmp 65) (.tmp 67) rfl w.heap.size _ j xs _ wz.heap.size rfl (OWN.out wz HW.out _) rfl (heapNew wz _) rfl (by omega) (by have := SZ.out wz HW.out; simp; omega) ?_; intro v' w6 ho6 hg6 hat6; have HO6 := Lib.hid ho6; have HG6 := Lib.hid hg6; have HA6 := Lib.hid hat6; clear ho6 hg6 hat6))
          go_roundw
          case rel => exact ⟨j + 1, _, kg2, kc2, by omega, by go_num, Lib.hid (FIN.out _ _ _ _ _ c5.symm HW.out HO6.out HG6.out HA6.out)⟩
          case measure => simp [intOf]; omega
        · have t2 : decide ((R.length : Int) = (pl.length : Int) + 20) = true := by rw [decide_eq_true_eq]; exact c3
          go_wp2_with (first
            | (refine wpList_load_mid rfl 28 (.tmp 12) rfl b 0 rfl [.slice (some ⟨kg2, 0, none⟩) 32 kc2, .int .i64 ((j : Int) + 1), .int .i64 0, .bool false, .bool false, .bool false, .bool false, .bool false, .bool false, .bool false, .bool false] _ hrg Try.underlying28 rfl chanSz ?_)
            | (refine wpList_store_mid rfl 28 (.tmp 8) (.tmp 64) rfl bc 0 #[.slice (some ⟨kg2, 0, none⟩) 32 kc2, .int .i64 ((j : Int) + 1), .int .i64 0, .bool false, .bool false, .bool false, .bool false, .bool false, .bool false, .bool false, .bool false] rfl rfl (there_of HXC.out rfl) chanSz (chanOne' _ _ _ _ _ _ _ _ _ _ _ rfl) ?_; generalize hW : World.setCells _ _ _ _ = wz; have HW := Lib.hid hW; clear hW)
            | (refine apRows rfl (.tmp 65) (.tmp 67) rfl w.heap.size _ j xs _ wz.heap.size rfl (OWN.out wz HW.out _) rfl (heapNew wz _) rfl (by omega) (by have := SZ.out wz HW.out; simp; omega) ?_; intro v' w6 ho6 hg6 hat6; have HO6 := Lib.hid ho6; have HG6 := Lib.hid hg6; have HA6 := Lib.hid hat6; clear ho6 hg6 hat6))
          go_roundw
          case rel => exact ⟨j + 1, _, kg2, kc2, by omega, by go_num, Lib.hid (FIN.out _ _ _ _ _ rfl HW.out HO6.out HG6.out HA6.out)⟩
          case measure => simp [intOf]; omega
    · have hx0 := cellAt X.out 0 rfl
      have hx1 : w.heap.size ≤ w.heap.size := Nat.le_refl _
      have hjn2 : j = n := by omega
      have FIN := Lib.hid (show ∀ nq, RdRows (wr.drewN nq) u10 (recsTo K ps n) ∧ Below w.heap.size w (wr.drewN nq) from fun nq => by
        have h1 := H.out.rows
        rw [hjn2] at h1
        exact ⟨h1.stay (below_drewN (Below.refl _ _) nq), below_drewN H.out.below nq⟩)
      have hcase : (decide ((j : Int) < L) = false ∧ decide (j < L) = false) ∨ (decide ((j : Int) < L) = true ∧ decide (j < L) = true ∧ decide ((j : Int) < m) = false) := by
        have h1 := HN.out
        simp only [decide_eq_true_eq, decide_eq_false_iff_not]
        omega
      clear RP hlb hjn2
      rcases hcase with ⟨c1, c2⟩ | ⟨c1, c2, c3⟩
      all_goals
        go_wp2_with fail
        refine wp_region_quiet_lit (by kernel_rfl) (by kernel_rfl) ?_
        repeat (go_big_quiet_step (fail))
        refine wpQuiet_nil ?_
        intro w9 hw9
        obtain ⟨nq, rfl⟩ := hw9
        go_wp2_with fail
        go_ret2
        exact ⟨_, rfl, (FIN.out nq).1, (FIN.out nq).2⟩
end Go.Proofs.Ytoekopdogfnkhaa
