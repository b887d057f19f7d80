/-
  The walk of AuditRight.
-/
import Derived.Test.YtocdnochnjlhlaaDoorAuR
set_option linter.unusedVariables false
set_option linter.unusedSimpArgs false
namespace Go.Proofs.YtocdnochnjlhlaaDoor
open Go.RowKit Go.Con
set_option maxRecDepth 100000 in
set_option maxHeartbeats 2000000 in
theorem walk_AuditRight (v : Value) (l : List Cmd) (u : Value) (x : Int) (u2 : Value) (y : Int) (u3 : Value) (bb : Bool) (w : World) (hv : RdWishes w v l) (hu : IsInt u x) (hu2 : IsInt u2 y) (hu3 : IsBool u3 bb) (hK : Kn w) :
    Calls Tryd.prog 3 #[v, u, u2, u3] w fun e w' => e = .returned (.bool true) ∧ Below w.heap.size w w' := by
  obtain ⟨rfl, hx1, hx2⟩ := hu
  obtain ⟨rfl, hy1, hy2⟩ := hu2
  obtain rfl := hu3
  have hdone := Lib.hid (done40 v l w hv)
  obtain ⟨L, hL⟩ : ∃ L, L = (l.take 40).map cmdOf := ⟨_, rfl⟩
  have hLl : L.length ≤ 40 := by rw [hL]; simp; omega
  have hLw := Lib.hid (cmdOf_wishes l 40)
  rw [← hL] at hdone hLw
  have HK := Lib.hid hK
  obtain ⟨S, hS⟩ : ∃ S, S = Sto.zero.all L := ⟨_, rfl⟩
  have few1 : S.Few := by rw [hS, hL]; exact Sto.all_few _ Sto.zero_few _ (fun c hc => by obtain ⟨y, _, rfl⟩ := List.mem_map.1 hc; exact (cmdOf_few y).1)
  obtain ⟨n, hn⟩ : ∃ n, n = L.length := ⟨_, rfl⟩
  rw [← hn] at hLl
  have OKS := Lib.hid few1.ok
  have SZS := Lib.hid (show (Tryd.prog.info? 30).map (fun x => x.size) = some S.cells.toArray.size by rw [stoSize OKS.out]; exact stoSz)
  rw [← hS] at hdone
  have HS := Lib.hid hS
  obtain ⟨z32, hz⟩ : ∃ z, z = List.replicate 32 (0 : UInt8) := ⟨_, rfl⟩
  have HZ := Lib.hid hz
  have hch : Hid (∀ (v : Value) (W : World), RdWishes W v L → Kn W → Calls Tryd.prog 6 #[v] W fun e w' => ∃ ov es, e = .returned (.tuple #[ov, .agg S.cells.toArray, .int .i64 0]) ∧ ChainPost W w' L z32 ov es) := Lib.hid (fun v W h1 h2 => by rw [HS.out, HZ.out]; exact Chain_any v L W h1 (fun c hc => (hLw.out c hc).2) (by omega) h2)
  have HN := Lib.hid hn
  have ok40 := Lib.hid (show ∀ k, (Sto.zero.all (L.take k)).Ok from fun k => all_ok _ Sto.zero_ok _ (fun c hc => (hLw.out c (List.mem_of_mem_take hc)).2))
  clear hv hK hL hS few1 hn hz
  go_enter Tryd.func3, Tryd.ntmps3
  go_upto_region 2 with (first
    | (go_at_call 5; refine hdone.out.mono ?_; rintro e v0 ⟨cv, av, rfl, hoc, hoa, hb⟩; have BD0 := Lib.hid hb; have RC0 := Lib.hid hoc.row; clear hb hoc hoa)
    | (refine wpList_store_mid rfl 30 (.tmp 9) (.tmp 24) rfl v0.heap.size 0 S.cells.toArray rfl rfl ?_ SZS.out (stoOne _) ?_; (exact there_new _ _ _ _ (by rw [stoSize OKS.out]; rfl)); generalize hW : World.setCells _ _ _ _ = w1; have G0 := Lib.hid (stageB BD0.out hW (by rw [stoLen OKS.out]; rfl)); have G0a := Lib.hid (stageB (Below.refl v0.heap.size v0) hW (by rw [stoLen OKS.out]; rfl)); clear hW))
  have RC1 := Lib.hid (RC0.out.stay G0a.out.1)
  clear RC0 BD0
  obtain ⟨ca, cc, rfl, hcl, hcm, -⟩ := id RC1.out
  rw [← HN.out] at RC1 hcl ⊢
  have hck := Lib.hid (hch.out _ w1 (RC1.out.wishes (fun c hc => (hLw.out c hc).1)) (HK.out.stay G0.out.1))
  clear hch
  go_upto_region 3 with (first
    | (go_at_call 6; refine hck.out.mono ?_; rintro e v1 ⟨ov, es, rfl, hp⟩; have CP := Lib.hid hp; clear hp)
    | (refine wpList_store_mid rfl 30 (.tmp 14) (.tmp 32) rfl v1.heap.size 0 S.cells.toArray rfl rfl ?_ SZS.out (stoOne _) ?_; (exact there_new _ _ _ _ (by rw [stoSize OKS.out]; rfl)); generalize hW : World.setCells _ _ _ _ = w2; have G1 := Lib.hid (stageB CP.out.below hW (by rw [stoLen OKS.out]; rfl)); have G1a := Lib.hid (stageB (Below.refl v1.heap.size v1) hW (by rw [stoLen OKS.out]; rfl)); clear hW))
  have RE2 := Lib.hid (CP.out.own.row.stay G1a.out.1)
  have SH := Lib.hid (ownsRow_shape CP.out.own)
  obtain ⟨ea, ec, rfl, -⟩ := id RE2.out
  have hEL := CP.out.len
  rw [hEL, ← HN.out] at RE2 SH ⊢
  have WH1 := Lib.hid (show ∀ i e, es[i]? = some e → e.what = L.getD i Cmd.zero ∧ e.ans = (Sto.zero.answers L).getD i (0, 0) from fun i e he => by
    obtain ⟨q1, q2, -, -⟩ := CP.out.what i e he
    exact ⟨q1, q2⟩)
  have WS1 := Lib.hid (show ∀ i e, es[i]? = some e → Rd w2 e.sum ((Sto.zero.sums z32 L).getD i []) from fun i e he => by
    obtain ⟨-, -, q3, -⟩ := CP.out.what i e he
    exact q3.stay G1a.out.1)
  have LE1 := Lib.hid (show es.length = n by rw [CP.out.len, ← HN.out])
  have Y2 := Lib.hid (show Below w.heap.size w w2 from G0.out.1.trans (G1.out.1.mono G0.out.1.size))
  have K2 := Lib.hid (HK.out.stay Y2.out)
  have hne := RE2.out.cells.2.1
  have EA := Lib.hid (show ea = none → ec = 0 from fun h => by
    rcases SH.out with ⟨h1, -⟩ | ⟨g, c, h1, -⟩
    · injection h1
    · rw [h] at h1; injection h1 with h2; cases h2)
  have HCK := Lib.hid (show ∀ c ∈ L, checkC c = 0 from fun c hc => (hLw.out c hc).2)
  have AU1 := Lib.hid (fun W (hW : Below w2.heap.size w2 W) => Audit_run (.slice ea n ec) es (fun i => (Sto.zero.sums z32 L).getD i []) L n (-1) z32 W HZ.out (RE2.out.stay hW) (fun i e he => (WS1.out i e he).stay hW) (by rw [LE1.out]; omega) HN.out.symm (by rw [LE1.out]; exact Nat.le_refl _) HCK.out (fun i hi => by
      have hget : es[i]? = some (es.getD i ent0) := by
        have : i < es.length := by rw [LE1.out]; exact hi
        rw [List.getD_eq_getElem?_getD, List.getElem?_eq_getElem this]; rfl
      obtain ⟨h1, h2⟩ := WH1.out i _ hget
      exact ⟨h1, h2, rfl⟩) (.inl ⟨LE1.out.symm, rfl⟩) (K2.out.stay hW))
  have DIS := Lib.hid CP.out.dis
  have FREE := Lib.hid (show ∀ (i : Nat) (e : Ent), es[i]? = some e → ∀ q, e.sum.ownBlock = some q → (Value.slice ea n ec).ownBlock ≠ some q ∧ ∃ cur t, w2.heap[q]? = some (.cells cur t (0, 0)) from fun i e he q hq => by
    obtain ⟨h1, cur, t, h2⟩ := CP.out.free i e he q hq
    refine ⟨?_, cur, t, (G1a.out.1.block q (lt_of_heap h2)).trans h2⟩
    have h3 := h1
    rw [hEL, ← HN.out] at h3
    exact h3)
  have ROWF := Lib.hid (show ∀ g, ea = some ⟨g, 0, none⟩ → ∃ cur t, w2.heap[g]? = some (.cells cur t (0, 0)) from fun g hg => by
    obtain ⟨-, h2⟩ := CP.out.own
    rcases h2 with ⟨h3, hn⟩ | ⟨g', cap, cur, h3, hb, hg', r⟩
    · injection h3 with h4; rw [hg] at h4; cases h4
    · injection h3 with h4
      rw [hg] at h4
      have h5 := Option.some.inj h4
      injection h5 with h6
      subst h6
      exact ⟨cur, _, (G1a.out.1.block _ (lt_of_heap hg')).trans hg'⟩)
  have GEE := Lib.hid (show ∀ g, ea = some ⟨g, 0, none⟩ → w.heap.size ≤ g from fun g hg => Nat.le_trans G0.out.1.size (row_lt CP.out.own g (by rw [hg]; rfl)).1)
  have QEE := Lib.hid (show ∀ (i : Nat) (e : Ent), es[i]? = some e → ∀ q, e.sum.ownBlock = some q → w.heap.size ≤ q from fun i e he q hq => Nat.le_trans G0.out.1.size ((CP.out.what i e he).2.2.2 q hq).1)
  clear RC1 G0 G0a G1 G1a hck hdone hEL hcl hcm
  rcases Nat.eq_zero_or_pos n with hn0 | hn0
  · have hd0 : ((n : Int) == 0) = true := by rw [hn0]; rfl
    have hd0n : (n == 0) = true := by rw [hn0]; rfl
    clear hn0
    go_upto_region 4 with (go_at_call 7; refine (AU1.out _ (Below.refl _ _)).mono ?_; rintro e w3 ⟨rfl, hb3⟩; have B3 := Lib.hid hb3; clear hb3)
    go_wp2_with fail
    go_ret
    exact ⟨rfl, Y2.out.trans (B3.out.mono Y2.out.size)⟩
  · have hd0 : ((n : Int) == 0) = false := by rw [beq_eq_false_iff_ne]; omega
    have hd0n : (n == 0) = false := by rw [beq_eq_false_iff_ne]; omega
    obtain ⟨g, hg⟩ : ∃ g, ea = some ⟨g, 0, none⟩ := by
      rcases SH.out with ⟨h1, h2⟩ | ⟨g, c, h1, -⟩
      · exfalso; omega
      · injection h1 with h2; exact ⟨g, h2⟩
    subst hg
    obtain ⟨k, hk⟩ : ∃ k : Nat, pick x (n : Int) = k := ⟨(pick x (n : Int)).toNat, by have h1 := pick_nonneg x (n : Int) (by omega); omega⟩
    have hkn : k < n := by have h2 := pick_lt x (n : Int) (by omega); omega
    have PK := Lib.hid (fun W => picked_toC x (n : Int) k W hx1 hx2 (by omega) (Lib.hid hk))
    clear hk
    have hget : es[k]? = some (es.getD k ent0) := by
      have : k < es.length := by rw [LE1.out]; exact hkn
      rw [List.getD_eq_getElem?_getD, List.getElem?_eq_getElem this]; rfl
    obtain ⟨e, he⟩ : ∃ e, e = es.getD k ent0 := ⟨_, rfl⟩
    rw [← he] at hget
    have HGET := Lib.hid hget
    have HE := Lib.hid he
    obtain ⟨hwh, han⟩ := WH1.out k e hget
    have hkL : k < L.length := by rw [← HN.out]; exact hkn
    have hckk : checkC e.what = 0 := by rw [hwh, getD_lt _ _ _ hkL]; exact HCK.out _ (List.getElem_mem _)
    have hans : (Sto.zero.all (L.take k)).answer e.what = e.ans := by rw [hwh, han]; exact (answers_at _ _ _ hkL).symm
    have hlink : (Sto.zero.sums z32 L).getD k [] = linkB (Sto.zero.tip z32 (L.take k)) e.what e.ans := by rw [sums_at _ _ _ _ hkL, hwh, han]
    have CKK := Lib.hid hckk
    have ANS := Lib.hid hans
    have LINK := Lib.hid hlink
    have LTk : Hid ((L.take k).length = k) := Lib.hid (by rw [List.length_take]; omega)
    have HCKk := Lib.hid (show ∀ c ∈ L.take k, checkC c = 0 from fun c hc => HCK.out c (List.mem_of_mem_take hc))
    clear hwh han hckk hans hlink he hget
    go_upto_region 4 with (go_at_call 7; refine (AU1.out _ (Below.refl _ _)).mono ?_; rintro e w3 ⟨rfl, hb3⟩; have B3 := Lib.hid hb3; clear hb3)
    have RE3 := Lib.hid (RE2.out.stay B3.out)
    have WS3 := Lib.hid (show ∀ i e, es[i]? = some e → Rd w3 e.sum ((Sto.zero.sums z32 L).getD i []) from fun i e he => (WS1.out i e he).stay B3.out)
    have FREE3 := Lib.hid (show ∀ (i : Nat) (e : Ent), es[i]? = some e → ∀ q, e.sum.ownBlock = some q → g ≠ q ∧ ∃ cur t, w3.heap[q]? = some (.cells cur t (0, 0)) from fun i e he q hq => by
      obtain ⟨h1, cur, t, h2⟩ := FREE.out i e he q hq
      exact ⟨fun h => h1 (congrArg some h), cur, t, (B3.out.block q (lt_of_heap h2)).trans h2⟩)
    have ROWF3 := Lib.hid (show ∃ cur t, w3.heap[g]? = some (.cells cur t (0, 0)) from by
      obtain ⟨cur, t, h2⟩ := ROWF.out g rfl
      exact ⟨cur, t, (B3.out.block g (lt_of_heap h2)).trans h2⟩)
    have Y3 := Lib.hid (Y2.out.trans (B3.out.mono Y2.out.size))
    clear RE2 WS1 FREE ROWF SH EA AU1
    obtain ⟨eb, eoff, hgb, hel, hec⟩ := RE3.out.cells.2.2 k hkn
    have hgb2 := Option.some.inj hgb
    injection hgb2 with e1 e2
    subst e1 e2
    change ∀ j, j < 8 → w3.cell? ⟨g, 0 + (8 * k + j), none⟩ = (entCells (es.getD k ent0))[j]? at hec
    rw [← HE.out] at hec
    obtain ⟨sa, sc, hsv, -, -⟩ := (WS3.out k e HGET.out).slice
    have hsl : ((Sto.zero.sums z32 L).getD k []).length = 32 := by rw [LINK.out]; exact linkB_length _ _ _
    obtain ⟨m, hm⟩ : ∃ m, m = ((Sto.zero.sums z32 L).getD k []).length := ⟨_, rfl⟩
    rw [← hm] at hsv hsl
    have HM := Lib.hid hm
    clear hm
    obtain ⟨x0, x1, x2, x3, x4, x5, x6, x7⟩ := cellsE hec
    clear hec hgb
    rw [hsv] at x7
    simp only [Nat.zero_add] at x0 x1 x2 x3 x4 x5 x6 x7
    go_upto_region 9 with (go_at_call 8; refine (PK.out _).mono ?_; rintro e _ ⟨rfl, rfl⟩)
    cases bb
    · obtain ⟨p, hp⟩ : ∃ p : Nat, pick y 100 = p := ⟨(pick y 100).toNat, by have h1 := pick_nonneg y 100 (by omega); omega⟩
      have hp2 : p < 100 := by have h2 := pick_lt y 100 (by omega); omega
      have PY := Lib.hid hp
      obtain ⟨aw, ⟨aa, ab⟩, av⟩ := e
      dsimp only at x0 x1 x2 x3 x4 x5 x6 x7 hsv
      have ha0 : 0 ≤ ab := by have h := Sto.answer_nonneg _ (ok40.out k) _ CKK.out; rw [ANS.out] at h; exact h.2
      have ha1 : ab ≤ 1073741824 := by have h := Sto.answer_most _ (ok40.out k) _ CKK.out; rw [ANS.out] at h; exact h
      have hfr : w3.frozen? ⟨g, k * 8 + 5 + 1, none⟩ = false := by obtain ⟨cur, t, h⟩ := ROWF3.out; exact freeAt h _
      clear x0 x1 x2 x3 x4 x5 x7 hp
      go_wp2_with fail
      refine region_quiet_tail 13 (by kernel_rfl) (by kernel_rfl) ?_
      simp only [List.take_succ_cons, List.take_zero, List.drop_succ_cons, List.drop_zero]
      repeat (go_big_quiet_step ((go_at_call 8; refine quiet_sameC (picked_toR _ _ _ _ (by assumption) (by assumption) (by omega) (by assumption)) ⟨_, rfl⟩)))
      refine wpQuiet_nil ?_
      intro w9 hw9
      obtain ⟨nq, rfl⟩ := hw9
      go_wp2_with fail
      have hg0 := GEE.out g rfl
      obtain ⟨w5, hw5⟩ : ∃ w5, w5 = (w3.drewN nq).setCell ⟨g, k * 8 + 5 + 1, none⟩ (.int .i64 (ab + (1 + (p : Int)))) := ⟨_, rfl⟩
      rw [← hw5]
      have T := ans_turned (w := w3.drewN nq) (bs := fun i => (Sto.zero.sums z32 L).getD i []) (k := k) (RE3.out.heap (fun _ _ _ => rfl)) (fun i e he => (WS3.out i e he).drewN nq) (by rw [LE1.out]; exact hkn) (fun i e he h => (FREE3.out i e he g h).1 rfl) (ab + (1 + (p : Int)))
      rw [← HE.out, ← hw5] at T
      have B5 := Lib.hid (show Below w.heap.size w w5 by rw [hw5]; exact (below_drewN Y3.out nq).setCell hg0 _)
      have hgk : (es.set k ⟨aw, (aa, ab + (1 + (p : Int))), av⟩).getD k ent0 = ⟨aw, (aa, ab + (1 + (p : Int))), av⟩ := by
        rw [List.getD_eq_getElem?_getD, List.getElem?_set_self (by rw [LE1.out]; exact hkn)]; rfl
      have hsl2 : (es.set k ⟨aw, (aa, ab + (1 + (p : Int))), av⟩).length = n := by rw [List.length_set, LE1.out]
      have AU2 := Audit_run (.slice (some ⟨g, 0, none⟩) n ec) (es.set k ⟨aw, (aa, ab + (1 + (p : Int))), av⟩) (fun i => (Sto.zero.sums z32 L).getD i []) (L.take k) k k z32 w5 HZ.out T.1 T.2 (by rw [hsl2]; omega) LTk.out (by rw [hsl2]; omega) HCKk.out
        (right_but (by rw [LE1.out]; exact hkn) WH1.out (fun i hi => by rw [List.getD_eq_getElem?_getD, List.getD_eq_getElem?_getD, List.getElem?_set_ne (by omega)]) (fun i hi => rfl))
        (.inr ⟨by rw [hsl2]; exact hkn, rfl, .inr (.inl (by
          rw [hgk]
          refine ⟨CKK.out, ?_⟩
          rw [show (Sto.zero.all (L.take k)).answer aw = (aa, ab) from ANS.out]
          intro h
          injection h with h1 h2
          omega))⟩) (HK.out.stay B5.out)
      clear T hw5 hgk hsl2
      refine AU2.mono ?_
      rintro e w6 ⟨rfl, hb6⟩
      go_wp2_with fail
      go_ret
      exact ⟨rfl, B5.out.trans (hb6.mono B5.out.size)⟩
    · obtain ⟨p, hp⟩ : ∃ p : Nat, pick y 32 = p := ⟨(pick y 32).toNat, by have h1 := pick_nonneg y 32 (by omega); omega⟩
      have hp2 : p < m := by have h2 := pick_lt y 32 (by omega); omega
      have PY := Lib.hid hp
      have hrs := WS3.out k e HGET.out
      rw [hsv] at hrs
      obtain ⟨a', c', hs1, hs2, hs3, -, hs4⟩ := id hrs
      injection hs1 with e1 e2 e3
      subst e1 e3
      rw [← HM.out] at hs2
      obtain ⟨q, o, hq, hcs⟩ := hs4 (by intro h; have h2 := HM.out; rw [h] at h2; rw [h2] at hsl; cases hsl)
      subst hq
      obtain ⟨z, hz⟩ : ∃ z, z = ((Sto.zero.sums z32 L).getD k []).getD p 0 := ⟨_, rfl⟩
      have hcz := hcs p (by rw [← HM.out]; exact hp2)
      rw [← hz] at hcz
      change w3.cell? ⟨q, o + p, none⟩ = some (.int .u8 (z.toNat : Int)) at hcz
      obtain ⟨hgq, cur, t, hqb⟩ := FREE3.out k e HGET.out q (by rw [hsv]; rfl)
      have hfr : w3.frozen? ⟨q, o + p, none⟩ = false := freeAt hqb _
      have HZB := Lib.hid hz
      have hzz := z.toNat_lt
      clear x0 x1 x2 x3 x4 x5 x6 hp hcs hz hs3 e2 hsl
      go_wp2_with fail
      refine region_quiet_tail 11 (by kernel_rfl) (by kernel_rfl) ?_
      simp only [List.take_succ_cons, List.take_zero, List.drop_succ_cons, List.drop_zero]
      repeat (go_big_quiet_step ((go_at_call 8; refine quiet_sameC (picked_toR _ _ _ _ (by assumption) (by assumption) (by omega) (by assumption)) ⟨_, rfl⟩)))
      refine wpQuiet_nil ?_
      intro w9 hw9
      obtain ⟨nq, rfl⟩ := hw9
      go_wp2_with fail
      have hq0 := QEE.out k e HGET.out q (by rw [hsv]; rfl)
      have hpl : p < ((Sto.zero.sums z32 L).getD k []).length := by rw [← HM.out]; exact hp2
      rw [show bits .xor .u8 (z.toNat : Int) 1 = ((z ^^^ 1).toNat : Int) from u8_xorF z 1]
      obtain ⟨w5, hw5⟩ : ∃ w5, w5 = (w3.drewN nq).setCell ⟨q, o + p, none⟩ (.int .u8 ((z ^^^ 1).toNat : Int)) := ⟨_, rfl⟩
      rw [← hw5]
      have T := sum_turned (w := w3.drewN nq) (bs := fun i => (Sto.zero.sums z32 L).getD i []) (k := k) (RE3.out.heap (fun _ _ _ => rfl)) (fun i e he => (WS3.out i e he).drewN nq) HGET.out hsv hpl hgq (fun i e' he hik h => DIS.out i k e' e he HGET.out hik q h (by rw [hsv]; rfl)) (z ^^^ 1)
      change RdE ((w3.drewN nq).setCell ⟨q, o + p, none⟩ (.int .u8 ((z ^^^ 1).toNat : Int))) _ _ ∧ (∀ (i : Nat) (e : Ent), es[i]? = some e → Rd ((w3.drewN nq).setCell ⟨q, o + p, none⟩ (.int .u8 ((z ^^^ 1).toNat : Int))) e.sum (if i = k then ((Sto.zero.sums z32 L).getD k []).set p (z ^^^ 1) else (Sto.zero.sums z32 L).getD i [])) at T
      rw [← hw5] at T
      have B5 := Lib.hid (show Below w.heap.size w w5 by rw [hw5]; exact (below_drewN Y3.out nq).setCell hq0 _)
      have hgk : es.getD k ent0 = e := HE.out.symm
      have AU2 := Audit_run (.slice (some ⟨g, 0, none⟩) n ec) es (fun i => if i = k then ((Sto.zero.sums z32 L).getD k []).set p (z ^^^ 1) else (Sto.zero.sums z32 L).getD i []) (L.take k) k k z32 w5 HZ.out T.1 T.2 (by rw [LE1.out]; omega) LTk.out (by rw [LE1.out]; omega) HCKk.out
        (right_but (by rw [LE1.out]; exact hkn) WH1.out (fun i hi => rfl) (fun i hi => if_neg (by omega)))
        (.inr ⟨by rw [LE1.out]; exact hkn, rfl, .inr (.inr (by
          rw [hgk]
          refine ⟨CKK.out, ANS.out, ?_⟩
          rw [if_pos rfl, ← LINK.out]
          exact set_ne _ _ hpl _ (by rw [← HZB.out]; exact xor_one_ne z)))⟩) (HK.out.stay B5.out)
      clear T hw5 hgk
      refine AU2.mono ?_
      rintro e w6 ⟨rfl, hb6⟩
      go_wp2_with fail
      go_ret
      exact ⟨rfl, B5.out.trans (hb6.mono B5.out.size)⟩
end Go.Proofs.YtocdnochnjlhlaaDoor
