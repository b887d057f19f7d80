/-
  The walk of AuditCut.
-/
import Derived.Test.YtocdnochnjlhlaaDoorAuC
set_option linter.unusedVariables false
set_option linter.unusedSimpArgs false
namespace Go.Proofs.YtocdnochnjlhlaaDoor
open Go.RowKit Go.Con
set_option maxRecDepth 100000 in
set_option maxHeartbeats 2000000 in
theorem walk_AuditCut (v : Value) (l : List Cmd) (u : Value) (x : Int) (w : World) (hv : RdWishes w v l) (hu : IsInt u x) (hK : Kn w) :
    Calls Tryd.prog 4 #[v, u] w fun e w' => e = .returned (.bool true) ∧ Below w.heap.size w w' := by
  obtain ⟨rfl, hx1, hx2⟩ := hu
  have hdone := Lib.hid (done40 v l w hv)
  obtain ⟨L, hL⟩ : ∃ L, L = (l.take 40).map cmdOf := ⟨_, rfl⟩
  have hLl : L.length ≤ 40 := by rw [hL]; simp; omega
  have hLw := Lib.hid (cmdOf_wishes l 40)
  rw [← hL] at hdone hLw
  have HK := Lib.hid hK
  obtain ⟨S, hS⟩ : ∃ S, S = Sto.zero.all L := ⟨_, rfl⟩
  have few1 : S.Few := by rw [hS, hL]; exact Sto.all_few _ Sto.zero_few _ (fun c hc => by obtain ⟨y, _, rfl⟩ := List.mem_map.1 hc; exact (cmdOf_few y).1)
  obtain ⟨n, hn⟩ : ∃ n, n = L.length := ⟨_, rfl⟩
  rw [← hn] at hLl
  have OKS := Lib.hid few1.ok
  have SZS := Lib.hid (show (Tryd.prog.info? 30).map (fun x => x.size) = some S.cells.toArray.size by rw [stoSize OKS.out]; exact stoSz)
  rw [← hS] at hdone
  have HS := Lib.hid hS
  obtain ⟨z32, hz⟩ : ∃ z, z = List.replicate 32 (0 : UInt8) := ⟨_, rfl⟩
  have HZ := Lib.hid hz
  have hch : Hid (∀ (v : Value) (W : World), RdWishes W v L → Kn W → Calls Tryd.prog 6 #[v] W fun e w' => ∃ ov es, e = .returned (.tuple #[ov, .agg S.cells.toArray, .int .i64 0]) ∧ ChainPost W w' L z32 ov es) := Lib.hid (fun v W h1 h2 => by rw [HS.out, HZ.out]; exact Chain_any v L W h1 (fun c hc => (hLw.out c hc).2) (by omega) h2)
  have HN := Lib.hid hn
  obtain ⟨k, hk⟩ : ∃ k : Nat, pick x ((n : Int) + 1) = k := ⟨(pick x ((n : Int) + 1)).toNat, by have h1 := pick_nonneg x ((n : Int) + 1) (by omega); have h2 := pick_lt x ((n : Int) + 1) (by omega); omega⟩
  have hkn : k ≤ n := by have h1 := pick_nonneg x ((n : Int) + 1) (by omega); have h2 := pick_lt x ((n : Int) + 1) (by omega); omega
  have PK := Lib.hid (fun W => picked_toC x ((n : Int) + 1) k W hx1 hx2 (by omega) (Lib.hid hk))
  clear hv hK hL hS few1 hn hz hk
  go_enter Tryd.func4, Tryd.ntmps4
  go_upto_region 2 with (first
    | (go_at_call 5; refine hdone.out.mono ?_; rintro e v0 ⟨cv, av, rfl, hoc, hoa, hb⟩; have BD0 := Lib.hid hb; have RC0 := Lib.hid hoc.row; clear hb hoc hoa)
    | (refine wpList_store_mid rfl 30 (.tmp 5) (.tmp 21) rfl v0.heap.size 0 S.cells.toArray rfl rfl ?_ SZS.out (stoOne _) ?_; (exact there_new _ _ _ _ (by rw [stoSize OKS.out]; rfl)); generalize hW : World.setCells _ _ _ _ = w1; have G0 := Lib.hid (stageB BD0.out hW (by rw [stoLen OKS.out]; rfl)); have G0a := Lib.hid (stageB (Below.refl v0.heap.size v0) hW (by rw [stoLen OKS.out]; rfl)); clear hW))
  have RC1 := Lib.hid (RC0.out.stay G0a.out.1)
  clear RC0 BD0
  obtain ⟨ca, cc, rfl, hcl, hcm, -⟩ := id RC1.out
  rw [← HN.out] at RC1 hcl ⊢
  have hck := Lib.hid (hch.out _ w1 (RC1.out.wishes (fun c hc => (hLw.out c hc).1)) (HK.out.stay G0.out.1))
  clear hch
  go_upto_region 3 with (first
    | (go_at_call 6; refine hck.out.mono ?_; rintro e v1 ⟨ov, es, rfl, hp⟩; have CP := Lib.hid hp; clear hp)
    | (refine wpList_store_mid rfl 30 (.tmp 10) (.tmp 29) rfl v1.heap.size 0 S.cells.toArray rfl rfl ?_ SZS.out (stoOne _) ?_; (exact there_new _ _ _ _ (by rw [stoSize OKS.out]; rfl)); generalize hW : World.setCells _ _ _ _ = w2; have G1 := Lib.hid (stageB CP.out.below hW (by rw [stoLen OKS.out]; rfl)); have G1a := Lib.hid (stageB (Below.refl v1.heap.size v1) hW (by rw [stoLen OKS.out]; rfl)); clear hW))
  have RE2 := Lib.hid (CP.out.own.row.stay G1a.out.1)
  have SH := Lib.hid (ownsRow_shape CP.out.own)
  obtain ⟨ea, ec, rfl, -⟩ := id RE2.out
  have hEL := CP.out.len
  rw [hEL, ← HN.out] at RE2 SH ⊢
  have WH1 := Lib.hid (show ∀ i e, es[i]? = some e → e.what = L.getD i Cmd.zero ∧ e.ans = (Sto.zero.answers L).getD i (0, 0) from fun i e he => by
    obtain ⟨q1, q2, -, -⟩ := CP.out.what i e he
    exact ⟨q1, q2⟩)
  have WS1 := Lib.hid (show ∀ i e, es[i]? = some e → Rd w2 e.sum ((Sto.zero.sums z32 L).getD i []) from fun i e he => by
    obtain ⟨-, -, q3, -⟩ := CP.out.what i e he
    exact q3.stay G1a.out.1)
  have LE1 := Lib.hid (show es.length = n by rw [CP.out.len, ← HN.out])
  have Y2 := Lib.hid (show Below w.heap.size w w2 from G0.out.1.trans (G1.out.1.mono G0.out.1.size))
  have K2 := Lib.hid (HK.out.stay Y2.out)
  have hne := RE2.out.cells.2.1
  have EA := Lib.hid (show ea = none → ec = 0 from fun h => by
    rcases SH.out with ⟨h1, -⟩ | ⟨g, c, h1, -⟩
    · injection h1
    · rw [h] at h1; injection h1 with h2; cases h2)
  have LT : Hid ((es.take k).length = k) := Lib.hid (by rw [List.length_take, LE1.out]; omega)
  have HCK := Lib.hid (show ∀ c ∈ L.take k, checkC c = 0 from fun c hc => (hLw.out c (List.mem_of_mem_take hc)).2)
  have LTk : Hid ((L.take k).length = k) := Lib.hid (by rw [List.length_take, ← HN.out]; omega)
  have AU1 := Lib.hid (fun W (hW : Below w2.heap.size w2 W) => Audit_run (.slice ea k k) (es.take k) (fun i => (Sto.zero.sums z32 L).getD i []) (L.take k) k (-1) z32 W HZ.out ((RE2.out.first k hkn).stay hW) (fun i e he => (WS1.out i e (by rw [List.getElem?_take] at he; split at he; exact he; cases he)).stay hW) (by rw [LT.out]; omega) LTk.out (by rw [LT.out]; exact Nat.le_refl _) HCK.out (right_take (by rw [LE1.out]; exact hkn) WH1.out (fun i hi => getD_take _ _ _ _ hi)) (.inl ⟨LT.out.symm, rfl⟩) (K2.out.stay hW))
  clear RC1 G0 G0a G1 G1a hck hdone HK SH hEL hcl hcm
  go_upto_region 5 with (first
    | (go_at_call 8; refine (PK.out _).mono ?_; rintro e _ ⟨rfl, rfl⟩)
    | (go_at_call 7; refine (AU1.out _ (Below.refl _ _)).mono ?_; rintro e w3 ⟨rfl, hb3⟩; have B3 := Lib.hid hb3; clear hb3))
  have RE3 := Lib.hid (show RdE w3 (.slice ea k ec) (es.take k) from (RE2.out.firstC k hkn).stay B3.out)
  have ONE := Lib.hid (show ∀ e ∈ es.take k, e.sum.oneCell' = true from fun e he => by
    obtain ⟨i, hi⟩ := List.mem_iff_getElem?.1 (List.mem_of_mem_take he)
    obtain ⟨a, c, h, -⟩ := WS1.out i e hi
    rw [h]; rfl)
  have NE := Lib.hid (fun W => newE W ⟨⟨9, 0, 0, 0, 0⟩, (0, 0), .slice none 0 0⟩)
  go_upto_region 6 with (first
    | (at_builtin; refine apE rfl (.const (.slice none 0 0)) (.tmp 46) rfl w3.heap.size (.slice none 0 0) [] (es.take k) ea k ec rfl (World.ownsRow_nil _ _ _ _) rfl RE3.out EA.out ONE.out (by rw [LT.out]; simp; omega) (Nat.le_refl _) ?_; intro v4 w4 ho4 hg4; have O4 := Lib.hid ho4; have B4 := Lib.hid (show Below w3.heap.size w3 w4 from (Below.refl _ _).grown hg4 (Nat.le_refl _) (fun k hk => by cases hk)); clear ho4 hg4)
    | (at_builtin; refine apE rfl (.tmp 47) (.tmp 50) rfl w3.heap.size v4 ([] ++ es.take k) [⟨⟨9, 0, 0, 0, 0⟩, (0, 0), .slice none 0 0⟩] (some ⟨w4.heap.size, 0, none⟩) 1 1 rfl (World.ownsRow.alloc O4.out _) rfl (NE.out _) (fun h => by cases h) (fun e he => by simp at he; subst he; rfl) (by simp [LT.out]; omega) (by have := B4.out.size; simp; omega) ?_; intro v5 w5 ho5 hg5; have O5 := Lib.hid ho5; have B5 := Lib.hid (show Below w3.heap.size w3 w5 from (B4.out.alloc B4.out.size _).grown hg5 (by have := B4.out.size; simp; omega) (fun k hk => (row_lt O4.out k hk).1)); clear ho5 hg5))
  have RF5 := Lib.hid O5.out.row
  rw [List.nil_append] at RF5
  obtain ⟨fa, fc, rfl, -⟩ := id RF5.out
  have hFL : (es.take k ++ [(⟨⟨9, 0, 0, 0, 0⟩, (0, 0), .slice none 0 0⟩ : Ent)]).length = k + 1 := by rw [List.length_append, LT.out]; rfl
  rw [hFL] at RF5 ⊢
  have B25 := Lib.hid (B3.out.trans (B5.out.mono B3.out.size))
  have hlast : (es.take k ++ [(⟨⟨9, 0, 0, 0, 0⟩, (0, 0), .slice none 0 0⟩ : Ent)]).getD k ent0 = ⟨⟨9, 0, 0, 0, 0⟩, (0, 0), .slice none 0 0⟩ := by
    rw [List.getD_eq_getElem?_getD, List.getElem?_append_right (by rw [LT.out]; exact Nat.le_refl _), LT.out, Nat.sub_self]; rfl
  have AU2 := Lib.hid (Audit_run _ (es.take k ++ [⟨⟨9, 0, 0, 0, 0⟩, (0, 0), .slice none 0 0⟩]) (fun i => if i < k then (Sto.zero.sums z32 L).getD i [] else []) (L.take k) k k z32 w5 HZ.out RF5.out (fun i e he => by
      rcases snoc_get he with ⟨h1, h2⟩ | ⟨h1, rfl⟩
      · rw [LT.out] at h1
        rw [if_pos h1]
        exact (WS1.out i e (by rw [List.getElem?_take, if_pos h1] at h2; exact h2)).stay B25.out
      · rw [LT.out] at h1
        rw [if_neg (by omega)]
        exact Rd.nil _) (by rw [hFL]; omega) LTk.out (by rw [hFL]; omega) HCK.out (fun i hi => by
      have h := right_take (z := z32) (fs := es.take k ++ [⟨⟨9, 0, 0, 0, 0⟩, (0, 0), .slice none 0 0⟩]) (by rw [LE1.out]; exact hkn) WH1.out (fun i hi => by
        rw [List.getD_eq_getElem?_getD, List.getD_eq_getElem?_getD, List.getElem?_append_left (by rw [LT.out]; exact hi), List.getElem?_take, if_pos hi]) i hi
      rw [if_pos hi]
      exact h) (.inr ⟨by rw [hFL]; omega, rfl, .inl (by rw [hlast]; decide)⟩) (K2.out.stay B25.out))
  clear hFL hlast
  go_wp2_with (go_at_call 7; refine AU2.out.mono ?_; rintro e w6 ⟨rfl, hb6⟩)
  go_ret
  exact ⟨rfl, (Y2.out.trans (B25.out.mono Y2.out.size)).trans (hb6.mono (Nat.le_trans Y2.out.size B25.out.size))⟩
end Go.Proofs.YtocdnochnjlhlaaDoor
