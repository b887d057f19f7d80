/-
  The walk of ChainCut.
-/
import Derived.Test.YtdjnbnbhpjiicaaDoorChC
set_option linter.unusedVariables false
set_option linter.unusedSimpArgs false
namespace Go.Proofs.YtdjnbnbhpjiicaaDoor
open Go.RowKit Go.Con
set_option maxRecDepth 100000 in
set_option maxHeartbeats 2000000 in
theorem walk_ChainCut (v : Value) (l : List Cmd) (u : Value) (x : Int) (w : World) (hv : RdWishes w v l) (hu : IsInt u x) (hK : Kn w) :
    Calls Tryd.prog 16 #[v, u] w fun e w' => e = .returned (.bool true) ∧ Below w.heap.size w w' := by
  obtain ⟨rfl, hx1, hx2⟩ := hu
  have hdone := Lib.hid (done40 v l w hv)
  obtain ⟨L, hL⟩ : ∃ L, L = (l.take 40).map cmdOf := ⟨_, rfl⟩
  have hLl : L.length ≤ 40 := by rw [hL]; simp; omega
  have hLw := Lib.hid (cmdOf_wishes l 40)
  rw [← hL] at hdone hLw
  have HK := Lib.hid hK
  obtain ⟨S, hS⟩ : ∃ S, S = Sto.zero.all L := ⟨_, rfl⟩
  have few : ∀ m, (Sto.zero.all (L.take m)).Few := fun m => Sto.all_few _ Sto.zero_few _ (fun c hc => by rw [hL] at hc; obtain ⟨y, _, rfl⟩ := List.mem_map.1 (List.mem_of_mem_take hc); exact (cmdOf_few y).1)
  obtain ⟨n, hn⟩ : ∃ n, n = L.length := ⟨_, rfl⟩
  rw [← hn] at hLl
  obtain ⟨k, hk⟩ : ∃ k : Nat, pick x ((n : Int) + 1) = k := ⟨(pick x ((n : Int) + 1)).toNat, by have h1 := pick_nonneg x ((n : Int) + 1) (by omega); have h2 := pick_lt x ((n : Int) + 1) (by omega); omega⟩
  have hkn : k ≤ n := by have h1 := pick_nonneg x ((n : Int) + 1) (by omega); have h2 := pick_lt x ((n : Int) + 1) (by omega); omega
  obtain ⟨T, hT⟩ : ∃ T, T = Sto.zero.all (L.take k) := ⟨_, rfl⟩
  have few1 : S.Few := by have := few n; rw [hn, List.take_length] at this; rw [hS]; exact this
  have few2 : T.Few := by rw [hT]; exact few k
  have OKS := Lib.hid few1.ok
  have OKT := Lib.hid few2.ok
  have SZS := Lib.hid (show (Tryd.prog.info? 60).map (fun x => x.size) = some S.cells.toArray.size by rw [stoSize OKS.out]; exact stoSz)
  have SZT := Lib.hid (show (Tryd.prog.info? 60).map (fun x => x.size) = some T.cells.toArray.size by rw [stoSize OKT.out]; exact stoSz)
  rw [← hS] at hdone
  have HS := Lib.hid hS
  have HT := Lib.hid hT
  have PK := Lib.hid (fun W => picked_toC x ((n : Int) + 1) k W hx1 hx2 (by omega) (Lib.hid hk))
  have hch : Hid (∀ (v : Value) (W : World), RdWishes W v L → Kn W → Calls Tryd.prog 37 #[v] W fun e w' => ∃ ov es, e = .returned (.tuple #[ov, .agg S.cells.toArray, .int .i64 0]) ∧ ChainPost W w' L (List.replicate 32 0) ov es) := Lib.hid (fun v W h1 h2 => by rw [HS.out]; exact Chain_any v L W h1 (fun c hc => (hLw.out c hc).2) (by omega) h2)
  have hch2 : Hid (∀ (v : Value) (W : World), RdWishes W v (L.take k) → Kn W → Calls Tryd.prog 37 #[v] W fun e w' => ∃ ov es, e = .returned (.tuple #[ov, .agg T.cells.toArray, .int .i64 0]) ∧ ChainPost W w' (L.take k) (List.replicate 32 0) ov es) := Lib.hid (fun v W h1 h2 => by rw [HT.out]; exact Chain_any v (L.take k) W h1 (fun c hc => (hLw.out c (List.mem_of_mem_take hc)).2) (by simp; omega) h2)
  have HN := Lib.hid hn
  have HLT : Hid ((L.take k).length = k) := Lib.hid (by simp; omega)
  clear hv hK hL hS hT few few1 few2 hk hn
  go_enter Tryd.func16, Tryd.ntmps16
  go_upto_region 2 with (first
    | (go_at_call 36; refine hdone.out.mono ?_; rintro e v0 ⟨cv, av, rfl, hoc, hoa, hb⟩; have BD0 := Lib.hid hb; have OC0 := Lib.hid hoc; clear hb hoc hoa)
    | (refine wpList_store_mid rfl 60 (.tmp 5) (.tmp 20) rfl v0.heap.size 0 S.cells.toArray rfl rfl ?_ SZS.out (stoOne _) ?_; (exact there_new _ _ _ _ (by rw [stoSize OKS.out]; rfl)); generalize hW : World.setCells _ _ _ _ = w1; have G0 := Lib.hid (stageB BD0.out hW (by rw [stoLen OKS.out]; rfl)); have G0a := Lib.hid (stageB (Below.refl v0.heap.size v0) hW (by rw [stoLen OKS.out]; rfl)); clear hW))
  have RC1 := Lib.hid (OC0.out.row.stay G0a.out.1)
  have SH := Lib.hid (ownsRow_shape OC0.out)
  clear OC0 BD0
  obtain ⟨ca, cc, rfl, hcl, hcm, -⟩ := id RC1.out
  rw [← HN.out] at RC1 SH hcl ⊢
  have hck := Lib.hid (hch.out _ w1 (RC1.out.wishes (fun c hc => (hLw.out c hc).1)) (HK.out.stay G0.out.1))
  clear hch
  have RCK := Lib.hid (RC1.out.first k hkn)
  go_upto_region 4 with (first
    | (go_at_call 23; refine (PK.out _).mono ?_; rintro e _ ⟨rfl, rfl⟩)
    | (go_at_call 37; refine hck.out.mono ?_; rintro e v1 ⟨ov, es, rfl, hp⟩; have CP := Lib.hid hp; clear hp)
    | (refine wpList_store_mid rfl 60 (.tmp 11) (.tmp 33) rfl v1.heap.size 0 S.cells.toArray rfl rfl ?_ SZS.out (stoOne _) ?_; (exact there_new _ _ _ _ (by rw [stoSize OKS.out]; rfl)); generalize hW : World.setCells _ _ _ _ = w2; have G1 := Lib.hid (stageB CP.out.below hW (by rw [stoLen OKS.out]; rfl)); have G1a := Lib.hid (stageB (Below.refl v1.heap.size v1) hW (by rw [stoLen OKS.out]; rfl)); clear hW))
  have RE2 := Lib.hid (CP.out.own.row.stay G1a.out.1)
  obtain ⟨ea, ec, rfl, -⟩ := id RE2.out
  have hEL := CP.out.len
  rw [hEL, ← HN.out] at RE2 ⊢
  have hck2 := Lib.hid (hch2.out _ w2 ((RCK.out.stay G1.out.1).wishes (fun c hc => (hLw.out c (List.mem_of_mem_take hc)).1)) ((HK.out.stay G0.out.1).stay G1.out.1))
  clear hch2 hck
  go_upto_region 5 with (first
    | (go_at_call 37; refine hck2.out.mono ?_; rintro e v2 ⟨ov, fs, rfl, hp⟩; have CQ := Lib.hid hp; clear hp)
    | (refine wpList_store_mid rfl 60 (.tmp 14) (.tmp 42) rfl v2.heap.size 0 T.cells.toArray rfl rfl ?_ SZT.out (stoOne _) ?_; (exact there_new _ _ _ _ (by rw [stoSize OKT.out]; rfl)); generalize hW : World.setCells _ _ _ _ = w3; have G2 := Lib.hid (stageB CQ.out.below hW (by rw [stoLen OKT.out]; rfl)); have G2a := Lib.hid (stageB (Below.refl v2.heap.size v2) hW (by rw [stoLen OKT.out]; rfl)); clear hW))
  have RF3 := Lib.hid (CQ.out.own.row.stay G2a.out.1)
  have RE3 := Lib.hid (RE2.out.stay G2.out.1)
  obtain ⟨fa, fc, rfl, -⟩ := id RF3.out
  have hFL := CQ.out.len
  rw [hFL, HLT.out] at RF3 ⊢
  have Y3 := Lib.hid (show Below w.heap.size w w3 from (G0.out.1.trans (G1.out.1.mono G0.out.1.size)).trans (G2.out.1.mono (Nat.le_trans G0.out.1.size G1.out.1.size)))
  have WH1 := Lib.hid (show ∀ i e, es[i]? = some e → e.what = L.getD i Cmd.zero ∧ e.ans = (Sto.zero.answers L).getD i (0, 0) ∧ Rd w3 e.sum ((Sto.zero.sums (List.replicate 32 0) L).getD i []) from fun i e he => by
    obtain ⟨q1, q2, q3, q4⟩ := CP.out.what i e he
    exact ⟨q1, q2, (q3.stay G1a.out.1).stay G2.out.1⟩)
  have WH2 := Lib.hid (show ∀ i e, fs[i]? = some e → e.what = (L.take k).getD i Cmd.zero ∧ e.ans = (Sto.zero.answers (L.take k)).getD i (0, 0) ∧ Rd w3 e.sum ((Sto.zero.sums (List.replicate 32 0) (L.take k)).getD i []) from fun i e he => by
    obtain ⟨q1, q2, q3, q4⟩ := CQ.out.what i e he
    exact ⟨q1, q2, q3.stay G2a.out.1⟩)
  have LE1 := Lib.hid (show es.length = n by rw [CP.out.len, ← HN.out])
  have LE2 := Lib.hid (show fs.length = k by rw [CQ.out.len, HLT.out])
  clear RE2 RC1 RCK G0 G0a G1 G1a G2 G2a CP CQ hck2 hdone HK SH hEL hFL PK
  go_upto_region 8 with fail
  go_loopw [16] (fun i wr => ∃ j : Nat, j ≤ k ∧ i = .int .i64 j ∧ ∃ m, wr = w3.drewN m) (fun i _ => k - (intOf i).toNat)
  case atStart => exact ⟨0, by omega, rfl, 0, rfl⟩
  case round =>
    obtain ⟨j, hj, rfl, nm, rfl⟩ := hrel
    by_cases h1 : j < k
    · have hd1 : decide ((j : Int) < k) = true := by rw [decide_eq_true_eq]; omega
      have hd1n : decide (j < k) = true := by rw [decide_eq_true_eq]; omega
      obtain ⟨eb, eoff, rfl, hel, hec⟩ := RE3.out.cells.2.2 j (by omega)
      obtain ⟨fb, foff, rfl, hfl, hfc⟩ := RF3.out.cells.2.2 j h1
      have hget : es[j]? = some (es.getD j ⟨Cmd.zero, (0, 0), .slice none 0 0⟩) := by
        have : j < es.length := by rw [LE1.out]; omega
        rw [List.getD_eq_getElem?_getD, List.getElem?_eq_getElem this]; rfl
      have hgef : fs[j]? = some (fs.getD j ⟨Cmd.zero, (0, 0), .slice none 0 0⟩) := by
        have : j < fs.length := by rw [LE2.out]; omega
        rw [List.getD_eq_getElem?_getD, List.getElem?_eq_getElem this]; rfl
      obtain ⟨q1, q2, q3⟩ := WH1.out j _ hget
      obtain ⟨r1, r2, r3⟩ := WH2.out j _ hgef
      rw [getD_take _ _ _ _ h1] at r1
      rw [answers_take, getD_take _ _ _ _ h1] at r2
      rw [sums_take, getD_take _ _ _ _ h1] at r3
      obtain ⟨e, he⟩ : ∃ e, e = es.getD j ⟨Cmd.zero, (0, 0), .slice none 0 0⟩ := ⟨_, rfl⟩
      obtain ⟨f, hf⟩ : ∃ e, e = fs.getD j ⟨Cmd.zero, (0, 0), .slice none 0 0⟩ := ⟨_, rfl⟩
      rw [← he] at q1 q2 q3 hec
      rw [← hf] at r1 r2 r3 hfc
      obtain ⟨c, an, sv⟩ := e
      obtain ⟨c', an', sv'⟩ := f
      dsimp only at q1 q2 q3 r1 r2 r3
      obtain rfl : c' = c := r1.trans q1.symm
      obtain rfl : an' = an := r2.trans q2.symm
      obtain ⟨x0, x1, x2, x3, x4, x5, x6, x7⟩ := cellsE hec
      obtain ⟨y0, y1, y2, y3, y4, y5, y6, y7⟩ := cellsE hfc
      dsimp only at x0 x1 x2 x3 x4 x5 x6 x7 y0 y1 y2 y3 y4 y5 y6 y7
      have HSM := Lib.hid (fun m => quiet_of2_same (n0 := nm) (n := m) (same_trueR sv sv' _ _ (w3.drewN (nm + m)) (q3.drewN _) (r3.drewN _) rfl))
      clear hec hfc he hf q1 q2 q3 r1 r2 r3 hget hgef
      go_wp2_with fail
      refine wp_region_quiet_lit (by kernel_rfl) (by kernel_rfl) ?_
      repeat (go_big_quiet_step ((go_at_call 26; refine HSM.out _)))
      refine wpQuiet_nil ?_
      intro w9 hw9
      obtain ⟨nq, rfl⟩ := hw9
      go_wp2_with fail
      go_roundw
      case rel => exact ⟨j + 1, by omega, by go_num, _, by first | rfl | exact World.drewN_drewN _ _ _⟩
      case measure => simp [intOf]; omega
    · have hd1 : decide ((j : Int) < k) = false := by rw [decide_eq_false_iff_not]; omega
      have hd1n : decide (j < k) = false := by rw [decide_eq_false_iff_not]; omega
      go_wp2_with fail
      go_ret
      exact ⟨rfl, below_drewN Y3.out nm⟩
end Go.Proofs.YtdjnbnbhpjiicaaDoor
