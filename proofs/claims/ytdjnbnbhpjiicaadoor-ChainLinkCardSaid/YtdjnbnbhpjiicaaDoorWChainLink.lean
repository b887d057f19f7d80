/-
  The walk of ChainLink.
-/
import Derived.Test.YtdjnbnbhpjiicaaDoorChC
import Derived.Test.YtdjnbnbhpjiicaaDoorJoin
set_option linter.unusedVariables false
set_option linter.unusedSimpArgs false
namespace Go.Proofs.YtdjnbnbhpjiicaaDoor
open Go.RowKit Go.Con
theorem newB8n (W : World) (c n : Int) (h0 : 0 ≤ c) (h1 : c < 256) (h2 : 0 ≤ n) :
    Rd (W.alloc (.cells #[.int .u8 0, .int .u8 0, .int .u8 0, .int .u8 (c % 256), .int .u8 (n / 16777216 % 256), .int .u8 (n / 65536 % 256), .int .u8 (n / 256 % 256), .int .u8 (n % 256)] 5)) (.slice (some ⟨W.heap.size, 0, none⟩) 8 8) (fourB c.toNat ++ fourB n.toNat) := by
  rw [raw24 n h2, raw16 n h2, raw8 n h2, raw0 n h2, raw0 c h0]
  obtain ⟨m, rfl⟩ := Int.eq_ofNat_of_zero_le h0
  have e1 : m / 16777216 = 0 := Nat.div_eq_of_lt (by omega)
  have e2 : m / 65536 = 0 := Nat.div_eq_of_lt (by omega)
  have e3 : m / 256 = 0 := Nat.div_eq_of_lt (by omega)
  have h := Rd.newRow W (fourB m ++ fourB n.toNat) 8 rfl (by simp [maxLen, fourB])
  rw [show ((m : Int).toNat) = m from rfl]
  simp only [fourB, e1, e2, e3, List.cons_append, List.nil_append, List.map_cons, List.map_nil] at h ⊢
  exact h
set_option maxRecDepth 100000 in
set_option maxHeartbeats 2000000 in
theorem walk_ChainLink (v : Value) (l : List Cmd) (w : World) (hv : RdWishes w v l) (hK : Kn w) :
    Calls Tryd.prog 17 #[v] w fun e w' => e = .returned (.bool true) ∧ Below w.heap.size w w' := by
  have hdone := Lib.hid (done_any v l 20 w hv (by decide))
  obtain ⟨L, hL⟩ : ∃ L, L = (l.take 20).map cmdOf := ⟨_, rfl⟩
  have hLl : L.length ≤ 20 := by rw [hL]; simp; omega
  have hLw := Lib.hid (cmdOf_wishes l 20)
  rw [← hL] at hdone hLw
  have HK := Lib.hid hK
  obtain ⟨S, hS⟩ : ∃ S, S = Sto.zero.all L := ⟨_, rfl⟩
  have few : ∀ m, (Sto.zero.all (L.take m)).Few := fun m => Sto.all_few _ Sto.zero_few _ (fun c hc => by rw [hL] at hc; obtain ⟨y, _, rfl⟩ := List.mem_map.1 (List.mem_of_mem_take hc); exact (cmdOf_few y).1)
  obtain ⟨n, hn⟩ : ∃ n, n = L.length := ⟨_, rfl⟩
  rw [← hn] at hLl
  have few1 : S.Few := by have := few n; rw [hn, List.take_length] at this; rw [hS]; exact this
  have OKS := Lib.hid few1.ok
  have FEW := Lib.hid few
  have SZS := Lib.hid (show (Tryd.prog.info? 60).map (fun x => x.size) = some S.cells.toArray.size by rw [stoSize OKS.out]; exact stoSz)
  rw [← hS] at hdone
  have HS := Lib.hid hS
  obtain ⟨z32, hz⟩ : ∃ z, z = List.replicate 32 (0 : UInt8) := ⟨_, rfl⟩
  have hch : Hid (∀ (v : Value) (W : World), RdWishes W v L → Kn W → Calls Tryd.prog 37 #[v] W fun e w' => ∃ ov es, e = .returned (.tuple #[ov, .agg S.cells.toArray, .int .i64 0]) ∧ ChainPost W w' L z32 ov es) := Lib.hid (fun v W h1 h2 => by rw [HS.out, hz]; exact Chain_any v L W h1 (fun c hc => (hLw.out c hc).2) (by omega) h2)
  have HZ := Lib.hid hz
  have HZL := Lib.hid (show z32.length = 32 by rw [hz]; rfl)
  have HN := Lib.hid hn
  clear hv hK hL hS few few1 hn hz
  have hmk : ∀ W : World, (Instr.makeSlice 35 (.int .i64 32) (.int .i64 32)).run Tryd.prog W = .ok (.slice (some ⟨W.heap.size, 0, none⟩) 32 32) (W.alloc (.cells (Array.replicate 32 (.int .u8 0)) 5)) := fun _ => by kernel_rfl
  go_enter Tryd.func17, Tryd.ntmps17
  go_upto_region 2 with (first
    | (go_at_call 36; refine hdone.out.mono ?_; rintro e v0 ⟨cv, av, rfl, hoc, hoa, hb⟩; have BD0 := Lib.hid hb; have RC0 := Lib.hid hoc.row; clear hb hoc hoa)
    | (refine wpList_store_mid rfl 60 (.tmp 3) (.tmp 20) rfl v0.heap.size 0 S.cells.toArray rfl rfl ?_ SZS.out (stoOne _) ?_; (exact there_new _ _ _ _ (by rw [stoSize OKS.out]; rfl)); generalize hW : World.setCells _ _ _ _ = w1; have G0 := Lib.hid (stageB BD0.out hW (by rw [stoLen OKS.out]; rfl)); have G0a := Lib.hid (stageB (Below.refl v0.heap.size v0) hW (by rw [stoLen OKS.out]; rfl)); clear hW))
  have RC1 := Lib.hid (RC0.out.stay G0a.out.1)
  clear RC0 BD0
  obtain ⟨ca, cc, rfl, -⟩ := id RC1.out
  rw [← HN.out] at RC1 ⊢
  have hck := Lib.hid (hch.out _ w1 (RC1.out.wishes (fun c hc => (hLw.out c hc).1)) (HK.out.stay G0.out.1))
  clear hch
  go_upto_region 3 with (first
    | (go_at_call 37; refine hck.out.mono ?_; rintro e v1 ⟨ov, es, rfl, hp⟩; have CP := Lib.hid hp; clear hp)
    | (refine wpList_store_mid rfl 60 (.tmp 8) (.tmp 28) rfl v1.heap.size 0 S.cells.toArray rfl rfl ?_ SZS.out (stoOne _) ?_; (exact there_new _ _ _ _ (by rw [stoSize OKS.out]; rfl)); generalize hW : World.setCells _ _ _ _ = w2; have G1 := Lib.hid (stageB CP.out.below hW (by rw [stoLen OKS.out]; rfl)); have G1a := Lib.hid (stageB (Below.refl v1.heap.size v1) hW (by rw [stoLen OKS.out]; rfl)); clear hW))
  have RE2 := Lib.hid (CP.out.own.row.stay G1a.out.1)
  obtain ⟨ea, ec, rfl, -⟩ := id RE2.out
  have hEL := CP.out.len
  rw [hEL, ← HN.out] at RE2 ⊢
  have WH1 := Lib.hid (show ∀ i e, es[i]? = some e → e.what = L.getD i Cmd.zero ∧ e.ans = (Sto.zero.answers L).getD i (0, 0) ∧ Rd w2 e.sum ((Sto.zero.sums z32 L).getD i []) from fun i e he => by
    obtain ⟨q1, q2, q3, q4⟩ := CP.out.what i e he
    exact ⟨q1, q2, q3.stay G1a.out.1⟩)
  have LE1 := Lib.hid (show es.length = n by rw [CP.out.len, ← HN.out])
  have Y2 := Lib.hid (show Below w.heap.size w w2 from G0.out.1.trans (G1.out.1.mono G0.out.1.size))
  clear RC1 G0 G0a G1 G1a CP hck hdone hEL
  go_upto_region 7 with fail
  generalize hW : World.alloc _ _ = w3
  have B23 := Lib.hid (show Below w2.heap.size w2 w3 by rw [← hW]; exact (Below.refl _ _).alloc (Nat.le_refl _) _)
  have RZ3 : Hid (Rd w3 (.slice (some ⟨w2.heap.size, 0, none⟩) 32 32) z32) := Lib.hid (by rw [← hW, HZ.out]; exact Rd.newRow w2 (List.replicate 32 0) 32 rfl (by simp [maxLen]))
  replace Y2 := Lib.hid (Y2.out.trans (B23.out.mono Y2.out.size))
  replace RE2 := Lib.hid (RE2.out.stay B23.out)
  replace WH1 := Lib.hid (show ∀ i e, es[i]? = some e → e.what = L.getD i Cmd.zero ∧ e.ans = (Sto.zero.answers L).getD i (0, 0) ∧ Rd w3 e.sum ((Sto.zero.sums z32 L).getD i []) from fun i e he => by
    obtain ⟨q1, q2, q3⟩ := WH1.out i e he
    exact ⟨q1, q2, q3.stay B23.out⟩)
  clear hW hmk B23
  go_loopw [10, 11] (fun bv i wr => ∃ j : Nat, j ≤ n ∧ i = .int .i64 j ∧ Hid (Below w3.heap.size w3 wr) ∧ Hid (Rd wr bv (Sto.zero.tip z32 (L.take j)))) (fun _ i _ => n - (intOf i).toNat)
  case atStart => exact ⟨0, by omega, rfl, Lib.hid (Below.refl _ _), RZ3⟩
  case round =>
    obtain ⟨j, hj, rfl, BB, RB⟩ := hrel
    by_cases h1 : j < n
    · have hd1 : decide ((j : Int) < n) = true := by rw [decide_eq_true_eq]; omega
      have hd1n : decide (j < n) = true := by rw [decide_eq_true_eq]; omega
      have hjl : j < L.length := by have := HN.out; omega
      obtain ⟨eb, eoff, rfl, hel, hec⟩ := RE2.out.cells.2.2 j h1
      have hget : es[j]? = some (es.getD j ⟨Cmd.zero, (0, 0), .slice none 0 0⟩) := by
        have : j < es.length := by rw [LE1.out]; omega
        rw [List.getD_eq_getElem?_getD, List.getElem?_eq_getElem this]; rfl
      obtain ⟨q1, q2, q3⟩ := WH1.out j _ hget
      have hmem : L.getD j Cmd.zero ∈ L := by rw [getD_lt _ _ _ hjl]; exact List.getElem_mem _
      have hck := (hLw.out _ hmem).2
      have hokj : (Sto.zero.all (L.take j)).Ok := (FEW.out j).ok
      have hnn := Sto.answer_nonneg _ hokj _ hck
      have hcd := Sto.answer_code _ hokj _ hck
      have hsum := sums_at Sto.zero z32 L j hjl
      have htip := tip_at Sto.zero z32 L j hjl
      rw [← answers_at Sto.zero L j hjl] at hnn hcd
      rw [← q2] at hsum hnn hcd
      rw [← q1] at hsum hck
      obtain ⟨tp, htp⟩ : ∃ t, t = Sto.zero.tip z32 (L.take j) := ⟨_, rfl⟩
      rw [← htp] at hsum RB
      have htl : tp.length = 32 := by rw [htp]; exact Sto.tip_length _ _ HZL.out _
      rw [hsum] at q3 htip
      obtain ⟨e, he⟩ : ∃ e, e = es.getD j ⟨Cmd.zero, (0, 0), .slice none 0 0⟩ := ⟨_, rfl⟩
      rw [← he] at q3 hec htip hnn hcd hck
      obtain ⟨⟨ck, ccl, csq, cnm, cvl⟩, ⟨a0, a1⟩, sv⟩ := e
      obtain ⟨bb, bo, bc, rfl, hb32, hbm⟩ := RB.out.shapeN 32 htl (by decide)
      obtain ⟨EC, hEC⟩ : ∃ EC, EC = encC ⟨ck, ccl, csq, cnm, cvl⟩ := ⟨_, rfl⟩
      have hEl : EC.length = 20 := by rw [hEC]; rfl
      have hen := fun w => Encode_ok ⟨ck, ccl, csq, cnm, cvl⟩ w hck
      rw [← hEC] at hen
      unfold linkB at htip q3
      dsimp only at htip q3 hnn hcd
      rw [← hEC] at htip q3
      unfold cmdV at hen
      dsimp only at hen
      obtain ⟨R, hR⟩ : ∃ R, R = Sha.sum (((tp ++ EC) ++ fourB a0.toNat) ++ fourB a1.toNat) := ⟨_, rfl⟩
      rw [← hR] at htip q3
      have hRl : R.length = 32 := by rw [hR]; exact Sha.sum_length _
      have EWR := Lib.hid (show ∀ W, Below wr.heap.size wr W → ∀ i, i < 8 → W.cell? ⟨eb, eoff + (8 * j + i), none⟩ = (entCells ⟨⟨ck, ccl, csq, cnm, cvl⟩, (a0, a1), sv⟩)[i]? from fun W hW i hi => by
        rw [← hec i hi]
        exact World.cell?_of_block (w := w3) ((hW.block eb (Nat.lt_of_lt_of_le hel BB.out.size)).trans (BB.out.block eb hel)))
      obtain ⟨x0, x1, x2, x3, x4, -⟩ := cellsE (EWR.out wr (Below.refl _ _))
      dsimp only at x0 x1 x2 x3 x4
      have HEN := Lib.hid hen
      have Q3 := Lib.hid q3
      have TIP := Lib.hid htip
      have HNN := Lib.hid hnn
      have HCD := Lib.hid hcd
      have HEL := Lib.hid hEl
      have HTL := Lib.hid htl
      have HR := Lib.hid hR
      have HRL := Lib.hid hRl
      clear hec hget hmem hck hokj hnn hcd hsum htip htp htl he hEC hEl hen q1 q2 q3 hR hRl
      go_upto_region 10 with (go_at_call 39; refine (HEN.out _).mono ?_; rintro e w4 ⟨ve, rfl, hoe, hb4⟩; have OE := Lib.hid hoe.rd; have B4 := Lib.hid hb4; clear hoe hb4)
      clear x0 x1 x2 x3 x4
      obtain ⟨vea, vec, rfl, -, -⟩ := OE.out.sliceN 20 HEL.out
      obtain ⟨-, -, -, -, -, x5, x6, -⟩ := cellsE (EWR.out w4 B4.out)
      dsimp only at x5 x6
      have n0 := HNN.out.1
      have n1 := HNN.out.2
      have RB4 := Lib.hid (RB.out.stay B4.out)
      have DW := Lib.hid (fun W => newB8n W a0 a1 n0 HCD.out n1)
      have KW := Lib.hid (HK.out.stay ((Y2.out.trans (BB.out.mono Y2.out.size)).trans (B4.out.mono (Nat.le_trans Y2.out.size BB.out.size))))
      go_upto_region 12 with (first
        | (go_at_call 32; refine (joined3b _ _ _ _ _ tp EC (fourB a0.toNat ++ fourB a1.toNat) (by simp) (RB4.out.alloc _) (OE.out.alloc _) (DW.out _) (by rw [HTL.out]; decide) (by rw [HEL.out]; decide) (by simp [fourB])).mono ?_; rintro e w5 ⟨vj, rfl, hoj, hb5⟩; have OJ := Lib.hid hoj.rd; have B5 := Lib.hid (show Below w4.heap.size w4 w5 from (((Below.refl _ _).alloc (Nat.le_refl _) _).alloc (by simp) _).trans (hb5.mono (by simp; omega))); clear hoj hb5)
        | (go_at_call 25; refine (Sum_ok _ _ w5 OJ.out (by simp [HTL.out, HEL.out, fourB]) (KW.out.stay B5.out)).mono ?_; rintro e w6 ⟨v6, rfl, ho6, hb6⟩; have O6 := Lib.hid ho6; have B6 := Lib.hid hb6; clear ho6 hb6))
      clear x5 x6
      have hR6 := O6.out.rd
      rw [show Sha.sum (tp ++ (EC ++ (fourB a0.toNat ++ fourB a1.toNat))) = R by rw [HR.out]; simp only [List.append_assoc]] at hR6
      have R6 := Lib.hid hR6
      clear hR6
      obtain ⟨sa, sc, rfl, -, -⟩ := R6.out.sliceN 32 HRL.out
      have B46 := Lib.hid (B5.out.trans (B6.out.mono B5.out.size))
      have BW6 := Lib.hid (B4.out.trans (B46.out.mono B4.out.size))
      obtain ⟨-, -, -, -, -, -, -, x7⟩ := cellsE (EWR.out w6 BW6.out)
      dsimp only at x7
      have Q6 := Lib.hid ((Q3.out.stay BB.out).stay BW6.out)
      go_wp2_with (go_at_call 26; refine (same_true _ _ _ _ w6 R6.out Q6.out rfl).mono ?_; rintro e _ ⟨rfl, rfl⟩)
      go_roundw
      case rel => exact ⟨j + 1, by omega, by go_num, Lib.hid (BB.out.trans (BW6.out.mono BB.out.size)), Lib.hid (by rw [TIP.out]; exact R6.out)⟩
      case measure => simp [intOf]; omega
    · have hd1 : decide ((j : Int) < n) = false := by rw [decide_eq_false_iff_not]; omega
      have hd1n : decide (j < n) = false := by rw [decide_eq_false_iff_not]; omega
      go_wp2_with (go_at_call 38; refine (stoCheck_bad _).mono ?_; rintro e w9 ⟨rfl, hb9⟩)
      go_ret
      exact ⟨rfl, (Y2.out.trans (BB.out.mono Y2.out.size)).trans (hb9.mono (Nat.le_trans Y2.out.size BB.out.size))⟩
end Go.Proofs.YtdjnbnbhpjiicaaDoor
