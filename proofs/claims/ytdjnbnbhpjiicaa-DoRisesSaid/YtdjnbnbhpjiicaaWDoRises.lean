/-
  The walk of DoRises (written by laws_do.py).
-/
import Derived.Test.YtdjnbnbhpjiicaaDoG
set_option linter.unusedVariables false
set_option linter.unusedSimpArgs false
namespace Go.Proofs.Ytdjnbnbhpjiicaa
open Go.RowKit Go.Con
set_option maxRecDepth 100000 in
set_option maxHeartbeats 2000000 in
theorem walk_DoRises (v : Value) (l : List Cmd) (u0 : Value) (x : Cmd) (w : World) (hv : RdWishes w v l) (hu : IsWish u0 x) :
    Calls Try.prog 12 #[v, u0] w fun e w' => e = .returned (.bool true) ∧ Below w.heap.size w w' := by
  obtain ⟨rfl, hx⟩ := hu
  unfold cmdV
  have hdone := Lib.hid (fun W hv => done40 v l W hv)
  obtain ⟨S, hS⟩ : ∃ S, S = Sto.zero.all ((l.take 40).map cmdOf) := ⟨_, rfl⟩
  have few : S.Few := by rw [hS]; exact Sto.all_few _ Sto.zero_few _ (fun c hc => by obtain ⟨y, _, rfl⟩ := List.mem_map.1 hc; exact (cmdOf_few y).1)
  have OKS := Lib.hid few.ok
  have LENS := Lib.hid (show (Try.prog.info? 48).map (fun x => x.size) = some S.cells.length by rw [stoLen OKS.out]; exact stoSz)
  have SZS := Lib.hid (show (Try.prog.info? 48).map (fun x => x.size) = some S.cells.toArray.size by rw [stoSize OKS.out]; exact stoSz)
  have nums := cmdOf_nums x
  obtain ⟨k, cl, sq, nm, vl, hco⟩ : ∃ k cl sq nm vl, cmdOf x = ⟨k, cl, sq, nm, vl⟩ := ⟨_, _, _, _, _, rfl⟩
  rw [hco] at nums
  have HCMD : Hid (∀ W, Calls Try.prog 17 #[.agg #[.int .i64 x.kind, .int .i64 x.client, .int .i64 x.seq, .int .i64 x.name, .int .i64 x.value]] W fun e w' => e = .returned (.agg #[.int .i64 k, .int .i64 cl, .int .i64 sq, .int .i64 nm, .int .i64 vl]) ∧ Below W.heap.size W w') := Lib.hid (fun W => by have hh := Command_any x W hx; rw [hco] at hh; exact hh)
  obtain ⟨c, hc⟩ : ∃ c : Nat, cl = c := ⟨cl.toNat, by have h0 : 0 ≤ cl := nums.c0; omega⟩
  subst hc
  have hc4 : c < 4 := by have h0 : (c : Int) < 4 := nums.c4; omega
  obtain ⟨re, hckD1⟩ := nums.real c sq nm (by omega) (by omega) nums.s0 (by have h1 : sq < 6 := nums.s6; omega) nums.n0 (by have h1 : nm < 4 := nums.n4; omega)
  have hri := fun i hi => rises_law few re hckD1 i hi
  have hrl : (S.answer ⟨k, c, sq, nm, vl⟩).1 = 0 → sq < (S.next ⟨k, c, sq, nm, vl⟩).last c := fun h => rises_last few re hckD1 h
  obtain ⟨T, hSD1⟩ : ∃ t : Sto, t = S.next ⟨k, c, sq, nm, vl⟩ := ⟨_, rfl⟩
  try rw [← hSD1] at hri
  try rw [← hSD1] at hrl
  have OKT : Hid T.Ok := Lib.hid (by rw [hSD1]; exact S.next_ok OKS.out _ hckD1)
  have LENT := Lib.hid (show (Try.prog.info? 48).map (fun x => x.size) = some T.cells.length by rw [stoLen OKT.out]; exact stoSz)
  have SZT := Lib.hid (show (Try.prog.info? 48).map (fun x => x.size) = some T.cells.toArray.size by rw [stoSize OKT.out]; exact stoSz)
  obtain ⟨p0, p1, hAD1⟩ : ∃ p0 p1, S.answer ⟨k, c, sq, nm, vl⟩ = (p0, p1) := ⟨_, _, rfl⟩
  rw [hAD1] at hrl
  have D1 : Hid (∀ W, Calls Try.prog 21 #[.agg S.cells.toArray, .agg #[.int .i64 k, .int .i64 c, .int .i64 sq, .int .i64 nm, .int .i64 vl]] W fun e w' => e = .returned (.tuple #[.agg T.cells.toArray, .agg #[.int .i64 p0, .int .i64 p1], .int .i64 0]) ∧ Below W.heap.size W w') := Lib.hid (fun W => by have hh := Do_any S OKS.out ⟨k, c, sq, nm, vl⟩ hckD1 W; rw [← hSD1, hAD1] at hh; exact hh)
  have HRI : Hid (∀ i, i < 8 → S.last i ≤ T.last i ∧ (S.rev i = true → T.rev i = true) ∧ ((i : Int) ≠ (c : Int) → T.last i = S.last i ∧ T.code i = S.code i ∧ T.aval i = S.aval i)) := Lib.hid hri
  have HRL : Hid (p0 = 0 → sq < T.last c) := Lib.hid hrl
  have HV := Lib.hid hv
  have HS := Lib.hid hS
  clear hv hS few nums hco hckD1 re hri hrl hAD1 hSD1 hx
  have Y : Hid (Below w.heap.size w w) := Lib.hid (Below.refl _ _)
  go_enter Try.func12, Try.ntmps12
  have hboxed : ∀ o, RdWishes (w.alloc o) v l := fun o => HV.out.alloc o
  go_upto_region 2 with (first
    | (go_at_call 20; refine (hdone.out _ (hboxed _)).mono ?_; rintro e v0 ⟨cv, av, rfl, -, -, hb⟩; rw [← HS.out]; have BD0 := Lib.hid hb; clear hb)
    | (refine wpList_store_mid rfl 48 (.tmp 5) (.tmp 17) rfl v0.heap.size 0 S.cells.toArray rfl rfl ?_ SZS.out (stoOne _) ?_; (exact there_new _ _ _ _ (by rw [stoSize OKS.out]; rfl)); generalize hW : World.setCells _ _ _ _ = w1; have G0 := Lib.hid (stageB BD0.out hW (by rw [stoLen OKS.out]; rfl)); clear hW))
  have XW : Hid (w1.heap[w.heap.size]? = some (.cells #[.int .i64 x.kind, .int .i64 x.client, .int .i64 x.seq, .int .i64 x.name, .int .i64 x.value] 28 (0, 0))) := Lib.hid ((G0.out.1.block w.heap.size (by simp)).trans (heapNew w _))
  replace Y : Hid (Below w.heap.size w w1) := Lib.hid (((Below.refl w.heap.size w).alloc (Nat.le_refl _) _).trans (G0.out.1.mono (by simp)))
  have Xs : Hid (w1.heap[v0.heap.size]? = some (.cells S.cells.toArray 48 (0, 0))) := Lib.hid (G0.out.2)
  clear G0 BD0 hboxed
  have cW_0 : w1.cell? ⟨w.heap.size, 0, none⟩ = some (.int .i64 x.kind) := cellAt XW.out 0 rfl
  have cW_1 : w1.cell? ⟨w.heap.size, 1, none⟩ = some (.int .i64 x.client) := cellAt XW.out 1 rfl
  have cW_2 : w1.cell? ⟨w.heap.size, 2, none⟩ = some (.int .i64 x.seq) := cellAt XW.out 2 rfl
  have cW_3 : w1.cell? ⟨w.heap.size, 3, none⟩ = some (.int .i64 x.name) := cellAt XW.out 3 rfl
  have cW_4 : w1.cell? ⟨w.heap.size, 4, none⟩ = some (.int .i64 x.value) := cellAt XW.out 4 rfl
  have fW := freeAt XW.out
  have RGs := Lib.hid (range_of Xs.out)
  go_upto_region 3 with (first
    | (go_at_call 17; refine (HCMD.out _).mono ?_; rintro e v1 ⟨rfl, hb⟩; have BD1 := Lib.hid hb; clear hb)
    | (go_at_call 15; refine (picked_any _ _ _ (by assumption) (by assumption) (by decide)).mono ?_; rintro e w9 ⟨rfl, rfl⟩))
  generalize hW : World.alloc _ _ = w2
  have GF := Lib.hid (stageC BD1.out hW)
  clear hW
  clear cW_0 cW_1 cW_2 cW_3 cW_4 fW RGs
  have ge1 := GF.out.2.2
  have NWc : Hid (w.heap.size ≠ v1.heap.size) := Lib.hid (by have h1 := lt_of_heap XW.out; omega)
  have Nsc : Hid (v0.heap.size ≠ v1.heap.size) := Lib.hid (by have h1 := lt_of_heap Xs.out; omega)
  have Lc : Hid (w.heap.size ≤ v1.heap.size) := Lib.hid (Nat.le_trans Y.out.size ge1)
  have hrel := GF.out.1
  have xW : w2.heap[w.heap.size]? = some (.cells #[.int .i64 x.kind, .int .i64 x.client, .int .i64 x.seq, .int .i64 x.name, .int .i64 x.value] 28 (0, 0)) := (hrel.block (w.heap.size) (lt_of_heap XW.out)).trans XW.out
  have xs : w2.heap[v0.heap.size]? = some (.cells S.cells.toArray 48 (0, 0)) := (hrel.block (v0.heap.size) (lt_of_heap Xs.out)).trans Xs.out
  replace XW := Lib.hid xW
  clear xW
  replace Xs := Lib.hid xs
  clear xs
  replace Y := Lib.hid (Y.out.trans (hrel.mono Y.out.size))
  clear hrel
  have Xc : Hid (w2.heap[v1.heap.size]? = some (.cells #[.int .i64 k, .int .i64 c, .int .i64 sq, .int .i64 nm, .int .i64 vl] 29 (0, 0))) := Lib.hid (GF.out.2.1)
  clear GF BD1 ge1
  have cW_0 : w2.cell? ⟨w.heap.size, 0, none⟩ = some (.int .i64 x.kind) := cellAt XW.out 0 rfl
  have cW_1 : w2.cell? ⟨w.heap.size, 1, none⟩ = some (.int .i64 x.client) := cellAt XW.out 1 rfl
  have cW_2 : w2.cell? ⟨w.heap.size, 2, none⟩ = some (.int .i64 x.seq) := cellAt XW.out 2 rfl
  have cW_3 : w2.cell? ⟨w.heap.size, 3, none⟩ = some (.int .i64 x.name) := cellAt XW.out 3 rfl
  have cW_4 : w2.cell? ⟨w.heap.size, 4, none⟩ = some (.int .i64 x.value) := cellAt XW.out 4 rfl
  have fW := freeAt XW.out
  have RGs := Lib.hid (range_of Xs.out)
  have cc_0 : w2.cell? ⟨v1.heap.size, 0, none⟩ = some (.int .i64 k) := cellAt Xc.out 0 rfl
  have cc_1 : w2.cell? ⟨v1.heap.size, 1, none⟩ = some (.int .i64 c) := cellAt Xc.out 1 rfl
  have cc_2 : w2.cell? ⟨v1.heap.size, 2, none⟩ = some (.int .i64 sq) := cellAt Xc.out 2 rfl
  have cc_3 : w2.cell? ⟨v1.heap.size, 3, none⟩ = some (.int .i64 nm) := cellAt Xc.out 3 rfl
  have cc_4 : w2.cell? ⟨v1.heap.size, 4, none⟩ = some (.int .i64 vl) := cellAt Xc.out 4 rfl
  have fc := freeAt Xc.out
  go_upto_region 4 with (first
    | (go_at_call 21; refine (D1.out _).mono ?_; rintro e v2 ⟨rfl, hb⟩; have BD2 := Lib.hid hb; clear hb)
    | (refine wpList_load_mid rfl 48 (.tmp 5) rfl (v0.heap.size) 0 rfl S.cells _ ?_ Try.underlying48 rfl LENS.out ?_; (with_reducible exact RGs.out))
    | (refine wpList_store_mid rfl 48 (.tmp 10) (.tmp 27) rfl v2.heap.size 0 T.cells.toArray rfl rfl ?_ SZT.out (stoOne _) ?_; (exact there_new0 _ _ _ _ _ (by rw [stoSize OKT.out]; rfl)); generalize hW : World.setCells _ _ _ _ = y2; have GE2 := Lib.hid (stageE BD2.out hW (by rw [stoLen OKT.out]; rfl)); have z0 := cellAt GE2.out.2.2.1 0 rfl; have z1 := cellAt GE2.out.2.2.1 1 rfl; have zf := freeAt GE2.out.2.2.1; clear hW))
  generalize hW : World.setCell _ _ _ = w3
  have GF := Lib.hid (stageF GE2.out hW)
  clear hW z0 z1 zf
  clear cW_0 cW_1 cW_2 cW_3 cW_4 fW RGs cc_0 cc_1 cc_2 cc_3 cc_4 fc
  have ol2 : w2.heap.size ≤ v2.heap.size := GF.out.2.2.2.2
  have Nxc : Hid (v2.heap.size ≠ v1.heap.size) := Lib.hid (by have h1 := lt_of_heap Xc.out; omega)
  have Nac : Hid (v2.heap.size + 1 ≠ v1.heap.size) := Lib.hid (by have h1 := lt_of_heap Xc.out; omega)
  have hrel := GF.out.1
  have xW : w3.heap[w.heap.size]? = some (.cells #[.int .i64 x.kind, .int .i64 x.client, .int .i64 x.seq, .int .i64 x.name, .int .i64 x.value] 28 (0, 0)) := (hrel.block (w.heap.size) (lt_of_heap XW.out)).trans XW.out
  have xs : w3.heap[v0.heap.size]? = some (.cells S.cells.toArray 48 (0, 0)) := (hrel.block (v0.heap.size) (lt_of_heap Xs.out)).trans Xs.out
  have xc : w3.heap[v1.heap.size]? = some (.cells #[.int .i64 k, .int .i64 c, .int .i64 sq, .int .i64 nm, .int .i64 vl] 29 (0, 0)) := (hrel.block (v1.heap.size) (lt_of_heap Xc.out)).trans Xc.out
  replace XW := Lib.hid xW
  clear xW
  replace Xs := Lib.hid xs
  clear xs
  replace Xc := Lib.hid xc
  clear xc
  replace Y := Lib.hid (Y.out.trans (hrel.mono Y.out.size))
  clear hrel
  have Xx : Hid (w3.heap[v2.heap.size]? = some (.cells T.cells.toArray 48 (0, 0))) := Lib.hid (GF.out.2.1)
  have Xa : Hid (w3.heap[v2.heap.size + 1]? = some (.cells #[.int .i64 p0, .int .i64 p1] 44 (0, 0))) := Lib.hid (GF.out.2.2.1)
  clear GF GE2 BD2 ol2
  go_wp2_with fail
  go_loopw [13] (fun i wr => ∃ j : Nat, j ≤ 8 ∧ i = .int .i64 j ∧ ∃ n, wr = w3.drewN n) (fun i _ => 8 - (intOf i).toNat)
  case atStart => exact ⟨0, by omega, rfl, 0, rfl⟩
  case round =>
    obtain ⟨j, hj, rfl, n, rfl⟩ := hrel
    by_cases hlt : j < 8
    · have hd : decide ((j : Int) ≤ 7) = true := by rw [decide_eq_true_eq]; omega
      have hdn : decide (j ≤ 7) = true := by rw [decide_eq_true_eq]; omega
      obtain ⟨r1, r2, r3⟩ := HRI.out j hlt
      have e1 : w3.cell? ⟨v2.heap.size, 8 + j, none⟩ = some (.int .i64 (T.last j)) := stoGetN (o := 8 + j) Xx.out OKT.out.ln (by omega)
      have e2 : w3.cell? ⟨v0.heap.size, 8 + j, none⟩ = some (.int .i64 (S.last j)) := stoGetN (o := 8 + j) Xs.out OKS.out.ln (by omega)
      have e3 : w3.cell? ⟨v0.heap.size, 32 + j, none⟩ = some (.bool (S.rev j)) := stoGetR Xs.out OKS.out.ln OKS.out.lr hlt
      have e4 : w3.cell? ⟨v2.heap.size, 32 + j, none⟩ = some (.bool (T.rev j)) := stoGetR Xx.out OKT.out.ln OKT.out.lr hlt
      have e5 : w3.cell? ⟨v2.heap.size, 16 + j * 2, none⟩ = some (.int .i64 (T.code j)) := by rw [show 16 + j * 2 = 16 + 2 * j by omega]; exact stoGetN Xx.out OKT.out.ln (by omega)
      have e51 : w3.cell? ⟨v2.heap.size, 16 + j * 2 + 1, none⟩ = some (.int .i64 (T.aval j)) := by rw [show 16 + j * 2 + 1 = 17 + 2 * j by omega]; exact stoGetN Xx.out OKT.out.ln (by omega)
      have e6 : w3.cell? ⟨v0.heap.size, 16 + j * 2, none⟩ = some (.int .i64 (S.code j)) := by rw [show 16 + j * 2 = 16 + 2 * j by omega]; exact stoGetN Xs.out OKS.out.ln (by omega)
      have e61 : w3.cell? ⟨v0.heap.size, 16 + j * 2 + 1, none⟩ = some (.int .i64 (S.aval j)) := by rw [show 16 + j * 2 + 1 = 17 + 2 * j by omega]; exact stoGetN Xs.out OKS.out.ln (by omega)
      have hc1 : w3.cell? ⟨v1.heap.size, 1, none⟩ = some (.int .i64 c) := cellAt Xc.out 1 rfl
      have d1 : decide (T.last j < S.last j) = false := by rw [decide_eq_false_iff_not]; omega
      have hcase : (S.rev j = false ∨ (S.rev j = true ∧ T.rev j = true)) ∧ (((j : Int) != (c : Int)) = false ∨ (((j : Int) != (c : Int)) = true ∧ T.last j = S.last j ∧ T.code j = S.code j ∧ T.aval j = S.aval j)) := by
        refine ⟨?_, ?_⟩
        · cases h : S.rev j with
          | false => exact .inl rfl
          | true => exact .inr ⟨rfl, r2 h⟩
        · by_cases h : (j : Int) = (c : Int)
          · exact .inl (by simp [h])
          · exact .inr ⟨by rw [bne_iff_ne]; exact h, r3 h⟩
      clear r1 r2 r3
      generalize T.last j = tl at *
      generalize S.last j = sl at *
      generalize S.rev j = sr at *
      generalize T.rev j = tr at *
      generalize T.code j = tc at *
      generalize S.code j = sc at *
      generalize T.aval j = ta at *
      generalize S.aval j = sa at *
      obtain ⟨ha, hb⟩ := hcase
      rcases ha with rfl | ⟨rfl, rfl⟩ <;> rcases hb with hb | ⟨hb, rfl, rfl, rfl⟩
      all_goals
        go_wp2_with fail
        refine wp_region_quiet_lit (by kernel_rfl) (by kernel_rfl) ?_
        repeat (go_big_quiet_step (fail))
        refine wpQuiet_nil ?_
        intro w9 hw9
        obtain ⟨nq, rfl⟩ := hw9
        go_wp2_with fail
        go_roundw
        case rel => exact ⟨j + 1, by omega, by go_num, _, by first | rfl | exact World.drewN_drewN _ _ _⟩
        case measure => simp [intOf]; omega
    · have hd : decide ((j : Int) ≤ 7) = false := by rw [decide_eq_false_iff_not]; omega
      have hdn : decide (j ≤ 7) = false := by rw [decide_eq_false_iff_not]; omega
      have hc1 : w3.cell? ⟨v1.heap.size, 1, none⟩ = some (.int .i64 c) := cellAt Xc.out 1 rfl
      have hc2 : w3.cell? ⟨v1.heap.size, 2, none⟩ = some (.int .i64 sq) := cellAt Xc.out 2 rfl
      have ha1 : w3.cell? ⟨v2.heap.size + 1, 0, none⟩ = some (.int .i64 p0) := cellAt Xa.out 0 rfl
      have hx1 : w3.cell? ⟨v2.heap.size, 8 + c, none⟩ = some (.int .i64 (T.last c)) := stoGetN (o := 8 + c) Xx.out OKT.out.ln (by omega)
      have hfin : (p0 != 0) = true ∨ ((p0 != 0) = false ∧ decide (sq < T.last c) = true) := by
        by_cases h : p0 = 0
        · exact .inr ⟨by simp [h], by rw [decide_eq_true_eq]; exact HRL.out h⟩
        · exact .inl (by rw [bne_iff_ne]; exact h)
      rcases hfin with f1 | ⟨f1, f2⟩
      all_goals
        go_wp2_with fail
        refine wp_region_quiet_lit (by kernel_rfl) (by kernel_rfl) ?_
        repeat (go_big_quiet_step (fail))
        refine wpQuiet_nil ?_
        intro w9 hw9
        obtain ⟨nq, rfl⟩ := hw9
        go_wp2_with fail
        go_ret
        exact ⟨rfl, below_drewN (below_drewN Y.out _) _⟩
end Go.Proofs.Ytdjnbnbhpjiicaa
