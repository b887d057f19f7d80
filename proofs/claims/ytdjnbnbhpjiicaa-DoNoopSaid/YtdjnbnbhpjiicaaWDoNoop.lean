/-
  The walk of DoNoop (written by laws_do.py).
-/
import Derived.Test.YtdjnbnbhpjiicaaDoF
set_option linter.unusedVariables false
set_option linter.unusedSimpArgs false
namespace Go.Proofs.Ytdjnbnbhpjiicaa
open Go.RowKit Go.Con
set_option maxRecDepth 100000 in
set_option maxHeartbeats 2000000 in
theorem walk_DoNoop (v : Value) (l : List Cmd) (u : Value) (x : Cmd) (w : World) (hv : RdWishes w v l) (hu : IsWish u x) :
    Calls Try.prog 10 #[v, u] w fun e w' => e = .returned (.bool true) ∧ Below w.heap.size w w' := by
  obtain ⟨rfl, hx⟩ := hu
  unfold cmdV
  have hdone := Lib.hid (fun W hv => done40 v l W hv)
  obtain ⟨S, hS⟩ : ∃ S, S = Sto.zero.all ((l.take 40).map cmdOf) := ⟨_, rfl⟩
  have few : S.Few := by rw [hS]; exact Sto.all_few _ Sto.zero_few _ (fun c hc => by obtain ⟨y, _, rfl⟩ := List.mem_map.1 hc; exact (cmdOf_few y).1)
  have nums := cmdOf_nums x
  obtain ⟨k, cl, sq, nm, vl, hco⟩ : ∃ k cl sq nm vl, cmdOf x = ⟨k, cl, sq, nm, vl⟩ := ⟨_, _, _, _, _, rfl⟩
  rw [hco] at nums
  have HCMD : Hid (∀ W, Calls Try.prog 17 #[.agg #[.int .i64 x.kind, .int .i64 x.client, .int .i64 x.seq, .int .i64 x.name, .int .i64 x.value]] W fun e w' => e = .returned (.agg #[.int .i64 k, .int .i64 cl, .int .i64 sq, .int .i64 nm, .int .i64 vl]) ∧ Below W.heap.size W w') := Lib.hid (fun W => by have hh := Command_any x W hx; rw [hco] at hh; exact hh)
  obtain ⟨hckD2, hckD3, ok2, e3, a3⟩ := noop_law few nums
  have OKS := Lib.hid few.ok
  obtain ⟨T, hSD2⟩ : ∃ T, T = S.next ⟨k, 6, 20, nm, vl⟩ := ⟨_, rfl⟩
  rw [← hSD2] at ok2 e3 a3
  have OKT := Lib.hid ok2
  have LENS := Lib.hid (show (Try.prog.info? 48).map (fun x => x.size) = some S.cells.length by rw [stoLen OKS.out]; exact stoSz)
  have SZS := Lib.hid (show (Try.prog.info? 48).map (fun x => x.size) = some S.cells.toArray.size by rw [stoSize OKS.out]; exact stoSz)
  have LENT := Lib.hid (show (Try.prog.info? 48).map (fun x => x.size) = some T.cells.length by rw [stoLen OKT.out]; exact stoSz)
  have SZT := Lib.hid (show (Try.prog.info? 48).map (fun x => x.size) = some T.cells.toArray.size by rw [stoSize OKT.out]; exact stoSz)
  have hckD1 : checkC ⟨0, 0, 0, 0, 0⟩ = 0 := by decide
  have hSD1 : S = S.next ⟨0, 0, 0, 0, 0⟩ := (Sto.next_noop S).1.symm
  have hAD1 : S.answer ⟨0, 0, 0, 0, 0⟩ = (0, 0) := (Sto.next_noop S).2
  have hAD2 : S.answer ⟨k, 6, 20, nm, vl⟩ = (0, S.told ⟨k, 6, 20, nm, vl⟩) := noop_told few nums
  have hSD3 : T = T.next ⟨k, 6, 3, nm, vl⟩ := e3.symm
  have hAD3 := a3
  have D1 : Hid (∀ W, Calls Try.prog 21 #[.agg S.cells.toArray, .agg #[.int .i64 0, .int .i64 0, .int .i64 0, .int .i64 0, .int .i64 0]] W fun e w' => e = .returned (.tuple #[.agg S.cells.toArray, .agg #[.int .i64 0, .int .i64 0], .int .i64 0]) ∧ Below W.heap.size W w') := Lib.hid (fun W => by have hh := Do_any S OKS.out ⟨0, 0, 0, 0, 0⟩ hckD1 W; rw [← hSD1, hAD1] at hh; exact hh)
  obtain ⟨tv, htv⟩ : ∃ tv, tv = S.told ⟨k, 6, 20, nm, vl⟩ := ⟨_, rfl⟩
  rw [← htv] at hAD2
  have D2 : Hid (∀ W, Calls Try.prog 21 #[.agg S.cells.toArray, .agg #[.int .i64 k, .int .i64 6, .int .i64 20, .int .i64 nm, .int .i64 vl]] W fun e w' => e = .returned (.tuple #[.agg T.cells.toArray, .agg #[.int .i64 0, .int .i64 tv], .int .i64 0]) ∧ Below W.heap.size W w') := Lib.hid (fun W => by have hh := Do_any S OKS.out ⟨k, 6, 20, nm, vl⟩ hckD2 W; rw [← hSD2, hAD2] at hh; exact hh)
  have D3 : Hid (∀ W, Calls Try.prog 21 #[.agg T.cells.toArray, .agg #[.int .i64 k, .int .i64 6, .int .i64 3, .int .i64 nm, .int .i64 vl]] W fun e w' => e = .returned (.tuple #[.agg T.cells.toArray, .agg #[.int .i64 7, .int .i64 0], .int .i64 0]) ∧ Below W.heap.size W w') := Lib.hid (fun W => by have hh := Do_any T OKT.out ⟨k, 6, 3, nm, vl⟩ hckD3 W; rw [← hSD3, hAD3] at hh; exact hh)
  have eqS : ∀ W, (Op.equalIn 10000 48 (.agg S.cells.toArray) (.agg S.cells.toArray)).run Try.prog W = .ok true W := fun W => by rw [eqIn_store OKS.out OKS.out W]; simp
  have eqT : ∀ W, (Op.equalIn 10000 48 (.agg T.cells.toArray) (.agg T.cells.toArray)).run Try.prog W = .ok true W := fun W => by rw [eqIn_store OKT.out OKT.out W]; simp
  have HV := Lib.hid hv
  have HS := Lib.hid hS
  clear hv hS few nums hco hckD1 hckD2 hckD3 ok2 e3 a3 hSD1 hSD2 hSD3 hAD1 hAD2 hAD3 htv
  have Y : Hid (Below w.heap.size w w) := Lib.hid (Below.refl _ _)
  go_enter Try.func10, Try.ntmps10
  have hboxed : ∀ o, RdWishes (w.alloc o) v l := fun o => HV.out.alloc o
  go_upto_region 2 with (first
    | (go_at_call 20; refine (hdone.out _ (hboxed _)).mono ?_; rintro e v0 ⟨cv, av, rfl, -, -, hb⟩; rw [← HS.out]; have BD0 := Lib.hid hb; have BW0 := Lib.hid ((hb.block w.heap.size (by simp)).trans (heapNew w _)); clear hb)
    | (refine wpList_store_mid rfl 48 (.tmp 5) (.tmp 22) rfl v0.heap.size 0 S.cells.toArray rfl rfl ?_ SZS.out (stoOne _) ?_; (exact there_new _ _ _ _ (by rw [stoSize OKS.out]; rfl)); generalize hW : World.setCells _ _ _ _ = w1; have G0 := Lib.hid (stageB BD0.out hW (by rw [stoLen OKS.out]; rfl)); clear hW))
  have XW : Hid (w1.heap[w.heap.size]? = some (.cells #[.int .i64 x.kind, .int .i64 x.client, .int .i64 x.seq, .int .i64 x.name, .int .i64 x.value] 28 (0, 0))) := Lib.hid ((G0.out.1.block w.heap.size (by simp)).trans (heapNew w _))
  replace Y : Hid (Below w.heap.size w w1) := Lib.hid (((Below.refl w.heap.size w).alloc (Nat.le_refl _) _).trans (G0.out.1.mono (by simp)))
  have Xs : Hid (w1.heap[v0.heap.size]? = some (.cells S.cells.toArray 48 (0, 0))) := Lib.hid (G0.out.2)
  clear G0 BD0 BW0 hboxed
  have cW_0 : w1.cell? ⟨w.heap.size, 0, none⟩ = some (.int .i64 x.kind) := cellAt XW.out 0 rfl
  have cW_1 : w1.cell? ⟨w.heap.size, 1, none⟩ = some (.int .i64 x.client) := cellAt XW.out 1 rfl
  have cW_2 : w1.cell? ⟨w.heap.size, 2, none⟩ = some (.int .i64 x.seq) := cellAt XW.out 2 rfl
  have cW_3 : w1.cell? ⟨w.heap.size, 3, none⟩ = some (.int .i64 x.name) := cellAt XW.out 3 rfl
  have cW_4 : w1.cell? ⟨w.heap.size, 4, none⟩ = some (.int .i64 x.value) := cellAt XW.out 4 rfl
  have fW := freeAt XW.out
  have RGs := Lib.hid (range_of Xs.out)
  go_upto_region 3 with (first
    | (go_at_call 21; refine (D1.out _).mono ?_; rintro e v1 ⟨rfl, hb⟩; have BD1 := Lib.hid hb; clear hb)
    | (refine wpList_load_mid rfl 48 (.tmp 5) rfl (v0.heap.size) 0 rfl S.cells _ ?_ Try.underlying48 rfl LENS.out ?_; (with_reducible exact RGs.out))
    | (refine wpList_store_mid rfl 48 (.tmp 9) (.tmp 30) rfl v1.heap.size 0 S.cells.toArray rfl rfl ?_ SZS.out (stoOne _) ?_; (exact there_new0 _ _ _ _ _ (by rw [stoSize OKS.out]; rfl)); generalize hW : World.setCells _ _ _ _ = y1; have GE1 := Lib.hid (stageE BD1.out hW (by rw [stoLen OKS.out]; rfl)); have z0 := cellAt GE1.out.2.2.1 0 rfl; have z1 := cellAt GE1.out.2.2.1 1 rfl; have zf := freeAt GE1.out.2.2.1; clear hW))
  generalize hW : World.setCell _ _ _ = w2
  have GF := Lib.hid (stageF GE1.out hW)
  clear hW z0 z1 zf
  clear cW_0 cW_1 cW_2 cW_3 cW_4 fW RGs
  have ol1 : w1.heap.size ≤ v1.heap.size := GF.out.2.2.2.2
  have hrel := GF.out.1
  have xW : w2.heap[w.heap.size]? = some (.cells #[.int .i64 x.kind, .int .i64 x.client, .int .i64 x.seq, .int .i64 x.name, .int .i64 x.value] 28 (0, 0)) := (hrel.block (w.heap.size) (lt_of_heap XW.out)).trans XW.out
  have xs : w2.heap[v0.heap.size]? = some (.cells S.cells.toArray 48 (0, 0)) := (hrel.block (v0.heap.size) (lt_of_heap Xs.out)).trans Xs.out
  replace XW := Lib.hid xW
  clear xW
  replace Xs := Lib.hid xs
  clear xs
  replace Y := Lib.hid (Y.out.trans (hrel.mono Y.out.size))
  clear hrel
  have Xx : Hid (w2.heap[v1.heap.size]? = some (.cells S.cells.toArray 48 (0, 0))) := Lib.hid (GF.out.2.1)
  have Xa : Hid (w2.heap[v1.heap.size + 1]? = some (.cells #[.int .i64 0, .int .i64 0] 44 (0, 0))) := Lib.hid (GF.out.2.2.1)
  clear GF GE1 BD1 ol1
  have cW_0 : w2.cell? ⟨w.heap.size, 0, none⟩ = some (.int .i64 x.kind) := cellAt XW.out 0 rfl
  have cW_1 : w2.cell? ⟨w.heap.size, 1, none⟩ = some (.int .i64 x.client) := cellAt XW.out 1 rfl
  have cW_2 : w2.cell? ⟨w.heap.size, 2, none⟩ = some (.int .i64 x.seq) := cellAt XW.out 2 rfl
  have cW_3 : w2.cell? ⟨w.heap.size, 3, none⟩ = some (.int .i64 x.name) := cellAt XW.out 3 rfl
  have cW_4 : w2.cell? ⟨w.heap.size, 4, none⟩ = some (.int .i64 x.value) := cellAt XW.out 4 rfl
  have fW := freeAt XW.out
  have RGs := Lib.hid (range_of Xs.out)
  have RGx := Lib.hid (range_of Xx.out)
  have ca_0 : w2.cell? ⟨v1.heap.size + 1, 0, none⟩ = some (.int .i64 0) := cellAt Xa.out 0 rfl
  have ca_1 : w2.cell? ⟨v1.heap.size + 1, 1, none⟩ = some (.int .i64 0) := cellAt Xa.out 1 rfl
  go_upto_region 6 with (first
    | (go_at_call 17; refine (HCMD.out _).mono ?_; rintro e v2 ⟨rfl, hb⟩; have BD2 := Lib.hid hb; clear hb)
    | (go_at_call 15; refine (picked_any _ _ _ (by assumption) (by assumption) (by decide)).mono ?_; rintro e w9 ⟨rfl, rfl⟩))
  generalize hW : World.alloc _ _ = w3
  have GF := Lib.hid (stageC BD2.out hW)
  clear hW
  clear cW_0 cW_1 cW_2 cW_3 cW_4 fW RGs RGx ca_0 ca_1
  have ge2 := GF.out.2.2
  have NWc : Hid (w.heap.size ≠ v2.heap.size) := Lib.hid (by have h1 := lt_of_heap XW.out; omega)
  have Nsc : Hid (v0.heap.size ≠ v2.heap.size) := Lib.hid (by have h1 := lt_of_heap Xs.out; omega)
  have Nxc : Hid (v1.heap.size ≠ v2.heap.size) := Lib.hid (by have h1 := lt_of_heap Xx.out; omega)
  have Nac : Hid (v1.heap.size + 1 ≠ v2.heap.size) := Lib.hid (by have h1 := lt_of_heap Xa.out; omega)
  have Lc : Hid (w.heap.size ≤ v2.heap.size) := Lib.hid (Nat.le_trans Y.out.size ge2)
  have hrel := GF.out.1
  have xW : w3.heap[w.heap.size]? = some (.cells #[.int .i64 x.kind, .int .i64 x.client, .int .i64 x.seq, .int .i64 x.name, .int .i64 x.value] 28 (0, 0)) := (hrel.block (w.heap.size) (lt_of_heap XW.out)).trans XW.out
  have xs : w3.heap[v0.heap.size]? = some (.cells S.cells.toArray 48 (0, 0)) := (hrel.block (v0.heap.size) (lt_of_heap Xs.out)).trans Xs.out
  have xx : w3.heap[v1.heap.size]? = some (.cells S.cells.toArray 48 (0, 0)) := (hrel.block (v1.heap.size) (lt_of_heap Xx.out)).trans Xx.out
  have xa : w3.heap[v1.heap.size + 1]? = some (.cells #[.int .i64 0, .int .i64 0] 44 (0, 0)) := (hrel.block (v1.heap.size + 1) (lt_of_heap Xa.out)).trans Xa.out
  replace XW := Lib.hid xW
  clear xW
  replace Xs := Lib.hid xs
  clear xs
  replace Xx := Lib.hid xx
  clear xx
  replace Xa := Lib.hid xa
  clear xa
  replace Y := Lib.hid (Y.out.trans (hrel.mono Y.out.size))
  clear hrel
  have Xc : Hid (w3.heap[v2.heap.size]? = some (.cells #[.int .i64 k, .int .i64 6, .int .i64 20, .int .i64 nm, .int .i64 vl] 29 (0, 0))) := Lib.hid (GF.out.2.1)
  clear GF BD2 ge2
  have cW_0 : w3.cell? ⟨w.heap.size, 0, none⟩ = some (.int .i64 x.kind) := cellAt XW.out 0 rfl
  have cW_1 : w3.cell? ⟨w.heap.size, 1, none⟩ = some (.int .i64 x.client) := cellAt XW.out 1 rfl
  have cW_2 : w3.cell? ⟨w.heap.size, 2, none⟩ = some (.int .i64 x.seq) := cellAt XW.out 2 rfl
  have cW_3 : w3.cell? ⟨w.heap.size, 3, none⟩ = some (.int .i64 x.name) := cellAt XW.out 3 rfl
  have cW_4 : w3.cell? ⟨w.heap.size, 4, none⟩ = some (.int .i64 x.value) := cellAt XW.out 4 rfl
  have fW := freeAt XW.out
  have RGs := Lib.hid (range_of Xs.out)
  have RGx := Lib.hid (range_of Xx.out)
  have ca_0 : w3.cell? ⟨v1.heap.size + 1, 0, none⟩ = some (.int .i64 0) := cellAt Xa.out 0 rfl
  have ca_1 : w3.cell? ⟨v1.heap.size + 1, 1, none⟩ = some (.int .i64 0) := cellAt Xa.out 1 rfl
  have cc_0 : w3.cell? ⟨v2.heap.size, 0, none⟩ = some (.int .i64 k) := cellAt Xc.out 0 rfl
  have cc_1 : w3.cell? ⟨v2.heap.size, 1, none⟩ = some (.int .i64 6) := cellAt Xc.out 1 rfl
  have cc_2 : w3.cell? ⟨v2.heap.size, 2, none⟩ = some (.int .i64 20) := cellAt Xc.out 2 rfl
  have cc_3 : w3.cell? ⟨v2.heap.size, 3, none⟩ = some (.int .i64 nm) := cellAt Xc.out 3 rfl
  have cc_4 : w3.cell? ⟨v2.heap.size, 4, none⟩ = some (.int .i64 vl) := cellAt Xc.out 4 rfl
  have fc := freeAt Xc.out
  go_upto_region 7 with (first
    | (go_at_call 21; refine (D2.out _).mono ?_; rintro e v3 ⟨rfl, hb⟩; have BD3 := Lib.hid hb; clear hb)
    | (refine wpList_load_mid rfl 48 (.tmp 9) rfl (v1.heap.size) 0 rfl S.cells _ ?_ Try.underlying48 rfl LENS.out ?_; (with_reducible exact RGx.out))
    | (refine wpList_store_mid rfl 48 (.tmp 13) (.tmp 41) rfl v3.heap.size 0 T.cells.toArray rfl rfl ?_ SZT.out (stoOne _) ?_; (exact there_new0 _ _ _ _ _ (by rw [stoSize OKT.out]; rfl)); generalize hW : World.setCells _ _ _ _ = y3; have GE3 := Lib.hid (stageE BD3.out hW (by rw [stoLen OKT.out]; rfl)); have z0 := cellAt GE3.out.2.2.1 0 rfl; have z1 := cellAt GE3.out.2.2.1 1 rfl; have zf := freeAt GE3.out.2.2.1; clear hW))
  generalize hW : World.setCell _ _ _ = w4
  have GF := Lib.hid (stageF GE3.out hW)
  clear hW z0 z1 zf
  clear cW_0 cW_1 cW_2 cW_3 cW_4 fW RGs RGx ca_0 ca_1 cc_0 cc_1 cc_2 cc_3 cc_4 fc
  have ol3 : w3.heap.size ≤ v3.heap.size := GF.out.2.2.2.2
  have Nyc : Hid (v3.heap.size ≠ v2.heap.size) := Lib.hid (by have h1 := lt_of_heap Xc.out; omega)
  have Nbc : Hid (v3.heap.size + 1 ≠ v2.heap.size) := Lib.hid (by have h1 := lt_of_heap Xc.out; omega)
  have hrel := GF.out.1
  have xW : w4.heap[w.heap.size]? = some (.cells #[.int .i64 x.kind, .int .i64 x.client, .int .i64 x.seq, .int .i64 x.name, .int .i64 x.value] 28 (0, 0)) := (hrel.block (w.heap.size) (lt_of_heap XW.out)).trans XW.out
  have xs : w4.heap[v0.heap.size]? = some (.cells S.cells.toArray 48 (0, 0)) := (hrel.block (v0.heap.size) (lt_of_heap Xs.out)).trans Xs.out
  have xx : w4.heap[v1.heap.size]? = some (.cells S.cells.toArray 48 (0, 0)) := (hrel.block (v1.heap.size) (lt_of_heap Xx.out)).trans Xx.out
  have xa : w4.heap[v1.heap.size + 1]? = some (.cells #[.int .i64 0, .int .i64 0] 44 (0, 0)) := (hrel.block (v1.heap.size + 1) (lt_of_heap Xa.out)).trans Xa.out
  have xc : w4.heap[v2.heap.size]? = some (.cells #[.int .i64 k, .int .i64 6, .int .i64 20, .int .i64 nm, .int .i64 vl] 29 (0, 0)) := (hrel.block (v2.heap.size) (lt_of_heap Xc.out)).trans Xc.out
  replace XW := Lib.hid xW
  clear xW
  replace Xs := Lib.hid xs
  clear xs
  replace Xx := Lib.hid xx
  clear xx
  replace Xa := Lib.hid xa
  clear xa
  replace Xc := Lib.hid xc
  clear xc
  replace Y := Lib.hid (Y.out.trans (hrel.mono Y.out.size))
  clear hrel
  have Xy : Hid (w4.heap[v3.heap.size]? = some (.cells T.cells.toArray 48 (0, 0))) := Lib.hid (GF.out.2.1)
  have Xb : Hid (w4.heap[v3.heap.size + 1]? = some (.cells #[.int .i64 0, .int .i64 tv] 44 (0, 0))) := Lib.hid (GF.out.2.2.1)
  clear GF GE3 BD3 ol3
  have cW_0 : w4.cell? ⟨w.heap.size, 0, none⟩ = some (.int .i64 x.kind) := cellAt XW.out 0 rfl
  have cW_1 : w4.cell? ⟨w.heap.size, 1, none⟩ = some (.int .i64 x.client) := cellAt XW.out 1 rfl
  have cW_2 : w4.cell? ⟨w.heap.size, 2, none⟩ = some (.int .i64 x.seq) := cellAt XW.out 2 rfl
  have cW_3 : w4.cell? ⟨w.heap.size, 3, none⟩ = some (.int .i64 x.name) := cellAt XW.out 3 rfl
  have cW_4 : w4.cell? ⟨w.heap.size, 4, none⟩ = some (.int .i64 x.value) := cellAt XW.out 4 rfl
  have fW := freeAt XW.out
  have RGs := Lib.hid (range_of Xs.out)
  have RGx := Lib.hid (range_of Xx.out)
  have ca_0 : w4.cell? ⟨v1.heap.size + 1, 0, none⟩ = some (.int .i64 0) := cellAt Xa.out 0 rfl
  have ca_1 : w4.cell? ⟨v1.heap.size + 1, 1, none⟩ = some (.int .i64 0) := cellAt Xa.out 1 rfl
  have cc_0 : w4.cell? ⟨v2.heap.size, 0, none⟩ = some (.int .i64 k) := cellAt Xc.out 0 rfl
  have cc_1 : w4.cell? ⟨v2.heap.size, 1, none⟩ = some (.int .i64 6) := cellAt Xc.out 1 rfl
  have cc_2 : w4.cell? ⟨v2.heap.size, 2, none⟩ = some (.int .i64 20) := cellAt Xc.out 2 rfl
  have cc_3 : w4.cell? ⟨v2.heap.size, 3, none⟩ = some (.int .i64 nm) := cellAt Xc.out 3 rfl
  have cc_4 : w4.cell? ⟨v2.heap.size, 4, none⟩ = some (.int .i64 vl) := cellAt Xc.out 4 rfl
  have fc := freeAt Xc.out
  have RGy := Lib.hid (range_of Xy.out)
  have cb_0 : w4.cell? ⟨v3.heap.size + 1, 0, none⟩ = some (.int .i64 0) := cellAt Xb.out 0 rfl
  have cb_1 : w4.cell? ⟨v3.heap.size + 1, 1, none⟩ = some (.int .i64 tv) := cellAt Xb.out 1 rfl
  go_upto_region 8 with fail
  generalize hW : World.setCell _ _ _ = w5
  clear cW_0 cW_1 cW_2 cW_3 cW_4 fW RGs RGx ca_0 ca_1 cc_0 cc_1 cc_2 cc_3 cc_4 fc RGy cb_0 cb_1
  have xW : w5.heap[w.heap.size]? = some (.cells #[.int .i64 x.kind, .int .i64 x.client, .int .i64 x.seq, .int .i64 x.name, .int .i64 x.value] 28 (0, 0)) := by rw [← hW, heapSet_ne _ _ NWc.out]; exact XW.out
  have xs : w5.heap[v0.heap.size]? = some (.cells S.cells.toArray 48 (0, 0)) := by rw [← hW, heapSet_ne _ _ Nsc.out]; exact Xs.out
  have xx : w5.heap[v1.heap.size]? = some (.cells S.cells.toArray 48 (0, 0)) := by rw [← hW, heapSet_ne _ _ Nxc.out]; exact Xx.out
  have xa : w5.heap[v1.heap.size + 1]? = some (.cells #[.int .i64 0, .int .i64 0] 44 (0, 0)) := by rw [← hW, heapSet_ne _ _ Nac.out]; exact Xa.out
  have xc : w5.heap[v2.heap.size]? = some (.cells #[.int .i64 k, .int .i64 6, .int .i64 3, .int .i64 nm, .int .i64 vl] 29 (0, 0)) := by rw [← hW]; exact heapSet Xc.out _
  have xy : w5.heap[v3.heap.size]? = some (.cells T.cells.toArray 48 (0, 0)) := by rw [← hW, heapSet_ne _ _ Nyc.out]; exact Xy.out
  have xb : w5.heap[v3.heap.size + 1]? = some (.cells #[.int .i64 0, .int .i64 tv] 44 (0, 0)) := by rw [← hW, heapSet_ne _ _ Nbc.out]; exact Xb.out
  have yN : Below w.heap.size w w5 := by rw [← hW]; exact Y.out.setCell Lc.out _
  replace XW := Lib.hid xW
  clear xW
  replace Xs := Lib.hid xs
  clear xs
  replace Xx := Lib.hid xx
  clear xx
  replace Xa := Lib.hid xa
  clear xa
  replace Xc := Lib.hid xc
  clear xc
  replace Xy := Lib.hid xy
  clear xy
  replace Xb := Lib.hid xb
  clear xb
  replace Y := Lib.hid yN
  clear yN hW
  have cW_0 : w5.cell? ⟨w.heap.size, 0, none⟩ = some (.int .i64 x.kind) := cellAt XW.out 0 rfl
  have cW_1 : w5.cell? ⟨w.heap.size, 1, none⟩ = some (.int .i64 x.client) := cellAt XW.out 1 rfl
  have cW_2 : w5.cell? ⟨w.heap.size, 2, none⟩ = some (.int .i64 x.seq) := cellAt XW.out 2 rfl
  have cW_3 : w5.cell? ⟨w.heap.size, 3, none⟩ = some (.int .i64 x.name) := cellAt XW.out 3 rfl
  have cW_4 : w5.cell? ⟨w.heap.size, 4, none⟩ = some (.int .i64 x.value) := cellAt XW.out 4 rfl
  have fW := freeAt XW.out
  have RGs := Lib.hid (range_of Xs.out)
  have RGx := Lib.hid (range_of Xx.out)
  have ca_0 : w5.cell? ⟨v1.heap.size + 1, 0, none⟩ = some (.int .i64 0) := cellAt Xa.out 0 rfl
  have ca_1 : w5.cell? ⟨v1.heap.size + 1, 1, none⟩ = some (.int .i64 0) := cellAt Xa.out 1 rfl
  have cc_0 : w5.cell? ⟨v2.heap.size, 0, none⟩ = some (.int .i64 k) := cellAt Xc.out 0 rfl
  have cc_1 : w5.cell? ⟨v2.heap.size, 1, none⟩ = some (.int .i64 6) := cellAt Xc.out 1 rfl
  have cc_2 : w5.cell? ⟨v2.heap.size, 2, none⟩ = some (.int .i64 3) := cellAt Xc.out 2 rfl
  have cc_3 : w5.cell? ⟨v2.heap.size, 3, none⟩ = some (.int .i64 nm) := cellAt Xc.out 3 rfl
  have cc_4 : w5.cell? ⟨v2.heap.size, 4, none⟩ = some (.int .i64 vl) := cellAt Xc.out 4 rfl
  have fc := freeAt Xc.out
  have RGy := Lib.hid (range_of Xy.out)
  have cb_0 : w5.cell? ⟨v3.heap.size + 1, 0, none⟩ = some (.int .i64 0) := cellAt Xb.out 0 rfl
  have cb_1 : w5.cell? ⟨v3.heap.size + 1, 1, none⟩ = some (.int .i64 tv) := cellAt Xb.out 1 rfl
  go_upto_region 9 with (first
    | (go_at_call 21; refine (D3.out _).mono ?_; rintro e v4 ⟨rfl, hb⟩; have BD4 := Lib.hid hb; clear hb)
    | (refine wpList_load_mid rfl 48 (.tmp 13) rfl (v3.heap.size) 0 rfl T.cells _ ?_ Try.underlying48 rfl LENT.out ?_; (with_reducible exact RGy.out))
    | (refine wpList_store_mid rfl 48 (.tmp 16) (.tmp 49) rfl v4.heap.size 0 T.cells.toArray rfl rfl ?_ SZT.out (stoOne _) ?_; (exact there_new0 _ _ _ _ _ (by rw [stoSize OKT.out]; rfl)); generalize hW : World.setCells _ _ _ _ = y4; have GE4 := Lib.hid (stageE BD4.out hW (by rw [stoLen OKT.out]; rfl)); have z0 := cellAt GE4.out.2.2.1 0 rfl; have z1 := cellAt GE4.out.2.2.1 1 rfl; have zf := freeAt GE4.out.2.2.1; clear hW))
  generalize hW : World.setCell _ _ _ = w6
  have GF := Lib.hid (stageF GE4.out hW)
  clear hW z0 z1 zf
  clear cW_0 cW_1 cW_2 cW_3 cW_4 fW RGs RGx ca_0 ca_1 cc_0 cc_1 cc_2 cc_3 cc_4 fc RGy cb_0 cb_1
  have ol4 : w5.heap.size ≤ v4.heap.size := GF.out.2.2.2.2
  have Nzc : Hid (v4.heap.size ≠ v2.heap.size) := Lib.hid (by have h1 := lt_of_heap Xc.out; omega)
  have Ndc : Hid (v4.heap.size + 1 ≠ v2.heap.size) := Lib.hid (by have h1 := lt_of_heap Xc.out; omega)
  have hrel := GF.out.1
  have xW : w6.heap[w.heap.size]? = some (.cells #[.int .i64 x.kind, .int .i64 x.client, .int .i64 x.seq, .int .i64 x.name, .int .i64 x.value] 28 (0, 0)) := (hrel.block (w.heap.size) (lt_of_heap XW.out)).trans XW.out
  have xs : w6.heap[v0.heap.size]? = some (.cells S.cells.toArray 48 (0, 0)) := (hrel.block (v0.heap.size) (lt_of_heap Xs.out)).trans Xs.out
  have xx : w6.heap[v1.heap.size]? = some (.cells S.cells.toArray 48 (0, 0)) := (hrel.block (v1.heap.size) (lt_of_heap Xx.out)).trans Xx.out
  have xa : w6.heap[v1.heap.size + 1]? = some (.cells #[.int .i64 0, .int .i64 0] 44 (0, 0)) := (hrel.block (v1.heap.size + 1) (lt_of_heap Xa.out)).trans Xa.out
  have xc : w6.heap[v2.heap.size]? = some (.cells #[.int .i64 k, .int .i64 6, .int .i64 3, .int .i64 nm, .int .i64 vl] 29 (0, 0)) := (hrel.block (v2.heap.size) (lt_of_heap Xc.out)).trans Xc.out
  have xy : w6.heap[v3.heap.size]? = some (.cells T.cells.toArray 48 (0, 0)) := (hrel.block (v3.heap.size) (lt_of_heap Xy.out)).trans Xy.out
  have xb : w6.heap[v3.heap.size + 1]? = some (.cells #[.int .i64 0, .int .i64 tv] 44 (0, 0)) := (hrel.block (v3.heap.size + 1) (lt_of_heap Xb.out)).trans Xb.out
  replace XW := Lib.hid xW
  clear xW
  replace Xs := Lib.hid xs
  clear xs
  replace Xx := Lib.hid xx
  clear xx
  replace Xa := Lib.hid xa
  clear xa
  replace Xc := Lib.hid xc
  clear xc
  replace Xy := Lib.hid xy
  clear xy
  replace Xb := Lib.hid xb
  clear xb
  replace Y := Lib.hid (Y.out.trans (hrel.mono Y.out.size))
  clear hrel
  have Xz : Hid (w6.heap[v4.heap.size]? = some (.cells T.cells.toArray 48 (0, 0))) := Lib.hid (GF.out.2.1)
  have Xd : Hid (w6.heap[v4.heap.size + 1]? = some (.cells #[.int .i64 7, .int .i64 0] 44 (0, 0))) := Lib.hid (GF.out.2.2.1)
  clear GF GE4 BD4 ol4
  have cW_0 : w6.cell? ⟨w.heap.size, 0, none⟩ = some (.int .i64 x.kind) := cellAt XW.out 0 rfl
  have cW_1 : w6.cell? ⟨w.heap.size, 1, none⟩ = some (.int .i64 x.client) := cellAt XW.out 1 rfl
  have cW_2 : w6.cell? ⟨w.heap.size, 2, none⟩ = some (.int .i64 x.seq) := cellAt XW.out 2 rfl
  have cW_3 : w6.cell? ⟨w.heap.size, 3, none⟩ = some (.int .i64 x.name) := cellAt XW.out 3 rfl
  have cW_4 : w6.cell? ⟨w.heap.size, 4, none⟩ = some (.int .i64 x.value) := cellAt XW.out 4 rfl
  have fW := freeAt XW.out
  have RGs := Lib.hid (range_of Xs.out)
  have RGx := Lib.hid (range_of Xx.out)
  have ca_0 : w6.cell? ⟨v1.heap.size + 1, 0, none⟩ = some (.int .i64 0) := cellAt Xa.out 0 rfl
  have ca_1 : w6.cell? ⟨v1.heap.size + 1, 1, none⟩ = some (.int .i64 0) := cellAt Xa.out 1 rfl
  have cc_0 : w6.cell? ⟨v2.heap.size, 0, none⟩ = some (.int .i64 k) := cellAt Xc.out 0 rfl
  have cc_1 : w6.cell? ⟨v2.heap.size, 1, none⟩ = some (.int .i64 6) := cellAt Xc.out 1 rfl
  have cc_2 : w6.cell? ⟨v2.heap.size, 2, none⟩ = some (.int .i64 3) := cellAt Xc.out 2 rfl
  have cc_3 : w6.cell? ⟨v2.heap.size, 3, none⟩ = some (.int .i64 nm) := cellAt Xc.out 3 rfl
  have cc_4 : w6.cell? ⟨v2.heap.size, 4, none⟩ = some (.int .i64 vl) := cellAt Xc.out 4 rfl
  have fc := freeAt Xc.out
  have RGy := Lib.hid (range_of Xy.out)
  have cb_0 : w6.cell? ⟨v3.heap.size + 1, 0, none⟩ = some (.int .i64 0) := cellAt Xb.out 0 rfl
  have cb_1 : w6.cell? ⟨v3.heap.size + 1, 1, none⟩ = some (.int .i64 tv) := cellAt Xb.out 1 rfl
  have RGz := Lib.hid (range_of Xz.out)
  have cd_0 : w6.cell? ⟨v4.heap.size + 1, 0, none⟩ = some (.int .i64 7) := cellAt Xd.out 0 rfl
  have cd_1 : w6.cell? ⟨v4.heap.size + 1, 1, none⟩ = some (.int .i64 0) := cellAt Xd.out 1 rfl
  go_wp2_with (first
    | (refine wpList_load_g rfl 48 (.tmp 9) rfl (v1.heap.size) 0 rfl S.cells _ ?_ Try.underlying48 rfl LENS.out ?_; (with_reducible exact RGx.out))
    | (refine wpList_load_g rfl 48 (.tmp 5) rfl (v0.heap.size) 0 rfl S.cells _ ?_ Try.underlying48 rfl LENS.out ?_; (with_reducible exact RGs.out))
    | (refine wpList_load_g rfl 48 (.tmp 16) rfl (v4.heap.size) 0 rfl T.cells _ ?_ Try.underlying48 rfl LENT.out ?_; (with_reducible exact RGz.out))
    | (refine wpList_load_g rfl 48 (.tmp 13) rfl (v3.heap.size) 0 rfl T.cells _ ?_ Try.underlying48 rfl LENT.out ?_; (with_reducible exact RGy.out)))
  go_ret
  exact ⟨rfl, Y.out⟩
end Go.Proofs.Ytdjnbnbhpjiicaa
