/-
  The walk of DoOnce (written by laws_do.py).
-/
import Derived.Test.YtdjnbnbhpjiicaaDoG
set_option linter.unusedVariables false
set_option linter.unusedSimpArgs false
namespace Go.Proofs.Ytdjnbnbhpjiicaa
open Go.RowKit Go.Con
set_option maxRecDepth 100000 in
set_option maxHeartbeats 8000000 in
theorem walk_DoOnce (v : Value) (l : List Cmd) (u0 : Value) (x : Cmd) (v2 : Value) (l2 : List Cmd) (w : World) (hv : RdWishes w v l) (hu : IsWish u0 x) (hv2 : RdWishes w v2 l2) :
    Calls Try.prog 7 #[v, u0, v2] w fun e w' => e = .returned (.bool true) ∧ Below w.heap.size w w' := by
  obtain ⟨rfl, hx⟩ := hu
  unfold cmdV
  obtain ⟨ad, cap, rfl, hlc, hcm, hok, hcell⟩ := hv2
  have HOK := Lib.hid hok
  have HCELL := Lib.hid hcell
  obtain ⟨n2, hn2⟩ : ∃ n, n = l2.length := ⟨_, rfl⟩
  rw [← hn2]
  have HN := Lib.hid hn2
  clear hok hcell hn2
  have hdone := Lib.hid (fun W hv => done40 v l W hv)
  obtain ⟨S, hS⟩ : ∃ S, S = Sto.zero.all ((l.take 40).map cmdOf) := ⟨_, rfl⟩
  have few : S.Few := by rw [hS]; exact Sto.all_few _ Sto.zero_few _ (fun c hc => by obtain ⟨y, _, rfl⟩ := List.mem_map.1 hc; exact (cmdOf_few y).1)
  have OKS := Lib.hid few.ok
  have LENS := Lib.hid (show (Try.prog.info? 48).map (fun x => x.size) = some S.cells.length by rw [stoLen OKS.out]; exact stoSz)
  have SZS := Lib.hid (show (Try.prog.info? 48).map (fun x => x.size) = some S.cells.toArray.size by rw [stoSize OKS.out]; exact stoSz)
  have nums := cmdOf_nums x
  obtain ⟨k, cl, sq, nm, vl, hco⟩ : ∃ k cl sq nm vl, cmdOf x = ⟨k, cl, sq, nm, vl⟩ := ⟨_, _, _, _, _, rfl⟩
  rw [hco] at nums
  have HCMD : Hid (∀ W, Calls Try.prog 17 #[.agg #[.int .i64 x.kind, .int .i64 x.client, .int .i64 x.seq, .int .i64 x.name, .int .i64 x.value]] W fun e w' => e = .returned (.agg #[.int .i64 k, .int .i64 cl, .int .i64 sq, .int .i64 nm, .int .i64 vl]) ∧ Below W.heap.size W w') := Lib.hid (fun W => by have hh := Command_any x W hx; rw [hco] at hh; exact hh)
  obtain ⟨c, hc⟩ : ∃ c : Nat, cl = c := ⟨cl.toNat, by have h0 : 0 ≤ cl := nums.c0; omega⟩
  subst hc
  have hc4 : c < 4 := by have h0 : (c : Int) < 4 := nums.c4; omega
  obtain ⟨hckD1, okT, e2, a2, hrev, hfr⟩ := once_law few nums
  obtain ⟨T, hSD1⟩ : ∃ t : Sto, t = S.next ⟨k, c, 50, nm, vl⟩ := ⟨_, rfl⟩
  try rw [← hSD1] at okT
  try rw [← hSD1] at e2
  try rw [← hSD1] at a2
  try rw [← hSD1] at hrev
  try rw [← hSD1] at hfr
  have OKT : Hid T.Ok := Lib.hid (by rw [hSD1]; exact S.next_ok OKS.out _ hckD1)
  have LENT := Lib.hid (show (Try.prog.info? 48).map (fun x => x.size) = some T.cells.length by rw [stoLen OKT.out]; exact stoSz)
  have SZT := Lib.hid (show (Try.prog.info? 48).map (fun x => x.size) = some T.cells.toArray.size by rw [stoSize OKT.out]; exact stoSz)
  obtain ⟨p0, p1, hAD1⟩ : ∃ p0 p1, S.answer ⟨k, c, 50, nm, vl⟩ = (p0, p1) := ⟨_, _, rfl⟩
  rw [hAD1] at a2 hrev hfr
  have hckD2 := hckD1
  have hSD2 := e2.symm
  have hAD2 := a2
  have HREV : Hid (S.rev c = true → T = S ∧ (p0, p1) = ((11 : Int), (0 : Int))) := Lib.hid hrev
  have HFR : Hid (S.rev c = false → T.last c = 51 ∧ p0 = 0 ∧ (p0, p1) = (T.code c, T.aval c)) := Lib.hid hfr
  have D1 : Hid (∀ W, Calls Try.prog 21 #[.agg S.cells.toArray, .agg #[.int .i64 k, .int .i64 c, .int .i64 50, .int .i64 nm, .int .i64 vl]] W fun e w' => e = .returned (.tuple #[.agg T.cells.toArray, .agg #[.int .i64 p0, .int .i64 p1], .int .i64 0]) ∧ Below W.heap.size W w') := Lib.hid (fun W => by have hh := Do_any S OKS.out ⟨k, c, 50, nm, vl⟩ hckD1 W; rw [← hSD1, hAD1] at hh; exact hh)
  have D2 : Hid (∀ W, Calls Try.prog 21 #[.agg T.cells.toArray, .agg #[.int .i64 k, .int .i64 c, .int .i64 50, .int .i64 nm, .int .i64 vl]] W fun e w' => e = .returned (.tuple #[.agg T.cells.toArray, .agg #[.int .i64 p0, .int .i64 p1], .int .i64 0]) ∧ Below W.heap.size W w') := Lib.hid (fun W => by have hh := Do_any T OKT.out ⟨k, c, 50, nm, vl⟩ hckD2 W; rw [← hSD2, hAD2] at hh; exact hh)
  have NUMS := Lib.hid nums
  have HCK := Lib.hid hckD1
  have eqS : ∀ W, (Op.equalIn 10000 48 (.agg S.cells.toArray) (.agg S.cells.toArray)).run Try.prog W = .ok true W := fun W => by rw [eqIn_store OKS.out OKS.out W]; simp
  have eqT : ∀ W, (Op.equalIn 10000 48 (.agg T.cells.toArray) (.agg T.cells.toArray)).run Try.prog W = .ok true W := fun W => by rw [eqIn_store OKT.out OKT.out W]; simp
  have HV := Lib.hid hv
  have HS := Lib.hid hS
  clear hv hS few nums hco hckD1 hckD2 okT e2 a2 hrev hfr hAD1 hAD2 hSD1 hSD2 hx
  have Y : Hid (Below w.heap.size w w) := Lib.hid (Below.refl _ _)
  go_enter Try.func7, Try.ntmps7
  have hboxed : ∀ o, RdWishes (w.alloc o) v l := fun o => HV.out.alloc o
  go_upto_region 2 with (first
    | (go_at_call 20; refine (hdone.out _ (hboxed _)).mono ?_; rintro e v0 ⟨cv, av, rfl, -, -, hb⟩; rw [← HS.out]; have BD0 := Lib.hid hb; clear hb)
    | (refine wpList_store_mid rfl 48 (.tmp 7) (.tmp 30) rfl v0.heap.size 0 S.cells.toArray rfl rfl ?_ SZS.out (stoOne _) ?_; (exact there_new _ _ _ _ (by rw [stoSize OKS.out]; rfl)); generalize hW : World.setCells _ _ _ _ = w1; have G0 := Lib.hid (stageB BD0.out hW (by rw [stoLen OKS.out]; rfl)); clear hW))
  have XW : Hid (w1.heap[w.heap.size]? = some (.cells #[.int .i64 x.kind, .int .i64 x.client, .int .i64 x.seq, .int .i64 x.name, .int .i64 x.value] 28 (0, 0))) := Lib.hid ((G0.out.1.block w.heap.size (by simp)).trans (heapNew w _))
  replace Y : Hid (Below w.heap.size w w1) := Lib.hid (((Below.refl w.heap.size w).alloc (Nat.le_refl _) _).trans (G0.out.1.mono (by simp)))
  have Xs : Hid (w1.heap[v0.heap.size]? = some (.cells S.cells.toArray 48 (0, 0))) := Lib.hid (G0.out.2)
  clear G0 BD0 hboxed
  have cW_0 : w1.cell? ⟨w.heap.size, 0, none⟩ = some (.int .i64 x.kind) := cellAt XW.out 0 rfl
  have cW_1 : w1.cell? ⟨w.heap.size, 1, none⟩ = some (.int .i64 x.client) := cellAt XW.out 1 rfl
  have cW_2 : w1.cell? ⟨w.heap.size, 2, none⟩ = some (.int .i64 x.seq) := cellAt XW.out 2 rfl
  have cW_3 : w1.cell? ⟨w.heap.size, 3, none⟩ = some (.int .i64 x.name) := cellAt XW.out 3 rfl
  have cW_4 : w1.cell? ⟨w.heap.size, 4, none⟩ = some (.int .i64 x.value) := cellAt XW.out 4 rfl
  have fW := freeAt XW.out
  have RGs := Lib.hid (range_of Xs.out)
  go_upto_region 4 with (first
    | (go_at_call 17; refine (HCMD.out _).mono ?_; rintro e v1 ⟨rfl, hb⟩; have BD1 := Lib.hid hb; clear hb)
    | (go_at_call 15; refine (picked_any _ _ _ (by assumption) (by assumption) (by decide)).mono ?_; rintro e w9 ⟨rfl, rfl⟩))
  generalize hW : World.alloc _ _ = w2
  have GF := Lib.hid (stageC BD1.out hW)
  clear hW
  clear cW_0 cW_1 cW_2 cW_3 cW_4 fW RGs
  have ge1 := GF.out.2.2
  have NWc : Hid (w.heap.size ≠ v1.heap.size) := Lib.hid (by have h1 := lt_of_heap XW.out; omega)
  have Nsc : Hid (v0.heap.size ≠ v1.heap.size) := Lib.hid (by have h1 := lt_of_heap Xs.out; omega)
  have Lc : Hid (w.heap.size ≤ v1.heap.size) := Lib.hid (Nat.le_trans Y.out.size ge1)
  have hrel := GF.out.1
  have xW : w2.heap[w.heap.size]? = some (.cells #[.int .i64 x.kind, .int .i64 x.client, .int .i64 x.seq, .int .i64 x.name, .int .i64 x.value] 28 (0, 0)) := (hrel.block (w.heap.size) (lt_of_heap XW.out)).trans XW.out
  have xs : w2.heap[v0.heap.size]? = some (.cells S.cells.toArray 48 (0, 0)) := (hrel.block (v0.heap.size) (lt_of_heap Xs.out)).trans Xs.out
  replace XW := Lib.hid xW
  clear xW
  replace Xs := Lib.hid xs
  clear xs
  replace Y := Lib.hid (Y.out.trans (hrel.mono Y.out.size))
  clear hrel
  have Xc : Hid (w2.heap[v1.heap.size]? = some (.cells #[.int .i64 k, .int .i64 c, .int .i64 50, .int .i64 nm, .int .i64 vl] 29 (0, 0))) := Lib.hid (GF.out.2.1)
  clear GF BD1 ge1
  have cW_0 : w2.cell? ⟨w.heap.size, 0, none⟩ = some (.int .i64 x.kind) := cellAt XW.out 0 rfl
  have cW_1 : w2.cell? ⟨w.heap.size, 1, none⟩ = some (.int .i64 x.client) := cellAt XW.out 1 rfl
  have cW_2 : w2.cell? ⟨w.heap.size, 2, none⟩ = some (.int .i64 x.seq) := cellAt XW.out 2 rfl
  have cW_3 : w2.cell? ⟨w.heap.size, 3, none⟩ = some (.int .i64 x.name) := cellAt XW.out 3 rfl
  have cW_4 : w2.cell? ⟨w.heap.size, 4, none⟩ = some (.int .i64 x.value) := cellAt XW.out 4 rfl
  have fW := freeAt XW.out
  have RGs := Lib.hid (range_of Xs.out)
  have cc_0 : w2.cell? ⟨v1.heap.size, 0, none⟩ = some (.int .i64 k) := cellAt Xc.out 0 rfl
  have cc_1 : w2.cell? ⟨v1.heap.size, 1, none⟩ = some (.int .i64 c) := cellAt Xc.out 1 rfl
  have cc_2 : w2.cell? ⟨v1.heap.size, 2, none⟩ = some (.int .i64 50) := cellAt Xc.out 2 rfl
  have cc_3 : w2.cell? ⟨v1.heap.size, 3, none⟩ = some (.int .i64 nm) := cellAt Xc.out 3 rfl
  have cc_4 : w2.cell? ⟨v1.heap.size, 4, none⟩ = some (.int .i64 vl) := cellAt Xc.out 4 rfl
  have fc := freeAt Xc.out
  go_upto_region 5 with (first
    | (go_at_call 21; refine (D1.out _).mono ?_; rintro e v2 ⟨rfl, hb⟩; have BD2 := Lib.hid hb; clear hb)
    | (refine wpList_load_mid rfl 48 (.tmp 7) rfl (v0.heap.size) 0 rfl S.cells _ ?_ Try.underlying48 rfl LENS.out ?_; (with_reducible exact RGs.out))
    | (refine wpList_store_mid rfl 48 (.tmp 12) (.tmp 41) rfl v2.heap.size 0 T.cells.toArray rfl rfl ?_ SZT.out (stoOne _) ?_; (exact there_new0 _ _ _ _ _ (by rw [stoSize OKT.out]; rfl)); generalize hW : World.setCells _ _ _ _ = y2; have GE2 := Lib.hid (stageE BD2.out hW (by rw [stoLen OKT.out]; rfl)); have z0 := cellAt GE2.out.2.2.1 0 rfl; have z1 := cellAt GE2.out.2.2.1 1 rfl; have zf := freeAt GE2.out.2.2.1; clear hW))
  generalize hW : World.setCell _ _ _ = w3
  have GF := Lib.hid (stageF GE2.out hW)
  clear hW z0 z1 zf
  clear cW_0 cW_1 cW_2 cW_3 cW_4 fW RGs cc_0 cc_1 cc_2 cc_3 cc_4 fc
  have ol2 : w2.heap.size ≤ v2.heap.size := GF.out.2.2.2.2
  have Nxc : Hid (v2.heap.size ≠ v1.heap.size) := Lib.hid (by have h1 := lt_of_heap Xc.out; omega)
  have Nac : Hid (v2.heap.size + 1 ≠ v1.heap.size) := Lib.hid (by have h1 := lt_of_heap Xc.out; omega)
  have hrel := GF.out.1
  have xW : w3.heap[w.heap.size]? = some (.cells #[.int .i64 x.kind, .int .i64 x.client, .int .i64 x.seq, .int .i64 x.name, .int .i64 x.value] 28 (0, 0)) := (hrel.block (w.heap.size) (lt_of_heap XW.out)).trans XW.out
  have xs : w3.heap[v0.heap.size]? = some (.cells S.cells.toArray 48 (0, 0)) := (hrel.block (v0.heap.size) (lt_of_heap Xs.out)).trans Xs.out
  have xc : w3.heap[v1.heap.size]? = some (.cells #[.int .i64 k, .int .i64 c, .int .i64 50, .int .i64 nm, .int .i64 vl] 29 (0, 0)) := (hrel.block (v1.heap.size) (lt_of_heap Xc.out)).trans Xc.out
  replace XW := Lib.hid xW
  clear xW
  replace Xs := Lib.hid xs
  clear xs
  replace Xc := Lib.hid xc
  clear xc
  replace Y := Lib.hid (Y.out.trans (hrel.mono Y.out.size))
  clear hrel
  have Xx : Hid (w3.heap[v2.heap.size]? = some (.cells T.cells.toArray 48 (0, 0))) := Lib.hid (GF.out.2.1)
  have Xa : Hid (w3.heap[v2.heap.size + 1]? = some (.cells #[.int .i64 p0, .int .i64 p1] 44 (0, 0))) := Lib.hid (GF.out.2.2.1)
  clear GF GE2 BD2 ol2
  have cW_0 : w3.cell? ⟨w.heap.size, 0, none⟩ = some (.int .i64 x.kind) := cellAt XW.out 0 rfl
  have cW_1 : w3.cell? ⟨w.heap.size, 1, none⟩ = some (.int .i64 x.client) := cellAt XW.out 1 rfl
  have cW_2 : w3.cell? ⟨w.heap.size, 2, none⟩ = some (.int .i64 x.seq) := cellAt XW.out 2 rfl
  have cW_3 : w3.cell? ⟨w.heap.size, 3, none⟩ = some (.int .i64 x.name) := cellAt XW.out 3 rfl
  have cW_4 : w3.cell? ⟨w.heap.size, 4, none⟩ = some (.int .i64 x.value) := cellAt XW.out 4 rfl
  have fW := freeAt XW.out
  have RGs := Lib.hid (range_of Xs.out)
  have cc_0 : w3.cell? ⟨v1.heap.size, 0, none⟩ = some (.int .i64 k) := cellAt Xc.out 0 rfl
  have cc_1 : w3.cell? ⟨v1.heap.size, 1, none⟩ = some (.int .i64 c) := cellAt Xc.out 1 rfl
  have cc_2 : w3.cell? ⟨v1.heap.size, 2, none⟩ = some (.int .i64 50) := cellAt Xc.out 2 rfl
  have cc_3 : w3.cell? ⟨v1.heap.size, 3, none⟩ = some (.int .i64 nm) := cellAt Xc.out 3 rfl
  have cc_4 : w3.cell? ⟨v1.heap.size, 4, none⟩ = some (.int .i64 vl) := cellAt Xc.out 4 rfl
  have fc := freeAt Xc.out
  have RGx := Lib.hid (range_of Xx.out)
  have ca_0 : w3.cell? ⟨v2.heap.size + 1, 0, none⟩ = some (.int .i64 p0) := cellAt Xa.out 0 rfl
  have ca_1 : w3.cell? ⟨v2.heap.size + 1, 1, none⟩ = some (.int .i64 p1) := cellAt Xa.out 1 rfl
  go_upto_region 6 with (first
    | (go_at_call 21; refine (D2.out _).mono ?_; rintro e v3 ⟨rfl, hb⟩; have BD3 := Lib.hid hb; clear hb)
    | (refine wpList_load_mid rfl 48 (.tmp 12) rfl (v2.heap.size) 0 rfl T.cells _ ?_ Try.underlying48 rfl LENT.out ?_; (with_reducible exact RGx.out))
    | (refine wpList_store_mid rfl 48 (.tmp 15) (.tmp 48) rfl v3.heap.size 0 T.cells.toArray rfl rfl ?_ SZT.out (stoOne _) ?_; (exact there_new0 _ _ _ _ _ (by rw [stoSize OKT.out]; rfl)); generalize hW : World.setCells _ _ _ _ = y3; have GE3 := Lib.hid (stageE BD3.out hW (by rw [stoLen OKT.out]; rfl)); have z0 := cellAt GE3.out.2.2.1 0 rfl; have z1 := cellAt GE3.out.2.2.1 1 rfl; have zf := freeAt GE3.out.2.2.1; clear hW))
  generalize hW : World.setCell _ _ _ = w4
  have GF := Lib.hid (stageF GE3.out hW)
  clear hW z0 z1 zf
  clear cW_0 cW_1 cW_2 cW_3 cW_4 fW RGs cc_0 cc_1 cc_2 cc_3 cc_4 fc RGx ca_0 ca_1
  have ol3 : w3.heap.size ≤ v3.heap.size := GF.out.2.2.2.2
  have Nyc : Hid (v3.heap.size ≠ v1.heap.size) := Lib.hid (by have h1 := lt_of_heap Xc.out; omega)
  have Nbc : Hid (v3.heap.size + 1 ≠ v1.heap.size) := Lib.hid (by have h1 := lt_of_heap Xc.out; omega)
  have hrel := GF.out.1
  have xW : w4.heap[w.heap.size]? = some (.cells #[.int .i64 x.kind, .int .i64 x.client, .int .i64 x.seq, .int .i64 x.name, .int .i64 x.value] 28 (0, 0)) := (hrel.block (w.heap.size) (lt_of_heap XW.out)).trans XW.out
  have xs : w4.heap[v0.heap.size]? = some (.cells S.cells.toArray 48 (0, 0)) := (hrel.block (v0.heap.size) (lt_of_heap Xs.out)).trans Xs.out
  have xc : w4.heap[v1.heap.size]? = some (.cells #[.int .i64 k, .int .i64 c, .int .i64 50, .int .i64 nm, .int .i64 vl] 29 (0, 0)) := (hrel.block (v1.heap.size) (lt_of_heap Xc.out)).trans Xc.out
  have xx : w4.heap[v2.heap.size]? = some (.cells T.cells.toArray 48 (0, 0)) := (hrel.block (v2.heap.size) (lt_of_heap Xx.out)).trans Xx.out
  have xa : w4.heap[v2.heap.size + 1]? = some (.cells #[.int .i64 p0, .int .i64 p1] 44 (0, 0)) := (hrel.block (v2.heap.size + 1) (lt_of_heap Xa.out)).trans Xa.out
  replace XW := Lib.hid xW
  clear xW
  replace Xs := Lib.hid xs
  clear xs
  replace Xc := Lib.hid xc
  clear xc
  replace Xx := Lib.hid xx
  clear xx
  replace Xa := Lib.hid xa
  clear xa
  replace Y := Lib.hid (Y.out.trans (hrel.mono Y.out.size))
  clear hrel
  have Xy : Hid (w4.heap[v3.heap.size]? = some (.cells T.cells.toArray 48 (0, 0))) := Lib.hid (GF.out.2.1)
  have Xb : Hid (w4.heap[v3.heap.size + 1]? = some (.cells #[.int .i64 p0, .int .i64 p1] 44 (0, 0))) := Lib.hid (GF.out.2.2.1)
  clear GF GE3 BD3 ol3
  have cW_0 : w4.cell? ⟨w.heap.size, 0, none⟩ = some (.int .i64 x.kind) := cellAt XW.out 0 rfl
  have cW_1 : w4.cell? ⟨w.heap.size, 1, none⟩ = some (.int .i64 x.client) := cellAt XW.out 1 rfl
  have cW_2 : w4.cell? ⟨w.heap.size, 2, none⟩ = some (.int .i64 x.seq) := cellAt XW.out 2 rfl
  have cW_3 : w4.cell? ⟨w.heap.size, 3, none⟩ = some (.int .i64 x.name) := cellAt XW.out 3 rfl
  have cW_4 : w4.cell? ⟨w.heap.size, 4, none⟩ = some (.int .i64 x.value) := cellAt XW.out 4 rfl
  have fW := freeAt XW.out
  have RGs := Lib.hid (range_of Xs.out)
  have cc_0 : w4.cell? ⟨v1.heap.size, 0, none⟩ = some (.int .i64 k) := cellAt Xc.out 0 rfl
  have cc_1 : w4.cell? ⟨v1.heap.size, 1, none⟩ = some (.int .i64 c) := cellAt Xc.out 1 rfl
  have cc_2 : w4.cell? ⟨v1.heap.size, 2, none⟩ = some (.int .i64 50) := cellAt Xc.out 2 rfl
  have cc_3 : w4.cell? ⟨v1.heap.size, 3, none⟩ = some (.int .i64 nm) := cellAt Xc.out 3 rfl
  have cc_4 : w4.cell? ⟨v1.heap.size, 4, none⟩ = some (.int .i64 vl) := cellAt Xc.out 4 rfl
  have fc := freeAt Xc.out
  have RGx := Lib.hid (range_of Xx.out)
  have ca_0 : w4.cell? ⟨v2.heap.size + 1, 0, none⟩ = some (.int .i64 p0) := cellAt Xa.out 0 rfl
  have ca_1 : w4.cell? ⟨v2.heap.size + 1, 1, none⟩ = some (.int .i64 p1) := cellAt Xa.out 1 rfl
  have RGy := Lib.hid (range_of Xy.out)
  have cb_0 : w4.cell? ⟨v3.heap.size + 1, 0, none⟩ = some (.int .i64 p0) := cellAt Xb.out 0 rfl
  have cb_1 : w4.cell? ⟨v3.heap.size + 1, 1, none⟩ = some (.int .i64 p1) := cellAt Xb.out 1 rfl
  go_upto_region 7 with (first
    | (refine wpList_load_mid rfl 48 (.tmp 15) rfl (v3.heap.size) 0 rfl T.cells _ ?_ Try.underlying48 rfl LENT.out ?_; (with_reducible exact RGy.out))
    | (refine wpList_store_mid rfl 48 (.tmp 18) (.tmp 51) rfl w4.heap.size 0 T.cells.toArray rfl rfl ?_ SZT.out (stoOne _) ?_; (exact there_new _ _ _ _ (by rw [stoSize OKT.out]; rfl)); generalize hW : World.setCells _ _ _ _ = w5; have G0 := Lib.hid (stageB (Below.refl w4.heap.size w4) hW (by rw [stoLen OKT.out]; rfl)); clear hW))
  clear cW_0 cW_1 cW_2 cW_3 cW_4 fW RGs cc_0 cc_1 cc_2 cc_3 cc_4 fc RGx ca_0 ca_1 RGy cb_0 cb_1
  have LZW : Hid (w.heap.size < w4.heap.size) := Lib.hid (lt_of_heap XW.out)
  have LZs : Hid (v0.heap.size < w4.heap.size) := Lib.hid (lt_of_heap Xs.out)
  have LZc : Hid (v1.heap.size < w4.heap.size) := Lib.hid (lt_of_heap Xc.out)
  have LZx : Hid (v2.heap.size < w4.heap.size) := Lib.hid (lt_of_heap Xx.out)
  have LZa : Hid (v2.heap.size + 1 < w4.heap.size) := Lib.hid (lt_of_heap Xa.out)
  have LZy : Hid (v3.heap.size < w4.heap.size) := Lib.hid (lt_of_heap Xy.out)
  have LZb : Hid (v3.heap.size + 1 < w4.heap.size) := Lib.hid (lt_of_heap Xb.out)
  have LZ : Hid (w.heap.size ≤ w4.heap.size) := Lib.hid Y.out.size
  have hrel := G0.out.1
  have xW : w5.heap[w.heap.size]? = some (.cells #[.int .i64 x.kind, .int .i64 x.client, .int .i64 x.seq, .int .i64 x.name, .int .i64 x.value] 28 (0, 0)) := (hrel.block (w.heap.size) (lt_of_heap XW.out)).trans XW.out
  have xs : w5.heap[v0.heap.size]? = some (.cells S.cells.toArray 48 (0, 0)) := (hrel.block (v0.heap.size) (lt_of_heap Xs.out)).trans Xs.out
  have xc : w5.heap[v1.heap.size]? = some (.cells #[.int .i64 k, .int .i64 c, .int .i64 50, .int .i64 nm, .int .i64 vl] 29 (0, 0)) := (hrel.block (v1.heap.size) (lt_of_heap Xc.out)).trans Xc.out
  have xx : w5.heap[v2.heap.size]? = some (.cells T.cells.toArray 48 (0, 0)) := (hrel.block (v2.heap.size) (lt_of_heap Xx.out)).trans Xx.out
  have xa : w5.heap[v2.heap.size + 1]? = some (.cells #[.int .i64 p0, .int .i64 p1] 44 (0, 0)) := (hrel.block (v2.heap.size + 1) (lt_of_heap Xa.out)).trans Xa.out
  have xy : w5.heap[v3.heap.size]? = some (.cells T.cells.toArray 48 (0, 0)) := (hrel.block (v3.heap.size) (lt_of_heap Xy.out)).trans Xy.out
  have xb : w5.heap[v3.heap.size + 1]? = some (.cells #[.int .i64 p0, .int .i64 p1] 44 (0, 0)) := (hrel.block (v3.heap.size + 1) (lt_of_heap Xb.out)).trans Xb.out
  replace XW := Lib.hid xW
  clear xW
  replace Xs := Lib.hid xs
  clear xs
  replace Xc := Lib.hid xc
  clear xc
  replace Xx := Lib.hid xx
  clear xx
  replace Xa := Lib.hid xa
  clear xa
  replace Xy := Lib.hid xy
  clear xy
  replace Xb := Lib.hid xb
  clear xb
  replace Y := Lib.hid (Y.out.trans (hrel.mono Y.out.size))
  clear hrel
  have XZ0 : Hid (w5.heap[w4.heap.size]? = some (.cells T.cells.toArray 48 (0, 0))) := Lib.hid G0.out.2
  clear G0
  obtain ⟨bz, hbz⟩ : ∃ b, b = w4.heap.size := ⟨_, rfl⟩
  rw [← hbz] at XZ0 LZ LZW LZs LZc LZx LZa LZy LZb ⊢
  clear hbz
  go_wp2_with fail
  go_loopw [19] (fun i wr => ∃ (j : Nat) (Z : Sto), j ≤ n2 ∧ j ≤ 10 ∧ i = .int .i64 j ∧ Hid (wr.heap[bz]? = some (.cells Z.cells.toArray 48 (0, 0))) ∧ Hid (Below bz w5 wr) ∧ Hid Z.Ok ∧ Hid (S.rev c = false → Z.Past c p0 p1)) (fun i _ => n2 - (intOf i).toNat)
  case atStart => exact ⟨0, T, by omega, by omega, rfl, XZ0, Lib.hid (Below.refl _ _), OKT, Lib.hid (fun h => ⟨OKT.out, .inl (by obtain ⟨q1, q2, q3⟩ := HFR.out h; injection q3 with q4 q5; exact ⟨q1, q4.symm, q5.symm⟩)⟩)⟩
  case round =>
    obtain ⟨j, Z, hjn, hj10, rfl, Xz, YZ, OKZ, PZ⟩ := hrel
    replace XW : Hid (wr.heap[w.heap.size]? = some (.cells #[.int .i64 x.kind, .int .i64 x.client, .int .i64 x.seq, .int .i64 x.name, .int .i64 x.value] 28 (0, 0))) := Lib.hid ((YZ.out.block (w.heap.size) LZW.out).trans XW.out)
    replace Xs : Hid (wr.heap[v0.heap.size]? = some (.cells S.cells.toArray 48 (0, 0))) := Lib.hid ((YZ.out.block (v0.heap.size) LZs.out).trans Xs.out)
    replace Xc : Hid (wr.heap[v1.heap.size]? = some (.cells #[.int .i64 k, .int .i64 c, .int .i64 50, .int .i64 nm, .int .i64 vl] 29 (0, 0))) := Lib.hid ((YZ.out.block (v1.heap.size) LZc.out).trans Xc.out)
    replace Xx : Hid (wr.heap[v2.heap.size]? = some (.cells T.cells.toArray 48 (0, 0))) := Lib.hid ((YZ.out.block (v2.heap.size) LZx.out).trans Xx.out)
    replace Xa : Hid (wr.heap[v2.heap.size + 1]? = some (.cells #[.int .i64 p0, .int .i64 p1] 44 (0, 0))) := Lib.hid ((YZ.out.block (v2.heap.size + 1) LZa.out).trans Xa.out)
    replace Xy : Hid (wr.heap[v3.heap.size]? = some (.cells T.cells.toArray 48 (0, 0))) := Lib.hid ((YZ.out.block (v3.heap.size) LZy.out).trans Xy.out)
    replace Xb : Hid (wr.heap[v3.heap.size + 1]? = some (.cells #[.int .i64 p0, .int .i64 p1] 44 (0, 0))) := Lib.hid ((YZ.out.block (v3.heap.size + 1) LZb.out).trans Xb.out)
    replace Y : Hid (Below w.heap.size w wr) := Lib.hid (Y.out.trans (YZ.out.mono LZ.out))
    have LENZ := Lib.hid (show (Try.prog.info? 48).map (fun x => x.size) = some Z.cells.length by rw [stoLen OKZ.out]; exact stoSz)
    have SZZ := Lib.hid (show (Try.prog.info? 48).map (fun x => x.size) = some Z.cells.toArray.size by rw [stoSize OKZ.out]; exact stoSz)
    by_cases hlt : j < n2 ∧ j < 10
    · obtain ⟨h1, h2⟩ := hlt
      have hd1 : decide ((j : Int) < n2) = true := by rw [decide_eq_true_eq]; omega
      have hd2 : decide ((j : Int) < 10) = true := by rw [decide_eq_true_eq]; omega
      have hd3 : decide (j < n2) = true := by rw [decide_eq_true_eq]; omega
      have hd4 : decide (j < 10) = true := by rw [decide_eq_true_eq]; omega
      obtain ⟨z, hz⟩ : ∃ z, z = l2.getD j Cmd.zero := ⟨_, rfl⟩
      have hzm : z ∈ l2 := by rw [hz, getD_lt _ _ _ (by have := HN.out; omega)]; exact List.getElem_mem _
      have hwz := HOK.out z hzm
      obtain ⟨b, off, rfl, hcl⟩ := HCELL.out (fun e => by rw [e] at hzm; cases hzm)
      have hcl2 := hcl j (by have := HN.out; omega)
      rw [← hz] at hcl2
      have hbl : b < w.heap.size := World.block_lt_of_cell? w ⟨b, off + (5 * j + 0), none⟩ ((hcl2 0 (by decide)).trans rfl)
      have hcw : ∀ i, i < 5 → wr.cell? ⟨b, off + (5 * j + i), none⟩ = (wishCells z)[i]? := fun i hi => by rw [← hcl2 i hi]; exact World.cell?_of_block (w := w) (Y.out.block b hbl)
      obtain ⟨e0, e1, e2, e3, e4⟩ := wish_cells b off j wr z hcw
      have nums2 := cmdOf_nums z
      obtain ⟨k2, cl2, sq2, nm2, vl2, hco2⟩ : ∃ k2 cl2 sq2 nm2 vl2, cmdOf z = ⟨k2, cl2, sq2, nm2, vl2⟩ := ⟨_, _, _, _, _, rfl⟩
      rw [hco2] at nums2
      have HCMD2 : Hid (∀ W, Calls Try.prog 17 #[.agg #[.int .i64 z.kind, .int .i64 z.client, .int .i64 z.seq, .int .i64 z.name, .int .i64 z.value]] W fun e w' => e = .returned (.agg #[.int .i64 k2, .int .i64 cl2, .int .i64 sq2, .int .i64 nm2, .int .i64 vl2]) ∧ Below W.heap.size W w') := Lib.hid (fun W => by have hh := Command_any z W hwz; rw [hco2] at hh; exact hh)
      obtain ⟨hckD3, hokz, hpast⟩ := once_more (z := Z) (cd := p0) (av := p1) j h2 nums2 (c : Int) (by omega) (by omega)
      obtain ⟨U, hSD3⟩ : ∃ t : Sto, t = Z.next ⟨k2, c, (51 + (j : Int)), nm2, vl2⟩ := ⟨_, rfl⟩
      try rw [← hSD3] at hokz
      try rw [← hSD3] at hpast
      have OKU : Hid U.Ok := Lib.hid (by rw [hSD3]; exact Z.next_ok OKZ.out _ hckD3)
      have LENU := Lib.hid (show (Try.prog.info? 48).map (fun x => x.size) = some U.cells.length by rw [stoLen OKU.out]; exact stoSz)
      have SZU := Lib.hid (show (Try.prog.info? 48).map (fun x => x.size) = some U.cells.toArray.size by rw [stoSize OKU.out]; exact stoSz)
      have PU : Hid (S.rev c = false → U.Past c p0 p1) := Lib.hid (fun h => hpast (PZ.out h))
      obtain ⟨r0, r1, hAD3⟩ : ∃ r0 r1, Z.answer ⟨k2, c, (51 + (j : Int)), nm2, vl2⟩ = (r0, r1) := ⟨_, _, rfl⟩
      have D3 : Hid (∀ W, Calls Try.prog 21 #[.agg Z.cells.toArray, .agg #[.int .i64 k2, .int .i64 c, .int .i64 (51 + (j : Int)), .int .i64 nm2, .int .i64 vl2]] W fun e w' => e = .returned (.tuple #[.agg U.cells.toArray, .agg #[.int .i64 r0, .int .i64 r1], .int .i64 0]) ∧ Below W.heap.size W w') := Lib.hid (fun W => by have hh := Do_any Z OKZ.out ⟨k2, c, (51 + (j : Int)), nm2, vl2⟩ hckD3 W; rw [← hSD3, hAD3] at hh; exact hh)
      clear hzm hwz hcl hcl2 hcw hbl hz nums2 hco2 hckD3 hokz hpast hSD3 hAD3
      have cW_0 : wr.cell? ⟨w.heap.size, 0, none⟩ = some (.int .i64 x.kind) := cellAt XW.out 0 rfl
      have cW_1 : wr.cell? ⟨w.heap.size, 1, none⟩ = some (.int .i64 x.client) := cellAt XW.out 1 rfl
      have cW_2 : wr.cell? ⟨w.heap.size, 2, none⟩ = some (.int .i64 x.seq) := cellAt XW.out 2 rfl
      have cW_3 : wr.cell? ⟨w.heap.size, 3, none⟩ = some (.int .i64 x.name) := cellAt XW.out 3 rfl
      have cW_4 : wr.cell? ⟨w.heap.size, 4, none⟩ = some (.int .i64 x.value) := cellAt XW.out 4 rfl
      have fW := freeAt XW.out
      have RGs := Lib.hid (range_of Xs.out)
      have cc_0 : wr.cell? ⟨v1.heap.size, 0, none⟩ = some (.int .i64 k) := cellAt Xc.out 0 rfl
      have cc_1 : wr.cell? ⟨v1.heap.size, 1, none⟩ = some (.int .i64 c) := cellAt Xc.out 1 rfl
      have cc_2 : wr.cell? ⟨v1.heap.size, 2, none⟩ = some (.int .i64 50) := cellAt Xc.out 2 rfl
      have cc_3 : wr.cell? ⟨v1.heap.size, 3, none⟩ = some (.int .i64 nm) := cellAt Xc.out 3 rfl
      have cc_4 : wr.cell? ⟨v1.heap.size, 4, none⟩ = some (.int .i64 vl) := cellAt Xc.out 4 rfl
      have fc := freeAt Xc.out
      have RGx := Lib.hid (range_of Xx.out)
      have ca_0 : wr.cell? ⟨v2.heap.size + 1, 0, none⟩ = some (.int .i64 p0) := cellAt Xa.out 0 rfl
      have ca_1 : wr.cell? ⟨v2.heap.size + 1, 1, none⟩ = some (.int .i64 p1) := cellAt Xa.out 1 rfl
      have RGy := Lib.hid (range_of Xy.out)
      have cb_0 : wr.cell? ⟨v3.heap.size + 1, 0, none⟩ = some (.int .i64 p0) := cellAt Xb.out 0 rfl
      have cb_1 : wr.cell? ⟨v3.heap.size + 1, 1, none⟩ = some (.int .i64 p1) := cellAt Xb.out 1 rfl
      have RGz := Lib.hid (range_of Xz.out)
      go_upto_region 13 with (first
        | (go_at_call 17; refine (HCMD2.out _).mono ?_; rintro e v7 ⟨rfl, hb⟩; have BD7 := Lib.hid hb; have hq7 : ∀ o, (v7.alloc o).cell? ⟨v1.heap.size, 1, none⟩ = some (.int .i64 c) := fun o => cellAt ((heapOld _ _ _ (Nat.lt_of_lt_of_le (lt_of_heap Xc.out) hb.size)).trans ((hb.block _ (lt_of_heap Xc.out)).trans Xc.out)) 1 rfl; clear hb))
      generalize hW : World.alloc _ _ = w7
      have GF := Lib.hid (stageC BD7.out hW)
      clear hW hq7 e0 e1 e2 e3 e4
      clear cW_0 cW_1 cW_2 cW_3 cW_4 fW RGs cc_0 cc_1 cc_2 cc_3 cc_4 fc RGx ca_0 ca_1 RGy cb_0 cb_1 RGz
      have hrz : bz < wr.heap.size := lt_of_heap Xz.out
      have hrel := GF.out.1
      have xW : w7.heap[w.heap.size]? = some (.cells #[.int .i64 x.kind, .int .i64 x.client, .int .i64 x.seq, .int .i64 x.name, .int .i64 x.value] 28 (0, 0)) := (hrel.block (w.heap.size) (lt_of_heap XW.out)).trans XW.out
      have xs : w7.heap[v0.heap.size]? = some (.cells S.cells.toArray 48 (0, 0)) := (hrel.block (v0.heap.size) (lt_of_heap Xs.out)).trans Xs.out
      have xc : w7.heap[v1.heap.size]? = some (.cells #[.int .i64 k, .int .i64 c, .int .i64 50, .int .i64 nm, .int .i64 vl] 29 (0, 0)) := (hrel.block (v1.heap.size) (lt_of_heap Xc.out)).trans Xc.out
      have xx : w7.heap[v2.heap.size]? = some (.cells T.cells.toArray 48 (0, 0)) := (hrel.block (v2.heap.size) (lt_of_heap Xx.out)).trans Xx.out
      have xa : w7.heap[v2.heap.size + 1]? = some (.cells #[.int .i64 p0, .int .i64 p1] 44 (0, 0)) := (hrel.block (v2.heap.size + 1) (lt_of_heap Xa.out)).trans Xa.out
      have xy : w7.heap[v3.heap.size]? = some (.cells T.cells.toArray 48 (0, 0)) := (hrel.block (v3.heap.size) (lt_of_heap Xy.out)).trans Xy.out
      have xb : w7.heap[v3.heap.size + 1]? = some (.cells #[.int .i64 p0, .int .i64 p1] 44 (0, 0)) := (hrel.block (v3.heap.size + 1) (lt_of_heap Xb.out)).trans Xb.out
      have xz : w7.heap[bz]? = some (.cells Z.cells.toArray 48 (0, 0)) := (hrel.block (bz) (lt_of_heap Xz.out)).trans Xz.out
      replace YZ := Lib.hid (YZ.out.trans (hrel.mono (Nat.le_of_lt (lt_of_heap Xz.out))))
      replace XW := Lib.hid xW
      clear xW
      replace Xs := Lib.hid xs
      clear xs
      replace Xc := Lib.hid xc
      clear xc
      replace Xx := Lib.hid xx
      clear xx
      replace Xa := Lib.hid xa
      clear xa
      replace Xy := Lib.hid xy
      clear xy
      replace Xb := Lib.hid xb
      clear xb
      replace Xz := Lib.hid xz
      clear xz
      replace Y := Lib.hid (Y.out.trans (hrel.mono Y.out.size))
      clear hrel
      have Xd : Hid (w7.heap[v7.heap.size]? = some (.cells #[.int .i64 k2, .int .i64 c, .int .i64 (51 + (j : Int)), .int .i64 nm2, .int .i64 vl2] 29 (0, 0))) := Lib.hid (GF.out.2.1)
      have NEd : Hid (bz < v7.heap.size) := Lib.hid (by have h3 := GF.out.2.2; omega)
      clear GF BD7
      have cW_0 : w7.cell? ⟨w.heap.size, 0, none⟩ = some (.int .i64 x.kind) := cellAt XW.out 0 rfl
      have cW_1 : w7.cell? ⟨w.heap.size, 1, none⟩ = some (.int .i64 x.client) := cellAt XW.out 1 rfl
      have cW_2 : w7.cell? ⟨w.heap.size, 2, none⟩ = some (.int .i64 x.seq) := cellAt XW.out 2 rfl
      have cW_3 : w7.cell? ⟨w.heap.size, 3, none⟩ = some (.int .i64 x.name) := cellAt XW.out 3 rfl
      have cW_4 : w7.cell? ⟨w.heap.size, 4, none⟩ = some (.int .i64 x.value) := cellAt XW.out 4 rfl
      have fW := freeAt XW.out
      have RGs := Lib.hid (range_of Xs.out)
      have cc_0 : w7.cell? ⟨v1.heap.size, 0, none⟩ = some (.int .i64 k) := cellAt Xc.out 0 rfl
      have cc_1 : w7.cell? ⟨v1.heap.size, 1, none⟩ = some (.int .i64 c) := cellAt Xc.out 1 rfl
      have cc_2 : w7.cell? ⟨v1.heap.size, 2, none⟩ = some (.int .i64 50) := cellAt Xc.out 2 rfl
      have cc_3 : w7.cell? ⟨v1.heap.size, 3, none⟩ = some (.int .i64 nm) := cellAt Xc.out 3 rfl
      have cc_4 : w7.cell? ⟨v1.heap.size, 4, none⟩ = some (.int .i64 vl) := cellAt Xc.out 4 rfl
      have fc := freeAt Xc.out
      have RGx := Lib.hid (range_of Xx.out)
      have ca_0 : w7.cell? ⟨v2.heap.size + 1, 0, none⟩ = some (.int .i64 p0) := cellAt Xa.out 0 rfl
      have ca_1 : w7.cell? ⟨v2.heap.size + 1, 1, none⟩ = some (.int .i64 p1) := cellAt Xa.out 1 rfl
      have RGy := Lib.hid (range_of Xy.out)
      have cb_0 : w7.cell? ⟨v3.heap.size + 1, 0, none⟩ = some (.int .i64 p0) := cellAt Xb.out 0 rfl
      have cb_1 : w7.cell? ⟨v3.heap.size + 1, 1, none⟩ = some (.int .i64 p1) := cellAt Xb.out 1 rfl
      have RGz := Lib.hid (range_of Xz.out)
      have cd_0 : w7.cell? ⟨v7.heap.size, 0, none⟩ = some (.int .i64 k2) := cellAt Xd.out 0 rfl
      have cd_1 : w7.cell? ⟨v7.heap.size, 1, none⟩ = some (.int .i64 c) := cellAt Xd.out 1 rfl
      have cd_2 : w7.cell? ⟨v7.heap.size, 2, none⟩ = some (.int .i64 (51 + (j : Int))) := cellAt Xd.out 2 rfl
      have cd_3 : w7.cell? ⟨v7.heap.size, 3, none⟩ = some (.int .i64 nm2) := cellAt Xd.out 3 rfl
      have cd_4 : w7.cell? ⟨v7.heap.size, 4, none⟩ = some (.int .i64 vl2) := cellAt Xd.out 4 rfl
      have fd := freeAt Xd.out
      go_upto_region 14 with (first
        | (go_at_call 21; refine (D3.out _).mono ?_; rintro e v4 ⟨rfl, hb⟩; have BD4 := Lib.hid hb; clear hb)
        | (refine wpList_load_mid rfl 48 (.tmp 18) rfl (bz) 0 rfl Z.cells _ ?_ Try.underlying48 rfl LENZ.out ?_; (with_reducible exact RGz.out))
        | (refine wpList_store_mid rfl 48 (.tmp 21) (.tmp 77) rfl v4.heap.size 0 U.cells.toArray rfl rfl ?_ SZU.out (stoOne _) ?_; (exact there_new0 _ _ _ _ _ (by rw [stoSize OKU.out]; rfl)); generalize hW : World.setCells _ _ _ _ = y4; have GE4 := Lib.hid (stageE BD4.out hW (by rw [stoLen OKU.out]; rfl)); have z0 := cellAt GE4.out.2.2.1 0 rfl; have z1 := cellAt GE4.out.2.2.1 1 rfl; have zf := freeAt GE4.out.2.2.1; clear hW))
      generalize hW : World.setCell _ _ _ = w8
      have GF := Lib.hid (stageF GE4.out hW)
      clear hW z0 z1 zf
      clear cW_0 cW_1 cW_2 cW_3 cW_4 fW RGs cc_0 cc_1 cc_2 cc_3 cc_4 fc RGx ca_0 ca_1 RGy cb_0 cb_1 RGz cd_0 cd_1 cd_2 cd_3 cd_4 fd
      have ol4 : w7.heap.size ≤ v4.heap.size := GF.out.2.2.2.2
      have Nzzc : Hid (v4.heap.size ≠ v1.heap.size) := Lib.hid (by have h1 := lt_of_heap Xc.out; omega)
      have Nzac : Hid (v4.heap.size + 1 ≠ v1.heap.size) := Lib.hid (by have h1 := lt_of_heap Xc.out; omega)
      have Nzzd : Hid (v4.heap.size ≠ v7.heap.size) := Lib.hid (by have h1 := lt_of_heap Xd.out; omega)
      have Nzad : Hid (v4.heap.size + 1 ≠ v7.heap.size) := Lib.hid (by have h1 := lt_of_heap Xd.out; omega)
      have hrel := GF.out.1
      have xW : w8.heap[w.heap.size]? = some (.cells #[.int .i64 x.kind, .int .i64 x.client, .int .i64 x.seq, .int .i64 x.name, .int .i64 x.value] 28 (0, 0)) := (hrel.block (w.heap.size) (lt_of_heap XW.out)).trans XW.out
      have xs : w8.heap[v0.heap.size]? = some (.cells S.cells.toArray 48 (0, 0)) := (hrel.block (v0.heap.size) (lt_of_heap Xs.out)).trans Xs.out
      have xc : w8.heap[v1.heap.size]? = some (.cells #[.int .i64 k, .int .i64 c, .int .i64 50, .int .i64 nm, .int .i64 vl] 29 (0, 0)) := (hrel.block (v1.heap.size) (lt_of_heap Xc.out)).trans Xc.out
      have xx : w8.heap[v2.heap.size]? = some (.cells T.cells.toArray 48 (0, 0)) := (hrel.block (v2.heap.size) (lt_of_heap Xx.out)).trans Xx.out
      have xa : w8.heap[v2.heap.size + 1]? = some (.cells #[.int .i64 p0, .int .i64 p1] 44 (0, 0)) := (hrel.block (v2.heap.size + 1) (lt_of_heap Xa.out)).trans Xa.out
      have xy : w8.heap[v3.heap.size]? = some (.cells T.cells.toArray 48 (0, 0)) := (hrel.block (v3.heap.size) (lt_of_heap Xy.out)).trans Xy.out
      have xb : w8.heap[v3.heap.size + 1]? = some (.cells #[.int .i64 p0, .int .i64 p1] 44 (0, 0)) := (hrel.block (v3.heap.size + 1) (lt_of_heap Xb.out)).trans Xb.out
      have xz : w8.heap[bz]? = some (.cells Z.cells.toArray 48 (0, 0)) := (hrel.block (bz) (lt_of_heap Xz.out)).trans Xz.out
      have xd : w8.heap[v7.heap.size]? = some (.cells #[.int .i64 k2, .int .i64 c, .int .i64 (51 + (j : Int)), .int .i64 nm2, .int .i64 vl2] 29 (0, 0)) := (hrel.block (v7.heap.size) (lt_of_heap Xd.out)).trans Xd.out
      replace YZ := Lib.hid (YZ.out.trans (hrel.mono (Nat.le_of_lt (lt_of_heap Xz.out))))
      replace XW := Lib.hid xW
      clear xW
      replace Xs := Lib.hid xs
      clear xs
      replace Xc := Lib.hid xc
      clear xc
      replace Xx := Lib.hid xx
      clear xx
      replace Xa := Lib.hid xa
      clear xa
      replace Xy := Lib.hid xy
      clear xy
      replace Xb := Lib.hid xb
      clear xb
      replace Xz := Lib.hid xz
      clear xz
      replace Xd := Lib.hid xd
      clear xd
      replace Y := Lib.hid (Y.out.trans (hrel.mono Y.out.size))
      clear hrel
      have Xzz : Hid (w8.heap[v4.heap.size]? = some (.cells U.cells.toArray 48 (0, 0))) := Lib.hid (GF.out.2.1)
      have Xza : Hid (w8.heap[v4.heap.size + 1]? = some (.cells #[.int .i64 r0, .int .i64 r1] 44 (0, 0))) := Lib.hid (GF.out.2.2.1)
      clear GF GE4 BD4 ol4
      have cW_0 : w8.cell? ⟨w.heap.size, 0, none⟩ = some (.int .i64 x.kind) := cellAt XW.out 0 rfl
      have cW_1 : w8.cell? ⟨w.heap.size, 1, none⟩ = some (.int .i64 x.client) := cellAt XW.out 1 rfl
      have cW_2 : w8.cell? ⟨w.heap.size, 2, none⟩ = some (.int .i64 x.seq) := cellAt XW.out 2 rfl
      have cW_3 : w8.cell? ⟨w.heap.size, 3, none⟩ = some (.int .i64 x.name) := cellAt XW.out 3 rfl
      have cW_4 : w8.cell? ⟨w.heap.size, 4, none⟩ = some (.int .i64 x.value) := cellAt XW.out 4 rfl
      have fW := freeAt XW.out
      have RGs := Lib.hid (range_of Xs.out)
      have cc_0 : w8.cell? ⟨v1.heap.size, 0, none⟩ = some (.int .i64 k) := cellAt Xc.out 0 rfl
      have cc_1 : w8.cell? ⟨v1.heap.size, 1, none⟩ = some (.int .i64 c) := cellAt Xc.out 1 rfl
      have cc_2 : w8.cell? ⟨v1.heap.size, 2, none⟩ = some (.int .i64 50) := cellAt Xc.out 2 rfl
      have cc_3 : w8.cell? ⟨v1.heap.size, 3, none⟩ = some (.int .i64 nm) := cellAt Xc.out 3 rfl
      have cc_4 : w8.cell? ⟨v1.heap.size, 4, none⟩ = some (.int .i64 vl) := cellAt Xc.out 4 rfl
      have fc := freeAt Xc.out
      have RGx := Lib.hid (range_of Xx.out)
      have ca_0 : w8.cell? ⟨v2.heap.size + 1, 0, none⟩ = some (.int .i64 p0) := cellAt Xa.out 0 rfl
      have ca_1 : w8.cell? ⟨v2.heap.size + 1, 1, none⟩ = some (.int .i64 p1) := cellAt Xa.out 1 rfl
      have RGy := Lib.hid (range_of Xy.out)
      have cb_0 : w8.cell? ⟨v3.heap.size + 1, 0, none⟩ = some (.int .i64 p0) := cellAt Xb.out 0 rfl
      have cb_1 : w8.cell? ⟨v3.heap.size + 1, 1, none⟩ = some (.int .i64 p1) := cellAt Xb.out 1 rfl
      have RGz := Lib.hid (range_of Xz.out)
      have cd_0 : w8.cell? ⟨v7.heap.size, 0, none⟩ = some (.int .i64 k2) := cellAt Xd.out 0 rfl
      have cd_1 : w8.cell? ⟨v7.heap.size, 1, none⟩ = some (.int .i64 c) := cellAt Xd.out 1 rfl
      have cd_2 : w8.cell? ⟨v7.heap.size, 2, none⟩ = some (.int .i64 (51 + (j : Int))) := cellAt Xd.out 2 rfl
      have cd_3 : w8.cell? ⟨v7.heap.size, 3, none⟩ = some (.int .i64 nm2) := cellAt Xd.out 3 rfl
      have cd_4 : w8.cell? ⟨v7.heap.size, 4, none⟩ = some (.int .i64 vl2) := cellAt Xd.out 4 rfl
      have fd := freeAt Xd.out
      have RGzz := Lib.hid (range_of Xzz.out)
      have cza_0 : w8.cell? ⟨v4.heap.size + 1, 0, none⟩ = some (.int .i64 r0) := cellAt Xza.out 0 rfl
      have cza_1 : w8.cell? ⟨v4.heap.size + 1, 1, none⟩ = some (.int .i64 r1) := cellAt Xza.out 1 rfl
      have th : w8.there bz 0 U.cells.toArray.size := by rw [stoSize OKU.out]; exact there_of Xz.out (stoSize OKZ.out)
      have TH := Lib.hid th
      clear th
      go_wp2_with (first
        | (refine wpList_load_mid rfl 48 (.tmp 21) rfl (v4.heap.size) 0 rfl U.cells _ ?_ Try.underlying48 rfl LENU.out ?_; (with_reducible exact RGzz.out))
        | (refine wpList_store_mid rfl 48 (.tmp 18) (.tmp 82) rfl bz 0 U.cells.toArray rfl rfl ?_ SZU.out (stoOne _) ?_; (with_reducible exact TH.out); generalize hW : World.setCells _ _ _ _ = w9; have XN : Hid (w9.heap[bz]? = some (.cells U.cells.toArray 48 (0, 0))) := Lib.hid (by rw [← hW]; exact storedRow Xz.out (by rw [stoSize OKZ.out]; exact (stoLen OKU.out).symm)); have YN : Hid (Below bz w5 w9) := Lib.hid (by rw [← hW]; exact below_setCells (Nat.le_refl _) _ _ _ YZ.out); clear hW))
      go_roundw
      case rel => exact ⟨j + 1, U, by omega, by omega, by go_num, XN, YN, OKU, PU⟩
      case measure => simp [intOf]; omega
    · have hcond : (decide (j < n2) = true ∧ decide ((j : Int) < n2) = true ∧ decide (j < 10) = false ∧ decide ((j : Int) < 10) = false) ∨ (decide (j < n2) = false ∧ decide ((j : Int) < n2) = false) := by
        simp only [decide_eq_true_eq, decide_eq_false_iff_not]; omega
      have hckD5 := HCK.out
      obtain ⟨U, hSD5⟩ : ∃ t : Sto, t = Z.next ⟨k, c, 50, nm, vl⟩ := ⟨_, rfl⟩
      have OKU : Hid U.Ok := Lib.hid (by rw [hSD5]; exact Z.next_ok OKZ.out _ hckD5)
      have LENU := Lib.hid (show (Try.prog.info? 48).map (fun x => x.size) = some U.cells.length by rw [stoLen OKU.out]; exact stoSz)
      have SZU := Lib.hid (show (Try.prog.info? 48).map (fun x => x.size) = some U.cells.toArray.size by rw [stoSize OKU.out]; exact stoSz)
      obtain ⟨q0, q1, hAD5⟩ : ∃ q0 q1, Z.answer ⟨k, c, 50, nm, vl⟩ = (q0, q1) := ⟨_, _, rfl⟩
      have HLAST : Hid (S.rev c = false → U = Z ∧ ((q0, q1) = (p0, p1) ∨ q0 = 7)) := Lib.hid (fun h => by have hh := once_last NUMS.out (PZ.out h); rw [← hSD5, hAD5] at hh; exact hh)
      have D5 : Hid (∀ W, Calls Try.prog 21 #[.agg Z.cells.toArray, .agg #[.int .i64 k, .int .i64 c, .int .i64 50, .int .i64 nm, .int .i64 vl]] W fun e w' => e = .returned (.tuple #[.agg U.cells.toArray, .agg #[.int .i64 q0, .int .i64 q1], .int .i64 0]) ∧ Below W.heap.size W w') := Lib.hid (fun W => by have hh := Do_any Z OKZ.out ⟨k, c, 50, nm, vl⟩ hckD5 W; rw [← hSD5, hAD5] at hh; exact hh)
      have eqZ : ∀ W, (Op.equalIn 10000 48 (.agg Z.cells.toArray) (.agg Z.cells.toArray)).run Try.prog W = .ok true W := fun W => by rw [eqIn_store OKZ.out OKZ.out W]; simp
      clear hckD5 hSD5 hAD5 hlt
      rcases hcond with ⟨hd1, hd2, hd3, hd4⟩ | ⟨hd1, hd2⟩
      all_goals
        have cW_0 : wr.cell? ⟨w.heap.size, 0, none⟩ = some (.int .i64 x.kind) := cellAt XW.out 0 rfl
        have cW_1 : wr.cell? ⟨w.heap.size, 1, none⟩ = some (.int .i64 x.client) := cellAt XW.out 1 rfl
        have cW_2 : wr.cell? ⟨w.heap.size, 2, none⟩ = some (.int .i64 x.seq) := cellAt XW.out 2 rfl
        have cW_3 : wr.cell? ⟨w.heap.size, 3, none⟩ = some (.int .i64 x.name) := cellAt XW.out 3 rfl
        have cW_4 : wr.cell? ⟨w.heap.size, 4, none⟩ = some (.int .i64 x.value) := cellAt XW.out 4 rfl
        have fW := freeAt XW.out
        have RGs := Lib.hid (range_of Xs.out)
        have cc_0 : wr.cell? ⟨v1.heap.size, 0, none⟩ = some (.int .i64 k) := cellAt Xc.out 0 rfl
        have cc_1 : wr.cell? ⟨v1.heap.size, 1, none⟩ = some (.int .i64 c) := cellAt Xc.out 1 rfl
        have cc_2 : wr.cell? ⟨v1.heap.size, 2, none⟩ = some (.int .i64 50) := cellAt Xc.out 2 rfl
        have cc_3 : wr.cell? ⟨v1.heap.size, 3, none⟩ = some (.int .i64 nm) := cellAt Xc.out 3 rfl
        have cc_4 : wr.cell? ⟨v1.heap.size, 4, none⟩ = some (.int .i64 vl) := cellAt Xc.out 4 rfl
        have fc := freeAt Xc.out
        have RGx := Lib.hid (range_of Xx.out)
        have ca_0 : wr.cell? ⟨v2.heap.size + 1, 0, none⟩ = some (.int .i64 p0) := cellAt Xa.out 0 rfl
        have ca_1 : wr.cell? ⟨v2.heap.size + 1, 1, none⟩ = some (.int .i64 p1) := cellAt Xa.out 1 rfl
        have RGy := Lib.hid (range_of Xy.out)
        have cb_0 : wr.cell? ⟨v3.heap.size + 1, 0, none⟩ = some (.int .i64 p0) := cellAt Xb.out 0 rfl
        have cb_1 : wr.cell? ⟨v3.heap.size + 1, 1, none⟩ = some (.int .i64 p1) := cellAt Xb.out 1 rfl
        have RGz := Lib.hid (range_of Xz.out)
        go_upto_region 18 with (first
          | (go_at_call 21; refine (D5.out _).mono ?_; rintro e v5 ⟨rfl, hb⟩; have BD5 := Lib.hid hb; clear hb)
          | (refine wpList_load_mid rfl 48 (.tmp 18) rfl (bz) 0 rfl Z.cells _ ?_ Try.underlying48 rfl LENZ.out ?_; (with_reducible exact RGz.out))
          | (refine wpList_store_mid rfl 48 (.tmp 24) (.tmp 87) rfl v5.heap.size 0 U.cells.toArray rfl rfl ?_ SZU.out (stoOne _) ?_; (exact there_new0 _ _ _ _ _ (by rw [stoSize OKU.out]; rfl)); generalize hW : World.setCells _ _ _ _ = y5; have GE5 := Lib.hid (stageE BD5.out hW (by rw [stoLen OKU.out]; rfl)); have z0 := cellAt GE5.out.2.2.1 0 rfl; have z1 := cellAt GE5.out.2.2.1 1 rfl; have zf := freeAt GE5.out.2.2.1; clear hW))
        generalize hW : World.setCell _ _ _ = w8
        have GF := Lib.hid (stageF GE5.out hW)
        clear hW z0 z1 zf
        clear cW_0 cW_1 cW_2 cW_3 cW_4 fW RGs cc_0 cc_1 cc_2 cc_3 cc_4 fc RGx ca_0 ca_1 RGy cb_0 cb_1 RGz
        have ol5 : wr.heap.size ≤ v5.heap.size := GF.out.2.2.2.2
        have Nuc : Hid (v5.heap.size ≠ v1.heap.size) := Lib.hid (by have h1 := lt_of_heap Xc.out; omega)
        have Nqc : Hid (v5.heap.size + 1 ≠ v1.heap.size) := Lib.hid (by have h1 := lt_of_heap Xc.out; omega)
        have hrel := GF.out.1
        have xW : w8.heap[w.heap.size]? = some (.cells #[.int .i64 x.kind, .int .i64 x.client, .int .i64 x.seq, .int .i64 x.name, .int .i64 x.value] 28 (0, 0)) := (hrel.block (w.heap.size) (lt_of_heap XW.out)).trans XW.out
        have xs : w8.heap[v0.heap.size]? = some (.cells S.cells.toArray 48 (0, 0)) := (hrel.block (v0.heap.size) (lt_of_heap Xs.out)).trans Xs.out
        have xc : w8.heap[v1.heap.size]? = some (.cells #[.int .i64 k, .int .i64 c, .int .i64 50, .int .i64 nm, .int .i64 vl] 29 (0, 0)) := (hrel.block (v1.heap.size) (lt_of_heap Xc.out)).trans Xc.out
        have xx : w8.heap[v2.heap.size]? = some (.cells T.cells.toArray 48 (0, 0)) := (hrel.block (v2.heap.size) (lt_of_heap Xx.out)).trans Xx.out
        have xa : w8.heap[v2.heap.size + 1]? = some (.cells #[.int .i64 p0, .int .i64 p1] 44 (0, 0)) := (hrel.block (v2.heap.size + 1) (lt_of_heap Xa.out)).trans Xa.out
        have xy : w8.heap[v3.heap.size]? = some (.cells T.cells.toArray 48 (0, 0)) := (hrel.block (v3.heap.size) (lt_of_heap Xy.out)).trans Xy.out
        have xb : w8.heap[v3.heap.size + 1]? = some (.cells #[.int .i64 p0, .int .i64 p1] 44 (0, 0)) := (hrel.block (v3.heap.size + 1) (lt_of_heap Xb.out)).trans Xb.out
        have xz : w8.heap[bz]? = some (.cells Z.cells.toArray 48 (0, 0)) := (hrel.block (bz) (lt_of_heap Xz.out)).trans Xz.out
        replace XW := Lib.hid xW
        clear xW
        replace Xs := Lib.hid xs
        clear xs
        replace Xc := Lib.hid xc
        clear xc
        replace Xx := Lib.hid xx
        clear xx
        replace Xa := Lib.hid xa
        clear xa
        replace Xy := Lib.hid xy
        clear xy
        replace Xb := Lib.hid xb
        clear xb
        replace Xz := Lib.hid xz
        clear xz
        replace Y := Lib.hid (Y.out.trans (hrel.mono Y.out.size))
        clear hrel
        have Xu : Hid (w8.heap[v5.heap.size]? = some (.cells U.cells.toArray 48 (0, 0))) := Lib.hid (GF.out.2.1)
        have Xq : Hid (w8.heap[v5.heap.size + 1]? = some (.cells #[.int .i64 q0, .int .i64 q1] 44 (0, 0))) := Lib.hid (GF.out.2.2.1)
        clear GF GE5 BD5 ol5
        have hrv : w8.cell? ⟨v0.heap.size, 32 + c, none⟩ = some (.bool (S.rev c)) := stoGetR Xs.out OKS.out.ln OKS.out.lr (by omega)
        have hlx : w8.cell? ⟨v2.heap.size, 8 + c, none⟩ = some (.int .i64 (T.last c)) := stoGetN (o := 8 + c) Xx.out OKT.out.ln (by omega)
        cases hb : S.rev c with
        | true =>
          rw [hb] at hrv
          obtain ⟨y1, y2⟩ := HREV.out hb
          injection y2 with y3 y4
          subst y3 y4
          rw [y1] at Xx Xy LENT
          clear HREV HFR HLAST PZ hb
          have LENT := LENS
          have cW_0 : w8.cell? ⟨w.heap.size, 0, none⟩ = some (.int .i64 x.kind) := cellAt XW.out 0 rfl
          have cW_1 : w8.cell? ⟨w.heap.size, 1, none⟩ = some (.int .i64 x.client) := cellAt XW.out 1 rfl
          have cW_2 : w8.cell? ⟨w.heap.size, 2, none⟩ = some (.int .i64 x.seq) := cellAt XW.out 2 rfl
          have cW_3 : w8.cell? ⟨w.heap.size, 3, none⟩ = some (.int .i64 x.name) := cellAt XW.out 3 rfl
          have cW_4 : w8.cell? ⟨w.heap.size, 4, none⟩ = some (.int .i64 x.value) := cellAt XW.out 4 rfl
          have fW := freeAt XW.out
          have RGs := Lib.hid (range_of Xs.out)
          have cc_0 : w8.cell? ⟨v1.heap.size, 0, none⟩ = some (.int .i64 k) := cellAt Xc.out 0 rfl
          have cc_1 : w8.cell? ⟨v1.heap.size, 1, none⟩ = some (.int .i64 c) := cellAt Xc.out 1 rfl
          have cc_2 : w8.cell? ⟨v1.heap.size, 2, none⟩ = some (.int .i64 50) := cellAt Xc.out 2 rfl
          have cc_3 : w8.cell? ⟨v1.heap.size, 3, none⟩ = some (.int .i64 nm) := cellAt Xc.out 3 rfl
          have cc_4 : w8.cell? ⟨v1.heap.size, 4, none⟩ = some (.int .i64 vl) := cellAt Xc.out 4 rfl
          have fc := freeAt Xc.out
          have RGx := Lib.hid (range_of Xx.out)
          have ca_0 : w8.cell? ⟨v2.heap.size + 1, 0, none⟩ = some (.int .i64 11) := cellAt Xa.out 0 rfl
          have ca_1 : w8.cell? ⟨v2.heap.size + 1, 1, none⟩ = some (.int .i64 0) := cellAt Xa.out 1 rfl
          have RGy := Lib.hid (range_of Xy.out)
          have cb_0 : w8.cell? ⟨v3.heap.size + 1, 0, none⟩ = some (.int .i64 11) := cellAt Xb.out 0 rfl
          have cb_1 : w8.cell? ⟨v3.heap.size + 1, 1, none⟩ = some (.int .i64 0) := cellAt Xb.out 1 rfl
          have RGz := Lib.hid (range_of Xz.out)
          have RGu := Lib.hid (range_of Xu.out)
          have cq_0 : w8.cell? ⟨v5.heap.size + 1, 0, none⟩ = some (.int .i64 q0) := cellAt Xq.out 0 rfl
          have cq_1 : w8.cell? ⟨v5.heap.size + 1, 1, none⟩ = some (.int .i64 q1) := cellAt Xq.out 1 rfl
          go_wp2_with (first
            | (refine wpList_load_g rfl 48 (.tmp 12) rfl (v2.heap.size) 0 rfl S.cells _ ?_ Try.underlying48 rfl LENS.out ?_; (with_reducible exact RGx.out))
            | (refine wpList_load_g rfl 48 (.tmp 7) rfl (v0.heap.size) 0 rfl S.cells _ ?_ Try.underlying48 rfl LENS.out ?_; (with_reducible exact RGs.out))
            | (refine wpList_load_g rfl 48 (.tmp 15) rfl (v3.heap.size) 0 rfl S.cells _ ?_ Try.underlying48 rfl LENS.out ?_; (with_reducible exact RGy.out)))
          go_ret
          exact ⟨rfl, Y.out⟩
        | false =>
          rw [hb] at hrv
          obtain ⟨y1, y2, -⟩ := HFR.out hb
          obtain ⟨y3, y4⟩ := HLAST.out hb
          rw [y1] at hlx
          subst y2
          rw [y3] at Xu
          clear HREV HFR HLAST PZ hb y1
          rcases y4 with y4 | y4
          · injection y4 with y5 y6
            subst y5 y6
            clear y3
            have cW_0 : w8.cell? ⟨w.heap.size, 0, none⟩ = some (.int .i64 x.kind) := cellAt XW.out 0 rfl
            have cW_1 : w8.cell? ⟨w.heap.size, 1, none⟩ = some (.int .i64 x.client) := cellAt XW.out 1 rfl
            have cW_2 : w8.cell? ⟨w.heap.size, 2, none⟩ = some (.int .i64 x.seq) := cellAt XW.out 2 rfl
            have cW_3 : w8.cell? ⟨w.heap.size, 3, none⟩ = some (.int .i64 x.name) := cellAt XW.out 3 rfl
            have cW_4 : w8.cell? ⟨w.heap.size, 4, none⟩ = some (.int .i64 x.value) := cellAt XW.out 4 rfl
            have fW := freeAt XW.out
            have RGs := Lib.hid (range_of Xs.out)
            have cc_0 : w8.cell? ⟨v1.heap.size, 0, none⟩ = some (.int .i64 k) := cellAt Xc.out 0 rfl
            have cc_1 : w8.cell? ⟨v1.heap.size, 1, none⟩ = some (.int .i64 c) := cellAt Xc.out 1 rfl
            have cc_2 : w8.cell? ⟨v1.heap.size, 2, none⟩ = some (.int .i64 50) := cellAt Xc.out 2 rfl
            have cc_3 : w8.cell? ⟨v1.heap.size, 3, none⟩ = some (.int .i64 nm) := cellAt Xc.out 3 rfl
            have cc_4 : w8.cell? ⟨v1.heap.size, 4, none⟩ = some (.int .i64 vl) := cellAt Xc.out 4 rfl
            have fc := freeAt Xc.out
            have RGx := Lib.hid (range_of Xx.out)
            have ca_0 : w8.cell? ⟨v2.heap.size + 1, 0, none⟩ = some (.int .i64 0) := cellAt Xa.out 0 rfl
            have ca_1 : w8.cell? ⟨v2.heap.size + 1, 1, none⟩ = some (.int .i64 q1) := cellAt Xa.out 1 rfl
            have RGy := Lib.hid (range_of Xy.out)
            have cb_0 : w8.cell? ⟨v3.heap.size + 1, 0, none⟩ = some (.int .i64 0) := cellAt Xb.out 0 rfl
            have cb_1 : w8.cell? ⟨v3.heap.size + 1, 1, none⟩ = some (.int .i64 q1) := cellAt Xb.out 1 rfl
            have RGz := Lib.hid (range_of Xz.out)
            have RGu := Lib.hid (range_of Xu.out)
            have cq_0 : w8.cell? ⟨v5.heap.size + 1, 0, none⟩ = some (.int .i64 0) := cellAt Xq.out 0 rfl
            have cq_1 : w8.cell? ⟨v5.heap.size + 1, 1, none⟩ = some (.int .i64 q1) := cellAt Xq.out 1 rfl
            go_wp2_with (first
              | (refine wpList_load_g rfl 48 (.tmp 15) rfl (v3.heap.size) 0 rfl T.cells _ ?_ Try.underlying48 rfl LENT.out ?_; (with_reducible exact RGy.out))
              | (refine wpList_load_g rfl 48 (.tmp 12) rfl (v2.heap.size) 0 rfl T.cells _ ?_ Try.underlying48 rfl LENT.out ?_; (with_reducible exact RGx.out))
              | (refine wpList_load_g rfl 48 (.tmp 24) rfl (v5.heap.size) 0 rfl Z.cells _ ?_ Try.underlying48 rfl LENZ.out ?_; (with_reducible exact RGu.out))
              | (refine wpList_load_g rfl 48 (.tmp 18) rfl (bz) 0 rfl Z.cells _ ?_ Try.underlying48 rfl LENZ.out ?_; (with_reducible exact RGz.out)))
            go_ret
            exact ⟨rfl, Y.out⟩
          · subst y4
            clear y3
            have cW_0 : w8.cell? ⟨w.heap.size, 0, none⟩ = some (.int .i64 x.kind) := cellAt XW.out 0 rfl
            have cW_1 : w8.cell? ⟨w.heap.size, 1, none⟩ = some (.int .i64 x.client) := cellAt XW.out 1 rfl
            have cW_2 : w8.cell? ⟨w.heap.size, 2, none⟩ = some (.int .i64 x.seq) := cellAt XW.out 2 rfl
            have cW_3 : w8.cell? ⟨w.heap.size, 3, none⟩ = some (.int .i64 x.name) := cellAt XW.out 3 rfl
            have cW_4 : w8.cell? ⟨w.heap.size, 4, none⟩ = some (.int .i64 x.value) := cellAt XW.out 4 rfl
            have fW := freeAt XW.out
            have RGs := Lib.hid (range_of Xs.out)
            have cc_0 : w8.cell? ⟨v1.heap.size, 0, none⟩ = some (.int .i64 k) := cellAt Xc.out 0 rfl
            have cc_1 : w8.cell? ⟨v1.heap.size, 1, none⟩ = some (.int .i64 c) := cellAt Xc.out 1 rfl
            have cc_2 : w8.cell? ⟨v1.heap.size, 2, none⟩ = some (.int .i64 50) := cellAt Xc.out 2 rfl
            have cc_3 : w8.cell? ⟨v1.heap.size, 3, none⟩ = some (.int .i64 nm) := cellAt Xc.out 3 rfl
            have cc_4 : w8.cell? ⟨v1.heap.size, 4, none⟩ = some (.int .i64 vl) := cellAt Xc.out 4 rfl
            have fc := freeAt Xc.out
            have RGx := Lib.hid (range_of Xx.out)
            have ca_0 : w8.cell? ⟨v2.heap.size + 1, 0, none⟩ = some (.int .i64 0) := cellAt Xa.out 0 rfl
            have ca_1 : w8.cell? ⟨v2.heap.size + 1, 1, none⟩ = some (.int .i64 p1) := cellAt Xa.out 1 rfl
            have RGy := Lib.hid (range_of Xy.out)
            have cb_0 : w8.cell? ⟨v3.heap.size + 1, 0, none⟩ = some (.int .i64 0) := cellAt Xb.out 0 rfl
            have cb_1 : w8.cell? ⟨v3.heap.size + 1, 1, none⟩ = some (.int .i64 p1) := cellAt Xb.out 1 rfl
            have RGz := Lib.hid (range_of Xz.out)
            have RGu := Lib.hid (range_of Xu.out)
            have cq_0 : w8.cell? ⟨v5.heap.size + 1, 0, none⟩ = some (.int .i64 7) := cellAt Xq.out 0 rfl
            have cq_1 : w8.cell? ⟨v5.heap.size + 1, 1, none⟩ = some (.int .i64 q1) := cellAt Xq.out 1 rfl
            go_wp2_with (first
              | (refine wpList_load_g rfl 48 (.tmp 15) rfl (v3.heap.size) 0 rfl T.cells _ ?_ Try.underlying48 rfl LENT.out ?_; (with_reducible exact RGy.out))
              | (refine wpList_load_g rfl 48 (.tmp 12) rfl (v2.heap.size) 0 rfl T.cells _ ?_ Try.underlying48 rfl LENT.out ?_; (with_reducible exact RGx.out))
              | (refine wpList_load_g rfl 48 (.tmp 24) rfl (v5.heap.size) 0 rfl Z.cells _ ?_ Try.underlying48 rfl LENZ.out ?_; (with_reducible exact RGu.out))
              | (refine wpList_load_g rfl 48 (.tmp 18) rfl (bz) 0 rfl Z.cells _ ?_ Try.underlying48 rfl LENZ.out ?_; (with_reducible exact RGz.out)))
            go_ret
            exact ⟨rfl, Y.out⟩
end Go.Proofs.Ytdjnbnbhpjiicaa
