/-
  The walk of DoTurns (written by laws_do.py).
-/
import Derived.Test.YtdjnbnbhpjiicaaDoG
set_option linter.unusedVariables false
set_option linter.unusedSimpArgs false
namespace Go.Proofs.Ytdjnbnbhpjiicaa
open Go.RowKit Go.Con
set_option maxRecDepth 100000 in
set_option maxHeartbeats 2000000 in
theorem walk_DoTurns (v : Value) (l : List Cmd) (u0 : Value) (x : Cmd) (u1 : Value) (z : Cmd) (w : World) (hv : RdWishes w v l) (hu : IsWish u0 x) (hn : IsWish u1 z) :
    Calls Try.prog 11 #[v, u0, u1] w fun e w' => e = .returned (.bool true) ∧ Below w.heap.size w w' := by
  obtain ⟨rfl, hx⟩ := hu
  obtain ⟨rfl, hz⟩ := hn
  unfold cmdV
  have hdone := Lib.hid (fun W hv => done40 v l W hv)
  obtain ⟨S, hS⟩ : ∃ S, S = Sto.zero.all ((l.take 40).map cmdOf) := ⟨_, rfl⟩
  have few : S.Few := by rw [hS]; exact Sto.all_few _ Sto.zero_few _ (fun c hc => by obtain ⟨y, _, rfl⟩ := List.mem_map.1 hc; exact (cmdOf_few y).1)
  have OKS := Lib.hid few.ok
  have LENS := Lib.hid (show (Try.prog.info? 48).map (fun x => x.size) = some S.cells.length by rw [stoLen OKS.out]; exact stoSz)
  have SZS := Lib.hid (show (Try.prog.info? 48).map (fun x => x.size) = some S.cells.toArray.size by rw [stoSize OKS.out]; exact stoSz)
  have nums := cmdOf_nums x
  obtain ⟨k, cl, sq, nm, vl, hco⟩ : ∃ k cl sq nm vl, cmdOf x = ⟨k, cl, sq, nm, vl⟩ := ⟨_, _, _, _, _, rfl⟩
  rw [hco] at nums
  have HCMD : Hid (∀ W, Calls Try.prog 17 #[.agg #[.int .i64 x.kind, .int .i64 x.client, .int .i64 x.seq, .int .i64 x.name, .int .i64 x.value]] W fun e w' => e = .returned (.agg #[.int .i64 k, .int .i64 cl, .int .i64 sq, .int .i64 nm, .int .i64 vl]) ∧ Below W.heap.size W w') := Lib.hid (fun W => by have hh := Command_any x W hx; rw [hco] at hh; exact hh)
  have nums2 := cmdOf_nums z
  obtain ⟨k2, cl2, sq2, nm2, vl2, hco2⟩ : ∃ k2 cl2 sq2 nm2 vl2, cmdOf z = ⟨k2, cl2, sq2, nm2, vl2⟩ := ⟨_, _, _, _, _, rfl⟩
  rw [hco2] at nums2
  have HCMD2 : Hid (∀ W, Calls Try.prog 17 #[.agg #[.int .i64 z.kind, .int .i64 z.client, .int .i64 z.seq, .int .i64 z.name, .int .i64 z.value]] W fun e w' => e = .returned (.agg #[.int .i64 k2, .int .i64 cl2, .int .i64 sq2, .int .i64 nm2, .int .i64 vl2]) ∧ Below W.heap.size W w') := Lib.hid (fun W => by have hh := Command_any z W hz; rw [hco2] at hh; exact hh)
  obtain ⟨hckD1, hckD3, okA, okB, eAB, okAB, a4, a2, hl⟩ := turns_law few nums nums2
  have hs0 := nums.s0
  have hs6 := nums.s6
  have hckD2 := hckD3
  have hckD4 := hckD1
  obtain ⟨A, hSD1⟩ : ∃ t : Sto, t = S.next ⟨k, 5, sq, 1, vl⟩ := ⟨_, rfl⟩
  try rw [← hSD1] at eAB
  try rw [← hSD1] at okAB
  try rw [← hSD1] at a4
  try rw [← hSD1] at a2
  try rw [← hSD1] at hl
  have OKA : Hid A.Ok := Lib.hid (by rw [hSD1]; exact S.next_ok OKS.out _ hckD1)
  have LENA := Lib.hid (show (Try.prog.info? 48).map (fun x => x.size) = some A.cells.length by rw [stoLen OKA.out]; exact stoSz)
  have SZA := Lib.hid (show (Try.prog.info? 48).map (fun x => x.size) = some A.cells.toArray.size by rw [stoSize OKA.out]; exact stoSz)
  obtain ⟨B, hSD3⟩ : ∃ t : Sto, t = S.next ⟨k2, 6, sq2, 2, vl2⟩ := ⟨_, rfl⟩
  try rw [← hSD3] at eAB
  try rw [← hSD3] at okAB
  try rw [← hSD3] at a4
  try rw [← hSD3] at a2
  try rw [← hSD3] at hl
  have OKB : Hid B.Ok := Lib.hid (by rw [hSD3]; exact S.next_ok OKS.out _ hckD3)
  have LENB := Lib.hid (show (Try.prog.info? 48).map (fun x => x.size) = some B.cells.length by rw [stoLen OKB.out]; exact stoSz)
  have SZB := Lib.hid (show (Try.prog.info? 48).map (fun x => x.size) = some B.cells.toArray.size by rw [stoSize OKB.out]; exact stoSz)
  obtain ⟨D, hSD2⟩ : ∃ t : Sto, t = A.next ⟨k2, 6, sq2, 2, vl2⟩ := ⟨_, rfl⟩
  try rw [← hSD2] at eAB
  try rw [← hSD2] at okAB
  try rw [← hSD2] at a4
  try rw [← hSD2] at a2
  try rw [← hSD2] at hl
  have OKD : Hid D.Ok := Lib.hid (by rw [hSD2]; exact A.next_ok OKA.out _ hckD2)
  have LEND := Lib.hid (show (Try.prog.info? 48).map (fun x => x.size) = some D.cells.length by rw [stoLen OKD.out]; exact stoSz)
  have SZD := Lib.hid (show (Try.prog.info? 48).map (fun x => x.size) = some D.cells.toArray.size by rw [stoSize OKD.out]; exact stoSz)
  have hSD4 : D = B.next ⟨k, 5, sq, 1, vl⟩ := eAB
  obtain ⟨p0, p1, hAD1⟩ : ∃ p0 p1, S.answer ⟨k, 5, sq, 1, vl⟩ = (p0, p1) := ⟨_, _, rfl⟩
  obtain ⟨q0, q1, hAD3⟩ : ∃ q0 q1, S.answer ⟨k2, 6, sq2, 2, vl2⟩ = (q0, q1) := ⟨_, _, rfl⟩
  have hAD2 := a2.trans hAD3
  have hAD4 := a4.trans hAD1
  have D1 : Hid (∀ W, Calls Try.prog 21 #[.agg S.cells.toArray, .agg #[.int .i64 k, .int .i64 5, .int .i64 sq, .int .i64 1, .int .i64 vl]] W fun e w' => e = .returned (.tuple #[.agg A.cells.toArray, .agg #[.int .i64 p0, .int .i64 p1], .int .i64 0]) ∧ Below W.heap.size W w') := Lib.hid (fun W => by have hh := Do_any S OKS.out ⟨k, 5, sq, 1, vl⟩ hckD1 W; rw [← hSD1, hAD1] at hh; exact hh)
  have D2 : Hid (∀ W, Calls Try.prog 21 #[.agg A.cells.toArray, .agg #[.int .i64 k2, .int .i64 6, .int .i64 sq2, .int .i64 2, .int .i64 vl2]] W fun e w' => e = .returned (.tuple #[.agg D.cells.toArray, .agg #[.int .i64 q0, .int .i64 q1], .int .i64 0]) ∧ Below W.heap.size W w') := Lib.hid (fun W => by have hh := Do_any A OKA.out ⟨k2, 6, sq2, 2, vl2⟩ hckD2 W; rw [← hSD2, hAD2] at hh; exact hh)
  have D3 : Hid (∀ W, Calls Try.prog 21 #[.agg S.cells.toArray, .agg #[.int .i64 k2, .int .i64 6, .int .i64 sq2, .int .i64 2, .int .i64 vl2]] W fun e w' => e = .returned (.tuple #[.agg B.cells.toArray, .agg #[.int .i64 q0, .int .i64 q1], .int .i64 0]) ∧ Below W.heap.size W w') := Lib.hid (fun W => by have hh := Do_any S OKS.out ⟨k2, 6, sq2, 2, vl2⟩ hckD3 W; rw [← hSD3, hAD3] at hh; exact hh)
  have D4 : Hid (∀ W, Calls Try.prog 21 #[.agg B.cells.toArray, .agg #[.int .i64 k, .int .i64 5, .int .i64 sq, .int .i64 1, .int .i64 vl]] W fun e w' => e = .returned (.tuple #[.agg D.cells.toArray, .agg #[.int .i64 p0, .int .i64 p1], .int .i64 0]) ∧ Below W.heap.size W w') := Lib.hid (fun W => by have hh := Do_any B OKB.out ⟨k, 5, sq, 1, vl⟩ hckD4 W; rw [← hSD4, hAD4] at hh; exact hh)
  have eqD : ∀ W, (Op.equalIn 10000 48 (.agg D.cells.toArray) (.agg D.cells.toArray)).run Try.prog W = .ok true W := fun W => by rw [eqIn_store OKD.out OKD.out W]; simp
  have HL := Lib.hid hl
  have HV := Lib.hid hv
  have HS := Lib.hid hS
  clear hv hS few nums nums2 hco hco2 hckD1 hckD2 hckD3 hckD4 okA okB okAB eAB a4 a2 hl hAD1 hAD2 hAD3 hAD4 hSD1 hSD2 hSD3 hSD4 hx hz
  have Y : Hid (Below w.heap.size w w) := Lib.hid (Below.refl _ _)
  go_enter Try.func11, Try.ntmps11
  have hboxed : ∀ o p, RdWishes ((w.alloc o).alloc p) v l := fun o p => (HV.out.alloc o).alloc p
  go_upto_region 2 with (first
    | (go_at_call 20; refine (hdone.out _ (hboxed _ _)).mono ?_; rintro e v0 ⟨cv, av, rfl, -, -, hb⟩; rw [← HS.out]; have BD0 := Lib.hid hb; clear hb)
    | (refine wpList_store_mid rfl 48 (.tmp 7) (.tmp 26) rfl v0.heap.size 0 S.cells.toArray rfl rfl ?_ SZS.out (stoOne _) ?_; (exact there_new _ _ _ _ (by rw [stoSize OKS.out]; rfl)); generalize hW : World.setCells _ _ _ _ = w1; have G0 := Lib.hid (stageB BD0.out hW (by rw [stoLen OKS.out]; rfl)); clear hW))
  have XW : Hid (w1.heap[w.heap.size]? = some (.cells #[.int .i64 x.kind, .int .i64 x.client, .int .i64 x.seq, .int .i64 x.name, .int .i64 x.value] 28 (0, 0))) := Lib.hid ((G0.out.1.block w.heap.size (by simp; omega)).trans (heapNew0 w _ _))
  have XV : Hid (w1.heap[w.heap.size + 1]? = some (.cells #[.int .i64 z.kind, .int .i64 z.client, .int .i64 z.seq, .int .i64 z.name, .int .i64 z.value] 28 (0, 0))) := Lib.hid ((G0.out.1.block (w.heap.size + 1) (by simp)).trans (heapNew1 w _ _))
  replace Y : Hid (Below w.heap.size w w1) := Lib.hid ((((Below.refl w.heap.size w).alloc (Nat.le_refl _) _).alloc (by simp) _).trans (G0.out.1.mono (by simp; omega)))
  have Xs : Hid (w1.heap[v0.heap.size]? = some (.cells S.cells.toArray 48 (0, 0))) := Lib.hid (G0.out.2)
  clear G0 BD0 hboxed
  have cW_0 : w1.cell? ⟨w.heap.size, 0, none⟩ = some (.int .i64 x.kind) := cellAt XW.out 0 rfl
  have cW_1 : w1.cell? ⟨w.heap.size, 1, none⟩ = some (.int .i64 x.client) := cellAt XW.out 1 rfl
  have cW_2 : w1.cell? ⟨w.heap.size, 2, none⟩ = some (.int .i64 x.seq) := cellAt XW.out 2 rfl
  have cW_3 : w1.cell? ⟨w.heap.size, 3, none⟩ = some (.int .i64 x.name) := cellAt XW.out 3 rfl
  have cW_4 : w1.cell? ⟨w.heap.size, 4, none⟩ = some (.int .i64 x.value) := cellAt XW.out 4 rfl
  have fW := freeAt XW.out
  have cV_0 : w1.cell? ⟨w.heap.size + 1, 0, none⟩ = some (.int .i64 z.kind) := cellAt XV.out 0 rfl
  have cV_1 : w1.cell? ⟨w.heap.size + 1, 1, none⟩ = some (.int .i64 z.client) := cellAt XV.out 1 rfl
  have cV_2 : w1.cell? ⟨w.heap.size + 1, 2, none⟩ = some (.int .i64 z.seq) := cellAt XV.out 2 rfl
  have cV_3 : w1.cell? ⟨w.heap.size + 1, 3, none⟩ = some (.int .i64 z.name) := cellAt XV.out 3 rfl
  have cV_4 : w1.cell? ⟨w.heap.size + 1, 4, none⟩ = some (.int .i64 z.value) := cellAt XV.out 4 rfl
  have fV := freeAt XV.out
  have RGs := Lib.hid (range_of Xs.out)
  go_upto_region 3 with (first
    | (go_at_call 17; refine (HCMD.out _).mono ?_; rintro e v1 ⟨rfl, hb⟩; have BD1 := Lib.hid hb; clear hb)
    | (go_at_call 15; refine (picked_any _ _ _ (by assumption) (by assumption) (by decide)).mono ?_; rintro e w9 ⟨rfl, rfl⟩))
  generalize hW : World.alloc _ _ = w2
  have GF := Lib.hid (stageC BD1.out hW)
  clear hW
  clear cW_0 cW_1 cW_2 cW_3 cW_4 fW cV_0 cV_1 cV_2 cV_3 cV_4 fV RGs
  have ge1 := GF.out.2.2
  have NWc : Hid (w.heap.size ≠ v1.heap.size) := Lib.hid (by have h1 := lt_of_heap XW.out; omega)
  have NVc : Hid (w.heap.size + 1 ≠ v1.heap.size) := Lib.hid (by have h1 := lt_of_heap XV.out; omega)
  have Nsc : Hid (v0.heap.size ≠ v1.heap.size) := Lib.hid (by have h1 := lt_of_heap Xs.out; omega)
  have Lc : Hid (w.heap.size ≤ v1.heap.size) := Lib.hid (Nat.le_trans Y.out.size ge1)
  have hrel := GF.out.1
  have xW : w2.heap[w.heap.size]? = some (.cells #[.int .i64 x.kind, .int .i64 x.client, .int .i64 x.seq, .int .i64 x.name, .int .i64 x.value] 28 (0, 0)) := (hrel.block (w.heap.size) (lt_of_heap XW.out)).trans XW.out
  have xV : w2.heap[w.heap.size + 1]? = some (.cells #[.int .i64 z.kind, .int .i64 z.client, .int .i64 z.seq, .int .i64 z.name, .int .i64 z.value] 28 (0, 0)) := (hrel.block (w.heap.size + 1) (lt_of_heap XV.out)).trans XV.out
  have xs : w2.heap[v0.heap.size]? = some (.cells S.cells.toArray 48 (0, 0)) := (hrel.block (v0.heap.size) (lt_of_heap Xs.out)).trans Xs.out
  replace XW := Lib.hid xW
  clear xW
  replace XV := Lib.hid xV
  clear xV
  replace Xs := Lib.hid xs
  clear xs
  replace Y := Lib.hid (Y.out.trans (hrel.mono Y.out.size))
  clear hrel
  have Xc : Hid (w2.heap[v1.heap.size]? = some (.cells #[.int .i64 k, .int .i64 cl, .int .i64 sq, .int .i64 nm, .int .i64 vl] 29 (0, 0))) := Lib.hid (GF.out.2.1)
  clear GF BD1 ge1
  have cW_0 : w2.cell? ⟨w.heap.size, 0, none⟩ = some (.int .i64 x.kind) := cellAt XW.out 0 rfl
  have cW_1 : w2.cell? ⟨w.heap.size, 1, none⟩ = some (.int .i64 x.client) := cellAt XW.out 1 rfl
  have cW_2 : w2.cell? ⟨w.heap.size, 2, none⟩ = some (.int .i64 x.seq) := cellAt XW.out 2 rfl
  have cW_3 : w2.cell? ⟨w.heap.size, 3, none⟩ = some (.int .i64 x.name) := cellAt XW.out 3 rfl
  have cW_4 : w2.cell? ⟨w.heap.size, 4, none⟩ = some (.int .i64 x.value) := cellAt XW.out 4 rfl
  have fW := freeAt XW.out
  have cV_0 : w2.cell? ⟨w.heap.size + 1, 0, none⟩ = some (.int .i64 z.kind) := cellAt XV.out 0 rfl
  have cV_1 : w2.cell? ⟨w.heap.size + 1, 1, none⟩ = some (.int .i64 z.client) := cellAt XV.out 1 rfl
  have cV_2 : w2.cell? ⟨w.heap.size + 1, 2, none⟩ = some (.int .i64 z.seq) := cellAt XV.out 2 rfl
  have cV_3 : w2.cell? ⟨w.heap.size + 1, 3, none⟩ = some (.int .i64 z.name) := cellAt XV.out 3 rfl
  have cV_4 : w2.cell? ⟨w.heap.size + 1, 4, none⟩ = some (.int .i64 z.value) := cellAt XV.out 4 rfl
  have fV := freeAt XV.out
  have RGs := Lib.hid (range_of Xs.out)
  have cc_0 : w2.cell? ⟨v1.heap.size, 0, none⟩ = some (.int .i64 k) := cellAt Xc.out 0 rfl
  have cc_1 : w2.cell? ⟨v1.heap.size, 1, none⟩ = some (.int .i64 cl) := cellAt Xc.out 1 rfl
  have cc_2 : w2.cell? ⟨v1.heap.size, 2, none⟩ = some (.int .i64 sq) := cellAt Xc.out 2 rfl
  have cc_3 : w2.cell? ⟨v1.heap.size, 3, none⟩ = some (.int .i64 nm) := cellAt Xc.out 3 rfl
  have cc_4 : w2.cell? ⟨v1.heap.size, 4, none⟩ = some (.int .i64 vl) := cellAt Xc.out 4 rfl
  have fc := freeAt Xc.out
  go_upto_region 4 with (first
    | (go_at_call 17; refine (HCMD2.out _).mono ?_; rintro e v2 ⟨rfl, hb⟩; have BD2 := Lib.hid hb; clear hb)
    | (go_at_call 15; refine (picked_any _ _ _ (by assumption) (by assumption) (by decide)).mono ?_; rintro e w9 ⟨rfl, rfl⟩))
  generalize hW : World.alloc _ _ = w3
  have GF := Lib.hid (stageC BD2.out hW)
  clear hW
  clear cW_0 cW_1 cW_2 cW_3 cW_4 fW cV_0 cV_1 cV_2 cV_3 cV_4 fV RGs cc_0 cc_1 cc_2 cc_3 cc_4 fc
  have ge2 := GF.out.2.2
  have NWd : Hid (w.heap.size ≠ v2.heap.size) := Lib.hid (by have h1 := lt_of_heap XW.out; omega)
  have NVd : Hid (w.heap.size + 1 ≠ v2.heap.size) := Lib.hid (by have h1 := lt_of_heap XV.out; omega)
  have Nsd : Hid (v0.heap.size ≠ v2.heap.size) := Lib.hid (by have h1 := lt_of_heap Xs.out; omega)
  have Ncd : Hid (v1.heap.size ≠ v2.heap.size) := Lib.hid (by have h1 := lt_of_heap Xc.out; omega)
  have Ndc : Hid (v2.heap.size ≠ v1.heap.size) := Lib.hid (by have h1 := lt_of_heap Xc.out; omega)
  have Ld : Hid (w.heap.size ≤ v2.heap.size) := Lib.hid (Nat.le_trans Y.out.size ge2)
  have hrel := GF.out.1
  have xW : w3.heap[w.heap.size]? = some (.cells #[.int .i64 x.kind, .int .i64 x.client, .int .i64 x.seq, .int .i64 x.name, .int .i64 x.value] 28 (0, 0)) := (hrel.block (w.heap.size) (lt_of_heap XW.out)).trans XW.out
  have xV : w3.heap[w.heap.size + 1]? = some (.cells #[.int .i64 z.kind, .int .i64 z.client, .int .i64 z.seq, .int .i64 z.name, .int .i64 z.value] 28 (0, 0)) := (hrel.block (w.heap.size + 1) (lt_of_heap XV.out)).trans XV.out
  have xs : w3.heap[v0.heap.size]? = some (.cells S.cells.toArray 48 (0, 0)) := (hrel.block (v0.heap.size) (lt_of_heap Xs.out)).trans Xs.out
  have xc : w3.heap[v1.heap.size]? = some (.cells #[.int .i64 k, .int .i64 cl, .int .i64 sq, .int .i64 nm, .int .i64 vl] 29 (0, 0)) := (hrel.block (v1.heap.size) (lt_of_heap Xc.out)).trans Xc.out
  replace XW := Lib.hid xW
  clear xW
  replace XV := Lib.hid xV
  clear xV
  replace Xs := Lib.hid xs
  clear xs
  replace Xc := Lib.hid xc
  clear xc
  replace Y := Lib.hid (Y.out.trans (hrel.mono Y.out.size))
  clear hrel
  have Xd : Hid (w3.heap[v2.heap.size]? = some (.cells #[.int .i64 k2, .int .i64 cl2, .int .i64 sq2, .int .i64 nm2, .int .i64 vl2] 29 (0, 0))) := Lib.hid (GF.out.2.1)
  clear GF BD2 ge2
  have cW_0 : w3.cell? ⟨w.heap.size, 0, none⟩ = some (.int .i64 x.kind) := cellAt XW.out 0 rfl
  have cW_1 : w3.cell? ⟨w.heap.size, 1, none⟩ = some (.int .i64 x.client) := cellAt XW.out 1 rfl
  have cW_2 : w3.cell? ⟨w.heap.size, 2, none⟩ = some (.int .i64 x.seq) := cellAt XW.out 2 rfl
  have cW_3 : w3.cell? ⟨w.heap.size, 3, none⟩ = some (.int .i64 x.name) := cellAt XW.out 3 rfl
  have cW_4 : w3.cell? ⟨w.heap.size, 4, none⟩ = some (.int .i64 x.value) := cellAt XW.out 4 rfl
  have fW := freeAt XW.out
  have cV_0 : w3.cell? ⟨w.heap.size + 1, 0, none⟩ = some (.int .i64 z.kind) := cellAt XV.out 0 rfl
  have cV_1 : w3.cell? ⟨w.heap.size + 1, 1, none⟩ = some (.int .i64 z.client) := cellAt XV.out 1 rfl
  have cV_2 : w3.cell? ⟨w.heap.size + 1, 2, none⟩ = some (.int .i64 z.seq) := cellAt XV.out 2 rfl
  have cV_3 : w3.cell? ⟨w.heap.size + 1, 3, none⟩ = some (.int .i64 z.name) := cellAt XV.out 3 rfl
  have cV_4 : w3.cell? ⟨w.heap.size + 1, 4, none⟩ = some (.int .i64 z.value) := cellAt XV.out 4 rfl
  have fV := freeAt XV.out
  have RGs := Lib.hid (range_of Xs.out)
  have cc_0 : w3.cell? ⟨v1.heap.size, 0, none⟩ = some (.int .i64 k) := cellAt Xc.out 0 rfl
  have cc_1 : w3.cell? ⟨v1.heap.size, 1, none⟩ = some (.int .i64 cl) := cellAt Xc.out 1 rfl
  have cc_2 : w3.cell? ⟨v1.heap.size, 2, none⟩ = some (.int .i64 sq) := cellAt Xc.out 2 rfl
  have cc_3 : w3.cell? ⟨v1.heap.size, 3, none⟩ = some (.int .i64 nm) := cellAt Xc.out 3 rfl
  have cc_4 : w3.cell? ⟨v1.heap.size, 4, none⟩ = some (.int .i64 vl) := cellAt Xc.out 4 rfl
  have fc := freeAt Xc.out
  have cd_0 : w3.cell? ⟨v2.heap.size, 0, none⟩ = some (.int .i64 k2) := cellAt Xd.out 0 rfl
  have cd_1 : w3.cell? ⟨v2.heap.size, 1, none⟩ = some (.int .i64 cl2) := cellAt Xd.out 1 rfl
  have cd_2 : w3.cell? ⟨v2.heap.size, 2, none⟩ = some (.int .i64 sq2) := cellAt Xd.out 2 rfl
  have cd_3 : w3.cell? ⟨v2.heap.size, 3, none⟩ = some (.int .i64 nm2) := cellAt Xd.out 3 rfl
  have cd_4 : w3.cell? ⟨v2.heap.size, 4, none⟩ = some (.int .i64 vl2) := cellAt Xd.out 4 rfl
  have fd := freeAt Xd.out
  go_upto_region 5 with fail
  generalize hW : World.setCell _ _ _ = w4
  clear cW_0 cW_1 cW_2 cW_3 cW_4 fW cV_0 cV_1 cV_2 cV_3 cV_4 fV RGs cc_0 cc_1 cc_2 cc_3 cc_4 fc cd_0 cd_1 cd_2 cd_3 cd_4 fd
  have xW : w4.heap[w.heap.size]? = some (.cells #[.int .i64 x.kind, .int .i64 x.client, .int .i64 x.seq, .int .i64 x.name, .int .i64 x.value] 28 (0, 0)) := by rw [← hW, heapSet_ne _ _ NWc.out]; exact XW.out
  have xV : w4.heap[w.heap.size + 1]? = some (.cells #[.int .i64 z.kind, .int .i64 z.client, .int .i64 z.seq, .int .i64 z.name, .int .i64 z.value] 28 (0, 0)) := by rw [← hW, heapSet_ne _ _ NVc.out]; exact XV.out
  have xs : w4.heap[v0.heap.size]? = some (.cells S.cells.toArray 48 (0, 0)) := by rw [← hW, heapSet_ne _ _ Nsc.out]; exact Xs.out
  have xc : w4.heap[v1.heap.size]? = some (.cells #[.int .i64 k, .int .i64 5, .int .i64 sq, .int .i64 nm, .int .i64 vl] 29 (0, 0)) := by rw [← hW]; exact heapSet Xc.out _
  have xd : w4.heap[v2.heap.size]? = some (.cells #[.int .i64 k2, .int .i64 cl2, .int .i64 sq2, .int .i64 nm2, .int .i64 vl2] 29 (0, 0)) := by rw [← hW, heapSet_ne _ _ Ndc.out]; exact Xd.out
  have yN : Below w.heap.size w w4 := by rw [← hW]; exact Y.out.setCell Lc.out _
  replace XW := Lib.hid xW
  clear xW
  replace XV := Lib.hid xV
  clear xV
  replace Xs := Lib.hid xs
  clear xs
  replace Xc := Lib.hid xc
  clear xc
  replace Xd := Lib.hid xd
  clear xd
  replace Y := Lib.hid yN
  clear yN hW
  have cW_0 : w4.cell? ⟨w.heap.size, 0, none⟩ = some (.int .i64 x.kind) := cellAt XW.out 0 rfl
  have cW_1 : w4.cell? ⟨w.heap.size, 1, none⟩ = some (.int .i64 x.client) := cellAt XW.out 1 rfl
  have cW_2 : w4.cell? ⟨w.heap.size, 2, none⟩ = some (.int .i64 x.seq) := cellAt XW.out 2 rfl
  have cW_3 : w4.cell? ⟨w.heap.size, 3, none⟩ = some (.int .i64 x.name) := cellAt XW.out 3 rfl
  have cW_4 : w4.cell? ⟨w.heap.size, 4, none⟩ = some (.int .i64 x.value) := cellAt XW.out 4 rfl
  have fW := freeAt XW.out
  have cV_0 : w4.cell? ⟨w.heap.size + 1, 0, none⟩ = some (.int .i64 z.kind) := cellAt XV.out 0 rfl
  have cV_1 : w4.cell? ⟨w.heap.size + 1, 1, none⟩ = some (.int .i64 z.client) := cellAt XV.out 1 rfl
  have cV_2 : w4.cell? ⟨w.heap.size + 1, 2, none⟩ = some (.int .i64 z.seq) := cellAt XV.out 2 rfl
  have cV_3 : w4.cell? ⟨w.heap.size + 1, 3, none⟩ = some (.int .i64 z.name) := cellAt XV.out 3 rfl
  have cV_4 : w4.cell? ⟨w.heap.size + 1, 4, none⟩ = some (.int .i64 z.value) := cellAt XV.out 4 rfl
  have fV := freeAt XV.out
  have RGs := Lib.hid (range_of Xs.out)
  have cc_0 : w4.cell? ⟨v1.heap.size, 0, none⟩ = some (.int .i64 k) := cellAt Xc.out 0 rfl
  have cc_1 : w4.cell? ⟨v1.heap.size, 1, none⟩ = some (.int .i64 5) := cellAt Xc.out 1 rfl
  have cc_2 : w4.cell? ⟨v1.heap.size, 2, none⟩ = some (.int .i64 sq) := cellAt Xc.out 2 rfl
  have cc_3 : w4.cell? ⟨v1.heap.size, 3, none⟩ = some (.int .i64 nm) := cellAt Xc.out 3 rfl
  have cc_4 : w4.cell? ⟨v1.heap.size, 4, none⟩ = some (.int .i64 vl) := cellAt Xc.out 4 rfl
  have fc := freeAt Xc.out
  have cd_0 : w4.cell? ⟨v2.heap.size, 0, none⟩ = some (.int .i64 k2) := cellAt Xd.out 0 rfl
  have cd_1 : w4.cell? ⟨v2.heap.size, 1, none⟩ = some (.int .i64 cl2) := cellAt Xd.out 1 rfl
  have cd_2 : w4.cell? ⟨v2.heap.size, 2, none⟩ = some (.int .i64 sq2) := cellAt Xd.out 2 rfl
  have cd_3 : w4.cell? ⟨v2.heap.size, 3, none⟩ = some (.int .i64 nm2) := cellAt Xd.out 3 rfl
  have cd_4 : w4.cell? ⟨v2.heap.size, 4, none⟩ = some (.int .i64 vl2) := cellAt Xd.out 4 rfl
  have fd := freeAt Xd.out
  go_upto_region 6 with fail
  generalize hW : World.setCell _ _ _ = w5
  clear cW_0 cW_1 cW_2 cW_3 cW_4 fW cV_0 cV_1 cV_2 cV_3 cV_4 fV RGs cc_0 cc_1 cc_2 cc_3 cc_4 fc cd_0 cd_1 cd_2 cd_3 cd_4 fd
  have xW : w5.heap[w.heap.size]? = some (.cells #[.int .i64 x.kind, .int .i64 x.client, .int .i64 x.seq, .int .i64 x.name, .int .i64 x.value] 28 (0, 0)) := by rw [← hW, heapSet_ne _ _ NWd.out]; exact XW.out
  have xV : w5.heap[w.heap.size + 1]? = some (.cells #[.int .i64 z.kind, .int .i64 z.client, .int .i64 z.seq, .int .i64 z.name, .int .i64 z.value] 28 (0, 0)) := by rw [← hW, heapSet_ne _ _ NVd.out]; exact XV.out
  have xs : w5.heap[v0.heap.size]? = some (.cells S.cells.toArray 48 (0, 0)) := by rw [← hW, heapSet_ne _ _ Nsd.out]; exact Xs.out
  have xc : w5.heap[v1.heap.size]? = some (.cells #[.int .i64 k, .int .i64 5, .int .i64 sq, .int .i64 nm, .int .i64 vl] 29 (0, 0)) := by rw [← hW, heapSet_ne _ _ Ncd.out]; exact Xc.out
  have xd : w5.heap[v2.heap.size]? = some (.cells #[.int .i64 k2, .int .i64 6, .int .i64 sq2, .int .i64 nm2, .int .i64 vl2] 29 (0, 0)) := by rw [← hW]; exact heapSet Xd.out _
  have yN : Below w.heap.size w w5 := by rw [← hW]; exact Y.out.setCell Ld.out _
  replace XW := Lib.hid xW
  clear xW
  replace XV := Lib.hid xV
  clear xV
  replace Xs := Lib.hid xs
  clear xs
  replace Xc := Lib.hid xc
  clear xc
  replace Xd := Lib.hid xd
  clear xd
  replace Y := Lib.hid yN
  clear yN hW
  have cW_0 : w5.cell? ⟨w.heap.size, 0, none⟩ = some (.int .i64 x.kind) := cellAt XW.out 0 rfl
  have cW_1 : w5.cell? ⟨w.heap.size, 1, none⟩ = some (.int .i64 x.client) := cellAt XW.out 1 rfl
  have cW_2 : w5.cell? ⟨w.heap.size, 2, none⟩ = some (.int .i64 x.seq) := cellAt XW.out 2 rfl
  have cW_3 : w5.cell? ⟨w.heap.size, 3, none⟩ = some (.int .i64 x.name) := cellAt XW.out 3 rfl
  have cW_4 : w5.cell? ⟨w.heap.size, 4, none⟩ = some (.int .i64 x.value) := cellAt XW.out 4 rfl
  have fW := freeAt XW.out
  have cV_0 : w5.cell? ⟨w.heap.size + 1, 0, none⟩ = some (.int .i64 z.kind) := cellAt XV.out 0 rfl
  have cV_1 : w5.cell? ⟨w.heap.size + 1, 1, none⟩ = some (.int .i64 z.client) := cellAt XV.out 1 rfl
  have cV_2 : w5.cell? ⟨w.heap.size + 1, 2, none⟩ = some (.int .i64 z.seq) := cellAt XV.out 2 rfl
  have cV_3 : w5.cell? ⟨w.heap.size + 1, 3, none⟩ = some (.int .i64 z.name) := cellAt XV.out 3 rfl
  have cV_4 : w5.cell? ⟨w.heap.size + 1, 4, none⟩ = some (.int .i64 z.value) := cellAt XV.out 4 rfl
  have fV := freeAt XV.out
  have RGs := Lib.hid (range_of Xs.out)
  have cc_0 : w5.cell? ⟨v1.heap.size, 0, none⟩ = some (.int .i64 k) := cellAt Xc.out 0 rfl
  have cc_1 : w5.cell? ⟨v1.heap.size, 1, none⟩ = some (.int .i64 5) := cellAt Xc.out 1 rfl
  have cc_2 : w5.cell? ⟨v1.heap.size, 2, none⟩ = some (.int .i64 sq) := cellAt Xc.out 2 rfl
  have cc_3 : w5.cell? ⟨v1.heap.size, 3, none⟩ = some (.int .i64 nm) := cellAt Xc.out 3 rfl
  have cc_4 : w5.cell? ⟨v1.heap.size, 4, none⟩ = some (.int .i64 vl) := cellAt Xc.out 4 rfl
  have fc := freeAt Xc.out
  have cd_0 : w5.cell? ⟨v2.heap.size, 0, none⟩ = some (.int .i64 k2) := cellAt Xd.out 0 rfl
  have cd_1 : w5.cell? ⟨v2.heap.size, 1, none⟩ = some (.int .i64 6) := cellAt Xd.out 1 rfl
  have cd_2 : w5.cell? ⟨v2.heap.size, 2, none⟩ = some (.int .i64 sq2) := cellAt Xd.out 2 rfl
  have cd_3 : w5.cell? ⟨v2.heap.size, 3, none⟩ = some (.int .i64 nm2) := cellAt Xd.out 3 rfl
  have cd_4 : w5.cell? ⟨v2.heap.size, 4, none⟩ = some (.int .i64 vl2) := cellAt Xd.out 4 rfl
  have fd := freeAt Xd.out
  go_upto_region 7 with fail
  generalize hW : World.setCell _ _ _ = w6
  clear cW_0 cW_1 cW_2 cW_3 cW_4 fW cV_0 cV_1 cV_2 cV_3 cV_4 fV RGs cc_0 cc_1 cc_2 cc_3 cc_4 fc cd_0 cd_1 cd_2 cd_3 cd_4 fd
  have xW : w6.heap[w.heap.size]? = some (.cells #[.int .i64 x.kind, .int .i64 x.client, .int .i64 x.seq, .int .i64 x.name, .int .i64 x.value] 28 (0, 0)) := by rw [← hW, heapSet_ne _ _ NWc.out]; exact XW.out
  have xV : w6.heap[w.heap.size + 1]? = some (.cells #[.int .i64 z.kind, .int .i64 z.client, .int .i64 z.seq, .int .i64 z.name, .int .i64 z.value] 28 (0, 0)) := by rw [← hW, heapSet_ne _ _ NVc.out]; exact XV.out
  have xs : w6.heap[v0.heap.size]? = some (.cells S.cells.toArray 48 (0, 0)) := by rw [← hW, heapSet_ne _ _ Nsc.out]; exact Xs.out
  have xc : w6.heap[v1.heap.size]? = some (.cells #[.int .i64 k, .int .i64 5, .int .i64 sq, .int .i64 1, .int .i64 vl] 29 (0, 0)) := by rw [← hW]; exact heapSet Xc.out _
  have xd : w6.heap[v2.heap.size]? = some (.cells #[.int .i64 k2, .int .i64 6, .int .i64 sq2, .int .i64 nm2, .int .i64 vl2] 29 (0, 0)) := by rw [← hW, heapSet_ne _ _ Ndc.out]; exact Xd.out
  have yN : Below w.heap.size w w6 := by rw [← hW]; exact Y.out.setCell Lc.out _
  replace XW := Lib.hid xW
  clear xW
  replace XV := Lib.hid xV
  clear xV
  replace Xs := Lib.hid xs
  clear xs
  replace Xc := Lib.hid xc
  clear xc
  replace Xd := Lib.hid xd
  clear xd
  replace Y := Lib.hid yN
  clear yN hW
  have cW_0 : w6.cell? ⟨w.heap.size, 0, none⟩ = some (.int .i64 x.kind) := cellAt XW.out 0 rfl
  have cW_1 : w6.cell? ⟨w.heap.size, 1, none⟩ = some (.int .i64 x.client) := cellAt XW.out 1 rfl
  have cW_2 : w6.cell? ⟨w.heap.size, 2, none⟩ = some (.int .i64 x.seq) := cellAt XW.out 2 rfl
  have cW_3 : w6.cell? ⟨w.heap.size, 3, none⟩ = some (.int .i64 x.name) := cellAt XW.out 3 rfl
  have cW_4 : w6.cell? ⟨w.heap.size, 4, none⟩ = some (.int .i64 x.value) := cellAt XW.out 4 rfl
  have fW := freeAt XW.out
  have cV_0 : w6.cell? ⟨w.heap.size + 1, 0, none⟩ = some (.int .i64 z.kind) := cellAt XV.out 0 rfl
  have cV_1 : w6.cell? ⟨w.heap.size + 1, 1, none⟩ = some (.int .i64 z.client) := cellAt XV.out 1 rfl
  have cV_2 : w6.cell? ⟨w.heap.size + 1, 2, none⟩ = some (.int .i64 z.seq) := cellAt XV.out 2 rfl
  have cV_3 : w6.cell? ⟨w.heap.size + 1, 3, none⟩ = some (.int .i64 z.name) := cellAt XV.out 3 rfl
  have cV_4 : w6.cell? ⟨w.heap.size + 1, 4, none⟩ = some (.int .i64 z.value) := cellAt XV.out 4 rfl
  have fV := freeAt XV.out
  have RGs := Lib.hid (range_of Xs.out)
  have cc_0 : w6.cell? ⟨v1.heap.size, 0, none⟩ = some (.int .i64 k) := cellAt Xc.out 0 rfl
  have cc_1 : w6.cell? ⟨v1.heap.size, 1, none⟩ = some (.int .i64 5) := cellAt Xc.out 1 rfl
  have cc_2 : w6.cell? ⟨v1.heap.size, 2, none⟩ = some (.int .i64 sq) := cellAt Xc.out 2 rfl
  have cc_3 : w6.cell? ⟨v1.heap.size, 3, none⟩ = some (.int .i64 1) := cellAt Xc.out 3 rfl
  have cc_4 : w6.cell? ⟨v1.heap.size, 4, none⟩ = some (.int .i64 vl) := cellAt Xc.out 4 rfl
  have fc := freeAt Xc.out
  have cd_0 : w6.cell? ⟨v2.heap.size, 0, none⟩ = some (.int .i64 k2) := cellAt Xd.out 0 rfl
  have cd_1 : w6.cell? ⟨v2.heap.size, 1, none⟩ = some (.int .i64 6) := cellAt Xd.out 1 rfl
  have cd_2 : w6.cell? ⟨v2.heap.size, 2, none⟩ = some (.int .i64 sq2) := cellAt Xd.out 2 rfl
  have cd_3 : w6.cell? ⟨v2.heap.size, 3, none⟩ = some (.int .i64 nm2) := cellAt Xd.out 3 rfl
  have cd_4 : w6.cell? ⟨v2.heap.size, 4, none⟩ = some (.int .i64 vl2) := cellAt Xd.out 4 rfl
  have fd := freeAt Xd.out
  go_upto_region 8 with fail
  generalize hW : World.setCell _ _ _ = w7
  clear cW_0 cW_1 cW_2 cW_3 cW_4 fW cV_0 cV_1 cV_2 cV_3 cV_4 fV RGs cc_0 cc_1 cc_2 cc_3 cc_4 fc cd_0 cd_1 cd_2 cd_3 cd_4 fd
  have xW : w7.heap[w.heap.size]? = some (.cells #[.int .i64 x.kind, .int .i64 x.client, .int .i64 x.seq, .int .i64 x.name, .int .i64 x.value] 28 (0, 0)) := by rw [← hW, heapSet_ne _ _ NWd.out]; exact XW.out
  have xV : w7.heap[w.heap.size + 1]? = some (.cells #[.int .i64 z.kind, .int .i64 z.client, .int .i64 z.seq, .int .i64 z.name, .int .i64 z.value] 28 (0, 0)) := by rw [← hW, heapSet_ne _ _ NVd.out]; exact XV.out
  have xs : w7.heap[v0.heap.size]? = some (.cells S.cells.toArray 48 (0, 0)) := by rw [← hW, heapSet_ne _ _ Nsd.out]; exact Xs.out
  have xc : w7.heap[v1.heap.size]? = some (.cells #[.int .i64 k, .int .i64 5, .int .i64 sq, .int .i64 1, .int .i64 vl] 29 (0, 0)) := by rw [← hW, heapSet_ne _ _ Ncd.out]; exact Xc.out
  have xd : w7.heap[v2.heap.size]? = some (.cells #[.int .i64 k2, .int .i64 6, .int .i64 sq2, .int .i64 2, .int .i64 vl2] 29 (0, 0)) := by rw [← hW]; exact heapSet Xd.out _
  have yN : Below w.heap.size w w7 := by rw [← hW]; exact Y.out.setCell Ld.out _
  replace XW := Lib.hid xW
  clear xW
  replace XV := Lib.hid xV
  clear xV
  replace Xs := Lib.hid xs
  clear xs
  replace Xc := Lib.hid xc
  clear xc
  replace Xd := Lib.hid xd
  clear xd
  replace Y := Lib.hid yN
  clear yN hW
  have cW_0 : w7.cell? ⟨w.heap.size, 0, none⟩ = some (.int .i64 x.kind) := cellAt XW.out 0 rfl
  have cW_1 : w7.cell? ⟨w.heap.size, 1, none⟩ = some (.int .i64 x.client) := cellAt XW.out 1 rfl
  have cW_2 : w7.cell? ⟨w.heap.size, 2, none⟩ = some (.int .i64 x.seq) := cellAt XW.out 2 rfl
  have cW_3 : w7.cell? ⟨w.heap.size, 3, none⟩ = some (.int .i64 x.name) := cellAt XW.out 3 rfl
  have cW_4 : w7.cell? ⟨w.heap.size, 4, none⟩ = some (.int .i64 x.value) := cellAt XW.out 4 rfl
  have fW := freeAt XW.out
  have cV_0 : w7.cell? ⟨w.heap.size + 1, 0, none⟩ = some (.int .i64 z.kind) := cellAt XV.out 0 rfl
  have cV_1 : w7.cell? ⟨w.heap.size + 1, 1, none⟩ = some (.int .i64 z.client) := cellAt XV.out 1 rfl
  have cV_2 : w7.cell? ⟨w.heap.size + 1, 2, none⟩ = some (.int .i64 z.seq) := cellAt XV.out 2 rfl
  have cV_3 : w7.cell? ⟨w.heap.size + 1, 3, none⟩ = some (.int .i64 z.name) := cellAt XV.out 3 rfl
  have cV_4 : w7.cell? ⟨w.heap.size + 1, 4, none⟩ = some (.int .i64 z.value) := cellAt XV.out 4 rfl
  have fV := freeAt XV.out
  have RGs := Lib.hid (range_of Xs.out)
  have cc_0 : w7.cell? ⟨v1.heap.size, 0, none⟩ = some (.int .i64 k) := cellAt Xc.out 0 rfl
  have cc_1 : w7.cell? ⟨v1.heap.size, 1, none⟩ = some (.int .i64 5) := cellAt Xc.out 1 rfl
  have cc_2 : w7.cell? ⟨v1.heap.size, 2, none⟩ = some (.int .i64 sq) := cellAt Xc.out 2 rfl
  have cc_3 : w7.cell? ⟨v1.heap.size, 3, none⟩ = some (.int .i64 1) := cellAt Xc.out 3 rfl
  have cc_4 : w7.cell? ⟨v1.heap.size, 4, none⟩ = some (.int .i64 vl) := cellAt Xc.out 4 rfl
  have fc := freeAt Xc.out
  have cd_0 : w7.cell? ⟨v2.heap.size, 0, none⟩ = some (.int .i64 k2) := cellAt Xd.out 0 rfl
  have cd_1 : w7.cell? ⟨v2.heap.size, 1, none⟩ = some (.int .i64 6) := cellAt Xd.out 1 rfl
  have cd_2 : w7.cell? ⟨v2.heap.size, 2, none⟩ = some (.int .i64 sq2) := cellAt Xd.out 2 rfl
  have cd_3 : w7.cell? ⟨v2.heap.size, 3, none⟩ = some (.int .i64 2) := cellAt Xd.out 3 rfl
  have cd_4 : w7.cell? ⟨v2.heap.size, 4, none⟩ = some (.int .i64 vl2) := cellAt Xd.out 4 rfl
  have fd := freeAt Xd.out
  go_upto_region 9 with (first
    | (go_at_call 21; refine (D1.out _).mono ?_; rintro e v3 ⟨rfl, hb⟩; have BD3 := Lib.hid hb; clear hb)
    | (refine wpList_load_mid rfl 48 (.tmp 7) rfl (v0.heap.size) 0 rfl S.cells _ ?_ Try.underlying48 rfl LENS.out ?_; (with_reducible exact RGs.out))
    | (refine wpList_store_mid rfl 48 (.tmp 13) (.tmp 42) rfl v3.heap.size 0 A.cells.toArray rfl rfl ?_ SZA.out (stoOne _) ?_; (exact there_new0 _ _ _ _ _ (by rw [stoSize OKA.out]; rfl)); generalize hW : World.setCells _ _ _ _ = y3; have GE3 := Lib.hid (stageE BD3.out hW (by rw [stoLen OKA.out]; rfl)); have z0 := cellAt GE3.out.2.2.1 0 rfl; have z1 := cellAt GE3.out.2.2.1 1 rfl; have zf := freeAt GE3.out.2.2.1; clear hW))
  generalize hW : World.setCell _ _ _ = w8
  have GF := Lib.hid (stageF GE3.out hW)
  clear hW z0 z1 zf
  clear cW_0 cW_1 cW_2 cW_3 cW_4 fW cV_0 cV_1 cV_2 cV_3 cV_4 fV RGs cc_0 cc_1 cc_2 cc_3 cc_4 fc cd_0 cd_1 cd_2 cd_3 cd_4 fd
  have ol3 : w7.heap.size ≤ v3.heap.size := GF.out.2.2.2.2
  have NExW : Hid (w.heap.size ≠ v3.heap.size) := Lib.hid (by have h1 := lt_of_heap XW.out; omega)
  have NExV : Hid (w.heap.size + 1 ≠ v3.heap.size) := Lib.hid (by have h1 := lt_of_heap XV.out; omega)
  have NExs : Hid (v0.heap.size ≠ v3.heap.size) := Lib.hid (by have h1 := lt_of_heap Xs.out; omega)
  have NExc : Hid (v1.heap.size ≠ v3.heap.size) := Lib.hid (by have h1 := lt_of_heap Xc.out; omega)
  have NExd : Hid (v2.heap.size ≠ v3.heap.size) := Lib.hid (by have h1 := lt_of_heap Xd.out; omega)
  have NExa : Hid (v3.heap.size + 1 ≠ v3.heap.size) := Lib.hid (by omega)
  have Lx : Hid (w.heap.size ≤ v3.heap.size) := Lib.hid (Nat.le_trans Y.out.size ol3)
  have Nxc : Hid (v3.heap.size ≠ v1.heap.size) := Lib.hid (by have h1 := lt_of_heap Xc.out; omega)
  have Nac : Hid (v3.heap.size + 1 ≠ v1.heap.size) := Lib.hid (by have h1 := lt_of_heap Xc.out; omega)
  have Nxd : Hid (v3.heap.size ≠ v2.heap.size) := Lib.hid (by have h1 := lt_of_heap Xd.out; omega)
  have Nad : Hid (v3.heap.size + 1 ≠ v2.heap.size) := Lib.hid (by have h1 := lt_of_heap Xd.out; omega)
  have hrel := GF.out.1
  have xW : w8.heap[w.heap.size]? = some (.cells #[.int .i64 x.kind, .int .i64 x.client, .int .i64 x.seq, .int .i64 x.name, .int .i64 x.value] 28 (0, 0)) := (hrel.block (w.heap.size) (lt_of_heap XW.out)).trans XW.out
  have xV : w8.heap[w.heap.size + 1]? = some (.cells #[.int .i64 z.kind, .int .i64 z.client, .int .i64 z.seq, .int .i64 z.name, .int .i64 z.value] 28 (0, 0)) := (hrel.block (w.heap.size + 1) (lt_of_heap XV.out)).trans XV.out
  have xs : w8.heap[v0.heap.size]? = some (.cells S.cells.toArray 48 (0, 0)) := (hrel.block (v0.heap.size) (lt_of_heap Xs.out)).trans Xs.out
  have xc : w8.heap[v1.heap.size]? = some (.cells #[.int .i64 k, .int .i64 5, .int .i64 sq, .int .i64 1, .int .i64 vl] 29 (0, 0)) := (hrel.block (v1.heap.size) (lt_of_heap Xc.out)).trans Xc.out
  have xd : w8.heap[v2.heap.size]? = some (.cells #[.int .i64 k2, .int .i64 6, .int .i64 sq2, .int .i64 2, .int .i64 vl2] 29 (0, 0)) := (hrel.block (v2.heap.size) (lt_of_heap Xd.out)).trans Xd.out
  replace XW := Lib.hid xW
  clear xW
  replace XV := Lib.hid xV
  clear xV
  replace Xs := Lib.hid xs
  clear xs
  replace Xc := Lib.hid xc
  clear xc
  replace Xd := Lib.hid xd
  clear xd
  replace Y := Lib.hid (Y.out.trans (hrel.mono Y.out.size))
  clear hrel
  have Xx : Hid (w8.heap[v3.heap.size]? = some (.cells A.cells.toArray 48 (0, 0))) := Lib.hid (GF.out.2.1)
  have Xa : Hid (w8.heap[v3.heap.size + 1]? = some (.cells #[.int .i64 p0, .int .i64 p1] 44 (0, 0))) := Lib.hid (GF.out.2.2.1)
  clear GF GE3 BD3 ol3
  have cW_0 : w8.cell? ⟨w.heap.size, 0, none⟩ = some (.int .i64 x.kind) := cellAt XW.out 0 rfl
  have cW_1 : w8.cell? ⟨w.heap.size, 1, none⟩ = some (.int .i64 x.client) := cellAt XW.out 1 rfl
  have cW_2 : w8.cell? ⟨w.heap.size, 2, none⟩ = some (.int .i64 x.seq) := cellAt XW.out 2 rfl
  have cW_3 : w8.cell? ⟨w.heap.size, 3, none⟩ = some (.int .i64 x.name) := cellAt XW.out 3 rfl
  have cW_4 : w8.cell? ⟨w.heap.size, 4, none⟩ = some (.int .i64 x.value) := cellAt XW.out 4 rfl
  have fW := freeAt XW.out
  have cV_0 : w8.cell? ⟨w.heap.size + 1, 0, none⟩ = some (.int .i64 z.kind) := cellAt XV.out 0 rfl
  have cV_1 : w8.cell? ⟨w.heap.size + 1, 1, none⟩ = some (.int .i64 z.client) := cellAt XV.out 1 rfl
  have cV_2 : w8.cell? ⟨w.heap.size + 1, 2, none⟩ = some (.int .i64 z.seq) := cellAt XV.out 2 rfl
  have cV_3 : w8.cell? ⟨w.heap.size + 1, 3, none⟩ = some (.int .i64 z.name) := cellAt XV.out 3 rfl
  have cV_4 : w8.cell? ⟨w.heap.size + 1, 4, none⟩ = some (.int .i64 z.value) := cellAt XV.out 4 rfl
  have fV := freeAt XV.out
  have RGs := Lib.hid (range_of Xs.out)
  have cc_0 : w8.cell? ⟨v1.heap.size, 0, none⟩ = some (.int .i64 k) := cellAt Xc.out 0 rfl
  have cc_1 : w8.cell? ⟨v1.heap.size, 1, none⟩ = some (.int .i64 5) := cellAt Xc.out 1 rfl
  have cc_2 : w8.cell? ⟨v1.heap.size, 2, none⟩ = some (.int .i64 sq) := cellAt Xc.out 2 rfl
  have cc_3 : w8.cell? ⟨v1.heap.size, 3, none⟩ = some (.int .i64 1) := cellAt Xc.out 3 rfl
  have cc_4 : w8.cell? ⟨v1.heap.size, 4, none⟩ = some (.int .i64 vl) := cellAt Xc.out 4 rfl
  have fc := freeAt Xc.out
  have cd_0 : w8.cell? ⟨v2.heap.size, 0, none⟩ = some (.int .i64 k2) := cellAt Xd.out 0 rfl
  have cd_1 : w8.cell? ⟨v2.heap.size, 1, none⟩ = some (.int .i64 6) := cellAt Xd.out 1 rfl
  have cd_2 : w8.cell? ⟨v2.heap.size, 2, none⟩ = some (.int .i64 sq2) := cellAt Xd.out 2 rfl
  have cd_3 : w8.cell? ⟨v2.heap.size, 3, none⟩ = some (.int .i64 2) := cellAt Xd.out 3 rfl
  have cd_4 : w8.cell? ⟨v2.heap.size, 4, none⟩ = some (.int .i64 vl2) := cellAt Xd.out 4 rfl
  have fd := freeAt Xd.out
  have RGx := Lib.hid (range_of Xx.out)
  have ca_0 : w8.cell? ⟨v3.heap.size + 1, 0, none⟩ = some (.int .i64 p0) := cellAt Xa.out 0 rfl
  have ca_1 : w8.cell? ⟨v3.heap.size + 1, 1, none⟩ = some (.int .i64 p1) := cellAt Xa.out 1 rfl
  go_upto_region 10 with (first
    | (go_at_call 21; refine (D2.out _).mono ?_; rintro e v4 ⟨rfl, hb⟩; have BD4 := Lib.hid hb; clear hb)
    | (refine wpList_load_mid rfl 48 (.tmp 13) rfl (v3.heap.size) 0 rfl A.cells _ ?_ Try.underlying48 rfl LENA.out ?_; (with_reducible exact RGx.out))
    | (refine wpList_store_mid rfl 48 (.tmp 13) (.tmp 49) rfl (v3.heap.size) 0 D.cells.toArray rfl rfl ?_ SZD.out (stoOne _) ?_; (exact there_old BD4.out Xx.out (by rw [stoSize OKD.out, stoSize OKA.out])); generalize hW : World.setCells _ _ _ _ = y4; have GE4 := Lib.hid (stageG BD4.out hW Xx.out (by rw [stoSize OKA.out, stoLen OKD.out])); have z0 := cellAt GE4.out.2.2.1 0 rfl; have z1 := cellAt GE4.out.2.2.1 1 rfl; have zf := freeAt GE4.out.2.2.1; clear hW))
  generalize hW : World.setCell _ _ _ = w9
  have GF := Lib.hid (stageH GE4.out (lt_of_heap Xx.out) hW)
  clear hW z0 z1 zf
  clear cW_0 cW_1 cW_2 cW_3 cW_4 fW cV_0 cV_1 cV_2 cV_3 cV_4 fV RGs cc_0 cc_1 cc_2 cc_3 cc_4 fc cd_0 cd_1 cd_2 cd_3 cd_4 fd RGx ca_0 ca_1
  have xW : w9.heap[w.heap.size]? = some (.cells #[.int .i64 x.kind, .int .i64 x.client, .int .i64 x.seq, .int .i64 x.name, .int .i64 x.value] 28 (0, 0)) := (GF.out.1 (w.heap.size) (lt_of_heap XW.out) NExW.out).trans XW.out
  have xV : w9.heap[w.heap.size + 1]? = some (.cells #[.int .i64 z.kind, .int .i64 z.client, .int .i64 z.seq, .int .i64 z.name, .int .i64 z.value] 28 (0, 0)) := (GF.out.1 (w.heap.size + 1) (lt_of_heap XV.out) NExV.out).trans XV.out
  have xs : w9.heap[v0.heap.size]? = some (.cells S.cells.toArray 48 (0, 0)) := (GF.out.1 (v0.heap.size) (lt_of_heap Xs.out) NExs.out).trans Xs.out
  have xc : w9.heap[v1.heap.size]? = some (.cells #[.int .i64 k, .int .i64 5, .int .i64 sq, .int .i64 1, .int .i64 vl] 29 (0, 0)) := (GF.out.1 (v1.heap.size) (lt_of_heap Xc.out) NExc.out).trans Xc.out
  have xd : w9.heap[v2.heap.size]? = some (.cells #[.int .i64 k2, .int .i64 6, .int .i64 sq2, .int .i64 2, .int .i64 vl2] 29 (0, 0)) := (GF.out.1 (v2.heap.size) (lt_of_heap Xd.out) NExd.out).trans Xd.out
  have xx : w9.heap[v3.heap.size]? = some (.cells D.cells.toArray 48 (0, 0)) := GF.out.2.1
  have xa : w9.heap[v3.heap.size + 1]? = some (.cells #[.int .i64 p0, .int .i64 p1] 44 (0, 0)) := (GF.out.1 (v3.heap.size + 1) (lt_of_heap Xa.out) NExa.out).trans Xa.out
  replace Y := Lib.hid (Y.out.trans (GF.out.2.2.2.1.mono Lx.out))
  replace XW := Lib.hid xW
  clear xW
  replace XV := Lib.hid xV
  clear xV
  replace Xs := Lib.hid xs
  clear xs
  replace Xc := Lib.hid xc
  clear xc
  replace Xd := Lib.hid xd
  clear xd
  replace Xx := Lib.hid xx
  clear xx
  replace Xa := Lib.hid xa
  clear xa
  have Xb : Hid (w9.heap[v4.heap.size]? = some (.cells #[.int .i64 q0, .int .i64 q1] 44 (0, 0))) := Lib.hid (GF.out.2.2.1)
  clear GF GE4 BD4
  have cW_0 : w9.cell? ⟨w.heap.size, 0, none⟩ = some (.int .i64 x.kind) := cellAt XW.out 0 rfl
  have cW_1 : w9.cell? ⟨w.heap.size, 1, none⟩ = some (.int .i64 x.client) := cellAt XW.out 1 rfl
  have cW_2 : w9.cell? ⟨w.heap.size, 2, none⟩ = some (.int .i64 x.seq) := cellAt XW.out 2 rfl
  have cW_3 : w9.cell? ⟨w.heap.size, 3, none⟩ = some (.int .i64 x.name) := cellAt XW.out 3 rfl
  have cW_4 : w9.cell? ⟨w.heap.size, 4, none⟩ = some (.int .i64 x.value) := cellAt XW.out 4 rfl
  have fW := freeAt XW.out
  have cV_0 : w9.cell? ⟨w.heap.size + 1, 0, none⟩ = some (.int .i64 z.kind) := cellAt XV.out 0 rfl
  have cV_1 : w9.cell? ⟨w.heap.size + 1, 1, none⟩ = some (.int .i64 z.client) := cellAt XV.out 1 rfl
  have cV_2 : w9.cell? ⟨w.heap.size + 1, 2, none⟩ = some (.int .i64 z.seq) := cellAt XV.out 2 rfl
  have cV_3 : w9.cell? ⟨w.heap.size + 1, 3, none⟩ = some (.int .i64 z.name) := cellAt XV.out 3 rfl
  have cV_4 : w9.cell? ⟨w.heap.size + 1, 4, none⟩ = some (.int .i64 z.value) := cellAt XV.out 4 rfl
  have fV := freeAt XV.out
  have RGs := Lib.hid (range_of Xs.out)
  have cc_0 : w9.cell? ⟨v1.heap.size, 0, none⟩ = some (.int .i64 k) := cellAt Xc.out 0 rfl
  have cc_1 : w9.cell? ⟨v1.heap.size, 1, none⟩ = some (.int .i64 5) := cellAt Xc.out 1 rfl
  have cc_2 : w9.cell? ⟨v1.heap.size, 2, none⟩ = some (.int .i64 sq) := cellAt Xc.out 2 rfl
  have cc_3 : w9.cell? ⟨v1.heap.size, 3, none⟩ = some (.int .i64 1) := cellAt Xc.out 3 rfl
  have cc_4 : w9.cell? ⟨v1.heap.size, 4, none⟩ = some (.int .i64 vl) := cellAt Xc.out 4 rfl
  have fc := freeAt Xc.out
  have cd_0 : w9.cell? ⟨v2.heap.size, 0, none⟩ = some (.int .i64 k2) := cellAt Xd.out 0 rfl
  have cd_1 : w9.cell? ⟨v2.heap.size, 1, none⟩ = some (.int .i64 6) := cellAt Xd.out 1 rfl
  have cd_2 : w9.cell? ⟨v2.heap.size, 2, none⟩ = some (.int .i64 sq2) := cellAt Xd.out 2 rfl
  have cd_3 : w9.cell? ⟨v2.heap.size, 3, none⟩ = some (.int .i64 2) := cellAt Xd.out 3 rfl
  have cd_4 : w9.cell? ⟨v2.heap.size, 4, none⟩ = some (.int .i64 vl2) := cellAt Xd.out 4 rfl
  have fd := freeAt Xd.out
  have RGx := Lib.hid (range_of Xx.out)
  have ca_0 : w9.cell? ⟨v3.heap.size + 1, 0, none⟩ = some (.int .i64 p0) := cellAt Xa.out 0 rfl
  have ca_1 : w9.cell? ⟨v3.heap.size + 1, 1, none⟩ = some (.int .i64 p1) := cellAt Xa.out 1 rfl
  have cb_0 : w9.cell? ⟨v4.heap.size, 0, none⟩ = some (.int .i64 q0) := cellAt Xb.out 0 rfl
  have cb_1 : w9.cell? ⟨v4.heap.size, 1, none⟩ = some (.int .i64 q1) := cellAt Xb.out 1 rfl
  go_upto_region 11 with (first
    | (go_at_call 21; refine (D3.out _).mono ?_; rintro e v5 ⟨rfl, hb⟩; have BD5 := Lib.hid hb; clear hb)
    | (refine wpList_load_mid rfl 48 (.tmp 7) rfl (v0.heap.size) 0 rfl S.cells _ ?_ Try.underlying48 rfl LENS.out ?_; (with_reducible exact RGs.out))
    | (refine wpList_store_mid rfl 48 (.tmp 18) (.tmp 56) rfl v5.heap.size 0 B.cells.toArray rfl rfl ?_ SZB.out (stoOne _) ?_; (exact there_new0 _ _ _ _ _ (by rw [stoSize OKB.out]; rfl)); generalize hW : World.setCells _ _ _ _ = y5; have GE5 := Lib.hid (stageE BD5.out hW (by rw [stoLen OKB.out]; rfl)); have z0 := cellAt GE5.out.2.2.1 0 rfl; have z1 := cellAt GE5.out.2.2.1 1 rfl; have zf := freeAt GE5.out.2.2.1; clear hW))
  generalize hW : World.setCell _ _ _ = w10
  have GF := Lib.hid (stageF GE5.out hW)
  clear hW z0 z1 zf
  clear cW_0 cW_1 cW_2 cW_3 cW_4 fW cV_0 cV_1 cV_2 cV_3 cV_4 fV RGs cc_0 cc_1 cc_2 cc_3 cc_4 fc cd_0 cd_1 cd_2 cd_3 cd_4 fd RGx ca_0 ca_1 cb_0 cb_1
  have ol5 : w9.heap.size ≤ v5.heap.size := GF.out.2.2.2.2
  have NEzW : Hid (w.heap.size ≠ v5.heap.size) := Lib.hid (by have h1 := lt_of_heap XW.out; omega)
  have NEzV : Hid (w.heap.size + 1 ≠ v5.heap.size) := Lib.hid (by have h1 := lt_of_heap XV.out; omega)
  have NEzs : Hid (v0.heap.size ≠ v5.heap.size) := Lib.hid (by have h1 := lt_of_heap Xs.out; omega)
  have NEzc : Hid (v1.heap.size ≠ v5.heap.size) := Lib.hid (by have h1 := lt_of_heap Xc.out; omega)
  have NEzd : Hid (v2.heap.size ≠ v5.heap.size) := Lib.hid (by have h1 := lt_of_heap Xd.out; omega)
  have NEzx : Hid (v3.heap.size ≠ v5.heap.size) := Lib.hid (by have h1 := lt_of_heap Xx.out; omega)
  have NEza : Hid (v3.heap.size + 1 ≠ v5.heap.size) := Lib.hid (by have h1 := lt_of_heap Xa.out; omega)
  have NEzb : Hid (v4.heap.size ≠ v5.heap.size) := Lib.hid (by have h1 := lt_of_heap Xb.out; omega)
  have NEze : Hid (v5.heap.size + 1 ≠ v5.heap.size) := Lib.hid (by omega)
  have Lz : Hid (w.heap.size ≤ v5.heap.size) := Lib.hid (Nat.le_trans Y.out.size ol5)
  have Nzc : Hid (v5.heap.size ≠ v1.heap.size) := Lib.hid (by have h1 := lt_of_heap Xc.out; omega)
  have Nec : Hid (v5.heap.size + 1 ≠ v1.heap.size) := Lib.hid (by have h1 := lt_of_heap Xc.out; omega)
  have Nzd : Hid (v5.heap.size ≠ v2.heap.size) := Lib.hid (by have h1 := lt_of_heap Xd.out; omega)
  have Ned : Hid (v5.heap.size + 1 ≠ v2.heap.size) := Lib.hid (by have h1 := lt_of_heap Xd.out; omega)
  have hrel := GF.out.1
  have xW : w10.heap[w.heap.size]? = some (.cells #[.int .i64 x.kind, .int .i64 x.client, .int .i64 x.seq, .int .i64 x.name, .int .i64 x.value] 28 (0, 0)) := (hrel.block (w.heap.size) (lt_of_heap XW.out)).trans XW.out
  have xV : w10.heap[w.heap.size + 1]? = some (.cells #[.int .i64 z.kind, .int .i64 z.client, .int .i64 z.seq, .int .i64 z.name, .int .i64 z.value] 28 (0, 0)) := (hrel.block (w.heap.size + 1) (lt_of_heap XV.out)).trans XV.out
  have xs : w10.heap[v0.heap.size]? = some (.cells S.cells.toArray 48 (0, 0)) := (hrel.block (v0.heap.size) (lt_of_heap Xs.out)).trans Xs.out
  have xc : w10.heap[v1.heap.size]? = some (.cells #[.int .i64 k, .int .i64 5, .int .i64 sq, .int .i64 1, .int .i64 vl] 29 (0, 0)) := (hrel.block (v1.heap.size) (lt_of_heap Xc.out)).trans Xc.out
  have xd : w10.heap[v2.heap.size]? = some (.cells #[.int .i64 k2, .int .i64 6, .int .i64 sq2, .int .i64 2, .int .i64 vl2] 29 (0, 0)) := (hrel.block (v2.heap.size) (lt_of_heap Xd.out)).trans Xd.out
  have xx : w10.heap[v3.heap.size]? = some (.cells D.cells.toArray 48 (0, 0)) := (hrel.block (v3.heap.size) (lt_of_heap Xx.out)).trans Xx.out
  have xa : w10.heap[v3.heap.size + 1]? = some (.cells #[.int .i64 p0, .int .i64 p1] 44 (0, 0)) := (hrel.block (v3.heap.size + 1) (lt_of_heap Xa.out)).trans Xa.out
  have xb : w10.heap[v4.heap.size]? = some (.cells #[.int .i64 q0, .int .i64 q1] 44 (0, 0)) := (hrel.block (v4.heap.size) (lt_of_heap Xb.out)).trans Xb.out
  replace XW := Lib.hid xW
  clear xW
  replace XV := Lib.hid xV
  clear xV
  replace Xs := Lib.hid xs
  clear xs
  replace Xc := Lib.hid xc
  clear xc
  replace Xd := Lib.hid xd
  clear xd
  replace Xx := Lib.hid xx
  clear xx
  replace Xa := Lib.hid xa
  clear xa
  replace Xb := Lib.hid xb
  clear xb
  replace Y := Lib.hid (Y.out.trans (hrel.mono Y.out.size))
  clear hrel
  have Xz : Hid (w10.heap[v5.heap.size]? = some (.cells B.cells.toArray 48 (0, 0))) := Lib.hid (GF.out.2.1)
  have Xe : Hid (w10.heap[v5.heap.size + 1]? = some (.cells #[.int .i64 q0, .int .i64 q1] 44 (0, 0))) := Lib.hid (GF.out.2.2.1)
  clear GF GE5 BD5 ol5
  have cW_0 : w10.cell? ⟨w.heap.size, 0, none⟩ = some (.int .i64 x.kind) := cellAt XW.out 0 rfl
  have cW_1 : w10.cell? ⟨w.heap.size, 1, none⟩ = some (.int .i64 x.client) := cellAt XW.out 1 rfl
  have cW_2 : w10.cell? ⟨w.heap.size, 2, none⟩ = some (.int .i64 x.seq) := cellAt XW.out 2 rfl
  have cW_3 : w10.cell? ⟨w.heap.size, 3, none⟩ = some (.int .i64 x.name) := cellAt XW.out 3 rfl
  have cW_4 : w10.cell? ⟨w.heap.size, 4, none⟩ = some (.int .i64 x.value) := cellAt XW.out 4 rfl
  have fW := freeAt XW.out
  have cV_0 : w10.cell? ⟨w.heap.size + 1, 0, none⟩ = some (.int .i64 z.kind) := cellAt XV.out 0 rfl
  have cV_1 : w10.cell? ⟨w.heap.size + 1, 1, none⟩ = some (.int .i64 z.client) := cellAt XV.out 1 rfl
  have cV_2 : w10.cell? ⟨w.heap.size + 1, 2, none⟩ = some (.int .i64 z.seq) := cellAt XV.out 2 rfl
  have cV_3 : w10.cell? ⟨w.heap.size + 1, 3, none⟩ = some (.int .i64 z.name) := cellAt XV.out 3 rfl
  have cV_4 : w10.cell? ⟨w.heap.size + 1, 4, none⟩ = some (.int .i64 z.value) := cellAt XV.out 4 rfl
  have fV := freeAt XV.out
  have RGs := Lib.hid (range_of Xs.out)
  have cc_0 : w10.cell? ⟨v1.heap.size, 0, none⟩ = some (.int .i64 k) := cellAt Xc.out 0 rfl
  have cc_1 : w10.cell? ⟨v1.heap.size, 1, none⟩ = some (.int .i64 5) := cellAt Xc.out 1 rfl
  have cc_2 : w10.cell? ⟨v1.heap.size, 2, none⟩ = some (.int .i64 sq) := cellAt Xc.out 2 rfl
  have cc_3 : w10.cell? ⟨v1.heap.size, 3, none⟩ = some (.int .i64 1) := cellAt Xc.out 3 rfl
  have cc_4 : w10.cell? ⟨v1.heap.size, 4, none⟩ = some (.int .i64 vl) := cellAt Xc.out 4 rfl
  have fc := freeAt Xc.out
  have cd_0 : w10.cell? ⟨v2.heap.size, 0, none⟩ = some (.int .i64 k2) := cellAt Xd.out 0 rfl
  have cd_1 : w10.cell? ⟨v2.heap.size, 1, none⟩ = some (.int .i64 6) := cellAt Xd.out 1 rfl
  have cd_2 : w10.cell? ⟨v2.heap.size, 2, none⟩ = some (.int .i64 sq2) := cellAt Xd.out 2 rfl
  have cd_3 : w10.cell? ⟨v2.heap.size, 3, none⟩ = some (.int .i64 2) := cellAt Xd.out 3 rfl
  have cd_4 : w10.cell? ⟨v2.heap.size, 4, none⟩ = some (.int .i64 vl2) := cellAt Xd.out 4 rfl
  have fd := freeAt Xd.out
  have RGx := Lib.hid (range_of Xx.out)
  have ca_0 : w10.cell? ⟨v3.heap.size + 1, 0, none⟩ = some (.int .i64 p0) := cellAt Xa.out 0 rfl
  have ca_1 : w10.cell? ⟨v3.heap.size + 1, 1, none⟩ = some (.int .i64 p1) := cellAt Xa.out 1 rfl
  have cb_0 : w10.cell? ⟨v4.heap.size, 0, none⟩ = some (.int .i64 q0) := cellAt Xb.out 0 rfl
  have cb_1 : w10.cell? ⟨v4.heap.size, 1, none⟩ = some (.int .i64 q1) := cellAt Xb.out 1 rfl
  have RGz := Lib.hid (range_of Xz.out)
  have ce_0 : w10.cell? ⟨v5.heap.size + 1, 0, none⟩ = some (.int .i64 q0) := cellAt Xe.out 0 rfl
  have ce_1 : w10.cell? ⟨v5.heap.size + 1, 1, none⟩ = some (.int .i64 q1) := cellAt Xe.out 1 rfl
  go_upto_region 12 with (first
    | (go_at_call 21; refine (D4.out _).mono ?_; rintro e v6 ⟨rfl, hb⟩; have BD6 := Lib.hid hb; clear hb)
    | (refine wpList_load_mid rfl 48 (.tmp 18) rfl (v5.heap.size) 0 rfl B.cells _ ?_ Try.underlying48 rfl LENB.out ?_; (with_reducible exact RGz.out))
    | (refine wpList_store_mid rfl 48 (.tmp 18) (.tmp 63) rfl (v5.heap.size) 0 D.cells.toArray rfl rfl ?_ SZD.out (stoOne _) ?_; (exact there_old BD6.out Xz.out (by rw [stoSize OKD.out, stoSize OKB.out])); generalize hW : World.setCells _ _ _ _ = y6; have GE6 := Lib.hid (stageG BD6.out hW Xz.out (by rw [stoSize OKB.out, stoLen OKD.out])); have z0 := cellAt GE6.out.2.2.1 0 rfl; have z1 := cellAt GE6.out.2.2.1 1 rfl; have zf := freeAt GE6.out.2.2.1; clear hW))
  generalize hW : World.setCell _ _ _ = w11
  have GF := Lib.hid (stageH GE6.out (lt_of_heap Xz.out) hW)
  clear hW z0 z1 zf
  clear cW_0 cW_1 cW_2 cW_3 cW_4 fW cV_0 cV_1 cV_2 cV_3 cV_4 fV RGs cc_0 cc_1 cc_2 cc_3 cc_4 fc cd_0 cd_1 cd_2 cd_3 cd_4 fd RGx ca_0 ca_1 cb_0 cb_1 RGz ce_0 ce_1
  have xW : w11.heap[w.heap.size]? = some (.cells #[.int .i64 x.kind, .int .i64 x.client, .int .i64 x.seq, .int .i64 x.name, .int .i64 x.value] 28 (0, 0)) := (GF.out.1 (w.heap.size) (lt_of_heap XW.out) NEzW.out).trans XW.out
  have xV : w11.heap[w.heap.size + 1]? = some (.cells #[.int .i64 z.kind, .int .i64 z.client, .int .i64 z.seq, .int .i64 z.name, .int .i64 z.value] 28 (0, 0)) := (GF.out.1 (w.heap.size + 1) (lt_of_heap XV.out) NEzV.out).trans XV.out
  have xs : w11.heap[v0.heap.size]? = some (.cells S.cells.toArray 48 (0, 0)) := (GF.out.1 (v0.heap.size) (lt_of_heap Xs.out) NEzs.out).trans Xs.out
  have xc : w11.heap[v1.heap.size]? = some (.cells #[.int .i64 k, .int .i64 5, .int .i64 sq, .int .i64 1, .int .i64 vl] 29 (0, 0)) := (GF.out.1 (v1.heap.size) (lt_of_heap Xc.out) NEzc.out).trans Xc.out
  have xd : w11.heap[v2.heap.size]? = some (.cells #[.int .i64 k2, .int .i64 6, .int .i64 sq2, .int .i64 2, .int .i64 vl2] 29 (0, 0)) := (GF.out.1 (v2.heap.size) (lt_of_heap Xd.out) NEzd.out).trans Xd.out
  have xx : w11.heap[v3.heap.size]? = some (.cells D.cells.toArray 48 (0, 0)) := (GF.out.1 (v3.heap.size) (lt_of_heap Xx.out) NEzx.out).trans Xx.out
  have xa : w11.heap[v3.heap.size + 1]? = some (.cells #[.int .i64 p0, .int .i64 p1] 44 (0, 0)) := (GF.out.1 (v3.heap.size + 1) (lt_of_heap Xa.out) NEza.out).trans Xa.out
  have xb : w11.heap[v4.heap.size]? = some (.cells #[.int .i64 q0, .int .i64 q1] 44 (0, 0)) := (GF.out.1 (v4.heap.size) (lt_of_heap Xb.out) NEzb.out).trans Xb.out
  have xz : w11.heap[v5.heap.size]? = some (.cells D.cells.toArray 48 (0, 0)) := GF.out.2.1
  have xe : w11.heap[v5.heap.size + 1]? = some (.cells #[.int .i64 q0, .int .i64 q1] 44 (0, 0)) := (GF.out.1 (v5.heap.size + 1) (lt_of_heap Xe.out) NEze.out).trans Xe.out
  replace Y := Lib.hid (Y.out.trans (GF.out.2.2.2.1.mono Lz.out))
  replace XW := Lib.hid xW
  clear xW
  replace XV := Lib.hid xV
  clear xV
  replace Xs := Lib.hid xs
  clear xs
  replace Xc := Lib.hid xc
  clear xc
  replace Xd := Lib.hid xd
  clear xd
  replace Xx := Lib.hid xx
  clear xx
  replace Xa := Lib.hid xa
  clear xa
  replace Xb := Lib.hid xb
  clear xb
  replace Xz := Lib.hid xz
  clear xz
  replace Xe := Lib.hid xe
  clear xe
  have Xf : Hid (w11.heap[v6.heap.size]? = some (.cells #[.int .i64 p0, .int .i64 p1] 44 (0, 0))) := Lib.hid (GF.out.2.2.1)
  clear GF GE6 BD6
  have hl5 : w11.cell? ⟨v3.heap.size, 13, none⟩ = some (.int .i64 (sq + 1)) := by rw [← HL.out]; exact stoGetN (o := 13) Xx.out OKD.out.ln (by omega)
  have cW_0 : w11.cell? ⟨w.heap.size, 0, none⟩ = some (.int .i64 x.kind) := cellAt XW.out 0 rfl
  have cW_1 : w11.cell? ⟨w.heap.size, 1, none⟩ = some (.int .i64 x.client) := cellAt XW.out 1 rfl
  have cW_2 : w11.cell? ⟨w.heap.size, 2, none⟩ = some (.int .i64 x.seq) := cellAt XW.out 2 rfl
  have cW_3 : w11.cell? ⟨w.heap.size, 3, none⟩ = some (.int .i64 x.name) := cellAt XW.out 3 rfl
  have cW_4 : w11.cell? ⟨w.heap.size, 4, none⟩ = some (.int .i64 x.value) := cellAt XW.out 4 rfl
  have fW := freeAt XW.out
  have cV_0 : w11.cell? ⟨w.heap.size + 1, 0, none⟩ = some (.int .i64 z.kind) := cellAt XV.out 0 rfl
  have cV_1 : w11.cell? ⟨w.heap.size + 1, 1, none⟩ = some (.int .i64 z.client) := cellAt XV.out 1 rfl
  have cV_2 : w11.cell? ⟨w.heap.size + 1, 2, none⟩ = some (.int .i64 z.seq) := cellAt XV.out 2 rfl
  have cV_3 : w11.cell? ⟨w.heap.size + 1, 3, none⟩ = some (.int .i64 z.name) := cellAt XV.out 3 rfl
  have cV_4 : w11.cell? ⟨w.heap.size + 1, 4, none⟩ = some (.int .i64 z.value) := cellAt XV.out 4 rfl
  have fV := freeAt XV.out
  have RGs := Lib.hid (range_of Xs.out)
  have cc_0 : w11.cell? ⟨v1.heap.size, 0, none⟩ = some (.int .i64 k) := cellAt Xc.out 0 rfl
  have cc_1 : w11.cell? ⟨v1.heap.size, 1, none⟩ = some (.int .i64 5) := cellAt Xc.out 1 rfl
  have cc_2 : w11.cell? ⟨v1.heap.size, 2, none⟩ = some (.int .i64 sq) := cellAt Xc.out 2 rfl
  have cc_3 : w11.cell? ⟨v1.heap.size, 3, none⟩ = some (.int .i64 1) := cellAt Xc.out 3 rfl
  have cc_4 : w11.cell? ⟨v1.heap.size, 4, none⟩ = some (.int .i64 vl) := cellAt Xc.out 4 rfl
  have fc := freeAt Xc.out
  have cd_0 : w11.cell? ⟨v2.heap.size, 0, none⟩ = some (.int .i64 k2) := cellAt Xd.out 0 rfl
  have cd_1 : w11.cell? ⟨v2.heap.size, 1, none⟩ = some (.int .i64 6) := cellAt Xd.out 1 rfl
  have cd_2 : w11.cell? ⟨v2.heap.size, 2, none⟩ = some (.int .i64 sq2) := cellAt Xd.out 2 rfl
  have cd_3 : w11.cell? ⟨v2.heap.size, 3, none⟩ = some (.int .i64 2) := cellAt Xd.out 3 rfl
  have cd_4 : w11.cell? ⟨v2.heap.size, 4, none⟩ = some (.int .i64 vl2) := cellAt Xd.out 4 rfl
  have fd := freeAt Xd.out
  have RGx := Lib.hid (range_of Xx.out)
  have ca_0 : w11.cell? ⟨v3.heap.size + 1, 0, none⟩ = some (.int .i64 p0) := cellAt Xa.out 0 rfl
  have ca_1 : w11.cell? ⟨v3.heap.size + 1, 1, none⟩ = some (.int .i64 p1) := cellAt Xa.out 1 rfl
  have cb_0 : w11.cell? ⟨v4.heap.size, 0, none⟩ = some (.int .i64 q0) := cellAt Xb.out 0 rfl
  have cb_1 : w11.cell? ⟨v4.heap.size, 1, none⟩ = some (.int .i64 q1) := cellAt Xb.out 1 rfl
  have RGz := Lib.hid (range_of Xz.out)
  have ce_0 : w11.cell? ⟨v5.heap.size + 1, 0, none⟩ = some (.int .i64 q0) := cellAt Xe.out 0 rfl
  have ce_1 : w11.cell? ⟨v5.heap.size + 1, 1, none⟩ = some (.int .i64 q1) := cellAt Xe.out 1 rfl
  have cf_0 : w11.cell? ⟨v6.heap.size, 0, none⟩ = some (.int .i64 p0) := cellAt Xf.out 0 rfl
  have cf_1 : w11.cell? ⟨v6.heap.size, 1, none⟩ = some (.int .i64 p1) := cellAt Xf.out 1 rfl
  go_wp2_with (first
    | (refine wpList_load_g rfl 48 (.tmp 13) rfl (v3.heap.size) 0 rfl D.cells _ ?_ Try.underlying48 rfl LEND.out ?_; (with_reducible exact RGx.out))
    | (refine wpList_load_g rfl 48 (.tmp 18) rfl (v5.heap.size) 0 rfl D.cells _ ?_ Try.underlying48 rfl LEND.out ?_; (with_reducible exact RGz.out)))
  go_ret
  exact ⟨rfl, Y.out⟩
end Go.Proofs.Ytdjnbnbhpjiicaa
