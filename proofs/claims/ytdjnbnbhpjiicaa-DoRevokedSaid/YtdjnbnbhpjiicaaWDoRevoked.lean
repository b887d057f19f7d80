/-
  The walk of DoRevoked (written by laws_do.py).
-/
import Derived.Test.YtdjnbnbhpjiicaaDoG
set_option linter.unusedVariables false
set_option linter.unusedSimpArgs false
namespace Go.Proofs.Ytdjnbnbhpjiicaa
open Go.RowKit Go.Con
set_option maxRecDepth 100000 in
set_option maxHeartbeats 2000000 in
theorem walk_DoRevoked (v : Value) (l : List Cmd) (u0 : Value) (x : Cmd) (n0 : Value) (who : Int) (w : World) (hv : RdWishes w v l) (hu : IsWish u0 x) (hn : IsInt n0 who) :
    Calls Try.prog 9 #[v, u0, n0] w fun e w' => e = .returned (.bool true) ∧ Below w.heap.size w w' := by
  obtain ⟨rfl, hx⟩ := hu
  obtain ⟨rfl, hnm⟩ := hn
  unfold cmdV
  have hdone := Lib.hid (fun W hv => done40 v l W hv)
  obtain ⟨S, hS⟩ : ∃ S, S = Sto.zero.all ((l.take 40).map cmdOf) := ⟨_, rfl⟩
  have few : S.Few := by rw [hS]; exact Sto.all_few _ Sto.zero_few _ (fun c hc => by obtain ⟨y, _, rfl⟩ := List.mem_map.1 hc; exact (cmdOf_few y).1)
  have OKS := Lib.hid few.ok
  have LENS := Lib.hid (show (Try.prog.info? 48).map (fun x => x.size) = some S.cells.length by rw [stoLen OKS.out]; exact stoSz)
  have SZS := Lib.hid (show (Try.prog.info? 48).map (fun x => x.size) = some S.cells.toArray.size by rw [stoSize OKS.out]; exact stoSz)
  have nums := cmdOf_nums x
  obtain ⟨k, cl, sq, nm, vl, hco⟩ : ∃ k cl sq nm vl, cmdOf x = ⟨k, cl, sq, nm, vl⟩ := ⟨_, _, _, _, _, rfl⟩
  rw [hco] at nums
  have HCMD : Hid (∀ W, Calls Try.prog 17 #[.agg #[.int .i64 x.kind, .int .i64 x.client, .int .i64 x.seq, .int .i64 x.name, .int .i64 x.value]] W fun e w' => e = .returned (.agg #[.int .i64 k, .int .i64 cl, .int .i64 sq, .int .i64 nm, .int .i64 vl]) ∧ Below W.heap.size W w') := Lib.hid (fun W => by have hh := Command_any x W hx; rw [hco] at hh; exact hh)
  obtain ⟨n, hn⟩ : ∃ n : Nat, (n : Int) = pick who 6 := ⟨(pick who 6).toNat, by have := pick_nonneg who 6 (by omega); omega⟩
  have hn6 : n < 6 := by have := pick_lt who 6 (by omega); omega
  have HPN : Hid (∀ W, Calls Try.prog 15 #[.int .i64 who, .int .i64 6] W fun e w' => e = .returned (.int .i64 (n : Int)) ∧ W = w') := Lib.hid (fun W => by rw [hn]; exact picked_any _ _ _ hnm.1 hnm.2 (by decide))
  obtain ⟨c, hc⟩ : ∃ c : Nat, cl = c := ⟨cl.toNat, by have h0 : 0 ≤ cl := nums.c0; omega⟩
  subst hc
  have hc4 : c < 4 := by have h0 : (c : Int) < 4 := nums.c4; omega
  obtain ⟨hckD1, okT, hAD1, rv, rvals, -⟩ := revoke_law few (k := (n : Int)) (by omega) (by omega)
  obtain ⟨hckD2, rl1, rl2⟩ := revoked_law few (j := (n : Int)) (by omega) (by omega) nums
  obtain ⟨T, hSD1⟩ : ∃ t : Sto, t = S.next ⟨3, 7, 0, n, 0⟩ := ⟨_, rfl⟩
  try rw [← hSD1] at rv
  try rw [← hSD1] at rvals
  try rw [← hSD1] at rl1
  try rw [← hSD1] at rl2
  have OKT : Hid T.Ok := Lib.hid (by rw [hSD1]; exact S.next_ok OKS.out _ hckD1)
  have LENT := Lib.hid (show (Try.prog.info? 48).map (fun x => x.size) = some T.cells.length by rw [stoLen OKT.out]; exact stoSz)
  have SZT := Lib.hid (show (Try.prog.info? 48).map (fun x => x.size) = some T.cells.toArray.size by rw [stoSize OKT.out]; exact stoSz)
  have rl1 : T.rev c = true → T.next ⟨k, c, 90, nm, vl⟩ = T ∧ T.answer ⟨k, c, 90, nm, vl⟩ = (11, 0) := rl1
  have rl2 : T.rev c = false → (T.next ⟨k, c, 90, nm, vl⟩).last c = 91 ∧ (T.answer ⟨k, c, 90, nm, vl⟩).1 = 0 := rl2
  obtain ⟨U, hSD2⟩ : ∃ t : Sto, t = T.next ⟨k, c, 90, nm, vl⟩ := ⟨_, rfl⟩
  try rw [← hSD2] at rl1
  try rw [← hSD2] at rl2
  have OKU : Hid U.Ok := Lib.hid (by rw [hSD2]; exact T.next_ok OKT.out _ hckD2)
  have LENU := Lib.hid (show (Try.prog.info? 48).map (fun x => x.size) = some U.cells.length by rw [stoLen OKU.out]; exact stoSz)
  have SZU := Lib.hid (show (Try.prog.info? 48).map (fun x => x.size) = some U.cells.toArray.size by rw [stoSize OKU.out]; exact stoSz)
  obtain ⟨a0, a1, hAD2⟩ : ∃ a0 a1, T.answer ⟨k, c, 90, nm, vl⟩ = (a0, a1) := ⟨_, _, rfl⟩
  rw [hAD2] at rl1 rl2
  have D1 : Hid (∀ W, Calls Try.prog 21 #[.agg S.cells.toArray, .agg #[.int .i64 3, .int .i64 7, .int .i64 0, .int .i64 n, .int .i64 0]] W fun e w' => e = .returned (.tuple #[.agg T.cells.toArray, .agg #[.int .i64 0, .int .i64 0], .int .i64 0]) ∧ Below W.heap.size W w') := Lib.hid (fun W => by have hh := Do_any S OKS.out ⟨3, 7, 0, n, 0⟩ hckD1 W; rw [← hSD1, hAD1] at hh; exact hh)
  have D2 : Hid (∀ W, Calls Try.prog 21 #[.agg T.cells.toArray, .agg #[.int .i64 k, .int .i64 c, .int .i64 90, .int .i64 nm, .int .i64 vl]] W fun e w' => e = .returned (.tuple #[.agg U.cells.toArray, .agg #[.int .i64 a0, .int .i64 a1], .int .i64 0]) ∧ Below W.heap.size W w') := Lib.hid (fun W => by have hh := Do_any T OKT.out ⟨k, c, 90, nm, vl⟩ hckD2 W; rw [← hSD2, hAD2] at hh; exact hh)
  have evals : T.vals = S.vals := vals_eq OKT.out OKS.out rvals
  have eqV : ∀ W, (Op.equalIn 10000 42 (.agg (S.vals.map (Value.int .i64)).toArray) (.agg (S.vals.map (Value.int .i64)).toArray)).run Try.prog W = .ok true W := fun W => by rw [show 10000 = 9998 + 2 from rfl, eqIn_vals 9998 _ _ (valsLen OKS.out) (valsLen OKS.out) W]; simp
  have ZV := Lib.hid (show (Try.prog.info? 42).map (fun x => x.size) = some (S.vals.map (Value.int .i64)).length by rw [List.length_map, valsLen OKS.out]; kernel_rfl)
  have RV := Lib.hid rv
  have EV := Lib.hid evals
  have RL1 := Lib.hid rl1
  have RL2 := Lib.hid rl2
  have HV := Lib.hid hv
  have HS := Lib.hid hS
  clear hv hS few nums hco hckD1 hckD2 okT hAD1 hAD2 hSD1 hSD2 hn hnm hx rv rvals rl1 rl2 evals
  have Y : Hid (Below w.heap.size w w) := Lib.hid (Below.refl _ _)
  go_enter Try.func9, Try.ntmps9
  have hboxed : ∀ o, RdWishes (w.alloc o) v l := fun o => HV.out.alloc o
  go_upto_region 2 with (first
    | (go_at_call 20; refine (hdone.out _ (hboxed _)).mono ?_; rintro e v0 ⟨cv, av, rfl, -, -, hb⟩; rw [← HS.out]; have BD0 := Lib.hid hb; clear hb)
    | (refine wpList_store_mid rfl 48 (.tmp 7) (.tmp 22) rfl v0.heap.size 0 S.cells.toArray rfl rfl ?_ SZS.out (stoOne _) ?_; (exact there_new _ _ _ _ (by rw [stoSize OKS.out]; rfl)); generalize hW : World.setCells _ _ _ _ = w1; have G0 := Lib.hid (stageB BD0.out hW (by rw [stoLen OKS.out]; rfl)); clear hW))
  have XW : Hid (w1.heap[w.heap.size]? = some (.cells #[.int .i64 x.kind, .int .i64 x.client, .int .i64 x.seq, .int .i64 x.name, .int .i64 x.value] 28 (0, 0))) := Lib.hid ((G0.out.1.block w.heap.size (by simp)).trans (heapNew w _))
  replace Y : Hid (Below w.heap.size w w1) := Lib.hid (((Below.refl w.heap.size w).alloc (Nat.le_refl _) _).trans (G0.out.1.mono (by simp)))
  have Xs : Hid (w1.heap[v0.heap.size]? = some (.cells S.cells.toArray 48 (0, 0))) := Lib.hid (G0.out.2)
  clear G0 BD0 hboxed
  have cW_0 : w1.cell? ⟨w.heap.size, 0, none⟩ = some (.int .i64 x.kind) := cellAt XW.out 0 rfl
  have cW_1 : w1.cell? ⟨w.heap.size, 1, none⟩ = some (.int .i64 x.client) := cellAt XW.out 1 rfl
  have cW_2 : w1.cell? ⟨w.heap.size, 2, none⟩ = some (.int .i64 x.seq) := cellAt XW.out 2 rfl
  have cW_3 : w1.cell? ⟨w.heap.size, 3, none⟩ = some (.int .i64 x.name) := cellAt XW.out 3 rfl
  have cW_4 : w1.cell? ⟨w.heap.size, 4, none⟩ = some (.int .i64 x.value) := cellAt XW.out 4 rfl
  have fW := freeAt XW.out
  have RGs := Lib.hid (range_of Xs.out)
  go_upto_region 4 with (first
    | (go_at_call 21; refine (D1.out _).mono ?_; rintro e v1 ⟨rfl, hb⟩; have BD1 := Lib.hid hb; clear hb)
    | (go_at_call 15; refine (HPN.out _).mono ?_; rintro e w9 ⟨rfl, rfl⟩)
    | (refine wpList_load_mid rfl 48 (.tmp 7) rfl (v0.heap.size) 0 rfl S.cells _ ?_ Try.underlying48 rfl LENS.out ?_; (with_reducible exact RGs.out))
    | (refine wpList_store_mid rfl 48 (.tmp 12) (.tmp 33) rfl v1.heap.size 0 T.cells.toArray rfl rfl ?_ SZT.out (stoOne _) ?_; (exact there_new0 _ _ _ _ _ (by rw [stoSize OKT.out]; rfl)); generalize hW : World.setCells _ _ _ _ = y1; have GE1 := Lib.hid (stageE BD1.out hW (by rw [stoLen OKT.out]; rfl)); have z0 := cellAt GE1.out.2.2.1 0 rfl; have z1 := cellAt GE1.out.2.2.1 1 rfl; have zf := freeAt GE1.out.2.2.1; clear hW))
  generalize hW : World.setCell _ _ _ = w2
  have GF := Lib.hid (stageF GE1.out hW)
  clear hW z0 z1 zf
  clear cW_0 cW_1 cW_2 cW_3 cW_4 fW RGs
  have ol1 : w1.heap.size ≤ v1.heap.size := GF.out.2.2.2.2
  have hrel := GF.out.1
  have xW : w2.heap[w.heap.size]? = some (.cells #[.int .i64 x.kind, .int .i64 x.client, .int .i64 x.seq, .int .i64 x.name, .int .i64 x.value] 28 (0, 0)) := (hrel.block (w.heap.size) (lt_of_heap XW.out)).trans XW.out
  have xs : w2.heap[v0.heap.size]? = some (.cells S.cells.toArray 48 (0, 0)) := (hrel.block (v0.heap.size) (lt_of_heap Xs.out)).trans Xs.out
  replace XW := Lib.hid xW
  clear xW
  replace Xs := Lib.hid xs
  clear xs
  replace Y := Lib.hid (Y.out.trans (hrel.mono Y.out.size))
  clear hrel
  have Xx : Hid (w2.heap[v1.heap.size]? = some (.cells T.cells.toArray 48 (0, 0))) := Lib.hid (GF.out.2.1)
  have Xa : Hid (w2.heap[v1.heap.size + 1]? = some (.cells #[.int .i64 0, .int .i64 0] 44 (0, 0))) := Lib.hid (GF.out.2.2.1)
  clear GF GE1 BD1 ol1
  have cW_0 : w2.cell? ⟨w.heap.size, 0, none⟩ = some (.int .i64 x.kind) := cellAt XW.out 0 rfl
  have cW_1 : w2.cell? ⟨w.heap.size, 1, none⟩ = some (.int .i64 x.client) := cellAt XW.out 1 rfl
  have cW_2 : w2.cell? ⟨w.heap.size, 2, none⟩ = some (.int .i64 x.seq) := cellAt XW.out 2 rfl
  have cW_3 : w2.cell? ⟨w.heap.size, 3, none⟩ = some (.int .i64 x.name) := cellAt XW.out 3 rfl
  have cW_4 : w2.cell? ⟨w.heap.size, 4, none⟩ = some (.int .i64 x.value) := cellAt XW.out 4 rfl
  have fW := freeAt XW.out
  have RGs := Lib.hid (range_of Xs.out)
  have RGx := Lib.hid (range_of Xx.out)
  have ca_0 : w2.cell? ⟨v1.heap.size + 1, 0, none⟩ = some (.int .i64 0) := cellAt Xa.out 0 rfl
  have ca_1 : w2.cell? ⟨v1.heap.size + 1, 1, none⟩ = some (.int .i64 0) := cellAt Xa.out 1 rfl
  go_upto_region 6 with (first
    | (go_at_call 17; refine (HCMD.out _).mono ?_; rintro e v2 ⟨rfl, hb⟩; have BD2 := Lib.hid hb; clear hb)
    | (go_at_call 15; refine (picked_any _ _ _ (by assumption) (by assumption) (by decide)).mono ?_; rintro e w9 ⟨rfl, rfl⟩))
  generalize hW : World.alloc _ _ = w4
  have GF := Lib.hid (stageC BD2.out hW)
  clear hW
  clear cW_0 cW_1 cW_2 cW_3 cW_4 fW RGs RGx ca_0 ca_1
  have ge2 := GF.out.2.2
  have NWc : Hid (w.heap.size ≠ v2.heap.size) := Lib.hid (by have h1 := lt_of_heap XW.out; omega)
  have Nsc : Hid (v0.heap.size ≠ v2.heap.size) := Lib.hid (by have h1 := lt_of_heap Xs.out; omega)
  have Nxc : Hid (v1.heap.size ≠ v2.heap.size) := Lib.hid (by have h1 := lt_of_heap Xx.out; omega)
  have Nac : Hid (v1.heap.size + 1 ≠ v2.heap.size) := Lib.hid (by have h1 := lt_of_heap Xa.out; omega)
  have Lc : Hid (w.heap.size ≤ v2.heap.size) := Lib.hid (Nat.le_trans Y.out.size ge2)
  have hrel := GF.out.1
  have xW : w4.heap[w.heap.size]? = some (.cells #[.int .i64 x.kind, .int .i64 x.client, .int .i64 x.seq, .int .i64 x.name, .int .i64 x.value] 28 (0, 0)) := (hrel.block (w.heap.size) (lt_of_heap XW.out)).trans XW.out
  have xs : w4.heap[v0.heap.size]? = some (.cells S.cells.toArray 48 (0, 0)) := (hrel.block (v0.heap.size) (lt_of_heap Xs.out)).trans Xs.out
  have xx : w4.heap[v1.heap.size]? = some (.cells T.cells.toArray 48 (0, 0)) := (hrel.block (v1.heap.size) (lt_of_heap Xx.out)).trans Xx.out
  have xa : w4.heap[v1.heap.size + 1]? = some (.cells #[.int .i64 0, .int .i64 0] 44 (0, 0)) := (hrel.block (v1.heap.size + 1) (lt_of_heap Xa.out)).trans Xa.out
  replace XW := Lib.hid xW
  clear xW
  replace Xs := Lib.hid xs
  clear xs
  replace Xx := Lib.hid xx
  clear xx
  replace Xa := Lib.hid xa
  clear xa
  replace Y := Lib.hid (Y.out.trans (hrel.mono Y.out.size))
  clear hrel
  have Xc : Hid (w4.heap[v2.heap.size]? = some (.cells #[.int .i64 k, .int .i64 c, .int .i64 90, .int .i64 nm, .int .i64 vl] 29 (0, 0))) := Lib.hid (GF.out.2.1)
  clear GF BD2 ge2
  have cW_0 : w4.cell? ⟨w.heap.size, 0, none⟩ = some (.int .i64 x.kind) := cellAt XW.out 0 rfl
  have cW_1 : w4.cell? ⟨w.heap.size, 1, none⟩ = some (.int .i64 x.client) := cellAt XW.out 1 rfl
  have cW_2 : w4.cell? ⟨w.heap.size, 2, none⟩ = some (.int .i64 x.seq) := cellAt XW.out 2 rfl
  have cW_3 : w4.cell? ⟨w.heap.size, 3, none⟩ = some (.int .i64 x.name) := cellAt XW.out 3 rfl
  have cW_4 : w4.cell? ⟨w.heap.size, 4, none⟩ = some (.int .i64 x.value) := cellAt XW.out 4 rfl
  have fW := freeAt XW.out
  have RGs := Lib.hid (range_of Xs.out)
  have RGx := Lib.hid (range_of Xx.out)
  have ca_0 : w4.cell? ⟨v1.heap.size + 1, 0, none⟩ = some (.int .i64 0) := cellAt Xa.out 0 rfl
  have ca_1 : w4.cell? ⟨v1.heap.size + 1, 1, none⟩ = some (.int .i64 0) := cellAt Xa.out 1 rfl
  have cc_0 : w4.cell? ⟨v2.heap.size, 0, none⟩ = some (.int .i64 k) := cellAt Xc.out 0 rfl
  have cc_1 : w4.cell? ⟨v2.heap.size, 1, none⟩ = some (.int .i64 c) := cellAt Xc.out 1 rfl
  have cc_2 : w4.cell? ⟨v2.heap.size, 2, none⟩ = some (.int .i64 90) := cellAt Xc.out 2 rfl
  have cc_3 : w4.cell? ⟨v2.heap.size, 3, none⟩ = some (.int .i64 nm) := cellAt Xc.out 3 rfl
  have cc_4 : w4.cell? ⟨v2.heap.size, 4, none⟩ = some (.int .i64 vl) := cellAt Xc.out 4 rfl
  have fc := freeAt Xc.out
  go_upto_region 7 with (first
    | (go_at_call 21; refine (D2.out _).mono ?_; rintro e v3 ⟨rfl, hb⟩; have BD3 := Lib.hid hb; clear hb)
    | (refine wpList_load_mid rfl 48 (.tmp 12) rfl (v1.heap.size) 0 rfl T.cells _ ?_ Try.underlying48 rfl LENT.out ?_; (with_reducible exact RGx.out))
    | (refine wpList_store_mid rfl 48 (.tmp 16) (.tmp 43) rfl v3.heap.size 0 U.cells.toArray rfl rfl ?_ SZU.out (stoOne _) ?_; (exact there_new0 _ _ _ _ _ (by rw [stoSize OKU.out]; rfl)); generalize hW : World.setCells _ _ _ _ = y3; have GE3 := Lib.hid (stageE BD3.out hW (by rw [stoLen OKU.out]; rfl)); have z0 := cellAt GE3.out.2.2.1 0 rfl; have z1 := cellAt GE3.out.2.2.1 1 rfl; have zf := freeAt GE3.out.2.2.1; clear hW))
  generalize hW : World.setCell _ _ _ = w5
  have GF := Lib.hid (stageF GE3.out hW)
  clear hW z0 z1 zf
  clear cW_0 cW_1 cW_2 cW_3 cW_4 fW RGs RGx ca_0 ca_1 cc_0 cc_1 cc_2 cc_3 cc_4 fc
  have ol3 : w4.heap.size ≤ v3.heap.size := GF.out.2.2.2.2
  have Nyc : Hid (v3.heap.size ≠ v2.heap.size) := Lib.hid (by have h1 := lt_of_heap Xc.out; omega)
  have Nbc : Hid (v3.heap.size + 1 ≠ v2.heap.size) := Lib.hid (by have h1 := lt_of_heap Xc.out; omega)
  have hrel := GF.out.1
  have xW : w5.heap[w.heap.size]? = some (.cells #[.int .i64 x.kind, .int .i64 x.client, .int .i64 x.seq, .int .i64 x.name, .int .i64 x.value] 28 (0, 0)) := (hrel.block (w.heap.size) (lt_of_heap XW.out)).trans XW.out
  have xs : w5.heap[v0.heap.size]? = some (.cells S.cells.toArray 48 (0, 0)) := (hrel.block (v0.heap.size) (lt_of_heap Xs.out)).trans Xs.out
  have xx : w5.heap[v1.heap.size]? = some (.cells T.cells.toArray 48 (0, 0)) := (hrel.block (v1.heap.size) (lt_of_heap Xx.out)).trans Xx.out
  have xa : w5.heap[v1.heap.size + 1]? = some (.cells #[.int .i64 0, .int .i64 0] 44 (0, 0)) := (hrel.block (v1.heap.size + 1) (lt_of_heap Xa.out)).trans Xa.out
  have xc : w5.heap[v2.heap.size]? = some (.cells #[.int .i64 k, .int .i64 c, .int .i64 90, .int .i64 nm, .int .i64 vl] 29 (0, 0)) := (hrel.block (v2.heap.size) (lt_of_heap Xc.out)).trans Xc.out
  replace XW := Lib.hid xW
  clear xW
  replace Xs := Lib.hid xs
  clear xs
  replace Xx := Lib.hid xx
  clear xx
  replace Xa := Lib.hid xa
  clear xa
  replace Xc := Lib.hid xc
  clear xc
  replace Y := Lib.hid (Y.out.trans (hrel.mono Y.out.size))
  clear hrel
  have Xy : Hid (w5.heap[v3.heap.size]? = some (.cells U.cells.toArray 48 (0, 0))) := Lib.hid (GF.out.2.1)
  have Xb : Hid (w5.heap[v3.heap.size + 1]? = some (.cells #[.int .i64 a0, .int .i64 a1] 44 (0, 0))) := Lib.hid (GF.out.2.2.1)
  clear GF GE3 BD3 ol3
  have hrv : w5.cell? ⟨v1.heap.size, 32 + n, none⟩ = some (.bool true) := by rw [← RV.out]; exact stoGetR Xx.out OKT.out.ln OKT.out.lr (by omega)
  have hrc : w5.cell? ⟨v1.heap.size, 32 + c, none⟩ = some (.bool (T.rev c)) := stoGetR Xx.out OKT.out.ln OKT.out.lr (by omega)
  have hlc : w5.cell? ⟨v3.heap.size, 8 + c, none⟩ = some (.int .i64 (U.last c)) := stoGetN (o := 8 + c) Xy.out OKU.out.ln (by omega)
  have RX := Lib.hid (show w5.rangeAt v1.heap.size 0 (S.vals.map (Value.int .i64)) by rw [← EV.out]; exact rangeVals OKT.out Xx.out)
  have RS := Lib.hid (rangeVals OKS.out Xs.out)
  cases hb : T.rev c with
  | false =>
    rw [hb] at hrc
    obtain ⟨q1, q2⟩ := RL2.out hb
    rw [q1] at hlc
    try dsimp only at q2
    subst q2
    clear RL1 RL2 hb q1
    have cW_0 : w5.cell? ⟨w.heap.size, 0, none⟩ = some (.int .i64 x.kind) := cellAt XW.out 0 rfl
    have cW_1 : w5.cell? ⟨w.heap.size, 1, none⟩ = some (.int .i64 x.client) := cellAt XW.out 1 rfl
    have cW_2 : w5.cell? ⟨w.heap.size, 2, none⟩ = some (.int .i64 x.seq) := cellAt XW.out 2 rfl
    have cW_3 : w5.cell? ⟨w.heap.size, 3, none⟩ = some (.int .i64 x.name) := cellAt XW.out 3 rfl
    have cW_4 : w5.cell? ⟨w.heap.size, 4, none⟩ = some (.int .i64 x.value) := cellAt XW.out 4 rfl
    have fW := freeAt XW.out
    have RGs := Lib.hid (range_of Xs.out)
    have RGx := Lib.hid (range_of Xx.out)
    have ca_0 : w5.cell? ⟨v1.heap.size + 1, 0, none⟩ = some (.int .i64 0) := cellAt Xa.out 0 rfl
    have ca_1 : w5.cell? ⟨v1.heap.size + 1, 1, none⟩ = some (.int .i64 0) := cellAt Xa.out 1 rfl
    have cc_0 : w5.cell? ⟨v2.heap.size, 0, none⟩ = some (.int .i64 k) := cellAt Xc.out 0 rfl
    have cc_1 : w5.cell? ⟨v2.heap.size, 1, none⟩ = some (.int .i64 c) := cellAt Xc.out 1 rfl
    have cc_2 : w5.cell? ⟨v2.heap.size, 2, none⟩ = some (.int .i64 90) := cellAt Xc.out 2 rfl
    have cc_3 : w5.cell? ⟨v2.heap.size, 3, none⟩ = some (.int .i64 nm) := cellAt Xc.out 3 rfl
    have cc_4 : w5.cell? ⟨v2.heap.size, 4, none⟩ = some (.int .i64 vl) := cellAt Xc.out 4 rfl
    have fc := freeAt Xc.out
    have RGy := Lib.hid (range_of Xy.out)
    have cb_0 : w5.cell? ⟨v3.heap.size + 1, 0, none⟩ = some (.int .i64 0) := cellAt Xb.out 0 rfl
    have cb_1 : w5.cell? ⟨v3.heap.size + 1, 1, none⟩ = some (.int .i64 a1) := cellAt Xb.out 1 rfl
    go_wp2_with (first
      | (refine wpList_load_g rfl 42 (.tmp 69) rfl (v1.heap.size) 0 rfl (S.vals.map (Value.int .i64)) _ ?_ Try.underlying42 rfl ZV.out ?_; (with_reducible exact RX.out))
      | (refine wpList_load_g rfl 42 (.tmp 71) rfl (v0.heap.size) 0 rfl (S.vals.map (Value.int .i64)) _ ?_ Try.underlying42 rfl ZV.out ?_; (with_reducible exact RS.out)))
    go_ret
    exact ⟨rfl, Y.out⟩
  | true =>
    rw [hb] at hrc
    obtain ⟨q1, q2⟩ := RL1.out hb
    injection q2 with q3 q4
    subst q3
    subst q4
    have eqU : ∀ W, (Op.equalIn 10000 48 (.agg U.cells.toArray) (.agg T.cells.toArray)).run Try.prog W = .ok true W := fun W => by rw [eqIn_store OKU.out OKT.out W]; simp [q1]
    clear RL1 RL2 hb q1
    have cW_0 : w5.cell? ⟨w.heap.size, 0, none⟩ = some (.int .i64 x.kind) := cellAt XW.out 0 rfl
    have cW_1 : w5.cell? ⟨w.heap.size, 1, none⟩ = some (.int .i64 x.client) := cellAt XW.out 1 rfl
    have cW_2 : w5.cell? ⟨w.heap.size, 2, none⟩ = some (.int .i64 x.seq) := cellAt XW.out 2 rfl
    have cW_3 : w5.cell? ⟨w.heap.size, 3, none⟩ = some (.int .i64 x.name) := cellAt XW.out 3 rfl
    have cW_4 : w5.cell? ⟨w.heap.size, 4, none⟩ = some (.int .i64 x.value) := cellAt XW.out 4 rfl
    have fW := freeAt XW.out
    have RGs := Lib.hid (range_of Xs.out)
    have RGx := Lib.hid (range_of Xx.out)
    have ca_0 : w5.cell? ⟨v1.heap.size + 1, 0, none⟩ = some (.int .i64 0) := cellAt Xa.out 0 rfl
    have ca_1 : w5.cell? ⟨v1.heap.size + 1, 1, none⟩ = some (.int .i64 0) := cellAt Xa.out 1 rfl
    have cc_0 : w5.cell? ⟨v2.heap.size, 0, none⟩ = some (.int .i64 k) := cellAt Xc.out 0 rfl
    have cc_1 : w5.cell? ⟨v2.heap.size, 1, none⟩ = some (.int .i64 c) := cellAt Xc.out 1 rfl
    have cc_2 : w5.cell? ⟨v2.heap.size, 2, none⟩ = some (.int .i64 90) := cellAt Xc.out 2 rfl
    have cc_3 : w5.cell? ⟨v2.heap.size, 3, none⟩ = some (.int .i64 nm) := cellAt Xc.out 3 rfl
    have cc_4 : w5.cell? ⟨v2.heap.size, 4, none⟩ = some (.int .i64 vl) := cellAt Xc.out 4 rfl
    have fc := freeAt Xc.out
    have RGy := Lib.hid (range_of Xy.out)
    have cb_0 : w5.cell? ⟨v3.heap.size + 1, 0, none⟩ = some (.int .i64 11) := cellAt Xb.out 0 rfl
    have cb_1 : w5.cell? ⟨v3.heap.size + 1, 1, none⟩ = some (.int .i64 0) := cellAt Xb.out 1 rfl
    go_wp2_with (first
      | (refine wpList_load_g rfl 48 (.tmp 16) rfl (v3.heap.size) 0 rfl U.cells _ ?_ Try.underlying48 rfl LENU.out ?_; (with_reducible exact RGy.out))
      | (refine wpList_load_g rfl 48 (.tmp 12) rfl (v1.heap.size) 0 rfl T.cells _ ?_ Try.underlying48 rfl LENT.out ?_; (with_reducible exact RGx.out))
      | (refine wpList_load_g rfl 42 (.tmp 69) rfl (v1.heap.size) 0 rfl (S.vals.map (Value.int .i64)) _ ?_ Try.underlying42 rfl ZV.out ?_; (with_reducible exact RX.out))
      | (refine wpList_load_g rfl 42 (.tmp 71) rfl (v0.heap.size) 0 rfl (S.vals.map (Value.int .i64)) _ ?_ Try.underlying42 rfl ZV.out ?_; (with_reducible exact RS.out)))
    go_ret
    exact ⟨rfl, Y.out⟩
end Go.Proofs.Ytdjnbnbhpjiicaa
