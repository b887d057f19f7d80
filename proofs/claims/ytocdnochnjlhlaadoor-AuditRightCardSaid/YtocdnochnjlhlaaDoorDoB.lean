/-
  vault.Do of a command that may not be.
-/
import Derived.Test.YtocdnochnjlhlaaDoorVDo
import Derived.Deep.Cut
set_option linter.unusedVariables false
set_option linter.unusedSimpArgs false
namespace Go.Proofs.YtocdnochnjlhlaaDoor
open Go.RowKit Go.Con
set_option maxRecDepth 100000 in
set_option maxHeartbeats 400000 in
theorem Do_bad (s : Sto) (h : s.Ok) (c : Cmd) (q : Int) (hc : checkC c = q) (hq : q ≠ 0) (w : World) :
    Calls Tryd.prog 10 #[.agg s.cells.toArray, cmdV c] w fun e w' => e = .returned (.tuple #[.agg Sto.zero.cells.toArray, .agg #[.int .i64 0, .int .i64 0], .int .i64 q]) ∧ Below w.heap.size w w' := by
  obtain ⟨cs, hcs⟩ : ∃ cs, cs = s.cells.toArray := ⟨_, rfl⟩
  have hr0 : ∀ A B C, ((((w.alloc (.cells cs 30)).alloc A).alloc B).alloc C).rangeAt w.heap.size 0 s.cells := fun A B C => range_of (t := 30) (f := (0, 0)) (by rw [hcs]; exact heap3 w _ A B C)
  have len : (Tryd.prog.info? 30).map (fun x => x.size) = some s.cells.length := by rw [stoLen h]; exact stoSz
  have hcs2 : some (Obj.cells cs 30 (0, 0)) = some (.cells s.cells.toArray 30 (0, 0)) := by rw [hcs]
  obtain ⟨zs, hzs⟩ : ∃ zs : Array Value, zs = Sto.zero.cells.toArray := ⟨_, rfl⟩
  have ez : (#[.int .i64 0, .int .i64 0, .int .i64 0, .int .i64 0, .int .i64 0, .int .i64 0, .int .i64 0, .int .i64 0, .int .i64 0, .int .i64 0, .int .i64 0, .int .i64 0, .int .i64 0, .int .i64 0, .int .i64 0, .int .i64 0, .int .i64 0, .int .i64 0, .int .i64 0, .int .i64 0, .int .i64 0, .int .i64 0, .int .i64 0, .int .i64 0, .int .i64 0, .int .i64 0, .int .i64 0, .int .i64 0, .int .i64 0, .int .i64 0, .int .i64 0, .int .i64 0, .bool false, .bool false, .bool false, .bool false, .bool false, .bool false, .bool false, .bool false] : Array Value) = zs := by rw [hzs]; kernel_rfl
  have EZ := Lib.hid ez
  have ZE := Lib.hid hzs
  obtain ⟨k, cl, sq, nm, vl⟩ := c
  have hck : ∀ W, Calls Tryd.prog 15 #[.agg #[.int .i64 k, .int .i64 cl, .int .i64 sq, .int .i64 nm, .int .i64 vl]] W fun e w' => e = .returned (.int .i64 q) ∧ Below W.heap.size W w' := fun W => by
    have hh := Check_any ⟨k, cl, sq, nm, vl⟩ W
    rw [hc] at hh
    exact hh
  have hq2 : (q != 0) = true := by rw [bne_iff_ne]; exact hq
  have HCK := Lib.hid hck
  have HR0 := Lib.hid hr0
  have LEN := Lib.hid len
  have OK := Lib.hid h
  have HCS := Lib.hid hcs2
  have CSE := Lib.hid hcs
  unfold cmdV
  rw [← hcs, ← hzs]
  clear hr0 len h hcs hcs2 hck
  clear hc ez hzs
  go_enter Tryd.func10, Tryd.ntmps10
  go_wp2_with (first
    | (go_at_call 11; refine (stoCheck_ok s OK.out _).mono ?_; rintro e w1 ⟨rfl, hb1⟩; have F1 := Lib.hid (frame4 hb1); clear hb1; have c10 := cellAt F1.out.2.1 0 rfl; have c11 := cellAt F1.out.2.1 1 rfl; have c12 := cellAt F1.out.2.1 2 rfl; have c13 := cellAt F1.out.2.1 3 rfl; have c14 := cellAt F1.out.2.1 4 rfl)
    | (refine wpList_load_mid rfl 30 (.tmp 2) rfl w.heap.size 0 rfl s.cells _ ?_ Tryd.underlying30 rfl LEN.out ?_; (with_reducible exact HR0.out _ _ _)))
  refine (HCK.out _).mono ?_
  rintro e w2 ⟨rfl, hb2⟩
  obtain ⟨Z, hz, hzs⟩ := (show ∃ Z, w1.heap[w.heap.size + 1 + 1]? = some (.cells Z 30 (0, 0)) ∧ Z.size = 40 from ⟨_, F1.out.2.2.1, rfl⟩)
  have hs1 := F1.out.2.2.2.2.1
  have x2 := (hb2.block (w.heap.size + 1 + 1) (by omega)).trans hz
  have x3 := (hb2.block (w.heap.size + 1 + 1 + 1) (by omega)).trans F1.out.2.2.2.1
  have y := F1.out.2.2.2.2.2.trans (hb2.mono (by omega))
  have X2 := Lib.hid x2
  have X3 := Lib.hid x3
  have Y := Lib.hid y
  have ZS := Lib.hid hzs
  clear hb2 F1 hz hs1 x2 x3 y hzs c10 c11 c12 c13 c14
  have zsz : zs.size = 40 := by rw [ZE.out]; rfl
  have th : w2.there (w.heap.size + 1 + 1) 0 zs.size := by rw [zsz]; exact there_of X2.out ZS.out
  have szz : (Tryd.prog.info? 30).map (fun x => x.size) = some zs.size := by rw [zsz]; exact stoSz
  have TH := Lib.hid th
  have SZZ := Lib.hid szz
  have ZSZ := Lib.hid zsz
  have ONE := Lib.hid (show zs.all (·.oneCell') = true by rw [ZE.out]; exact stoOne _)
  clear th szz zsz
  go_upto_region 6 with fail
  go_wp2_with (first
    | (rw [EZ.out]; refine wpList_store_mid rfl 30 (.tmp 4) (.tmp 22) rfl (w.heap.size + 1 + 1) 0 zs rfl rfl ?_ SZZ.out ONE.out ?_; (with_reducible exact TH.out); generalize hW : World.setCells _ _ _ _ = wz; have u2 : wz.heap[w.heap.size + 1 + 1]? = some (.cells Sto.zero.cells.toArray 30 (0, 0)) := (by rw [← hW, ZE.out]; exact storedRow (vs := Sto.zero.cells) X2.out (by rw [ZS.out]; rfl)); have u3 : wz.heap[w.heap.size + 1 + 1 + 1]? = some (.cells #[.int .i64 0, .int .i64 0] 26 (0, 0)) := (by rw [← hW, heap_setCells_ne (by omega)]; exact X3.out); have uy : Below w.heap.size w wz := (by rw [← hW]; exact below_setCells (by omega) _ _ _ Y.out); have U2 := Lib.hid u2; have U3 := Lib.hid u3; have UY := Lib.hid uy; have d0 := cellAt u3 0 rfl; have d1 := cellAt u3 1 rfl; have df := freeAt u3; clear hW u2 u3 uy))
  rw [ZE.out]
  refine bodyPost_ret (v := .tuple #[.agg Sto.zero.cells.toArray, .agg #[.int .i64 0, .int .i64 0], .int .i64 q]) (do_end (b := w.heap.size) (s := Sto.zero) Sto.zero_ok (a := (0, 0)) (n := q) rfl rfl rfl ?_ ?_) rfl ⟨rfl, ?_⟩
  · rw [heapSet_ne _ _ (by omega), heapSet_ne _ _ (by omega)]; exact U2.out
  · exact heapSet (heapSet U3.out _) _
  · exact (UY.out.setCell (by show w.heap.size ≤ w.heap.size + 1 + 1 + 1; omega) _).setCell (by show w.heap.size ≤ w.heap.size + 1 + 1 + 1; omega) _
end Go.Proofs.YtocdnochnjlhlaaDoor
