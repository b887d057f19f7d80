/-
  The walk of vault.Do (written by gen_do.py).
-/
import Derived.Test.YtocdnochnjlhlaaDoorVAc
set_option linter.unusedVariables false
set_option linter.unusedSimpArgs false
namespace Go.Proofs.YtocdnochnjlhlaaDoor
open Go.RowKit Go.Con
theorem heap3 (w : World) (X A B C : Obj) : ((((w.alloc X).alloc A).alloc B).alloc C).heap[w.heap.size]? = some X :=
  (frame4 (Below.refl _ ((((w.alloc X).alloc A).alloc B).alloc C))).1
/-- a store and an answer that were laid into the result's blocks -/
theorem do_end {w : World} {b : Nat} {tmps : Array Value} {s : Sto} (h : s.Ok) {a : Int × Int} {n : Int} (ht4 : tmps.getD 4 undef = .pointer (some ⟨b + 1 + 1, 0, none⟩)) (ht5 : tmps.getD 5 undef = .pointer (some ⟨b + 1 + 1 + 1, 0, none⟩)) (ht6 : tmps.getD 6 undef = .int .i64 n)
    (h1 : w.heap[b + 1 + 1]? = some (.cells s.cells.toArray 30 (0, 0))) (h2 : w.heap[b + 1 + 1 + 1]? = some (.cells #[.int .i64 a.1, .int .i64 a.2] 26 (0, 0))) :
    (results Tryd.f10 tmps).run Tryd.prog w = .ok (.tuple #[.agg s.cells.toArray, .agg #[.int .i64 a.1, .int .i64 a.2], .int .i64 n]) w := by
  have l1 := run_loadVar_mid (P := Tryd.prog) w (b + 1 + 1) 0 30 s.cells _ (range_of h1) Tryd.underlying30 rfl (by rw [stoLen h]; exact stoSz)
  have l2 := run_loadVar_mid (P := Tryd.prog) w (b + 1 + 1 + 1) 0 26 [.int .i64 a.1, .int .i64 a.2] _ (range_of h2) Tryd.underlying26 rfl (by kernel_rfl)
  rw [results_cct Tryd.results10 ht4 ht5 l1 l2, ht6]
theorem act_any (b : Nat) (s : Sto) (h : s.n.length = 32) (hr : s.r.length = 8) (c : Cmd) (hc : c.Real) (w : World) (hx : w.heap[b]? = some (.cells s.cells.toArray 30 (0, 0))) :
    Calls Tryd.prog 16 #[.pointer (some ⟨b, 0, none⟩), .agg #[.int .i64 c.kind, .int .i64 c.client, .int .i64 c.seq, .int .i64 c.name, .int .i64 c.value]] w fun e w' => e = .returned (.agg #[.int .i64 0, .int .i64 (s.told c)]) ∧ w'.heap[b]? = some (.cells (s.acted c).cells.toArray 30 (0, 0)) ∧ Kept w.heap.size (fun k => k = b) w w' := by
  obtain ⟨k, cl, sq, nm, vl⟩ := c
  have k1 := hc.k1
  have k3 := hc.k3
  have n0 := hc.n0
  have n7 := hc.n7
  dsimp only at k1 k3 n0 n7
  obtain ⟨n, rfl⟩ : ∃ n : Nat, nm = n := ⟨nm.toNat, by omega⟩
  have hk : k = 1 ∨ k = 2 ∨ k = 3 := by omega
  rcases hk with rfl | rfl | rfl
  · exact act_put b s h cl sq vl n (by omega) w hx
  · exact act_get b s h cl sq vl n (by omega) w hx
  · exact act_revoke b s h hr cl sq vl n (by omega) w hx

set_option maxRecDepth 100000 in
set_option maxHeartbeats 400000 in
theorem Do_noop (s : Sto) (h : s.Ok) (w : World) :
    Calls Tryd.prog 10 #[.agg s.cells.toArray, .agg #[.int .i64 0, .int .i64 0, .int .i64 0, .int .i64 0, .int .i64 0]] w fun e w' => e = .returned (.tuple #[.agg s.cells.toArray, .agg #[.int .i64 0, .int .i64 0], .int .i64 0]) ∧ Below w.heap.size w w' := by
  have hc : checkC ⟨0, 0, 0, 0, 0⟩ = 0 := by decide
  obtain ⟨cs, hcs⟩ : ∃ cs, cs = s.cells.toArray := ⟨_, rfl⟩
  have hr0 : ∀ A B C, ((((w.alloc (.cells cs 30)).alloc A).alloc B).alloc C).rangeAt w.heap.size 0 s.cells := fun A B C => range_of (t := 30) (f := (0, 0)) (by rw [hcs]; exact heap3 w _ A B C)
  have len : (Tryd.prog.info? 30).map (fun x => x.size) = some s.cells.length := by rw [stoLen h]; exact stoSz
  have hcs2 : some (Obj.cells cs 30 (0, 0)) = some (.cells s.cells.toArray 30 (0, 0)) := by rw [hcs]
  have hck : ∀ W, Calls Tryd.prog 15 #[.agg #[.int .i64 0, .int .i64 0, .int .i64 0, .int .i64 0, .int .i64 0]] W fun e w' => e = .returned (.int .i64 0) ∧ Below W.heap.size W w' := fun W => by
    have hh := Check_any ⟨0, 0, 0, 0, 0⟩ W
    rw [hc] at hh
    exact hh
  have HCK := Lib.hid hck
  have HR0 := Lib.hid hr0
  have LEN := Lib.hid len
  have OK := Lib.hid h
  have HCS := Lib.hid hcs2
  have CSE := Lib.hid hcs
  rw [← hcs]
  clear hr0 len h hcs hcs2 hck
  clear hc
  go_enter Tryd.func10, Tryd.ntmps10
  go_wp2_with (first
    | (go_at_call 11; refine (stoCheck_ok s OK.out _).mono ?_; rintro e w1 ⟨rfl, hb1⟩; have F1 := Lib.hid (frame4 hb1); clear hb1; have c10 := cellAt F1.out.2.1 0 rfl; have c11 := cellAt F1.out.2.1 1 rfl; have c12 := cellAt F1.out.2.1 2 rfl; have c13 := cellAt F1.out.2.1 3 rfl; have c14 := cellAt F1.out.2.1 4 rfl)
    | (refine wpList_load_mid rfl 30 (.tmp 2) rfl w.heap.size 0 rfl s.cells _ ?_ Tryd.underlying30 rfl LEN.out ?_; (with_reducible exact HR0.out _ _ _)))
  refine (HCK.out _).mono ?_
  rintro e w2 ⟨rfl, hb2⟩
  obtain ⟨Z, hz, hzs⟩ := (show ∃ Z, w1.heap[w.heap.size + 1 + 1]? = some (.cells Z 30 (0, 0)) ∧ Z.size = 40 from ⟨_, F1.out.2.2.1, rfl⟩)
  have hs1 := F1.out.2.2.2.2.1
  have x0 := (hb2.block w.heap.size (by omega)).trans (F1.out.1.trans HCS.out)
  have x1 := (hb2.block (w.heap.size + 1) (by omega)).trans F1.out.2.1
  have x2 := (hb2.block (w.heap.size + 1 + 1) (by omega)).trans hz
  have x3 := (hb2.block (w.heap.size + 1 + 1 + 1) (by omega)).trans F1.out.2.2.2.1
  have hs2 := Nat.le_trans hs1 hb2.size
  have y := F1.out.2.2.2.2.2.trans (hb2.mono (by omega))
  have X0 := Lib.hid x0
  have X1 := Lib.hid x1
  have X2 := Lib.hid x2
  have X3 := Lib.hid x3
  have S2 := Lib.hid hs2
  have Y := Lib.hid y
  have ZS := Lib.hid hzs
  clear hb2 F1 hz hs1 x0 x1 x2 x3 hs2 y hzs c10 c11 c12 c13 c14
  have c10 := cellAt X1.out 0 rfl
  have c11 := cellAt X1.out 1 rfl
  have hrg := range_of X0.out
  have SOK := OK
  have th : w2.there (w.heap.size + 1 + 1) 0 s.cells.toArray.size := by rw [stoSize OK.out]; exact there_of X2.out ZS.out
  have szz : (Tryd.prog.info? 30).map (fun x => x.size) = some s.cells.toArray.size := by rw [stoSize OK.out]; exact stoSz
  have TH := Lib.hid th
  have SZZ := Lib.hid szz
  clear th szz
  go_wp2_with (first
    | (refine wpList_load_mid rfl 30 (.tmp 2) rfl w.heap.size 0 rfl s.cells _ hrg Tryd.underlying30 rfl LEN.out ?_)
    | (refine wpList_store_mid rfl 30 (.tmp 4) (.tmp 33) rfl (w.heap.size + 1 + 1) 0 s.cells.toArray rfl rfl ?_ SZZ.out (stoOne _) ?_; (with_reducible exact TH.out); generalize hW : World.setCells _ _ _ _ = wz; have u2 : wz.heap[w.heap.size + 1 + 1]? = some (.cells s.cells.toArray 30 (0, 0)) := (by rw [← hW]; exact storedRow (vs := s.cells) X2.out (by rw [ZS.out, stoLen SOK.out])); have u3 : wz.heap[w.heap.size + 1 + 1 + 1]? = some (.cells #[.int .i64 0, .int .i64 0] 26 (0, 0)) := (by rw [← hW, heap_setCells_ne (by omega)]; exact X3.out); have uy : Below w.heap.size w wz := (by rw [← hW]; exact below_setCells (by omega) _ _ _ Y.out); have U2 := Lib.hid u2; have U3 := Lib.hid u3; have UY := Lib.hid uy; have d0 := cellAt u3 0 rfl; have d1 := cellAt u3 1 rfl; have df := freeAt u3; clear hW u2 u3 uy))
  rw [CSE.out]
  refine bodyPost_ret (v := .tuple #[.agg s.cells.toArray, .agg #[.int .i64 0, .int .i64 0], .int .i64 0]) (do_end (b := w.heap.size) (s := s) SOK.out (a := (0, 0)) (n := 0) rfl rfl rfl ?_ ?_) rfl ⟨rfl, ?_⟩
  · rw [heapSet_ne _ _ (by omega), heapSet_ne _ _ (by omega)]; exact U2.out
  · exact heapSet (heapSet U3.out _) _
  · exact (UY.out.setCell (by show w.heap.size ≤ w.heap.size + 1 + 1 + 1; omega) _).setCell (by show w.heap.size ≤ w.heap.size + 1 + 1 + 1; omega) _

set_option maxRecDepth 100000 in
set_option maxHeartbeats 400000 in
theorem Do_same (s : Sto) (h : s.Ok) (k sq nm vl : Int) (cl : Nat) (hre : Cmd.Real ⟨k, cl, sq, nm, vl⟩) (hc : checkC ⟨k, cl, sq, nm, vl⟩ = 0) (hy : sq + 1 = s.last cl) (w : World) :
    Calls Tryd.prog 10 #[.agg s.cells.toArray, .agg #[.int .i64 k, .int .i64 cl, .int .i64 sq, .int .i64 nm, .int .i64 vl]] w fun e w' => e = .returned (.tuple #[.agg s.cells.toArray, .agg #[.int .i64 (s.code cl), .int .i64 (s.aval cl)], .int .i64 0]) ∧ Below w.heap.size w w' := by
  obtain ⟨cs, hcs⟩ : ∃ cs, cs = s.cells.toArray := ⟨_, rfl⟩
  have hr0 : ∀ A B C, ((((w.alloc (.cells cs 30)).alloc A).alloc B).alloc C).rangeAt w.heap.size 0 s.cells := fun A B C => range_of (t := 30) (f := (0, 0)) (by rw [hcs]; exact heap3 w _ A B C)
  have len : (Tryd.prog.info? 30).map (fun x => x.size) = some s.cells.length := by rw [stoLen h]; exact stoSz
  have hcs2 : some (Obj.cells cs 30 (0, 0)) = some (.cells s.cells.toArray 30 (0, 0)) := by rw [hcs]
  have hck : ∀ W, Calls Tryd.prog 15 #[.agg #[.int .i64 k, .int .i64 (cl : Int), .int .i64 sq, .int .i64 nm, .int .i64 vl]] W fun e w' => e = .returned (.int .i64 0) ∧ Below W.heap.size W w' := fun W => by
    have hh := Check_any ⟨k, (cl : Int), sq, nm, vl⟩ W
    rw [hc] at hh
    exact hh
  have HCK := Lib.hid hck
  have HR0 := Lib.hid hr0
  have LEN := Lib.hid len
  have OK := Lib.hid h
  have HCS := Lib.hid hcs2
  have CSE := Lib.hid hcs
  rw [← hcs]
  clear hr0 len h hcs hcs2 hck
  have k1 := hre.k1
  have cl7 := hre.c7
  have s0 := hre.s0
  have s1 := hre.s1
  dsimp only at k1 cl7 s0 s1
  have hcl : cl < 8 := by omega
  have ek : (k == 0) = false := by rw [beq_eq_false_iff_ne]; omega
  have HRE := Lib.hid hre
  clear hc hre
  go_enter Tryd.func10, Tryd.ntmps10
  go_wp2_with (first
    | (go_at_call 11; refine (stoCheck_ok s OK.out _).mono ?_; rintro e w1 ⟨rfl, hb1⟩; have F1 := Lib.hid (frame4 hb1); clear hb1; have c10 := cellAt F1.out.2.1 0 rfl; have c11 := cellAt F1.out.2.1 1 rfl; have c12 := cellAt F1.out.2.1 2 rfl; have c13 := cellAt F1.out.2.1 3 rfl; have c14 := cellAt F1.out.2.1 4 rfl)
    | (refine wpList_load_mid rfl 30 (.tmp 2) rfl w.heap.size 0 rfl s.cells _ ?_ Tryd.underlying30 rfl LEN.out ?_; (with_reducible exact HR0.out _ _ _)))
  refine (HCK.out _).mono ?_
  rintro e w2 ⟨rfl, hb2⟩
  obtain ⟨Z, hz, hzs⟩ := (show ∃ Z, w1.heap[w.heap.size + 1 + 1]? = some (.cells Z 30 (0, 0)) ∧ Z.size = 40 from ⟨_, F1.out.2.2.1, rfl⟩)
  have hs1 := F1.out.2.2.2.2.1
  have x0 := (hb2.block w.heap.size (by omega)).trans (F1.out.1.trans HCS.out)
  have x1 := (hb2.block (w.heap.size + 1) (by omega)).trans F1.out.2.1
  have x2 := (hb2.block (w.heap.size + 1 + 1) (by omega)).trans hz
  have x3 := (hb2.block (w.heap.size + 1 + 1 + 1) (by omega)).trans F1.out.2.2.2.1
  have hs2 := Nat.le_trans hs1 hb2.size
  have y := F1.out.2.2.2.2.2.trans (hb2.mono (by omega))
  have X0 := Lib.hid x0
  have X1 := Lib.hid x1
  have X2 := Lib.hid x2
  have X3 := Lib.hid x3
  have S2 := Lib.hid hs2
  have Y := Lib.hid y
  have ZS := Lib.hid hzs
  clear hb2 F1 hz hs1 x0 x1 x2 x3 hs2 y hzs c10 c11 c12 c13 c14
  have c10 := cellAt X1.out 0 rfl
  have c11 := cellAt X1.out 1 rfl
  have c12 := cellAt X1.out 2 rfl
  have hlast : w2.cell? ⟨w.heap.size, 8 + cl, none⟩ = some (.int .i64 (s.last cl)) := stoGetN (o := 8 + cl) X0.out OK.out.ln (by omega)
  obtain ⟨l, hl⟩ : ∃ l, l = s.last cl := ⟨_, rfl⟩
  rw [← hl] at hlast hy
  have HLL := Lib.hid hl
  clear hl
  have hrg := range_of X0.out
  have hlen := LEN.out
  have SOK := OK
  have th : ∀ n, (w2.drewN n).there (w.heap.size + 1 + 1) 0 s.cells.toArray.size := by rw [stoSize OK.out]; exact fun _ => there_of X2.out ZS.out
  have szz : (Tryd.prog.info? 30).map (fun x => x.size) = some s.cells.toArray.size := by rw [stoSize OK.out]; exact stoSz
  have hrg2 : ∀ n, (w2.drewN n).rangeAt w.heap.size 0 s.cells := fun _ => hrg
  have TH := Lib.hid th
  have SZZ := Lib.hid szz
  have RG := Lib.hid hrg2
  have RG2 := Lib.hid (show ∀ n m, ((w2.drewN n).drewN m).rangeAt w.heap.size 0 s.cells from fun _ _ => hrg)
  have TH2 := Lib.hid (show ∀ n m, ((w2.drewN n).drewN m).there (w.heap.size + 1 + 1) 0 s.cells.toArray.size from fun n _ => th n)
  clear th szz hrg hrg2 hlen
  have e10 : (sq + 1 == l) = true := by rw [beq_iff_eq]; exact hy
  go_wp2_with fail
  refine wp_region_quiet_lit (by kernel_rfl) (by kernel_rfl) ?_
  repeat (go_big_quiet_step (fail))
  refine wpQuiet_nil ?_
  intro w9 hw9
  obtain ⟨nqa, rfl⟩ := hw9
  go_wp2_with fail
  refine wp_region_held_drew (S := fun W => W.heap[w.heap.size]? = w2.heap[w.heap.size]? ∧ W.heap[w.heap.size + 1]? = w2.heap[w.heap.size + 1]?) (by kernel_rfl) ⟨rfl, rfl⟩ (fun hS => ?_)
  refine wpAnyH_take (i := 0) (oi := { dst := some 43, op := _, type := _, pos := _, after := _, guard := none }) (v := _) rfl (by kernel_rfl) (by kernel_rfl) (by kernel_rfl) (fun _ _ _ h => h) (yieldsIf_load_mid (by rfl) 30 (.tmp 2) rfl w.heap.size 0 rfl s.cells _ (fun _ h => range_of (h.1.trans X0.out)) Tryd.underlying30 rfl LEN.out) hS ?_
  try simp only [Act.put, List.setIfInBounds_toArray, List.set_cons_zero, List.set_cons_succ]
  refine wpAnyH_take (i := 1) (oi := { dst := some 44, op := _, type := _, pos := _, after := _, guard := none }) (v := .pointer (some ⟨w.heap.size + 1, 1, none⟩)) rfl (by kernel_rfl) (by kernel_rfl) (by kernel_rfl) (fun _ _ _ h => h) (Or.inl ⟨by rfl, fun W hw => ?_⟩) hS ?_
  · go_simp
  try simp only [Act.put, List.setIfInBounds_toArray, List.set_cons_zero, List.set_cons_succ]
  refine wpAnyH_take (i := 2) (oi := { dst := some 45, op := _, type := _, pos := _, after := _, guard := none }) (v := .int .i64 cl) rfl (by kernel_rfl) (by kernel_rfl) (by kernel_rfl) (fun _ _ _ h => h) (Or.inl ⟨by rfl, fun W hw => ?_⟩) hS ?_
  · have q1 := cellAt (hw.2.trans X1.out) 1 rfl; go_simp
  try simp only [Act.put, List.setIfInBounds_toArray, List.set_cons_zero, List.set_cons_succ]
  refine wpAnyH_take (i := 3) (oi := { dst := some 46, op := _, type := _, pos := _, after := _, guard := none }) (v := .pointer (some ⟨w.heap.size, 16, none⟩)) rfl (by kernel_rfl) (by kernel_rfl) (by kernel_rfl) (fun _ _ _ h => h) (Or.inl ⟨by rfl, fun W hw => ?_⟩) hS ?_
  · go_simp
  try simp only [Act.put, List.setIfInBounds_toArray, List.set_cons_zero, List.set_cons_succ]
  refine wpAnyH_take (i := 4) (oi := { dst := some 47, op := _, type := _, pos := _, after := _, guard := none }) (v := .pointer (some ⟨w.heap.size, 16 + cl * 2, none⟩)) rfl (by kernel_rfl) (by kernel_rfl) (by kernel_rfl) (fun _ _ _ h => h) (Or.inl ⟨by rfl, fun W hw => ?_⟩) hS ?_
  · go_simp; intro h8; exfalso; omega
  try simp only [Act.put, List.setIfInBounds_toArray, List.set_cons_zero, List.set_cons_succ]
  refine wpAnyH_take (i := 5) (oi := { dst := some 48, op := _, type := _, pos := _, after := _, guard := none }) (v := .agg #[.int .i64 (s.code cl), .int .i64 (s.aval cl)]) rfl (by kernel_rfl) (by kernel_rfl) (by kernel_rfl) (fun _ _ _ h => h) (Or.inl ⟨by rfl, fun W hw => ?_⟩) hS ?_
  · have q1 : W.cell? ⟨w.heap.size, 16 + cl * 2, none⟩ = some (.int .i64 (s.code cl)) := (by rw [show 16 + cl * 2 = 16 + 2 * cl by omega]; exact stoGetN (hw.1.trans X0.out) OK.out.ln (by omega)); have q2 : W.cell? ⟨w.heap.size, 16 + cl * 2 + 1, none⟩ = some (.int .i64 (s.aval cl)) := (by rw [show 16 + cl * 2 + 1 = 17 + 2 * cl by omega]; exact stoGetN (hw.1.trans X0.out) OK.out.ln (by omega)); go_simp
  try simp only [Act.put, List.setIfInBounds_toArray, List.set_cons_zero, List.set_cons_succ]
  refine wpAnyH_ready (rs := [6]) (by kernel_rfl) (by simp) ?_
  refine AllReadyH.cons (o := { dst := none, op := .store 30 (.tmp 4) (.tmp 43), type := _, pos := _, after := _, guard := none }) rfl (fun K hK => ?_) AllReadyH.nil
  rw [if_pos (by rfl)]
  refine wp_store_mid 30 (.tmp 4) (.tmp 43) rfl (w.heap.size + 1 + 1) 0 s.cells.toArray rfl rfl ?_ SZZ.out (stoOne _) ?_
  · rw [stoSize OK.out]; exact there_of X2.out ZS.out
  generalize hW : World.setCells _ _ _ _ = wz
  have u2 : wz.heap[w.heap.size + 1 + 1]? = some (.cells s.cells.toArray 30 (0, 0)) := by rw [← hW]; exact storedRow (vs := s.cells) X2.out (by rw [ZS.out, stoLen OK.out])
  have u3 : wz.heap[w.heap.size + 1 + 1 + 1]? = some (.cells #[.int .i64 0, .int .i64 0] 26 (0, 0)) := by rw [← hW, heap_setCells_ne (by omega)]; exact X3.out
  have uy : Below w.heap.size w wz := by rw [← hW]; refine below_setCells (by omega) _ _ _ ?_; first | exact Below.drew Y.out | exact (below_drewN Y.out _).drew
  have U2 := Lib.hid u2
  have U3 := Lib.hid u3
  have UY := Lib.hid uy
  have d0 := cellAt u3 0 rfl
  have d1 := cellAt u3 1 rfl
  have df := freeAt u3
  clear u2 u3 uy
  refine hK.out _ _ ⟨?_, ?_⟩ (fun hS2 => ?_)
  · rw [← hW, heap_setCells_ne (by omega)]; exact hS.1
  · rw [← hW, heap_setCells_ne (by omega)]; exact hS.2
  clear hK K hW hS
  try simp only [Act.put, List.setIfInBounds_toArray, List.set_cons_zero, List.set_cons_succ]
  refine wpAnyH_ready (rs := [7]) (by kernel_rfl) (by simp) ?_
  refine AllReadyH.cons (o := { dst := none, op := .store 26 (.tmp 5) (.tmp 48), type := _, pos := _, after := _, guard := none }) rfl (fun K hK => ?_) AllReadyH.nil
  go_simp
  refine hK.out _ _ ⟨?_, ?_⟩ (fun hS => ?_)
  · rw [heapSet_ne _ _ (by omega), heapSet_ne _ _ (by omega)]; exact hS2.1
  · rw [heapSet_ne _ _ (by omega), heapSet_ne _ _ (by omega)]; exact hS2.2
  clear hK K
  try simp only [Act.put, List.setIfInBounds_toArray, List.set_cons_zero, List.set_cons_succ]
  refine wpAnyH_take (i := 8) (oi := { dst := some 6, op := _, type := _, pos := _, after := _, guard := none }) (v := .int .i64 0) rfl (by kernel_rfl) (by kernel_rfl) (by kernel_rfl) (fun _ _ _ h => h) (Or.inl ⟨by rfl, fun W hw => ?_⟩) hS ?_
  · go_simp
  try simp only [Act.put, List.setIfInBounds_toArray, List.set_cons_zero, List.set_cons_succ]
  refine wpAnyH_done (by kernel_rfl) ?_ _
  go_wp2_with fail
  rw [CSE.out]
  refine bodyPost_ret (v := .tuple #[.agg s.cells.toArray, .agg #[.int .i64 (s.code cl), .int .i64 (s.aval cl)], .int .i64 0]) (do_end (b := w.heap.size) (s := s) SOK.out (a := ((s.code cl), (s.aval cl))) (n := 0) rfl rfl rfl ?_ ?_) rfl ⟨rfl, ?_⟩
  · rw [heapSet_ne _ _ (by omega), heapSet_ne _ _ (by omega)]; exact U2.out
  · exact heapSet (heapSet U3.out _) _
  · exact (UY.out.setCell (by show w.heap.size ≤ w.heap.size + 1 + 1 + 1; omega) _).setCell (by show w.heap.size ≤ w.heap.size + 1 + 1 + 1; omega) _

set_option maxRecDepth 100000 in
set_option maxHeartbeats 400000 in
theorem Do_old (s : Sto) (h : s.Ok) (k sq nm vl : Int) (cl : Nat) (hre : Cmd.Real ⟨k, cl, sq, nm, vl⟩) (hc : checkC ⟨k, cl, sq, nm, vl⟩ = 0) (hy : sq + 1 < s.last cl) (w : World) :
    Calls Tryd.prog 10 #[.agg s.cells.toArray, .agg #[.int .i64 k, .int .i64 cl, .int .i64 sq, .int .i64 nm, .int .i64 vl]] w fun e w' => e = .returned (.tuple #[.agg s.cells.toArray, .agg #[.int .i64 7, .int .i64 0], .int .i64 0]) ∧ Below w.heap.size w w' := by
  obtain ⟨cs, hcs⟩ : ∃ cs, cs = s.cells.toArray := ⟨_, rfl⟩
  have hr0 : ∀ A B C, ((((w.alloc (.cells cs 30)).alloc A).alloc B).alloc C).rangeAt w.heap.size 0 s.cells := fun A B C => range_of (t := 30) (f := (0, 0)) (by rw [hcs]; exact heap3 w _ A B C)
  have len : (Tryd.prog.info? 30).map (fun x => x.size) = some s.cells.length := by rw [stoLen h]; exact stoSz
  have hcs2 : some (Obj.cells cs 30 (0, 0)) = some (.cells s.cells.toArray 30 (0, 0)) := by rw [hcs]
  have hck : ∀ W, Calls Tryd.prog 15 #[.agg #[.int .i64 k, .int .i64 (cl : Int), .int .i64 sq, .int .i64 nm, .int .i64 vl]] W fun e w' => e = .returned (.int .i64 0) ∧ Below W.heap.size W w' := fun W => by
    have hh := Check_any ⟨k, (cl : Int), sq, nm, vl⟩ W
    rw [hc] at hh
    exact hh
  have HCK := Lib.hid hck
  have HR0 := Lib.hid hr0
  have LEN := Lib.hid len
  have OK := Lib.hid h
  have HCS := Lib.hid hcs2
  have CSE := Lib.hid hcs
  rw [← hcs]
  clear hr0 len h hcs hcs2 hck
  have k1 := hre.k1
  have cl7 := hre.c7
  have s0 := hre.s0
  have s1 := hre.s1
  dsimp only at k1 cl7 s0 s1
  have hcl : cl < 8 := by omega
  have ek : (k == 0) = false := by rw [beq_eq_false_iff_ne]; omega
  have HRE := Lib.hid hre
  clear hc hre
  go_enter Tryd.func10, Tryd.ntmps10
  go_wp2_with (first
    | (go_at_call 11; refine (stoCheck_ok s OK.out _).mono ?_; rintro e w1 ⟨rfl, hb1⟩; have F1 := Lib.hid (frame4 hb1); clear hb1; have c10 := cellAt F1.out.2.1 0 rfl; have c11 := cellAt F1.out.2.1 1 rfl; have c12 := cellAt F1.out.2.1 2 rfl; have c13 := cellAt F1.out.2.1 3 rfl; have c14 := cellAt F1.out.2.1 4 rfl)
    | (refine wpList_load_mid rfl 30 (.tmp 2) rfl w.heap.size 0 rfl s.cells _ ?_ Tryd.underlying30 rfl LEN.out ?_; (with_reducible exact HR0.out _ _ _)))
  refine (HCK.out _).mono ?_
  rintro e w2 ⟨rfl, hb2⟩
  obtain ⟨Z, hz, hzs⟩ := (show ∃ Z, w1.heap[w.heap.size + 1 + 1]? = some (.cells Z 30 (0, 0)) ∧ Z.size = 40 from ⟨_, F1.out.2.2.1, rfl⟩)
  have hs1 := F1.out.2.2.2.2.1
  have x0 := (hb2.block w.heap.size (by omega)).trans (F1.out.1.trans HCS.out)
  have x1 := (hb2.block (w.heap.size + 1) (by omega)).trans F1.out.2.1
  have x2 := (hb2.block (w.heap.size + 1 + 1) (by omega)).trans hz
  have x3 := (hb2.block (w.heap.size + 1 + 1 + 1) (by omega)).trans F1.out.2.2.2.1
  have hs2 := Nat.le_trans hs1 hb2.size
  have y := F1.out.2.2.2.2.2.trans (hb2.mono (by omega))
  have X0 := Lib.hid x0
  have X1 := Lib.hid x1
  have X2 := Lib.hid x2
  have X3 := Lib.hid x3
  have S2 := Lib.hid hs2
  have Y := Lib.hid y
  have ZS := Lib.hid hzs
  clear hb2 F1 hz hs1 x0 x1 x2 x3 hs2 y hzs c10 c11 c12 c13 c14
  have c10 := cellAt X1.out 0 rfl
  have c11 := cellAt X1.out 1 rfl
  have c12 := cellAt X1.out 2 rfl
  have hlast : w2.cell? ⟨w.heap.size, 8 + cl, none⟩ = some (.int .i64 (s.last cl)) := stoGetN (o := 8 + cl) X0.out OK.out.ln (by omega)
  obtain ⟨l, hl⟩ : ∃ l, l = s.last cl := ⟨_, rfl⟩
  rw [← hl] at hlast hy
  have HLL := Lib.hid hl
  clear hl
  have hrg := range_of X0.out
  have hlen := LEN.out
  have SOK := OK
  have th : ∀ n, (w2.drewN n).there (w.heap.size + 1 + 1) 0 s.cells.toArray.size := by rw [stoSize OK.out]; exact fun _ => there_of X2.out ZS.out
  have szz : (Tryd.prog.info? 30).map (fun x => x.size) = some s.cells.toArray.size := by rw [stoSize OK.out]; exact stoSz
  have hrg2 : ∀ n, (w2.drewN n).rangeAt w.heap.size 0 s.cells := fun _ => hrg
  have TH := Lib.hid th
  have SZZ := Lib.hid szz
  have RG := Lib.hid hrg2
  have RG2 := Lib.hid (show ∀ n m, ((w2.drewN n).drewN m).rangeAt w.heap.size 0 s.cells from fun _ _ => hrg)
  have TH2 := Lib.hid (show ∀ n m, ((w2.drewN n).drewN m).there (w.heap.size + 1 + 1) 0 s.cells.toArray.size from fun n _ => th n)
  clear th szz hrg hrg2 hlen
  have e10 : (sq + 1 == l) = false := by rw [beq_eq_false_iff_ne]; omega
  have e12 : decide (sq < l) = true := by rw [decide_eq_true_eq]; omega
  go_wp2_with fail
  refine wp_region_quiet_lit (by kernel_rfl) (by kernel_rfl) ?_
  repeat (go_big_quiet_step (fail))
  refine wpQuiet_nil ?_
  intro w9 hw9
  obtain ⟨nqa, rfl⟩ := hw9
  go_wp2_with fail
  refine wp_region_quiet_lit (by kernel_rfl) (by kernel_rfl) ?_
  repeat (go_big_quiet_step (fail))
  refine wpQuiet_nil ?_
  intro w9 hw9
  obtain ⟨nqb, rfl⟩ := hw9
  go_wp2_with (first
    | (refine wpList_load_mid rfl 30 (.tmp 2) rfl w.heap.size 0 rfl s.cells _ ?_ Tryd.underlying30 rfl LEN.out ?_; (first | with_reducible exact RG.out _ | with_reducible exact RG2.out _ _))
    | (refine wpList_store_mid rfl 30 (.tmp 4) (.tmp 56) rfl (w.heap.size + 1 + 1) 0 s.cells.toArray rfl rfl ?_ SZZ.out (stoOne _) ?_; (first | with_reducible exact TH.out _ | with_reducible exact TH2.out _ _); generalize hW : World.setCells _ _ _ _ = wz; have u2 : wz.heap[w.heap.size + 1 + 1]? = some (.cells s.cells.toArray 30 (0, 0)) := (by rw [← hW]; exact storedRow (vs := s.cells) X2.out (by rw [ZS.out, stoLen SOK.out])); have u3 : wz.heap[w.heap.size + 1 + 1 + 1]? = some (.cells #[.int .i64 0, .int .i64 0] 26 (0, 0)) := (by rw [← hW, heap_setCells_ne (by omega)]; exact X3.out); have uy : Below w.heap.size w wz := (by rw [← hW]; exact below_setCells (by omega) _ _ _ (by first | exact (below_drewN Y.out _) | exact below_drewN (below_drewN Y.out _) _)); have U2 := Lib.hid u2; have U3 := Lib.hid u3; have UY := Lib.hid uy; have d0 := cellAt u3 0 rfl; have d1 := cellAt u3 1 rfl; have df := freeAt u3; clear hW u2 u3 uy))
  rw [CSE.out]
  refine bodyPost_ret (v := .tuple #[.agg s.cells.toArray, .agg #[.int .i64 7, .int .i64 0], .int .i64 0]) (do_end (b := w.heap.size) (s := s) SOK.out (a := (7, 0)) (n := 0) rfl rfl rfl ?_ ?_) rfl ⟨rfl, ?_⟩
  · rw [heapSet_ne _ _ (by omega), heapSet_ne _ _ (by omega)]; exact U2.out
  · exact heapSet (heapSet U3.out _) _
  · exact (UY.out.setCell (by show w.heap.size ≤ w.heap.size + 1 + 1 + 1; omega) _).setCell (by show w.heap.size ≤ w.heap.size + 1 + 1 + 1; omega) _

set_option maxRecDepth 100000 in
set_option maxHeartbeats 400000 in
theorem Do_rev (s : Sto) (h : s.Ok) (k sq nm vl : Int) (cl : Nat) (hre : Cmd.Real ⟨k, cl, sq, nm, vl⟩) (hc : checkC ⟨k, cl, sq, nm, vl⟩ = 0) (hr : s.rev cl = true) (hy : s.last cl ≤ sq) (w : World) :
    Calls Tryd.prog 10 #[.agg s.cells.toArray, .agg #[.int .i64 k, .int .i64 cl, .int .i64 sq, .int .i64 nm, .int .i64 vl]] w fun e w' => e = .returned (.tuple #[.agg s.cells.toArray, .agg #[.int .i64 11, .int .i64 0], .int .i64 0]) ∧ Below w.heap.size w w' := by
  obtain ⟨cs, hcs⟩ : ∃ cs, cs = s.cells.toArray := ⟨_, rfl⟩
  have hr0 : ∀ A B C, ((((w.alloc (.cells cs 30)).alloc A).alloc B).alloc C).rangeAt w.heap.size 0 s.cells := fun A B C => range_of (t := 30) (f := (0, 0)) (by rw [hcs]; exact heap3 w _ A B C)
  have len : (Tryd.prog.info? 30).map (fun x => x.size) = some s.cells.length := by rw [stoLen h]; exact stoSz
  have hcs2 : some (Obj.cells cs 30 (0, 0)) = some (.cells s.cells.toArray 30 (0, 0)) := by rw [hcs]
  have hck : ∀ W, Calls Tryd.prog 15 #[.agg #[.int .i64 k, .int .i64 (cl : Int), .int .i64 sq, .int .i64 nm, .int .i64 vl]] W fun e w' => e = .returned (.int .i64 0) ∧ Below W.heap.size W w' := fun W => by
    have hh := Check_any ⟨k, (cl : Int), sq, nm, vl⟩ W
    rw [hc] at hh
    exact hh
  have HCK := Lib.hid hck
  have HR0 := Lib.hid hr0
  have LEN := Lib.hid len
  have OK := Lib.hid h
  have HCS := Lib.hid hcs2
  have CSE := Lib.hid hcs
  rw [← hcs]
  clear hr0 len h hcs hcs2 hck
  have k1 := hre.k1
  have cl7 := hre.c7
  have s0 := hre.s0
  have s1 := hre.s1
  dsimp only at k1 cl7 s0 s1
  have hcl : cl < 8 := by omega
  have ek : (k == 0) = false := by rw [beq_eq_false_iff_ne]; omega
  have HRE := Lib.hid hre
  clear hc hre
  go_enter Tryd.func10, Tryd.ntmps10
  go_wp2_with (first
    | (go_at_call 11; refine (stoCheck_ok s OK.out _).mono ?_; rintro e w1 ⟨rfl, hb1⟩; have F1 := Lib.hid (frame4 hb1); clear hb1; have c10 := cellAt F1.out.2.1 0 rfl; have c11 := cellAt F1.out.2.1 1 rfl; have c12 := cellAt F1.out.2.1 2 rfl; have c13 := cellAt F1.out.2.1 3 rfl; have c14 := cellAt F1.out.2.1 4 rfl)
    | (refine wpList_load_mid rfl 30 (.tmp 2) rfl w.heap.size 0 rfl s.cells _ ?_ Tryd.underlying30 rfl LEN.out ?_; (with_reducible exact HR0.out _ _ _)))
  refine (HCK.out _).mono ?_
  rintro e w2 ⟨rfl, hb2⟩
  obtain ⟨Z, hz, hzs⟩ := (show ∃ Z, w1.heap[w.heap.size + 1 + 1]? = some (.cells Z 30 (0, 0)) ∧ Z.size = 40 from ⟨_, F1.out.2.2.1, rfl⟩)
  have hs1 := F1.out.2.2.2.2.1
  have x0 := (hb2.block w.heap.size (by omega)).trans (F1.out.1.trans HCS.out)
  have x1 := (hb2.block (w.heap.size + 1) (by omega)).trans F1.out.2.1
  have x2 := (hb2.block (w.heap.size + 1 + 1) (by omega)).trans hz
  have x3 := (hb2.block (w.heap.size + 1 + 1 + 1) (by omega)).trans F1.out.2.2.2.1
  have hs2 := Nat.le_trans hs1 hb2.size
  have y := F1.out.2.2.2.2.2.trans (hb2.mono (by omega))
  have X0 := Lib.hid x0
  have X1 := Lib.hid x1
  have X2 := Lib.hid x2
  have X3 := Lib.hid x3
  have S2 := Lib.hid hs2
  have Y := Lib.hid y
  have ZS := Lib.hid hzs
  clear hb2 F1 hz hs1 x0 x1 x2 x3 hs2 y hzs c10 c11 c12 c13 c14
  have c10 := cellAt X1.out 0 rfl
  have c11 := cellAt X1.out 1 rfl
  have c12 := cellAt X1.out 2 rfl
  have hlast : w2.cell? ⟨w.heap.size, 8 + cl, none⟩ = some (.int .i64 (s.last cl)) := stoGetN (o := 8 + cl) X0.out OK.out.ln (by omega)
  obtain ⟨l, hl⟩ : ∃ l, l = s.last cl := ⟨_, rfl⟩
  rw [← hl] at hlast hy
  have HLL := Lib.hid hl
  clear hl
  have hrg := range_of X0.out
  have hlen := LEN.out
  have SOK := OK
  have th : ∀ n, (w2.drewN n).there (w.heap.size + 1 + 1) 0 s.cells.toArray.size := by rw [stoSize OK.out]; exact fun _ => there_of X2.out ZS.out
  have szz : (Tryd.prog.info? 30).map (fun x => x.size) = some s.cells.toArray.size := by rw [stoSize OK.out]; exact stoSz
  have hrg2 : ∀ n, (w2.drewN n).rangeAt w.heap.size 0 s.cells := fun _ => hrg
  have TH := Lib.hid th
  have SZZ := Lib.hid szz
  have RG := Lib.hid hrg2
  have RG2 := Lib.hid (show ∀ n m, ((w2.drewN n).drewN m).rangeAt w.heap.size 0 s.cells from fun _ _ => hrg)
  have TH2 := Lib.hid (show ∀ n m, ((w2.drewN n).drewN m).there (w.heap.size + 1 + 1) 0 s.cells.toArray.size from fun n _ => th n)
  clear th szz hrg hrg2 hlen
  have e10 : (sq + 1 == l) = false := by rw [beq_eq_false_iff_ne]; omega
  have e12 : decide (sq < l) = false := by rw [decide_eq_false_iff_not]; omega
  have hc1 : w2.cell? ⟨w.heap.size, 32 + cl, none⟩ = some (.bool true) := by rw [← hr]; exact stoGetR X0.out OK.out.ln OK.out.lr hcl
  go_wp2_with fail
  refine wp_region_quiet_lit (by kernel_rfl) (by kernel_rfl) ?_
  repeat (go_big_quiet_step (fail))
  refine wpQuiet_nil ?_
  intro w9 hw9
  obtain ⟨nqa, rfl⟩ := hw9
  go_wp2_with fail
  refine wp_region_quiet_lit (by kernel_rfl) (by kernel_rfl) ?_
  repeat (go_big_quiet_step (fail))
  refine wpQuiet_nil ?_
  intro w9 hw9
  obtain ⟨nqb, rfl⟩ := hw9
  go_wp2_with (first
    | (refine wpList_load_mid rfl 30 (.tmp 2) rfl w.heap.size 0 rfl s.cells _ ?_ Tryd.underlying30 rfl LEN.out ?_; (first | with_reducible exact RG.out _ | with_reducible exact RG2.out _ _))
    | (refine wpList_store_mid rfl 30 (.tmp 4) (.tmp 64) rfl (w.heap.size + 1 + 1) 0 s.cells.toArray rfl rfl ?_ SZZ.out (stoOne _) ?_; (first | with_reducible exact TH.out _ | with_reducible exact TH2.out _ _); generalize hW : World.setCells _ _ _ _ = wz; have u2 : wz.heap[w.heap.size + 1 + 1]? = some (.cells s.cells.toArray 30 (0, 0)) := (by rw [← hW]; exact storedRow (vs := s.cells) X2.out (by rw [ZS.out, stoLen SOK.out])); have u3 : wz.heap[w.heap.size + 1 + 1 + 1]? = some (.cells #[.int .i64 0, .int .i64 0] 26 (0, 0)) := (by rw [← hW, heap_setCells_ne (by omega)]; exact X3.out); have uy : Below w.heap.size w wz := (by rw [← hW]; exact below_setCells (by omega) _ _ _ (by first | exact (below_drewN Y.out _) | exact below_drewN (below_drewN Y.out _) _)); have U2 := Lib.hid u2; have U3 := Lib.hid u3; have UY := Lib.hid uy; have d0 := cellAt u3 0 rfl; have d1 := cellAt u3 1 rfl; have df := freeAt u3; clear hW u2 u3 uy))
  rw [CSE.out]
  refine bodyPost_ret (v := .tuple #[.agg s.cells.toArray, .agg #[.int .i64 11, .int .i64 0], .int .i64 0]) (do_end (b := w.heap.size) (s := s) SOK.out (a := (11, 0)) (n := 0) rfl rfl rfl ?_ ?_) rfl ⟨rfl, ?_⟩
  · rw [heapSet_ne _ _ (by omega), heapSet_ne _ _ (by omega)]; exact U2.out
  · exact heapSet (heapSet U3.out _) _
  · exact (UY.out.setCell (by show w.heap.size ≤ w.heap.size + 1 + 1 + 1; omega) _).setCell (by show w.heap.size ≤ w.heap.size + 1 + 1 + 1; omega) _

set_option maxRecDepth 100000 in
set_option maxHeartbeats 400000 in
theorem Do_fresh (s : Sto) (h : s.Ok) (k sq nm vl : Int) (cl : Nat) (hre : Cmd.Real ⟨k, cl, sq, nm, vl⟩) (hc : checkC ⟨k, cl, sq, nm, vl⟩ = 0) (hr : s.rev cl = false) (hy : s.last cl ≤ sq) (w : World) :
    Calls Tryd.prog 10 #[.agg s.cells.toArray, .agg #[.int .i64 k, .int .i64 cl, .int .i64 sq, .int .i64 nm, .int .i64 vl]] w fun e w' => e = .returned (.tuple #[.agg (s.done ⟨k, cl, sq, nm, vl⟩).cells.toArray, .agg #[.int .i64 0, .int .i64 (s.told ⟨k, cl, sq, nm, vl⟩)], .int .i64 0]) ∧ Below w.heap.size w w' := by
  obtain ⟨cs, hcs⟩ : ∃ cs, cs = s.cells.toArray := ⟨_, rfl⟩
  have hr0 : ∀ A B C, ((((w.alloc (.cells cs 30)).alloc A).alloc B).alloc C).rangeAt w.heap.size 0 s.cells := fun A B C => range_of (t := 30) (f := (0, 0)) (by rw [hcs]; exact heap3 w _ A B C)
  have len : (Tryd.prog.info? 30).map (fun x => x.size) = some s.cells.length := by rw [stoLen h]; exact stoSz
  have hcs2 : some (Obj.cells cs 30 (0, 0)) = some (.cells s.cells.toArray 30 (0, 0)) := by rw [hcs]
  have hck : ∀ W, Calls Tryd.prog 15 #[.agg #[.int .i64 k, .int .i64 (cl : Int), .int .i64 sq, .int .i64 nm, .int .i64 vl]] W fun e w' => e = .returned (.int .i64 0) ∧ Below W.heap.size W w' := fun W => by
    have hh := Check_any ⟨k, (cl : Int), sq, nm, vl⟩ W
    rw [hc] at hh
    exact hh
  have HCK := Lib.hid hck
  have HR0 := Lib.hid hr0
  have LEN := Lib.hid len
  have OK := Lib.hid h
  have HCS := Lib.hid hcs2
  have CSE := Lib.hid hcs
  rw [← hcs]
  clear hr0 len h hcs hcs2 hck
  have k1 := hre.k1
  have cl7 := hre.c7
  have s0 := hre.s0
  have s1 := hre.s1
  dsimp only at k1 cl7 s0 s1
  have hcl : cl < 8 := by omega
  have ek : (k == 0) = false := by rw [beq_eq_false_iff_ne]; omega
  have HRE := Lib.hid hre
  clear hc hre
  go_enter Tryd.func10, Tryd.ntmps10
  go_wp2_with (first
    | (go_at_call 11; refine (stoCheck_ok s OK.out _).mono ?_; rintro e w1 ⟨rfl, hb1⟩; have F1 := Lib.hid (frame4 hb1); clear hb1; have c10 := cellAt F1.out.2.1 0 rfl; have c11 := cellAt F1.out.2.1 1 rfl; have c12 := cellAt F1.out.2.1 2 rfl; have c13 := cellAt F1.out.2.1 3 rfl; have c14 := cellAt F1.out.2.1 4 rfl)
    | (refine wpList_load_mid rfl 30 (.tmp 2) rfl w.heap.size 0 rfl s.cells _ ?_ Tryd.underlying30 rfl LEN.out ?_; (with_reducible exact HR0.out _ _ _)))
  refine (HCK.out _).mono ?_
  rintro e w2 ⟨rfl, hb2⟩
  obtain ⟨Z, hz, hzs⟩ := (show ∃ Z, w1.heap[w.heap.size + 1 + 1]? = some (.cells Z 30 (0, 0)) ∧ Z.size = 40 from ⟨_, F1.out.2.2.1, rfl⟩)
  have hs1 := F1.out.2.2.2.2.1
  have x0 := (hb2.block w.heap.size (by omega)).trans (F1.out.1.trans HCS.out)
  have x1 := (hb2.block (w.heap.size + 1) (by omega)).trans F1.out.2.1
  have x2 := (hb2.block (w.heap.size + 1 + 1) (by omega)).trans hz
  have x3 := (hb2.block (w.heap.size + 1 + 1 + 1) (by omega)).trans F1.out.2.2.2.1
  have hs2 := Nat.le_trans hs1 hb2.size
  have y := F1.out.2.2.2.2.2.trans (hb2.mono (by omega))
  have X0 := Lib.hid x0
  have X1 := Lib.hid x1
  have X2 := Lib.hid x2
  have X3 := Lib.hid x3
  have S2 := Lib.hid hs2
  have Y := Lib.hid y
  have ZS := Lib.hid hzs
  clear hb2 F1 hz hs1 x0 x1 x2 x3 hs2 y hzs c10 c11 c12 c13 c14
  have c10 := cellAt X1.out 0 rfl
  have c11 := cellAt X1.out 1 rfl
  have c12 := cellAt X1.out 2 rfl
  have hlast : w2.cell? ⟨w.heap.size, 8 + cl, none⟩ = some (.int .i64 (s.last cl)) := stoGetN (o := 8 + cl) X0.out OK.out.ln (by omega)
  obtain ⟨l, hl⟩ : ∃ l, l = s.last cl := ⟨_, rfl⟩
  rw [← hl] at hlast hy
  have HLL := Lib.hid hl
  clear hl
  have hrg := range_of X0.out
  have hlen := LEN.out
  have SOK := OK
  have th : ∀ n, (w2.drewN n).there (w.heap.size + 1 + 1) 0 s.cells.toArray.size := by rw [stoSize OK.out]; exact fun _ => there_of X2.out ZS.out
  have szz : (Tryd.prog.info? 30).map (fun x => x.size) = some s.cells.toArray.size := by rw [stoSize OK.out]; exact stoSz
  have hrg2 : ∀ n, (w2.drewN n).rangeAt w.heap.size 0 s.cells := fun _ => hrg
  have TH := Lib.hid th
  have SZZ := Lib.hid szz
  have RG := Lib.hid hrg2
  have RG2 := Lib.hid (show ∀ n m, ((w2.drewN n).drewN m).rangeAt w.heap.size 0 s.cells from fun _ _ => hrg)
  have TH2 := Lib.hid (show ∀ n m, ((w2.drewN n).drewN m).there (w.heap.size + 1 + 1) 0 s.cells.toArray.size from fun n _ => th n)
  clear th szz hrg hrg2 hlen
  have e10 : (sq + 1 == l) = false := by rw [beq_eq_false_iff_ne]; omega
  have e12 : decide (sq < l) = false := by rw [decide_eq_false_iff_not]; omega
  have hc1 : w2.cell? ⟨w.heap.size, 32 + cl, none⟩ = some (.bool false) := by rw [← hr]; exact stoGetR X0.out OK.out.ln OK.out.lr hcl
  have c13 := cellAt X1.out 3 rfl
  have c14 := cellAt X1.out 4 rfl
  have hc3 : w2.frozen? ⟨w.heap.size, 8 + cl, none⟩ = false := freeAt X0.out _
  go_wp2_with fail
  refine wp_region_quiet_lit (by kernel_rfl) (by kernel_rfl) ?_
  repeat (go_big_quiet_step (fail))
  refine wpQuiet_nil ?_
  intro w9 hw9
  obtain ⟨nqa, rfl⟩ := hw9
  go_wp2_with fail
  refine wp_region_quiet_lit (by kernel_rfl) (by kernel_rfl) ?_
  repeat (go_big_quiet_step (fail))
  refine wpQuiet_nil ?_
  intro w9 hw9
  obtain ⟨nqb, rfl⟩ := hw9
  go_wp2_with fail
  generalize hW : World.setCell _ _ _ = wa
  have a0 : wa.heap[w.heap.size]? = some (.cells (s.setN (8 + cl) (sq + 1)).cells.toArray 30 (0, 0)) := by rw [← hW]; exact stoSetN X0.out OK.out.ln (by omega) (sq + 1)
  have a1 : wa.heap[w.heap.size + 1]? = some (.cells #[.int .i64 k, .int .i64 cl, .int .i64 sq, .int .i64 nm, .int .i64 vl] 42 (0, 0)) := by rw [← hW, heapSet_ne _ _ (by omega)]; exact X1.out
  have a2 : wa.heap[w.heap.size + 1 + 1]? = some (.cells Z 30 (0, 0)) := by rw [← hW, heapSet_ne _ _ (by omega)]; exact X2.out
  have a3 : wa.heap[w.heap.size + 1 + 1 + 1]? = some (.cells #[.int .i64 0, .int .i64 0] 26 (0, 0)) := by rw [← hW, heapSet_ne _ _ (by omega)]; exact X3.out
  have ay : Below w.heap.size w wa := by rw [← hW]; refine Below.setCell (p := ⟨w.heap.size, 8 + cl, none⟩) ?_ (Nat.le_refl _) _; first | exact below_drewN Y.out _ | exact below_drewN (below_drewN Y.out _) _
  have az := lt_of_heap a3
  have A0 := Lib.hid a0
  have A1 := Lib.hid a1
  have A2 := Lib.hid a2
  have A3 := Lib.hid a3
  have AY := Lib.hid ay
  have AZ := Lib.hid az
  have g0 := cellAt a1 0 rfl
  have g1 := cellAt a1 1 rfl
  have g2 := cellAt a1 2 rfl
  have g3 := cellAt a1 3 rfl
  have g4 := cellAt a1 4 rfl
  clear hW a0 a1 a2 a3 ay c10 c11 c12 c13 c14 hlast hc1 hc3 g0 g1 g2 g3 g4
  have hln : (s.setN (8 + cl) (sq + 1)).n.length = 32 := by unfold Sto.setN; simp [OK.out.ln]
  have hlr : (s.setN (8 + cl) (sq + 1)).r.length = 8 := OK.out.lr
  refine (act_any w.heap.size (s.setN (8 + cl) (sq + 1)) hln hlr ⟨k, cl, sq, nm, vl⟩ HRE.out wa A0.out).mono ?_
  rintro e w3 ⟨rfl, hx3, hk3⟩
  have told_eq : (s.setN (8 + cl) (sq + 1)).told ⟨k, cl, sq, nm, vl⟩ = s.told ⟨k, cl, sq, nm, vl⟩ := by
    have h1 := HRE.out.n0
    have h2 := HRE.out.n7
    dsimp only at h1 h2
    unfold Sto.told Sto.val Sto.setN
    dsimp only
    have e : (s.n.set (8 + cl) (sq + 1)).getD nm.toNat 0 = s.n.getD nm.toNat 0 := by rw [getD_set, if_neg (by omega)]
    rw [e]
  rw [told_eq]
  have p1 := (hk3.block (w.heap.size + 1) (by omega) (by omega)).trans A1.out
  have p2 := (hk3.block (w.heap.size + 1 + 1) (by omega) (by omega)).trans A2.out
  have p3 := (hk3.block (w.heap.size + 1 + 1 + 1) (by omega) (by omega)).trans A3.out
  have py : Below w.heap.size w w3 := AY.out.trans ((hk3.mono (B' := w.heap.size) (by omega) (fun k _ h => h)).below (fun k hk he => by omega))
  have pz := Nat.lt_of_lt_of_le AZ.out hk3.size
  have hln3 : ((s.setN (8 + cl) (sq + 1)).acted ⟨k, cl, sq, nm, vl⟩).n.length = 32 := by unfold Sto.acted; dsimp only; split <;> simp [hln]
  obtain ⟨s3, hs3⟩ : ∃ s3, s3 = (s.setN (8 + cl) (sq + 1)).acted ⟨k, cl, sq, nm, vl⟩ := ⟨_, rfl⟩
  rw [← hs3] at hx3 hln3
  have hx4 : ∀ o, (w3.alloc o).heap[w.heap.size]? = some (.cells s3.cells.toArray 30 (0, 0)) := fun o => (heapOld _ _ _ (by omega)).trans hx3
  have q0 : ∀ o, (w3.alloc o).cell? ⟨w.heap.size, 16 + cl * 2, none⟩ = _ := fun o => stoGetN (o := 16 + cl * 2) (hx4 o) hln3 (by omega)
  have q1 : ∀ o, (w3.alloc o).cell? ⟨w.heap.size, 16 + cl * 2 + 1, none⟩ = _ := fun o => stoGetN (o := 16 + cl * 2 + 1) (hx4 o) hln3 (by omega)
  have qf : ∀ o j, (w3.alloc o).frozen? ⟨w.heap.size, j, none⟩ = false := fun o => freeAt (hx4 o)
  have r1 : ∀ o, (w3.alloc o).cell? ⟨w.heap.size + 1, 1, none⟩ = some (.int .i64 cl) := fun o => cellAt ((heapOld _ _ _ (by omega)).trans p1) 1 rfl
  have P0 := Lib.hid hx3
  have P1 := Lib.hid p1
  have P2 := Lib.hid p2
  have P3 := Lib.hid p3
  have PY := Lib.hid py
  have PZ := Lib.hid pz
  have HS3 := Lib.hid hs3
  have HL3 := Lib.hid hln3
  obtain ⟨tv, htv⟩ : ∃ tv, tv = s.told ⟨k, cl, sq, nm, vl⟩ := ⟨_, rfl⟩
  rw [← htv]
  have HTV := Lib.hid htv
  clear hx3 hx4 hk3 p1 p2 p3 py told_eq hln hlr hs3 hln3 htv
  go_wp2_with fail
  generalize hW : World.setCell _ _ _ = wb
  have b0 : wb.heap[w.heap.size]? = some (.cells ((s3.setN (16 + cl * 2) 0).setN (16 + cl * 2 + 1) tv).cells.toArray 30 (0, 0)) := by
    rw [← hW]
    refine stoSetN (stoSetN ?_ HL3.out (by omega) 0) (by unfold Sto.setN; simp [HL3.out]) (by omega) tv
    rw [heapOld _ _ _ (by omega)]; exact P0.out
  have b1 : wb.heap[w3.heap.size]? = some (.cells #[.int .i64 0, .int .i64 tv] 26 (0, 0)) := by rw [← hW, heapSet_ne _ _ (by omega), heapSet_ne _ _ (by omega)]; exact heapNew _ _
  have b2 : wb.heap[w.heap.size + 1 + 1]? = some (.cells Z 30 (0, 0)) := by rw [← hW, heapSet_ne _ _ (by omega), heapSet_ne _ _ (by omega), heapOld _ _ _ (by omega)]; exact P2.out
  have b3 : wb.heap[w.heap.size + 1 + 1 + 1]? = some (.cells #[.int .i64 0, .int .i64 0] 26 (0, 0)) := by rw [← hW, heapSet_ne _ _ (by omega), heapSet_ne _ _ (by omega), heapOld _ _ _ (by omega)]; exact P3.out
  have bY : Below w.heap.size w wb := by rw [← hW]; exact Below.setCell (p := ⟨w.heap.size, 16 + cl * 2 + 1, none⟩) (Below.setCell (p := ⟨w.heap.size, 16 + cl * 2, none⟩) (PY.out.alloc (by omega) _) (Nat.le_refl _) _) (Nat.le_refl _) _
  have esto : (s3.setN (16 + cl * 2) 0).setN (16 + cl * 2 + 1) tv = s.done ⟨k, cl, sq, nm, vl⟩ := by
    rw [HS3.out, HTV.out]
    unfold Sto.setN Sto.acted Sto.done
    dsimp only
    rw [show 16 + cl * 2 = 16 + 2 * cl by omega, show 16 + 2 * cl + 1 = 17 + 2 * cl by omega]
    rfl
  rw [esto] at b0
  have okd : (s.done ⟨k, cl, sq, nm, vl⟩).Ok := s.done_ok OK.out _ HRE.out
  obtain ⟨sd, hsd⟩ : ∃ sd, sd = s.done ⟨k, cl, sq, nm, vl⟩ := ⟨_, rfl⟩
  rw [← hsd] at b0 okd
  have HSD := Lib.hid hsd
  have OKD := Lib.hid okd
  have B0 := Lib.hid b0
  have B1 := Lib.hid b1
  have B2 := Lib.hid b2
  have B3 := Lib.hid b3
  have BY := Lib.hid bY
  have PZ2 := PZ.out
  clear hW b0 b1 b2 b3 bY esto okd hsd q0 q1 qf r1 SZZ TH TH2 RG RG2
  have LEN2 := Lib.hid (show (Tryd.prog.info? 30).map (fun x => x.size) = some sd.cells.length by rw [stoLen OKD.out]; exact stoSz)
  have SZZ := Lib.hid (show (Tryd.prog.info? 30).map (fun x => x.size) = some sd.cells.toArray.size by rw [stoSize OKD.out]; exact stoSz)
  have SOK := OKD
  refine wp_region_held_drew (S := fun W => W.heap[w.heap.size]? = wb.heap[w.heap.size]? ∧ W.heap[w3.heap.size]? = wb.heap[w3.heap.size]?) (by kernel_rfl) ⟨rfl, rfl⟩ (fun hS => ?_)
  refine wpAnyH_take (i := 0) (oi := { dst := some 78, op := _, type := _, pos := _, after := _, guard := none }) (v := _) rfl (by kernel_rfl) (by kernel_rfl) (by kernel_rfl) (fun _ _ _ h => h) (yieldsIf_load_mid (by rfl) 30 (.tmp 2) rfl w.heap.size 0 rfl sd.cells _ (fun _ h => range_of (h.1.trans B0.out)) Tryd.underlying30 rfl LEN2.out) hS ?_
  try simp only [Act.put, List.setIfInBounds_toArray, List.set_cons_zero, List.set_cons_succ]
  refine wpAnyH_take (i := 1) (oi := { dst := some 79, op := _, type := _, pos := _, after := _, guard := none }) (v := _) rfl (by kernel_rfl) (by kernel_rfl) (by kernel_rfl) (fun _ _ _ h => h) (yieldsIf_load_mid (by rfl) 26 (.tmp 10) rfl w3.heap.size 0 rfl [.int .i64 0, .int .i64 tv] _ (fun _ h => range_of (h.2.trans B1.out)) Tryd.underlying26 rfl (by kernel_rfl)) hS ?_
  try simp only [Act.put, List.setIfInBounds_toArray, List.set_cons_zero, List.set_cons_succ]
  refine wpAnyH_ready (rs := [2]) (by kernel_rfl) (by simp) ?_
  refine AllReadyH.cons (o := { dst := none, op := .store 30 (.tmp 4) (.tmp 78), type := _, pos := _, after := _, guard := none }) rfl (fun K hK => ?_) AllReadyH.nil
  rw [if_pos (by rfl)]
  refine wp_store_mid 30 (.tmp 4) (.tmp 78) rfl (w.heap.size + 1 + 1) 0 sd.cells.toArray rfl rfl ?_ SZZ.out (stoOne _) ?_
  · rw [stoSize OKD.out]; exact there_of B2.out ZS.out
  generalize hW : World.setCells _ _ _ _ = wz
  have u2 : wz.heap[w.heap.size + 1 + 1]? = some (.cells sd.cells.toArray 30 (0, 0)) := by rw [← hW]; exact storedRow (vs := sd.cells) B2.out (by rw [ZS.out, stoLen OKD.out])
  have u3 : wz.heap[w.heap.size + 1 + 1 + 1]? = some (.cells #[.int .i64 0, .int .i64 0] 26 (0, 0)) := by rw [← hW, heap_setCells_ne (by omega)]; exact B3.out
  have uy : Below w.heap.size w wz := by rw [← hW]; refine below_setCells (by omega) _ _ _ ?_; first | exact Below.drew BY.out | exact (below_drewN BY.out _).drew
  have U2 := Lib.hid u2
  have U3 := Lib.hid u3
  have UY := Lib.hid uy
  have d0 := cellAt u3 0 rfl
  have d1 := cellAt u3 1 rfl
  have df := freeAt u3
  clear u2 u3 uy
  refine hK.out _ _ ⟨?_, ?_⟩ (fun hS2 => ?_)
  · rw [← hW, heap_setCells_ne (by omega)]; exact hS.1
  · rw [← hW, heap_setCells_ne (by omega)]; exact hS.2
  clear hK K hW hS
  try simp only [Act.put, List.setIfInBounds_toArray, List.set_cons_zero, List.set_cons_succ]
  refine wpAnyH_ready (rs := [3]) (by kernel_rfl) (by simp) ?_
  refine AllReadyH.cons (o := { dst := none, op := .store 26 (.tmp 5) (.tmp 79), type := _, pos := _, after := _, guard := none }) rfl (fun K hK => ?_) AllReadyH.nil
  go_simp
  refine hK.out _ _ ⟨?_, ?_⟩ (fun hS => ?_)
  · rw [heapSet_ne _ _ (by omega), heapSet_ne _ _ (by omega)]; exact hS2.1
  · rw [heapSet_ne _ _ (by omega), heapSet_ne _ _ (by omega)]; exact hS2.2
  clear hK K
  try simp only [Act.put, List.setIfInBounds_toArray, List.set_cons_zero, List.set_cons_succ]
  refine wpAnyH_take (i := 4) (oi := { dst := some 6, op := _, type := _, pos := _, after := _, guard := none }) (v := .int .i64 0) rfl (by kernel_rfl) (by kernel_rfl) (by kernel_rfl) (fun _ _ _ h => h) (Or.inl ⟨by rfl, fun W hw => ?_⟩) hS ?_
  · go_simp
  try simp only [Act.put, List.setIfInBounds_toArray, List.set_cons_zero, List.set_cons_succ]
  refine wpAnyH_done (by kernel_rfl) ?_ _
  go_wp2_with fail
  rw [CSE.out, ← HSD.out, ← HTV.out]
  refine bodyPost_ret (v := .tuple #[.agg sd.cells.toArray, .agg #[.int .i64 0, .int .i64 tv], .int .i64 0]) (do_end (b := w.heap.size) (s := sd) SOK.out (a := (0, tv)) (n := 0) rfl rfl rfl ?_ ?_) rfl ⟨rfl, ?_⟩
  · rw [heapSet_ne _ _ (by omega), heapSet_ne _ _ (by omega)]; exact U2.out
  · exact heapSet (heapSet U3.out _) _
  · exact (UY.out.setCell (by show w.heap.size ≤ w.heap.size + 1 + 1 + 1; omega) _).setCell (by show w.heap.size ≤ w.heap.size + 1 + 1 + 1; omega) _


/-- a command is done -/
theorem Do_any (s : Sto) (h : s.Ok) (c : Cmd) (hc : checkC c = 0) (w : World) :
    Calls Tryd.prog 10 #[.agg s.cells.toArray, cmdV c] w fun e w' => e = .returned (.tuple #[.agg (s.next c).cells.toArray, .agg #[.int .i64 (s.answer c).1, .int .i64 (s.answer c).2], .int .i64 0]) ∧ Below w.heap.size w w' := by
  rcases checkC_real hc with rfl | hr
  · rw [(Sto.next_noop s).1, (Sto.next_noop s).2]
    exact Do_noop s h w
  · obtain ⟨k, cl, sq, nm, vl⟩ := c
    have c0 := hr.c0
    have c7 := hr.c7
    dsimp only at c0 c7
    obtain ⟨n, rfl⟩ : ∃ n : Nat, cl = n := ⟨cl.toNat, by omega⟩
    have hn : ((n : Int)).toNat = n := rfl
    by_cases h1 : s.last n ≤ sq
    · by_cases h2 : s.rev n = true
      · have q := Sto.next_rev s ⟨k, n, sq, nm, vl⟩ hr h1 h2
        rw [q.1, q.2]
        exact Do_rev s h k sq nm vl n hr hc h2 h1 w
      · have h2' : s.rev n = false := by simpa using h2
        have q := Sto.next_fresh s ⟨k, n, sq, nm, vl⟩ hr h1 h2'
        rw [q.1, q.2]
        exact Do_fresh s h k sq nm vl n hr hc h2' h1 w
    · by_cases h2 : sq + 1 = s.last n
      · have q := Sto.next_same s ⟨k, n, sq, nm, vl⟩ hr h2
        rw [q.1, q.2]
        exact Do_same s h k sq nm vl n hr hc h2 w
      · have h3 : sq + 1 < s.last n := by omega
        have q := Sto.next_old s ⟨k, n, sq, nm, vl⟩ hr h3
        rw [q.1, q.2]
        exact Do_old s h k sq nm vl n hr hc h3 w
end Go.Proofs.YtocdnochnjlhlaaDoor
