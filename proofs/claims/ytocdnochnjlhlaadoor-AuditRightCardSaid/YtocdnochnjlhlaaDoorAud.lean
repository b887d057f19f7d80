/-
  The walk of vault.Audit.
-/
import Derived.Test.YtocdnochnjlhlaaDoorChC
import Derived.Test.YtocdnochnjlhlaaDoorDoB
import Derived.Test.YtocdnochnjlhlaaDoorShaSame
set_option linter.unusedVariables false
set_option linter.unusedSimpArgs false
namespace Go.Proofs.YtocdnochnjlhlaaDoor
open Go.RowKit Go.Con
def ent0 : Ent := ⟨Cmd.zero, (0, 0), .slice none 0 0⟩
/-- an entry that is not right -/
def Bad (s : Sto) (tp : List UInt8) (e : Ent) (b : List UInt8) : Prop :=
  checkC e.what ≠ 0 ∨ (checkC e.what = 0 ∧ s.answer e.what ≠ e.ans) ∨ (checkC e.what = 0 ∧ s.answer e.what = e.ans ∧ b ≠ linkB tp e.what e.ans)
theorem all_ok (s : Sto) (h : s.Ok) (l : List Cmd) (hc : ∀ c ∈ l, checkC c = 0) : (s.all l).Ok := by
  induction l generalizing s with
  | nil => exact h
  | cons c l ih => exact ih (s.next c) (s.next_ok h c (hc c (by simp))) (fun d hd => hc d (by simp [hd]))
/-- what a Do of any command is -/
theorem Do_all (s : Sto) (h : s.Ok) (c : Cmd) : ∃ T p0 p1 q, T.Ok ∧ (checkC c = 0 → q = 0 ∧ T = s.next c ∧ s.answer c = (p0, p1)) ∧ (checkC c ≠ 0 → q ≠ 0) ∧
    ∀ W, Calls Tryd.prog 10 #[.agg s.cells.toArray, .agg #[.int .i64 c.kind, .int .i64 c.client, .int .i64 c.seq, .int .i64 c.name, .int .i64 c.value]] W fun e w' => e = .returned (.tuple #[.agg T.cells.toArray, .agg #[.int .i64 p0, .int .i64 p1], .int .i64 q]) ∧ Below W.heap.size W w' := by
  by_cases hc : checkC c = 0
  · exact ⟨s.next c, (s.answer c).1, (s.answer c).2, 0, s.next_ok h c hc, fun _ => ⟨rfl, rfl, rfl⟩, fun h => absurd hc h, fun W => Do_any s h c hc W⟩
  · exact ⟨Sto.zero, 0, 0, checkC c, Sto.zero_ok, fun h => absurd h hc, fun h => h, fun W => Do_bad s h c _ rfl hc W⟩
/-- what Audit's loop keeps -/
structure AudInv (b : Nat) (w wr : World) (S : Sto) (tp : List UInt8) (hv : Value) : Prop where
  sto : wr.heap[b]? = some (.cells S.cells.toArray 30 (0, 0))
  cur : Rd wr hv tp
  curA : ∀ q, hv.ownBlock = some q → q ≠ b
  below : Below b w wr
  room : b < wr.heap.size
theorem stageX {wr wz wy : World} {C : Obj} {n k : Nat} {t ta : TypeId} {cs : Array Value} {a b u v : Value} (G : Below wr.heap.size wr wz ∧ wz.heap[k]? = some C ∧ wz.heap[n]? = some (.cells cs t (0, 0)) ∧ wz.heap[n + 1]? = some (.cells #[a, b] ta (0, 0)) ∧ wz.heap.size = n + 2 ∧ wr.heap.size ≤ k ∧ k + 1 ≤ n)
    (hW : (wz.setCell ⟨n + 1, 0, none⟩ u).setCell ⟨n + 1, 1, none⟩ v = wy) :
    Below wr.heap.size wr wy ∧ wy.heap[k]? = some C ∧ wy.heap[n]? = some (.cells cs t (0, 0)) ∧ wy.heap[n + 1]? = some (.cells #[u, v] ta (0, 0)) ∧ wy.heap.size = n + 2 := by
  obtain ⟨h1, h2, h3, h4, h5, h6, h7⟩ := G
  subst hW
  refine ⟨(h1.setCell (by show wr.heap.size ≤ n + 1; omega) _).setCell (by show wr.heap.size ≤ n + 1; omega) _, ?_, ?_, heapSet (heapSet h4 _) _, by simp [h5]⟩
  · rw [heapSet_ne _ _ (by omega), heapSet_ne _ _ (by omega)]; exact h2
  · rw [heapSet_ne _ _ (by omega), heapSet_ne _ _ (by omega)]; exact h3
set_option maxRecDepth 100000 in
set_option maxHeartbeats 2000000 in
theorem Audit_run (v : Value) (es : List Ent) (bs : Nat → List UInt8) (L : List Cmd) (m : Nat) (r : Int) (z32 : List UInt8) (w : World) (hz : z32 = List.replicate 32 0) (hv : RdE w v es) (hb : ∀ i e, es[i]? = some e → Rd w e.sum (bs i)) (hlen : es.length ≤ 200) (hLm : L.length = m) (hme : m ≤ es.length) (hck : ∀ c ∈ L, checkC c = 0)
    (hright : ∀ i, i < m → (es.getD i ent0).what = L.getD i Cmd.zero ∧ (es.getD i ent0).ans = (Sto.zero.answers L).getD i (0, 0) ∧ bs i = (Sto.zero.sums z32 L).getD i [])
    (hend : (m = es.length ∧ r = -1) ∨ (m < es.length ∧ r = m ∧ Bad (Sto.zero.all L) (Sto.zero.tip z32 L) (es.getD m ent0) (bs m))) (hK : Kn w) :
    Calls Tryd.prog 7 #[v] w fun e w' => e = .returned (.tuple #[.int .i64 r, .int .i64 0]) ∧ Below w.heap.size w w' := by
  obtain ⟨ea, ec, rfl, -⟩ := id hv
  obtain ⟨n, hn⟩ : ∃ n, n = es.length := ⟨_, rfl⟩
  rw [← hn] at hv hlen hme hend ⊢
  have HV := Lib.hid hv
  have HB := Lib.hid hb
  have HCK := Lib.hid hck
  have HR := Lib.hid hright
  have HE := Lib.hid hend
  have HK := Lib.hid hK
  have HN := Lib.hid hn
  have HLM := Lib.hid hLm
  have HZ := Lib.hid hz
  have HZL := Lib.hid (show z32.length = 32 by rw [hz]; rfl)
  have OKL := Lib.hid (show ∀ k, (Sto.zero.all (L.take k)).Ok from fun k => all_ok _ Sto.zero_ok _ (fun c hc => hck c (List.mem_of_mem_take hc)))
  have hd0 : decide ((200 : Int) < (n : Int)) = false := by rw [decide_eq_false_iff_not]; omega
  have hd0n : decide (200 < n) = false := by rw [decide_eq_false_iff_not]; omega
  have hmk : ∀ W : World, (Instr.makeSlice 43 (.int .i64 32) (.int .i64 32)).run Tryd.prog W = .ok (.slice (some ⟨W.heap.size, 0, none⟩) 32 32) (W.alloc (.cells (Array.replicate 32 (.int .u8 0)) 5)) := fun _ => by kernel_rfl
  have ez : (#[.int .i64 0, .int .i64 0, .int .i64 0, .int .i64 0, .int .i64 0, .int .i64 0, .int .i64 0, .int .i64 0, .int .i64 0, .int .i64 0, .int .i64 0, .int .i64 0, .int .i64 0, .int .i64 0, .int .i64 0, .int .i64 0, .int .i64 0, .int .i64 0, .int .i64 0, .int .i64 0, .int .i64 0, .int .i64 0, .int .i64 0, .int .i64 0, .int .i64 0, .int .i64 0, .int .i64 0, .int .i64 0, .int .i64 0, .int .i64 0, .int .i64 0, .int .i64 0, .bool false, .bool false, .bool false, .bool false, .bool false, .bool false, .bool false, .bool false] : Array Value) = Sto.zero.cells.toArray := by kernel_rfl
  have EZ := Lib.hid ez
  clear hv hb hck hright hend hK hn hLm hz ez
  go_enter Tryd.func7, Tryd.ntmps7
  go_wp2_with fail
  rw [EZ.out]
  generalize hW : World.alloc _ _ = w0
  have inv0 : AudInv w.heap.size w w0 Sto.zero z32 (.slice (some ⟨w.heap.size + 1, 0, none⟩) 32 32) := by
    rw [← hW]
    refine ⟨heapNew0 _ _ _, ?_, ?_, ((Below.refl _ _).alloc (Nat.le_refl _) _).alloc (by simp) _, by simp; omega⟩
    · have h := Rd.newRow (w.alloc (.cells Sto.zero.cells.toArray 30)) (List.replicate 32 0) 32 rfl (by simp [maxLen])
      rw [HZ.out]
      have e : (w.alloc (.cells Sto.zero.cells.toArray 30)).heap.size = w.heap.size + 1 := by simp
      rw [e] at h
      exact h
    · intro q hq; injection hq with hq; subst hq; show w.heap.size + 1 ≠ w.heap.size; omega
  have INV0 := Lib.hid inv0
  clear hW inv0 hmk
  go_loopw [5, 17] (fun hv i wr => ∃ k : Nat, k ≤ m ∧ i = .int .i64 k ∧ Hid (AudInv w.heap.size w wr (Sto.zero.all (L.take k)) (Sto.zero.tip z32 (L.take k)) hv)) (fun _ i _ => n - (intOf i).toNat)
  case atStart => exact ⟨0, by omega, rfl, INV0⟩
  case round =>
    obtain ⟨k, hkm, rfl, HI⟩ := hrel
    by_cases h1 : k < n
    · have hd1 : decide ((k : Int) < n) = true := by rw [decide_eq_true_eq]; omega
      have hd1n : decide (k < n) = true := by rw [decide_eq_true_eq]; omega
      obtain ⟨S, hS⟩ : ∃ S, S = Sto.zero.all (L.take k) := ⟨_, rfl⟩
      obtain ⟨tp, htp⟩ : ∃ t, t = Sto.zero.tip z32 (L.take k) := ⟨_, rfl⟩
      have hsok : S.Ok := by rw [hS]; exact OKL.out k
      have htl : tp.length = 32 := by rw [htp]; exact Sto.tip_length _ _ HZL.out _
      obtain ⟨eb, eoff, rfl, hel, hec⟩ := HV.out.cells.2.2 k h1
      have hget : es[k]? = some (es.getD k ent0) := by
        have : k < es.length := by have := HN.out; omega
        rw [List.getD_eq_getElem?_getD, List.getElem?_eq_getElem this]; rfl
      have hsum := HB.out k _ hget
      -- what the entry is
      have hcase : (k < m ∧ checkC (es.getD k ent0).what = 0 ∧ S.answer (es.getD k ent0).what = (es.getD k ent0).ans ∧ bs k = linkB tp (es.getD k ent0).what (es.getD k ent0).ans ∧ Sto.zero.all (L.take (k + 1)) = S.next (es.getD k ent0).what ∧ Sto.zero.tip z32 (L.take (k + 1)) = bs k) ∨ (k = m ∧ r = k ∧ Bad S tp (es.getD k ent0) (bs k)) := by
        by_cases hlt : k < m
        · have hkl : k < L.length := by have := HLM.out; omega
          obtain ⟨q1, q2, q3⟩ := HR.out k hlt
          refine .inl ⟨hlt, ?_, ?_, ?_, ?_, ?_⟩
          · rw [q1, getD_lt _ _ _ hkl]; exact HCK.out _ (List.getElem_mem _)
          · rw [q1, q2, answers_at _ _ _ hkl, ← hS]
          · rw [q3, sums_at _ _ _ _ hkl, ← htp, q1, q2]
          · rw [take_succ_getD L k hkl, Sto.all_snoc, ← hS, q1]
          · rw [tip_at _ _ _ _ hkl, q3]
        · have hkm2 : k = m := by omega
          rcases HE.out with ⟨h2, -⟩ | ⟨h2, h3, h4⟩
          · exact absurd h2 (by omega)
          · refine .inr ⟨hkm2, by rw [h3, hkm2], ?_⟩
            rw [hS, htp, hkm2]
            have : L.take m = L := by rw [← HLM.out, List.take_length]
            rw [this]; exact h4
      obtain ⟨e, he⟩ : ∃ e, e = es.getD k ent0 := ⟨_, rfl⟩
      change ∀ j, j < 8 → w.cell? ⟨eb, eoff + (8 * k + j), none⟩ = (entCells (es.getD k ent0))[j]? at hec
      rw [← he] at hec hsum hcase
      rw [← hS, ← htp] at HI
      obtain ⟨T, p0, p1, q, hT, hgood, hbad, hdo⟩ := Do_all S hsok e.what
      obtain ⟨⟨ck, ccl, csq, cnm, cvl⟩, ⟨a0, a1⟩, sv⟩ := e
      obtain ⟨sa, sc, hsv, -, -⟩ := hsum.slice
      dsimp only at hsv
      subst hsv
      obtain ⟨sn, hsn⟩ : ∃ sn, sn = (bs k).length := ⟨_, rfl⟩
      rw [← hsn] at hec hsum hcase
      have hecr : ∀ j, j < 8 → wr.cell? ⟨eb, eoff + (8 * k + j), none⟩ = (entCells ⟨⟨ck, ccl, csq, cnm, cvl⟩, (a0, a1), .slice sa sn sc⟩)[j]? := fun j hj => by
        rw [← hec j hj]
        exact World.cell?_of_block (w := w) (HI.out.below.block eb hel)
      obtain ⟨x0, x1, x2, x3, x4, x5, x6, x7⟩ := cellsE hecr
      dsimp only at x0 x1 x2 x3 x4 x5 x6 x7 hgood hbad hdo
      obtain ⟨ha, hc, hhv, hc1, hc2⟩ := HI.out.cur.sliceN 32 htl
      subst hhv
      have ST := Lib.hid HI.out.sto
      have RM := HI.out.room
      have HDO := Lib.hid hdo
      have OKT := Lib.hid hT
      have OKS := Lib.hid hsok
      have LENS := Lib.hid (show (Tryd.prog.info? 30).map (fun x => x.size) = some S.cells.length by rw [stoLen hsok]; exact stoSz)
      have LENT := Lib.hid (show (Tryd.prog.info? 30).map (fun x => x.size) = some T.cells.length by rw [stoLen hT]; exact stoSz)
      have SZT := Lib.hid (show (Tryd.prog.info? 30).map (fun x => x.size) = some T.cells.toArray.size by rw [stoSize hT]; exact stoSz)
      have RG1 := Lib.hid (show ∀ o, (wr.alloc o).rangeAt w.heap.size 0 S.cells from fun o => range_of ((heapOld _ _ _ RM).trans ST.out))
      have HSUM := Lib.hid hsum
      have HCASE := Lib.hid hcase
      have HGOOD := Lib.hid hgood
      have HBAD := Lib.hid hbad
      have HTL := Lib.hid htl
      clear hec hecr hget hsum hcase hgood hbad hdo hT hsok htl he hS htp hsn hel hc1 hc2
      go_upto_region 9 with (first
        | (go_at_call 10; refine (HDO.out _).mono ?_; rintro e w2 ⟨rfl, hb2⟩; have B2 := Lib.hid hb2; have ZZ2 := hb2.size; clear hb2)
        | (refine wpList_load_mid rfl 30 (.tmp 4) rfl w.heap.size 0 rfl S.cells _ ?_ Tryd.underlying30 rfl LENS.out ?_; (with_reducible exact RG1.out _))
        | (refine wpList_store_mid rfl 30 (.tmp 8) (.tmp 27) rfl w2.heap.size 0 T.cells.toArray rfl rfl ?_ SZT.out (stoOne _) ?_; (exact there_new0 _ _ _ _ _ (by rw [stoSize OKT.out]; rfl)); generalize hW : World.setCells _ _ _ _ = wz; have G1 := Lib.hid (stage1 (Below.refl wr.heap.size wr) B2.out hW (by rw [stoLen OKT.out]; rfl)); have z14 := cellAt G1.out.2.2.2.1 0 rfl; have z15 := cellAt G1.out.2.2.2.1 1 rfl; have zf := freeAt G1.out.2.2.2.1; clear hW))
      generalize hW : World.setCell _ _ _ = wy
      have G2 := Lib.hid (stageX G1.out hW)
      have SZ2 := G1.out.2.2.2.2.2.2
      clear hW z14 z15 zf G1 B2
      clear x0 x1 x2 x3 x4 x5 x6 x7
      have YY := Lib.hid (show Below w.heap.size w wy from HI.out.below.trans (G2.out.1.mono (Nat.le_of_lt RM)))
      by_cases hz0 : checkC ⟨ck, ccl, csq, cnm, cvl⟩ = 0
      · obtain ⟨rfl, hTn, hpp⟩ := HGOOD.out hz0
        by_cases heq : p0 = a0 ∧ p1 = a1
        · obtain ⟨rfl, rfl⟩ := heq
          have hnn := Sto.answer_nonneg S OKS.out _ hz0
          rw [hpp] at hnn
          have hn0 : 0 ≤ p0 := hnn.1
          have hn1 : 0 ≤ p1 := hnn.2
          have hcc := hz0
          rcases HCASE.out with ⟨hlt, -, -, hbk, hall, htip⟩ | ⟨hkm2, hrk, hB⟩
          · rw [← hTn] at hall
            have ALL := Lib.hid hall
            have TIP := Lib.hid htip
            have BK := Lib.hid hbk
            have BKL := Lib.hid (show (bs k).length = 32 by rw [hbk]; exact linkB_length _ _ _)
            clear hbk hall htip hTn hpp hnn
            have S0d : wy.drew.cell? ⟨wr.heap.size, 0, none⟩ = some (.int .i64 ck) ∧ wy.drew.cell? ⟨wr.heap.size, 1, none⟩ = some (.int .i64 ccl) ∧ wy.drew.cell? ⟨wr.heap.size, 2, none⟩ = some (.int .i64 csq) ∧ wy.drew.cell? ⟨wr.heap.size, 3, none⟩ = some (.int .i64 cnm) ∧ wy.drew.cell? ⟨wr.heap.size, 4, none⟩ = some (.int .i64 cvl) ∧ wy.drew.cell? ⟨wr.heap.size, 5, none⟩ = some (.int .i64 p0) ∧ wy.drew.cell? ⟨wr.heap.size, 6, none⟩ = some (.int .i64 p1) ∧ wy.drew.cell? ⟨wr.heap.size, 7, none⟩ = some (.slice sa sn sc) ∧ wy.drew.cell? ⟨w2.heap.size + 1, 0, none⟩ = some (.int .i64 p0) ∧ wy.drew.cell? ⟨w2.heap.size + 1, 1, none⟩ = some (.int .i64 p1) := ⟨cellAt (G2.out.2.1) 0 rfl, cellAt (G2.out.2.1) 1 rfl, cellAt (G2.out.2.1) 2 rfl, cellAt (G2.out.2.1) 3 rfl, cellAt (G2.out.2.1) 4 rfl, cellAt (G2.out.2.1) 5 rfl, cellAt (G2.out.2.1) 6 rfl, cellAt (G2.out.2.1) 7 rfl, cellAt (G2.out.2.2.2.1) 0 rfl, cellAt (G2.out.2.2.2.1) 1 rfl⟩
            have KY := Lib.hid (HK.out.stay YY.out)
            have RY := Lib.hid ((HI.out.cur.stay G2.out.1))
            go_region_held3 (fun w' => w'.cell? ⟨wr.heap.size, 0, none⟩ = some (.int .i64 ck) ∧ w'.cell? ⟨wr.heap.size, 1, none⟩ = some (.int .i64 ccl) ∧ w'.cell? ⟨wr.heap.size, 2, none⟩ = some (.int .i64 csq) ∧ w'.cell? ⟨wr.heap.size, 3, none⟩ = some (.int .i64 cnm) ∧ w'.cell? ⟨wr.heap.size, 4, none⟩ = some (.int .i64 cvl) ∧ w'.cell? ⟨wr.heap.size, 5, none⟩ = some (.int .i64 p0) ∧ w'.cell? ⟨wr.heap.size, 6, none⟩ = some (.int .i64 p1) ∧ w'.cell? ⟨wr.heap.size, 7, none⟩ = some (.slice sa sn sc) ∧ w'.cell? ⟨w2.heap.size + 1, 0, none⟩ = some (.int .i64 p0) ∧ w'.cell? ⟨w2.heap.size + 1, 1, none⟩ = some (.int .i64 p1)) (first | with_reducible exact S0d | with_reducible exact S4 | with_reducible exact S5 _) (first
              | (go_at_call 12; refine (link_any (.slice ha 32 hc) tp ⟨ck, ccl, csq, cnm, cvl⟩ p0 p1 wy.drew RY.out HTL.out hcc hn0 hn1 KY.out).mono ?_; rintro e w4 ⟨vl, rfl, hol, hb4⟩; have OL := Lib.hid hol.rd; have B4 := Lib.hid (show Below wy.heap.size wy w4 from (Below.refl _ _).drew.trans hb4); have H4 := Lib.hid ((B4.out.block _ (lt_of_heap G2.out.2.1)).trans G2.out.2.1); have I4 := Lib.hid ((B4.out.block _ (lt_of_heap G2.out.2.2.2.1)).trans G2.out.2.2.2.1); have SU4 := Lib.hid ((HSUM.out.stay YY.out).stay B4.out); have S4 : w4.cell? ⟨wr.heap.size, 0, none⟩ = some (.int .i64 ck) ∧ w4.cell? ⟨wr.heap.size, 1, none⟩ = some (.int .i64 ccl) ∧ w4.cell? ⟨wr.heap.size, 2, none⟩ = some (.int .i64 csq) ∧ w4.cell? ⟨wr.heap.size, 3, none⟩ = some (.int .i64 cnm) ∧ w4.cell? ⟨wr.heap.size, 4, none⟩ = some (.int .i64 cvl) ∧ w4.cell? ⟨wr.heap.size, 5, none⟩ = some (.int .i64 p0) ∧ w4.cell? ⟨wr.heap.size, 6, none⟩ = some (.int .i64 p1) ∧ w4.cell? ⟨wr.heap.size, 7, none⟩ = some (.slice sa sn sc) ∧ w4.cell? ⟨w2.heap.size + 1, 0, none⟩ = some (.int .i64 p0) ∧ w4.cell? ⟨w2.heap.size + 1, 1, none⟩ = some (.int .i64 p1) := ⟨cellAt (H4.out) 0 rfl, cellAt (H4.out) 1 rfl, cellAt (H4.out) 2 rfl, cellAt (H4.out) 3 rfl, cellAt (H4.out) 4 rfl, cellAt (H4.out) 5 rfl, cellAt (H4.out) 6 rfl, cellAt (H4.out) 7 rfl, cellAt (I4.out) 0 rfl, cellAt (I4.out) 1 rfl⟩; have S5 : ∀ nn, (w4.drewN nn).cell? ⟨wr.heap.size, 0, none⟩ = some (.int .i64 ck) ∧ (w4.drewN nn).cell? ⟨wr.heap.size, 1, none⟩ = some (.int .i64 ccl) ∧ (w4.drewN nn).cell? ⟨wr.heap.size, 2, none⟩ = some (.int .i64 csq) ∧ (w4.drewN nn).cell? ⟨wr.heap.size, 3, none⟩ = some (.int .i64 cnm) ∧ (w4.drewN nn).cell? ⟨wr.heap.size, 4, none⟩ = some (.int .i64 cvl) ∧ (w4.drewN nn).cell? ⟨wr.heap.size, 5, none⟩ = some (.int .i64 p0) ∧ (w4.drewN nn).cell? ⟨wr.heap.size, 6, none⟩ = some (.int .i64 p1) ∧ (w4.drewN nn).cell? ⟨wr.heap.size, 7, none⟩ = some (.slice sa sn sc) ∧ (w4.drewN nn).cell? ⟨w2.heap.size + 1, 0, none⟩ = some (.int .i64 p0) ∧ (w4.drewN nn).cell? ⟨w2.heap.size + 1, 1, none⟩ = some (.int .i64 p1) := fun nn => S4; clear hol hb4)
              | (go_at_call 14; refine (shaSame_true _ _ _ _ w4 OL.out SU4.out (BK.out).symm).mono ?_; rintro e _ ⟨rfl, nk, rfl⟩))
            go_wp2_with fail
            have Z4 := Lib.hid ((B4.out.block _ (lt_of_heap G2.out.2.2.1)).trans G2.out.2.2.1)
            have Q4 := Lib.hid (show w4.heap[w.heap.size]? = some (.cells S.cells.toArray 30 (0, 0)) from (B4.out.block _ (Nat.lt_of_lt_of_le RM G2.out.1.size)).trans ((G2.out.1.block _ RM).trans ST.out))
            clear S0d S4 S5 KY RY OL
            refine wp_region_held_drew (S := fun W => W.heap[wr.heap.size]? = w4.heap[wr.heap.size]? ∧ W.heap[w2.heap.size]? = w4.heap[w2.heap.size]?) (by kernel_rfl) ⟨rfl, rfl⟩ (fun hS => ?_)
            refine wpAnyH_take (i := 0) (oi := { dst := some 50, op := _, type := _, pos := _, after := _, guard := none }) (v := _) rfl (by kernel_rfl) (by kernel_rfl) (by kernel_rfl) (fun _ _ _ h => h) (yieldsIf_load_mid (by rfl) 30 (.tmp 8) rfl w2.heap.size 0 rfl T.cells _ (fun _ h => range_of (h.2.trans Z4.out)) Tryd.underlying30 rfl LENT.out) hS ?_
            try simp only [Act.put, List.setIfInBounds_toArray, List.set_cons_zero, List.set_cons_succ]
            refine wpAnyH_take (i := 1) (oi := { dst := some 51, op := _, type := _, pos := _, after := _, guard := none }) (v := .pointer (some ⟨wr.heap.size, 7, none⟩)) rfl (by kernel_rfl) (by kernel_rfl) (by kernel_rfl) (fun _ _ _ h => h) (Or.inl ⟨by rfl, fun W hw => ?_⟩) hS ?_
            · go_simp
            try simp only [Act.put, List.setIfInBounds_toArray, List.set_cons_zero, List.set_cons_succ]
            refine wpAnyH_take (i := 2) (oi := { dst := some 52, op := _, type := _, pos := _, after := _, guard := none }) (v := .slice sa sn sc) rfl (by kernel_rfl) (by kernel_rfl) (by kernel_rfl) (fun _ _ _ h => h) (Or.inl ⟨by rfl, fun W hw => ?_⟩) hS ?_
            · have c7 : W.cell? ⟨wr.heap.size, 7, none⟩ = some (.slice sa sn sc) := cellAt (hw.1.trans H4.out) 7 rfl
              clear hw
              go_simp
            try simp only [Act.put, List.setIfInBounds_toArray, List.set_cons_zero, List.set_cons_succ]
            refine wpAnyH_ready (rs := [3]) (by kernel_rfl) (by simp) ?_
            refine AllReadyH.cons (o := { dst := none, op := .store 30 (.tmp 4) (.tmp 50), type := _, pos := _, after := _, guard := none }) rfl (fun K hK => ?_) AllReadyH.nil
            rw [if_pos (by rfl)]
            refine wp_store_mid 30 (.tmp 4) (.tmp 50) rfl w.heap.size 0 T.cells.toArray rfl rfl ?_ SZT.out (stoOne _) ?_
            · rw [stoSize OKT.out]; exact there_of Q4.out (stoSize OKS.out)
            generalize hW : World.setCells _ _ _ _ = wv
            have v4 : wv.heap[w.heap.size]? = some (.cells T.cells.toArray 30 (0, 0)) := by rw [← hW]; exact storedRow (vs := T.cells) Q4.out (by rw [stoSize OKS.out, stoLen OKT.out])
            have vk : ∀ k, k ≠ w.heap.size → wv.heap[k]? = w4.heap[k]? := fun k hk => by rw [← hW, heap_setCells_ne hk]; rfl
            have vb : Below w.heap.size w wv := by rw [← hW]; exact below_setCells (Nat.le_refl _) _ _ _ (below_drewN (YY.out.trans (B4.out.mono YY.out.size)) _).drew
            have vs : wv.heap.size = w4.heap.size := by rw [← hW, size_setCells]; rfl
            refine hK.out _ _ ?_ (fun hS3 => ?_)
            · exact ⟨vk _ (by omega), vk _ (by have := G2.out.1.size; have := G2.out.2.2.2.2; omega)⟩
            clear hK K hW
            try simp only [Act.put, List.setIfInBounds_toArray, List.set_cons_zero, List.set_cons_succ]
            refine wpAnyH_take (i := 4) (oi := { dst := some 5, op := _, type := _, pos := _, after := _, guard := none }) (v := .slice sa sn sc) rfl (by kernel_rfl) (by kernel_rfl) (by kernel_rfl) (fun _ _ _ h => h) (Or.inl ⟨by rfl, fun W hw => ?_⟩) hS3 ?_
            · go_simp
            try simp only [Act.put, List.setIfInBounds_toArray, List.set_cons_zero, List.set_cons_succ]
            refine wpAnyH_done (by kernel_rfl) ?_ _
            have INV := Lib.hid (show AudInv w.heap.size w wv (Sto.zero.all (L.take (k + 1))) (Sto.zero.tip z32 (L.take (k + 1))) (.slice sa sn sc) by
              rw [ALL.out, TIP.out]
              exact ⟨v4, HSUM.out.stay vb, fun q hq => Nat.ne_of_lt (HSUM.out.lt q hq (by intro h; have := BKL.out; rw [h] at this; cases this)), vb, by have h1 := G2.out.1.size; have h2 := B4.out.size; omega⟩)
            go_wp2_with fail
            go_roundw
            case rel => exact ⟨k + 1, by omega, by go_num, INV⟩
            case measure => simp [intOf]; omega
          · have hbk : linkB tp ⟨ck, ccl, csq, cnm, cvl⟩ (p0, p1) ≠ bs k := by
              rcases hB with h | ⟨h, h2⟩ | ⟨h, h2, h3⟩
              · exact absurd hz0 h
              · exact absurd hpp h2
              · exact fun h4 => h3 h4.symm
            have BK := Lib.hid hbk
            clear hbk hB hTn hpp hnn hkm2
            subst hrk
            have S0d : wy.drew.cell? ⟨wr.heap.size, 0, none⟩ = some (.int .i64 ck) ∧ wy.drew.cell? ⟨wr.heap.size, 1, none⟩ = some (.int .i64 ccl) ∧ wy.drew.cell? ⟨wr.heap.size, 2, none⟩ = some (.int .i64 csq) ∧ wy.drew.cell? ⟨wr.heap.size, 3, none⟩ = some (.int .i64 cnm) ∧ wy.drew.cell? ⟨wr.heap.size, 4, none⟩ = some (.int .i64 cvl) ∧ wy.drew.cell? ⟨wr.heap.size, 5, none⟩ = some (.int .i64 p0) ∧ wy.drew.cell? ⟨wr.heap.size, 6, none⟩ = some (.int .i64 p1) ∧ wy.drew.cell? ⟨wr.heap.size, 7, none⟩ = some (.slice sa sn sc) ∧ wy.drew.cell? ⟨w2.heap.size + 1, 0, none⟩ = some (.int .i64 p0) ∧ wy.drew.cell? ⟨w2.heap.size + 1, 1, none⟩ = some (.int .i64 p1) := ⟨cellAt (G2.out.2.1) 0 rfl, cellAt (G2.out.2.1) 1 rfl, cellAt (G2.out.2.1) 2 rfl, cellAt (G2.out.2.1) 3 rfl, cellAt (G2.out.2.1) 4 rfl, cellAt (G2.out.2.1) 5 rfl, cellAt (G2.out.2.1) 6 rfl, cellAt (G2.out.2.1) 7 rfl, cellAt (G2.out.2.2.2.1) 0 rfl, cellAt (G2.out.2.2.2.1) 1 rfl⟩
            have KY := Lib.hid (HK.out.stay YY.out)
            have RY := Lib.hid ((HI.out.cur.stay G2.out.1))
            go_region_held3 (fun w' => w'.cell? ⟨wr.heap.size, 0, none⟩ = some (.int .i64 ck) ∧ w'.cell? ⟨wr.heap.size, 1, none⟩ = some (.int .i64 ccl) ∧ w'.cell? ⟨wr.heap.size, 2, none⟩ = some (.int .i64 csq) ∧ w'.cell? ⟨wr.heap.size, 3, none⟩ = some (.int .i64 cnm) ∧ w'.cell? ⟨wr.heap.size, 4, none⟩ = some (.int .i64 cvl) ∧ w'.cell? ⟨wr.heap.size, 5, none⟩ = some (.int .i64 p0) ∧ w'.cell? ⟨wr.heap.size, 6, none⟩ = some (.int .i64 p1) ∧ w'.cell? ⟨wr.heap.size, 7, none⟩ = some (.slice sa sn sc) ∧ w'.cell? ⟨w2.heap.size + 1, 0, none⟩ = some (.int .i64 p0) ∧ w'.cell? ⟨w2.heap.size + 1, 1, none⟩ = some (.int .i64 p1)) (first | with_reducible exact S0d | with_reducible exact S4 | with_reducible exact S5 _) (first
              | (go_at_call 12; refine (link_any (.slice ha 32 hc) tp ⟨ck, ccl, csq, cnm, cvl⟩ p0 p1 wy.drew RY.out HTL.out hcc hn0 hn1 KY.out).mono ?_; rintro e w4 ⟨vl, rfl, hol, hb4⟩; have OL := Lib.hid hol.rd; have B4 := Lib.hid (show Below wy.heap.size wy w4 from (Below.refl _ _).drew.trans hb4); have H4 := Lib.hid ((B4.out.block _ (lt_of_heap G2.out.2.1)).trans G2.out.2.1); have I4 := Lib.hid ((B4.out.block _ (lt_of_heap G2.out.2.2.2.1)).trans G2.out.2.2.2.1); have SU4 := Lib.hid ((HSUM.out.stay YY.out).stay B4.out); have S4 : w4.cell? ⟨wr.heap.size, 0, none⟩ = some (.int .i64 ck) ∧ w4.cell? ⟨wr.heap.size, 1, none⟩ = some (.int .i64 ccl) ∧ w4.cell? ⟨wr.heap.size, 2, none⟩ = some (.int .i64 csq) ∧ w4.cell? ⟨wr.heap.size, 3, none⟩ = some (.int .i64 cnm) ∧ w4.cell? ⟨wr.heap.size, 4, none⟩ = some (.int .i64 cvl) ∧ w4.cell? ⟨wr.heap.size, 5, none⟩ = some (.int .i64 p0) ∧ w4.cell? ⟨wr.heap.size, 6, none⟩ = some (.int .i64 p1) ∧ w4.cell? ⟨wr.heap.size, 7, none⟩ = some (.slice sa sn sc) ∧ w4.cell? ⟨w2.heap.size + 1, 0, none⟩ = some (.int .i64 p0) ∧ w4.cell? ⟨w2.heap.size + 1, 1, none⟩ = some (.int .i64 p1) := ⟨cellAt (H4.out) 0 rfl, cellAt (H4.out) 1 rfl, cellAt (H4.out) 2 rfl, cellAt (H4.out) 3 rfl, cellAt (H4.out) 4 rfl, cellAt (H4.out) 5 rfl, cellAt (H4.out) 6 rfl, cellAt (H4.out) 7 rfl, cellAt (I4.out) 0 rfl, cellAt (I4.out) 1 rfl⟩; have S5 : ∀ nn, (w4.drewN nn).cell? ⟨wr.heap.size, 0, none⟩ = some (.int .i64 ck) ∧ (w4.drewN nn).cell? ⟨wr.heap.size, 1, none⟩ = some (.int .i64 ccl) ∧ (w4.drewN nn).cell? ⟨wr.heap.size, 2, none⟩ = some (.int .i64 csq) ∧ (w4.drewN nn).cell? ⟨wr.heap.size, 3, none⟩ = some (.int .i64 cnm) ∧ (w4.drewN nn).cell? ⟨wr.heap.size, 4, none⟩ = some (.int .i64 cvl) ∧ (w4.drewN nn).cell? ⟨wr.heap.size, 5, none⟩ = some (.int .i64 p0) ∧ (w4.drewN nn).cell? ⟨wr.heap.size, 6, none⟩ = some (.int .i64 p1) ∧ (w4.drewN nn).cell? ⟨wr.heap.size, 7, none⟩ = some (.slice sa sn sc) ∧ (w4.drewN nn).cell? ⟨w2.heap.size + 1, 0, none⟩ = some (.int .i64 p0) ∧ (w4.drewN nn).cell? ⟨w2.heap.size + 1, 1, none⟩ = some (.int .i64 p1) := fun nn => S4; clear hol hb4)
              | (go_at_call 14; refine (shaSame_false _ _ _ _ w4 OL.out SU4.out BK.out).mono ?_; rintro e _ ⟨rfl, nk, rfl⟩))
            go_wp2_with fail
            go_ret2
            exact ⟨rfl, below_drewN (YY.out.trans (B4.out.mono YY.out.size)) _⟩
        · have hrk : r = k := by
            rcases HCASE.out with ⟨hlt, -, h, -⟩ | ⟨hkm2, hrk, hB⟩
            · rw [hpp] at h; injection h with h3 h4; exact absurd ⟨h3, h4⟩ heq
            · exact hrk
          subst hrk
          clear hTn hpp
          have hdif : ((p0 == a0) = false ∧ decide (p0 = a0) = false) ∨ (p0 = a0 ∧ (p1 == a1) = false ∧ decide (p1 = a1) = false) := by
            by_cases h : p0 = a0
            · refine .inr ⟨h, ?_, ?_⟩
              · rw [beq_eq_false_iff_ne]; exact fun h2 => heq ⟨h, h2⟩
              · rw [decide_eq_false_iff_not]; exact fun h2 => heq ⟨h, h2⟩
            · exact .inl ⟨by rw [beq_eq_false_iff_ne]; exact h, by rw [decide_eq_false_iff_not]; exact h⟩
          obtain ⟨x0, x1, x2, x3, x4, x5, x6, x7, y0, y1⟩ : wy.cell? ⟨wr.heap.size, 0, none⟩ = some (.int .i64 ck) ∧ wy.cell? ⟨wr.heap.size, 1, none⟩ = some (.int .i64 ccl) ∧ wy.cell? ⟨wr.heap.size, 2, none⟩ = some (.int .i64 csq) ∧ wy.cell? ⟨wr.heap.size, 3, none⟩ = some (.int .i64 cnm) ∧ wy.cell? ⟨wr.heap.size, 4, none⟩ = some (.int .i64 cvl) ∧ wy.cell? ⟨wr.heap.size, 5, none⟩ = some (.int .i64 a0) ∧ wy.cell? ⟨wr.heap.size, 6, none⟩ = some (.int .i64 a1) ∧ wy.cell? ⟨wr.heap.size, 7, none⟩ = some (.slice sa sn sc) ∧ wy.cell? ⟨w2.heap.size + 1, 0, none⟩ = some (.int .i64 p0) ∧ wy.cell? ⟨w2.heap.size + 1, 1, none⟩ = some (.int .i64 p1) := ⟨cellAt (G2.out.2.1) 0 rfl, cellAt (G2.out.2.1) 1 rfl, cellAt (G2.out.2.1) 2 rfl, cellAt (G2.out.2.1) 3 rfl, cellAt (G2.out.2.1) 4 rfl, cellAt (G2.out.2.1) 5 rfl, cellAt (G2.out.2.1) 6 rfl, cellAt (G2.out.2.1) 7 rfl, cellAt (G2.out.2.2.2.1) 0 rfl, cellAt (G2.out.2.2.2.1) 1 rfl⟩
          clear heq
          rcases hdif with ⟨d1, d2⟩ | ⟨rfl, d1, d2⟩
          all_goals
            go_wp2_with fail
            refine wp_region_quiet_lit (by kernel_rfl) (by kernel_rfl) ?_
            repeat (go_big_quiet_step (fail))
            refine wpQuiet_nil ?_
            intro w9 hw9
            obtain ⟨nq, rfl⟩ := hw9
            go_wp2_with fail
            go_ret2
            exact ⟨rfl, below_drewN YY.out nq⟩
      · have hq := HBAD.out hz0
        have hq2 : (q != 0) = true := by rw [bne_iff_ne]; exact hq
        have hrk : r = k := by
          rcases HCASE.out with ⟨hlt, h, -⟩ | ⟨hkm2, hrk, hB⟩
          · exact absurd h hz0
          · exact hrk
        subst hrk
        clear hq hz0
        go_wp2_with fail
        refine wp_region_quiet_lit (by kernel_rfl) (by kernel_rfl) ?_
        repeat (go_big_quiet_step (fail))
        refine wpQuiet_nil ?_
        intro w9 hw9
        obtain ⟨nq, rfl⟩ := hw9
        go_wp2_with fail
        go_ret2
        exact ⟨rfl, below_drewN YY.out nq⟩
    · have hkn : k = n := by omega
      have hd1 : decide ((k : Int) < n) = false := by rw [decide_eq_false_iff_not]; omega
      have hd1n : decide (k < n) = false := by rw [decide_eq_false_iff_not]; omega
      have hr : r = -1 := by
        rcases HE.out with ⟨-, h⟩ | ⟨h, -, -⟩
        · exact h
        · omega
      subst hr
      go_wp2_with fail
      go_ret2
      exact ⟨rfl, HI.out.below⟩
end Go.Proofs.YtocdnochnjlhlaaDoor
