/-
  The walk of ChainTells.
-/
import Derived.Test.YtdjnbnbhpjiicaaDoorDoF
import Derived.Test.YtdjnbnbhpjiicaaDoorRow
set_option linter.unusedVariables false
set_option linter.unusedSimpArgs false
namespace Go.Proofs.YtdjnbnbhpjiicaaDoor
open Go.RowKit Go.Con
theorem cells2 {w : World} {b off i : Nat} {x : Int × Int} (h : ∀ j, j < 2 → w.cell? ⟨b, off + (2 * i + j), none⟩ = (ansCells x)[j]?) :
    w.cell? ⟨b, off + i * 2, none⟩ = some (.int .i64 x.1) ∧ w.cell? ⟨b, off + i * 2 + 1, none⟩ = some (.int .i64 x.2) := by
  refine ⟨?_, ?_⟩
  · rw [show off + i * 2 = off + (2 * i + 0) by omega]; exact h 0 (by decide)
  · rw [show off + i * 2 + 1 = off + (2 * i + 1) by omega]; exact h 1 (by decide)
theorem cells8 {w : World} {b off i : Nat} {x : Ent} (h : ∀ j, j < 8 → w.cell? ⟨b, off + (8 * i + j), none⟩ = (entCells x)[j]?) :
    w.cell? ⟨b, off + i * 8, none⟩ = some (.int .i64 x.what.kind) ∧ w.cell? ⟨b, off + i * 8 + 1, none⟩ = some (.int .i64 x.what.client) ∧ w.cell? ⟨b, off + i * 8 + 2, none⟩ = some (.int .i64 x.what.seq) ∧ w.cell? ⟨b, off + i * 8 + 3, none⟩ = some (.int .i64 x.what.name) ∧ w.cell? ⟨b, off + i * 8 + 4, none⟩ = some (.int .i64 x.what.value) ∧
    w.cell? ⟨b, off + i * 8 + 5, none⟩ = some (.int .i64 x.ans.1) ∧ w.cell? ⟨b, off + i * 8 + 5 + 1, none⟩ = some (.int .i64 x.ans.2) ∧ w.cell? ⟨b, off + i * 8 + 7, none⟩ = some x.sum := by
  have e : ∀ j, off + i * 8 + j = off + (8 * i + j) := fun j => by omega
  refine ⟨?_, ?_, ?_, ?_, ?_, ?_, ?_, ?_⟩
  · rw [show off + i * 8 = off + (8 * i + 0) by omega]; exact h 0 (by decide)
  · rw [e]; exact h 1 (by decide)
  · rw [e]; exact h 2 (by decide)
  · rw [e]; exact h 3 (by decide)
  · rw [e]; exact h 4 (by decide)
  · rw [e]; exact h 5 (by decide)
  · rw [show off + i * 8 + 5 + 1 = off + (8 * i + 6) by omega]; exact h 6 (by decide)
  · rw [e]; exact h 7 (by decide)
theorem sums_len (s : Sto) (h : List UInt8) (hh : h.length = 32) (l : List Cmd) (k : Nat) (hk : k < l.length) : ((s.sums h l).getD k []).length = 32 := by
  induction l generalizing s h k with
  | nil => cases hk
  | cons c l ih =>
    cases k with
    | zero => exact linkB_length _ _ _
    | succ k => exact ih (s.next c) _ (linkB_length _ _ _) k (by simpa using hk)
set_option maxRecDepth 100000 in
set_option maxHeartbeats 2000000 in
theorem walk_ChainTells (v : Value) (l : List Cmd) (w : World) (hv : RdWishes w v l) (hK : Kn w) :
    Calls Tryd.prog 15 #[v] w fun e w' => e = .returned (.bool true) ∧ Below w.heap.size w w' := by
  have hdone := Lib.hid (done40 v l w hv)
  obtain ⟨L, hL⟩ : ∃ L, L = (l.take 40).map cmdOf := ⟨_, rfl⟩
  have hLl : L.length ≤ 40 := by rw [hL]; simp; omega
  have hLw := Lib.hid (cmdOf_wishes l 40)
  rw [← hL] at hdone hLw
  have HK := Lib.hid hK
  obtain ⟨S, hS⟩ : ∃ S, S = Sto.zero.all L := ⟨_, rfl⟩
  have few : S.Few := by rw [hS, hL]; exact Sto.all_few _ Sto.zero_few _ (fun c hc => by obtain ⟨y, _, rfl⟩ := List.mem_map.1 hc; exact (cmdOf_few y).1)
  have OKS := Lib.hid few.ok
  have LENS := Lib.hid (show (Tryd.prog.info? 60).map (fun x => x.size) = some S.cells.length by rw [stoLen OKS.out]; exact stoSz)
  have SZS := Lib.hid (show (Tryd.prog.info? 60).map (fun x => x.size) = some S.cells.toArray.size by rw [stoSize OKS.out]; exact stoSz)
  have eqS : ∀ W, (Op.equalIn 10000 60 (.agg S.cells.toArray) (.agg S.cells.toArray)).run Tryd.prog W = .ok true W := fun W => by rw [eqIn_store OKS.out OKS.out W]; simp
  rw [← hS] at hdone
  have HS := Lib.hid hS
  have hch : Hid (∀ (v : Value) (W : World), RdWishes W v L → Kn W → Calls Tryd.prog 37 #[v] W fun e w' => ∃ ov es, e = .returned (.tuple #[ov, .agg S.cells.toArray, .int .i64 0]) ∧ ChainPost W w' L (List.replicate 32 0) ov es) := Lib.hid (fun v W h1 h2 => by rw [HS.out]; exact Chain_any v L W h1 (fun c hc => (hLw.out c hc).2) (by omega) h2)
  clear hv hK hL hS few
  go_enter Tryd.func15, Tryd.ntmps15
  go_upto_region 2 with (first
    | (go_at_call 36; refine hdone.out.mono ?_; rintro e v0 ⟨cv, av, rfl, hoc, hoa, hb⟩; have BD0 := Lib.hid hb; have RC0 := Lib.hid hoc.row; have RA0 := Lib.hid hoa.row; clear hb hoc hoa)
    | (refine wpList_store_mid rfl 60 (.tmp 3) (.tmp 14) rfl v0.heap.size 0 S.cells.toArray rfl rfl ?_ SZS.out (stoOne _) ?_; (exact there_new _ _ _ _ (by rw [stoSize OKS.out]; rfl)); generalize hW : World.setCells _ _ _ _ = w1; have G0 := Lib.hid (stageB BD0.out hW (by rw [stoLen OKS.out]; rfl)); have G0a := Lib.hid (stageB (Below.refl v0.heap.size v0) hW (by rw [stoLen OKS.out]; rfl)); clear hW))
  have RC1 := Lib.hid (RC0.out.stay G0a.out.1)
  have RA1 := Lib.hid (RA0.out.stay G0a.out.1)
  clear RC0 RA0 BD0
  obtain ⟨ca, cc, rfl, -⟩ := id RC1.out
  obtain ⟨aa, ac, rfl, -⟩ := id RA1.out
  have hAL : (Sto.zero.answers L).length = L.length := Sto.answers_length _ _
  obtain ⟨n, hn⟩ : ∃ n, n = L.length := ⟨_, rfl⟩
  rw [hAL, ← hn] at RA1 ⊢
  rw [← hn] at RC1
  have HN := Lib.hid hn
  rw [← hn] at hLl
  have hck := Lib.hid (hch.out _ w1 (RC1.out.wishes (fun c hc => (hLw.out c hc).1)) (HK.out.stay G0.out.1))
  clear hch hAL hn
  go_upto_region 3 with (first
    | (go_at_call 37; refine hck.out.mono ?_; rintro e v1 ⟨ov, es, rfl, hp⟩; have CP := Lib.hid hp; clear hp)
    | (refine wpList_store_mid rfl 60 (.tmp 8) (.tmp 22) rfl v1.heap.size 0 S.cells.toArray rfl rfl ?_ SZS.out (stoOne _) ?_; (exact there_new _ _ _ _ (by rw [stoSize OKS.out]; rfl)); generalize hW : World.setCells _ _ _ _ = w2; have G1 := Lib.hid (stageB CP.out.below hW (by rw [stoLen OKS.out]; rfl)); have G1a := Lib.hid (stageB (Below.refl v1.heap.size v1) hW (by rw [stoLen OKS.out]; rfl)); clear hW))
  have RE2 := Lib.hid (CP.out.own.row.stay G1a.out.1)
  have RC2 := Lib.hid (RC1.out.stay G1.out.1)
  have RA2 := Lib.hid (RA1.out.stay G1.out.1)
  obtain ⟨ea, ec, rfl, -⟩ := id RE2.out
  have hEL := CP.out.len
  rw [hEL, ← HN.out] at RE2 ⊢
  have RG1 := Lib.hid (range_of ((G1.out.1.block v0.heap.size (lt_of_heap G0.out.2)).trans G0.out.2))
  have RG2 := Lib.hid (range_of G1.out.2)
  clear RC1 RA1 hEL
  go_upto_region 6 with (first
    | (refine wpList_load_g rfl 60 (.tmp 3) rfl v0.heap.size 0 rfl S.cells _ ?_ Tryd.underlying60 rfl LENS.out ?_; (with_reducible exact RG1.out))
    | (refine wpList_load_g rfl 60 (.tmp 8) rfl v1.heap.size 0 rfl S.cells _ ?_ Tryd.underlying60 rfl LENS.out ?_; (with_reducible exact RG2.out)))
  have Y2 := Lib.hid (show Below w.heap.size w w2 from G0.out.1.trans (G1.out.1.mono G0.out.1.size))
  have WHAT := Lib.hid CP.out.what
  have ELN := Lib.hid CP.out.len
  clear RG1 RG2 G0 G1 G0a CP hck hdone HK
  go_loopw [10] (fun i wr => ∃ k : Nat, k ≤ n ∧ i = .int .i64 k ∧ ∃ m, wr = w2.drewN m) (fun i _ => n - (intOf i).toNat)
  case atStart => exact ⟨0, by omega, rfl, 0, rfl⟩
  case round =>
    obtain ⟨k, hk, rfl, nm, rfl⟩ := hrel
    by_cases h1 : k < n
    · have hd1 : decide ((k : Int) < n) = true := by rw [decide_eq_true_eq]; omega
      obtain ⟨eb, eoff, rfl, hel, hec⟩ := RE2.out.cells.2.2 k h1
      obtain ⟨cb, coff, rfl, hcl, hcc⟩ := RC2.out.cells.2.2 k h1
      obtain ⟨ab, aoff, rfl, hal, hac⟩ := RA2.out.cells.2.2 k h1
      have hget : es[k]? = some (es.getD k ⟨Cmd.zero, (0, 0), .slice none 0 0⟩) := by
        have : k < es.length := by rw [ELN.out]; have := HN.out; omega
        rw [List.getD_eq_getElem?_getD, List.getElem?_eq_getElem this]; rfl
      obtain ⟨q1, q2, q3, -⟩ := WHAT.out k _ hget
      obtain ⟨e, he⟩ : ∃ e, e = es.getD k ⟨Cmd.zero, (0, 0), .slice none 0 0⟩ := ⟨_, rfl⟩
      rw [← he] at q1 q2 q3 hec
      rw [← q1] at hcc
      rw [← q2] at hac
      have hsl : ((Sto.zero.sums (List.replicate 32 0) L).getD k []).length = 32 := sums_len _ _ rfl _ _ (by have := HN.out; omega)
      obtain ⟨c, an, sv⟩ := e
      obtain ⟨sa, sc, hsv, -⟩ := q3
      rw [hsl] at hsv
      dsimp only at hsv
      subst hsv
      obtain ⟨x0, x1, x2, x3, x4, x5, x6, x7⟩ := cells8 hec
      obtain ⟨y0, y1, y2, y3, y4⟩ := wish_cells _ _ _ _ _ hcc
      obtain ⟨z0, z1⟩ := cells2 hac
      dsimp only at x0 x1 x2 x3 x4 x5 x6 x7 y0 y1 y2 y3 y4 z0 z1
      clear hec hcc hac he q1 q2 hsl hget
      go_wp2_with fail
      refine wp_region_quiet_lit (by kernel_rfl) (by kernel_rfl) ?_
      repeat (go_big_quiet_step (fail))
      refine wpQuiet_nil ?_
      intro w9 hw9
      obtain ⟨nq, rfl⟩ := hw9
      go_wp2_with fail
      go_roundw
      case rel => exact ⟨k + 1, by omega, by go_num, _, by first | rfl | exact World.drewN_drewN _ _ _⟩
      case measure => simp [intOf]; omega
    · have hd1 : decide ((k : Int) < n) = false := by rw [decide_eq_false_iff_not]; omega
      go_wp2_with (go_at_call 38; refine (stoCheck_bad _).mono ?_; rintro e w3 ⟨rfl, hb3⟩)
      go_ret
      exact ⟨rfl, (below_drewN Y2.out nm).trans (hb3.mono (show w.heap.size ≤ w2.heap.size from Y2.out.size))⟩
end Go.Proofs.YtdjnbnbhpjiicaaDoor
