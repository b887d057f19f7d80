/-
  The walks of curve's turned and read.
-/
import Derived.Test.YthoganfinpfibaaFdt
import Derived.Deep.CutRange
set_option linter.unusedVariables false
set_option linter.unusedSimpArgs false
namespace Go.Con.Cv
theorem Red.fit {s : List Int} (h : Red s) : Fit s := ⟨h.1, fun j => by have := h.2 j; omega⟩
theorem Cg.one {a b c d : Int} (h : Cg a (b * c)) (g : Cg b d) (k : Cg c d) : Cg a (d * d % P) := (h.trans (g.mul k)).trans (Cg.mod _)
end Go.Con.Cv
namespace Go.Con
open Go Go.RowKit
theorem Lim.two {w w5 : World} {b : Nat} {t : TypeId} {s r : List Int} (h : Lim w b t s) (hb : Below w.heap.size w w5) (hl : s.length = r.length) : Lim (w5.setCells b 0 (r.map i64v)) b t r :=
  Lim.stored (hl ▸ (h.stay hb).rom)
theorem Lim.sets {w : World} {b c : Nat} {t : TypeId} {s : List Int} {vs : List Value} (h : Lim w b t s) (hne : b ≠ c) : Lim (w.setCells c 0 vs) b t s := (heap_setCells_ne hne _ _ _).trans h
theorem Rom.sets {w : World} {b c n : Nat} {t : TypeId} {vs : List Value} (h : Rom w b n t) (hne : b ≠ c) : Rom (w.setCells c 0 vs) b n t := by
  obtain ⟨cur, h1, h2⟩ := h
  exact ⟨cur, (heap_setCells_ne hne _ _ _).trans h1, h2⟩
end Go.Con
namespace Go.Proofs.Ythoganfinpfibaa
open Go.RowKit Go.Con
theorem szOf {s : List Int} (h : s.length = 16) : (Try.prog.info? 39).map (fun x => x.size) = some (s.map i64v).length := by rw [List.length_map, h]; exact fldSz
theorem szOf2 {s : List Int} (h : s.length = 16) : (Try.prog.info? 39).map (fun x => x.size) = some (s.map i64v).toArray.size := by rw [List.size_toArray]; exact szOf h
theorem thOf {s : List Int} {w : World} {b : Nat} {t : TypeId} (h : s.length = 16) (hr : Rom w b 16 t) : w.there b 0 (s.map i64v).toArray.size := by rw [show (s.map i64v).toArray.size = 16 by simp [h]]; exact hr.there
theorem times_lim (xs ys : List Int) (x y : Int) (w : World) (hx : Cv.Fit xs) (hy : Cv.Fit ys) (hxv : Cv.Cg (Cv.val xs) x) (hyv : Cv.Cg (Cv.val ys) y) :
    Calls Try.prog 22 #[.agg (xs.map i64v).toArray, .agg (ys.map i64v).toArray] w
      fun e w' => (∃ zs, e = .returned (.agg (zs.map i64v).toArray) ∧ Cv.Red zs ∧ Cv.Cg (Cv.val zs) (x * y % Cv.P)) ∧ Below w.heap.size w w' :=
  (times_any xs ys w hx hy).mono fun e w' ⟨⟨zs, h1, h2, h3⟩, hb⟩ => ⟨⟨zs, h1, h2, (h3.trans (hxv.mul hyv)).trans (Cv.Cg.mod _)⟩, hb⟩
set_option maxRecDepth 100000 in
set_option maxHeartbeats 4000000 in
theorem turned_any (xs : List Int) (z : Int) (w : World) (hx : Cv.Red xs) (hz : Cv.Cg (Cv.val xs) z) :
    Calls Try.prog 23 #[.agg (xs.map i64v).toArray] w
      fun e w' => (∃ zs, e = .returned (.agg (zs.map i64v).toArray) ∧ Cv.Red zs ∧ Cv.Cg (Cv.val zs) (Cv.turn z 254)) ∧ Below w.heap.size w w' := by
  obtain ⟨X, hX⟩ : ∃ X, X = (xs.map i64v).toArray := ⟨_, rfl⟩
  rw [← hX]
  have HX := Lib.hid hX
  have HXR := Lib.hid hx
  have HXZ := Lib.hid hz
  have SZX := Lib.hid (szOf hx.1)
  have SZX2 := Lib.hid (szOf2 hx.1)
  clear hX hx hz
  have hr0 : ∀ A B, (((w.alloc (.cells X 39)).alloc A).alloc B).rangeAt w.heap.size 0 (xs.map i64v) := fun A B => range_of (t := 39) (f := (0, 0)) (by rw [← HX.out]; exact (alloc3L rfl).1)
  have hr1 : ∀ A, ((w.alloc (.cells X 39)).alloc A).rangeAt w.heap.size 0 (xs.map i64v) := fun A => range_of (t := 39) (f := (0, 0)) (by rw [← HX.out]; exact heapNew0 _ _ _)
  have HR0 := Lib.hid hr0
  have HR1 := Lib.hid hr1
  have hs0 : ∀ A B Z, Z.size = 16 → (((w.alloc A).alloc B).alloc (.cells Z 39)).there (w.heap.size + 1 + 1) 0 (xs.map i64v).toArray.size := fun A B Z hZ => thOf HXR.out.1 ⟨_, (alloc3L rfl).2.2.1, hZ⟩
  have HS0 := Lib.hid hs0
  clear hr0 hr1 hs0
  go_enter Try.func23, Try.ntmps23
  go_wp2_with (first
    | (refine wpList_load_mid rfl 39 (.tmp 1) rfl w.heap.size 0 rfl (xs.map i64v) _ (HR1.out _) Try.underlying39 rfl SZX.out ?_)
    | (refine wpList_load_mid rfl 39 (.tmp 1) rfl w.heap.size 0 rfl (xs.map i64v) _ (HR0.out _ _) Try.underlying39 rfl SZX.out ?_)
    | (refine wpList_store_mid rfl 39 (.tmp 3) (.tmp 5) rfl (w.heap.size + 1 + 1) 0 (xs.map i64v).toArray rfl rfl (HS0.out _ _ _ rfl) SZX2.out (limOne xs) ?_))
  generalize hW : World.setCells _ _ _ _ = w0
  have LX := Lib.hid (show Lim w0 w.heap.size 39 xs by
    rw [← hW]; refine Lim.sets ?_ (by omega); rw [Lim, ← HX.out]; exact (alloc3L rfl).1)
  have LR := Lib.hid (show Rom w0 (w.heap.size + 1) 16 39 by
    rw [← hW]; exact Rom.sets ⟨_, (alloc3L rfl).2.1, rfl⟩ (by omega))
  have LO := Lib.hid (show Lim w0 (w.heap.size + 1 + 1) 39 xs by
    rw [← hW]; exact Lim.stored ⟨_, (alloc3L rfl).2.2.1, by rw [HXR.out.1]; rfl⟩)
  have LB := Lib.hid (show Below w.heap.size w w0 by
    rw [← hW]; exact below_setCells (by omega) _ _ _ (alloc3L rfl).2.2.2)
  clear hW
  go_loopw [4] (fun i wr => ∃ (n : Nat) (o : List Int), n ≤ 254 ∧ i = .int .i64 (253 - (n : Int)) ∧ Hid (Lim wr w.heap.size 39 xs) ∧ Hid (Rom wr (w.heap.size + 1) 16 39) ∧ Hid (Lim wr (w.heap.size + 1 + 1) 39 o) ∧ Hid (Cv.Red o ∧ Cv.Cg (Cv.val o) (Cv.turn z n)) ∧ Hid (Below w.heap.size w wr)) (fun i _ => (intOf i + 1).toNat)
  case atStart => exact ⟨0, xs, by omega, rfl, LX, LR, LO, Lib.hid ⟨HXR.out, HXZ.out.trans (Cv.Cg.mod z)⟩, LB⟩
  case round =>
    clear LX LR LO LB
    obtain ⟨n, o, hn, rfl, HLX, HR, HO, HC, HB⟩ := hrel
    by_cases hlt : n < 254
    · obtain ⟨c, hc⟩ : ∃ c : Nat, (253 : Int) - n = c := ⟨253 - n, by omega⟩
      have hcn : 253 - n = c := by omega
      have hc253 : c ≤ 253 := by omega
      rw [hc]
      have hts := times_lim o o (Cv.turn z n) (Cv.turn z n)
      have HTS := Lib.hid (fun w => hts w HC.out.1.fit HC.out.1.fit HC.out.2 HC.out.2)
      have hrg := range_of HO.out
      have SZO := Lib.hid (szOf HC.out.1.1)
      have HCC := Lib.hid hc
      have HCN := Lib.hid hcn
      have hstep : Cv.turn z (n + 1) = if c ≠ 2 ∧ c ≠ 4 then Cv.turn z n * Cv.turn z n % Cv.P * z % Cv.P else Cv.turn z n * Cv.turn z n % Cv.P := by rw [Cv.turn, hcn]
      have HST := Lib.hid hstep
      clear hts hc hcn hstep
      go_upto_region 6 with (first
        | (refine wpList_load_mid rfl 39 (.tmp 3) rfl (w.heap.size + 1 + 1) 0 rfl (o.map i64v) _ hrg Try.underlying39 rfl SZO.out ?_)
        | (go_at_call 22; refine (HTS.out _).mono ?_; rintro e w5 ⟨⟨r, rfl, hr1, hr2⟩, hb5⟩; have RR := Lib.hid hr1; have RV := Lib.hid hr2; have B5 := Lib.hid hb5; have ROM5 := Lib.hid (show Rom w5 (w.heap.size + 1 + 1) 16 39 from HC.out.1.1 ▸ (HO.out.stay hb5).rom); clear hr1 hr2 hb5)
        | (refine wpList_store_mid rfl 39 (.tmp 3) (.tmp 12) rfl (w.heap.size + 1 + 1) 0 (r.map i64v).toArray rfl rfl (thOf RR.out.1 ROM5.out) (szOf2 RR.out.1) (limOne r) ?_; generalize hW : World.setCells _ _ _ _ = w6; have HW := Lib.hid hW; clear hW))
      have LX6 := Lib.hid (show Lim w6 w.heap.size 39 xs by rw [← HW.out]; exact Lim.sets (HLX.out.stay B5.out) (by omega))
      have LR6 := Lib.hid (show Rom w6 (w.heap.size + 1) 16 39 by rw [← HW.out]; exact Rom.sets (HR.out.stay B5.out) (by omega))
      have LO6 := Lib.hid (show Lim w6 (w.heap.size + 1 + 1) 39 r by rw [← HW.out]; exact Lim.stored (by rw [RR.out.1]; exact ROM5.out))
      have LB6 := Lib.hid (show Below w.heap.size w w6 by rw [← HW.out]; exact below_setCells (by omega) _ _ _ (HB.out.trans (B5.out.mono HB.out.size)))
      clear hrg HLX HR HO HB ROM5 B5 HW
      have hcase : (((c : Int) != 2) = true ∧ ((c : Int) != 4) = true ∧ (c ≠ 2 ∧ c ≠ 4)) ∨ (((c : Int) != 2) = true ∧ ((c : Int) != 4) = false ∧ ¬ (c ≠ 2 ∧ c ≠ 4)) ∨ (((c : Int) != 2) = false ∧ ¬ (c ≠ 2 ∧ c ≠ 4)) := by
        simp only [bne_iff_ne, ne_eq, bne_eq_false_iff_eq]; omega
      rcases hcase with ⟨c1, c2, c3⟩ | ⟨c1, c2, c3⟩ | ⟨c1, c3⟩
      · have hst := HST.out
        rw [if_pos c3] at hst
        have HSN := Lib.hid hst
        have HTS2 := Lib.hid (fun w => times_lim r xs _ _ w RR.out.fit HXR.out.fit RV.out HXZ.out)
        have hrg1 := range_of LO6.out
        have hrg2 := range_of LX6.out
        have SZR := Lib.hid (szOf RR.out.1)
        clear c3 hst
        go_wp2_with (first
          | (refine wpList_load_mid rfl 39 (.tmp 3) rfl (w.heap.size + 1 + 1) 0 rfl (r.map i64v) _ hrg1 Try.underlying39 rfl SZR.out ?_)
          | (refine wpList_load_mid rfl 39 (.tmp 1) rfl w.heap.size 0 rfl (xs.map i64v) _ hrg2 Try.underlying39 rfl SZX.out ?_)
          | (go_at_call 22; refine (HTS2.out _).mono ?_; rintro e w7 ⟨⟨q, rfl, hr1, hr2⟩, hb5⟩; have QR := Lib.hid hr1; have QV := Lib.hid hr2; have B7 := Lib.hid hb5; have ROM7 := Lib.hid (show Rom w7 (w.heap.size + 1 + 1) 16 39 from RR.out.1 ▸ (LO6.out.stay hb5).rom); clear hr1 hr2 hb5)
          | (refine wpList_store_mid rfl 39 (.tmp 3) (.tmp 21) rfl (w.heap.size + 1 + 1) 0 (q.map i64v).toArray rfl rfl (thOf QR.out.1 ROM7.out) (szOf2 QR.out.1) (limOne q) ?_; generalize hW : World.setCells _ _ _ _ = w8; have HW := Lib.hid hW; clear hW))
        have LX8 := Lib.hid (show Lim w8 w.heap.size 39 xs by rw [← HW.out]; exact Lim.sets (LX6.out.stay B7.out) (by omega))
        have LR8 := Lib.hid (show Rom w8 (w.heap.size + 1) 16 39 by rw [← HW.out]; exact Rom.sets (LR6.out.stay B7.out) (by omega))
        have LO8 := Lib.hid (show Lim w8 (w.heap.size + 1 + 1) 39 q by rw [← HW.out]; exact Lim.stored (by rw [QR.out.1]; exact ROM7.out))
        have LB8 := Lib.hid (show Below w.heap.size w w8 by rw [← HW.out]; exact below_setCells (by omega) _ _ _ (LB6.out.trans (B7.out.mono LB6.out.size)))
        go_roundw
        case rel => exact ⟨n + 1, q, by omega, by have h1 := HCC.out; rw [show (253 : Int) - ((n + 1 : Nat) : Int) = (c : Int) - 1 by omega], LX8, LR8, LO8, Lib.hid ⟨QR.out, by rw [HSN.out]; exact QV.out⟩, LB8⟩
        case measure => simp [intOf] <;> omega
      all_goals
        have hst := HST.out
        rw [if_neg c3] at hst
        have HSN := Lib.hid hst
        clear c3 hst
        go_wp2_with fail
        go_roundw
        case rel => exact ⟨n + 1, r, by omega, by have h1 := HCC.out; rw [show (253 : Int) - ((n + 1 : Nat) : Int) = (c : Int) - 1 by omega], LX6, LR6, LO6, Lib.hid ⟨RR.out, by rw [HSN.out]; exact RV.out⟩, LB6⟩
        case measure => simp [intOf] <;> omega
    · have hd0 : decide (0 ≤ (253 : Int) - (n : Int)) = false := by rw [decide_eq_false_iff_not]; omega
      have hn254 : n = 254 := by omega
      rw [hn254] at HC
      have hrg := range_of HO.out
      have SZO := Lib.hid (szOf HC.out.1.1)
      clear hn254
      go_wp2_with (first
        | (refine wpList_load_mid rfl 39 (.tmp 3) rfl (w.heap.size + 1 + 1) 0 rfl (o.map i64v) _ hrg Try.underlying39 rfl SZO.out ?_)
        | (refine wpList_store_mid rfl 39 (.tmp 2) (.tmp 22) rfl (w.heap.size + 1) 0 (o.map i64v).toArray rfl rfl (thOf HC.out.1.1 HR.out) (szOf2 HC.out.1.1) (limOne o) ?_))
      generalize hW9 : World.setCells _ _ _ _ = w9
      have hb9 : Below w.heap.size w w9 := by rw [← hW9]; exact below_setCells (by omega) _ _ _ HB.out
      have hf9 : Lim w9 (w.heap.size + 1) 39 o := by rw [← hW9]; exact Lim.stored (by rw [HC.out.1.1]; exact HR.out)
      have hl9 := run_loadVar_mid (P := Try.prog) w9 (w.heap.size + 1) 0 39 (o.map i64v) _ (range_of hf9) Try.underlying39 rfl SZO.out
      exact bodyPost_ret (v := .agg (o.map i64v).toArray) (results_c Try.results23 rfl hl9) rfl ⟨⟨o, rfl, HC.out.1, HC.out.2⟩, hb9⟩
end Go.Proofs.Ythoganfinpfibaa
