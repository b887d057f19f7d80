/-
  The walk of curve's times.
-/
import Derived.Test.YthoganfinpfibaaFdp
set_option linter.unusedVariables false
set_option linter.unusedSimpArgs false
namespace Go.Proofs.Ythoganfinpfibaa
open Go.RowKit Go.Con
theorem alloc4L {w w0 : World} {A B C D : Obj} (h : (((w.alloc A).alloc B).alloc C).alloc D = w0) : w0.heap[w.heap.size]? = some A ∧ w0.heap[w.heap.size + 1]? = some B ∧ w0.heap[w.heap.size + 1 + 1]? = some C ∧ w0.heap[w.heap.size + 1 + 1 + 1]? = some D ∧ Below w.heap.size w w0 ∧ w0.heap.size = w.heap.size + 1 + 1 + 1 + 1 := by
  subst h
  have e : (((w.alloc A).alloc B).alloc C).heap.size = w.heap.size + 1 + 1 + 1 := by simp
  obtain ⟨h1, h2, h3, h4⟩ := alloc3L (w := w) (A := A) (B := B) (C := C) rfl
  refine ⟨(heapOld _ _ _ (by simp; omega)).trans h1, (heapOld _ _ _ (by simp)).trans h2, (heapOld _ _ _ (by simp)).trans h3, ?_, h4.alloc (by simp; omega) _, by simp⟩
  rw [← e]; exact heapNew _ _
theorem index16 (s : List Int) (hs : s.length = 16) (k : Nat) (hk : k < 16) (W : World) : (Instr.index 39 (.agg (s.map i64v).toArray) (.int .i64 k)).run Try.prog W = .ok (.int .i64 (Cv.at0 s k)) W := by
  match s, hs with
  | [a0, a1, a2, a3, a4, a5, a6, a7, a8, a9, a10, a11, a12, a13, a14, a15], _ =>
    have h : k = 0 ∨ k = 1 ∨ k = 2 ∨ k = 3 ∨ k = 4 ∨ k = 5 ∨ k = 6 ∨ k = 7 ∨ k = 8 ∨ k = 9 ∨ k = 10 ∨ k = 11 ∨ k = 12 ∨ k = 13 ∨ k = 14 ∨ k = 15 := by omega
    rcases h with rfl | rfl | rfl | rfl | rfl | rfl | rfl | rfl | rfl | rfl | rfl | rfl | rfl | rfl | rfl | rfl <;> (show _ = _; kernel_rfl)
theorem ckB (s : List Int) (hs : s.length = 16) (h : ∀ j, -200000000000000 ≤ Cv.at0 s j ∧ Cv.at0 s j ≤ 200000000000000) : (Cv.ck s 16).length = 16 ∧ ∀ j, -1000000000000000 ≤ Cv.at0 (Cv.ck s 16) j ∧ Cv.at0 (Cv.ck s 16) j ≤ 1000000000000000 := by
  obtain ⟨c, h1⟩ := Cv.carried s 200000000000000 hs (by decide) h
  have hv := Cv.val_le s (-200000000000000) 200000000000000 (by decide) (by decide) h 16
  rw [List.take_of_length_le (by omega)] at hv
  have h2 := h1.lo
  have h3 := h1.hi
  have h4 := h1.low
  rw [Cv.pw16] at hv h2 h3
  refine ⟨h1.len, fun j => ?_⟩
  by_cases hj : j = 0
  · subst hj; omega
  · by_cases hj2 : j < 16
    · have := h1.dig j (by omega) hj2; omega
    · rw [Cv.at_out _ _ (by rw [h1.len]; omega)]; omega
set_option maxRecDepth 100000 in
set_option maxHeartbeats 4000000 in
theorem times_any (xs ys : List Int) (w : World) (hx : Cv.Fit xs) (hy : Cv.Fit ys) :
    Calls Try.prog 22 #[.agg (xs.map i64v).toArray, .agg (ys.map i64v).toArray] w
      fun e w' => (∃ zs, e = .returned (.agg (zs.map i64v).toArray) ∧ Cv.Red zs ∧ Cv.Cg (Cv.val zs) (Cv.val xs * Cv.val ys)) ∧ Below w.heap.size w w' := by
  obtain ⟨X, hX⟩ : ∃ X, X = (xs.map i64v).toArray := ⟨_, rfl⟩
  obtain ⟨Y, hY⟩ : ∃ Y, Y = (ys.map i64v).toArray := ⟨_, rfl⟩
  rw [← hX, ← hY]
  have HX := Lib.hid hX
  have HY := Lib.hid hY
  have HXF := Lib.hid hx
  have HYF := Lib.hid hy
  have HIX := Lib.hid (fun k hk W => index16 xs hx.1 k hk W)
  have HIY := Lib.hid (fun k hk W => index16 ys hy.1 k hk W)
  have hsz : (Try.prog.info? 39).map (fun x => x.size) = some (xs.map i64v).length := by rw [List.length_map, hx.1]; exact fldSz
  have hszy : (Try.prog.info? 39).map (fun x => x.size) = some (ys.map i64v).length := by rw [List.length_map, hy.1]; exact fldSz
  have SZX := Lib.hid hsz
  have SZY := Lib.hid hszy
  clear hX hY hx hy hsz hszy
  go_enter Try.func22, Try.ntmps22
  have hr0 : ∀ A B C, ((((w.alloc (.cells X 39)).alloc A).alloc B).alloc C).rangeAt w.heap.size 0 (xs.map i64v) := fun A B C => range_of (t := 39) (f := (0, 0)) (by rw [← HX.out]; exact (alloc4L rfl).1)
  have HR0 := Lib.hid hr0
  clear hr0
  go_wp2_with (refine wpList_load_mid rfl 39 (.tmp 2) rfl w.heap.size 0 rfl (xs.map i64v) _ (HR0.out _ _ _) Try.underlying39 rfl SZX.out ?_)
  generalize hW : World.alloc _ _ = w0
  obtain ⟨G0, G1, G2, G3, G4, G5⟩ := alloc4L hW
  have LY := Lib.hid (show Lim w0 (w.heap.size + 1) 39 ys by rw [Lim, ← HY.out]; exact G1)
  have LR := Lib.hid (show Rom w0 (w.heap.size + 1 + 1) 16 39 from ⟨_, G2, rfl⟩)
  have LT := Lib.hid (show Lim w0 (w.heap.size + 1 + 1 + 1) 46 (List.replicate 31 0) from G3)
  have LB := Lib.hid G4
  clear hW G0 G1 G2 G3 G4 G5
  go_loopw [13] (fun i wr => ∃ (i' : Nat) (t : List Int), i' ≤ 16 ∧ i = .int .i64 i' ∧ Hid (Cv.Prod xs ys t i' 0) ∧ Hid (Lim wr (w.heap.size + 1 + 1 + 1) 46 t) ∧ Hid (Lim wr (w.heap.size + 1) 39 ys) ∧ Hid (Rom wr (w.heap.size + 1 + 1) 16 39) ∧ Hid (Below w.heap.size w wr)) (fun i _ => 16 - (intOf i).toNat)
  case atStart => exact ⟨0, _, by omega, rfl, Lib.hid (Cv.Prod.start xs ys), LT, LY, LR, LB⟩
  case round =>
    obtain ⟨i, t, hi, rfl, HP, HT, HYb, HR, HB⟩ := hrel
    by_cases hlt : i < 16
    · have hdi : decide ((i : Int) < 16) = true := by rw [decide_eq_true_eq]; omega
      have hii := HIX.out i hlt
      obtain ⟨a, ha⟩ : ∃ a, a = Cv.at0 xs i := ⟨_, rfl⟩
      rw [← ha] at hii
      have hab : -140000 ≤ a ∧ a ≤ 140000 := by rw [ha]; exact HXF.out.2 i
      have hrg := range_of HYb.out
      have HA := Lib.hid ha
      clear ha
      go_wp2_with (refine wpList_load_mid rfl 39 (.tmp 3) rfl (w.heap.size + 1) 0 rfl (ys.map i64v) _ hrg Try.underlying39 rfl SZY.out ?_)
      clear hii hrg
      go_loopw [18] (fun k wr => ∃ (k' : Nat) (t : List Int), k' ≤ 16 ∧ k = .int .i64 k' ∧ Hid (Cv.Prod xs ys t i k') ∧ Hid (Lim wr (w.heap.size + 1 + 1 + 1) 46 t) ∧ Hid (Lim wr (w.heap.size + 1) 39 ys) ∧ Hid (Rom wr (w.heap.size + 1 + 1) 16 39) ∧ Hid (Below w.heap.size w wr)) (fun k _ => 16 - (intOf k).toNat)
      case atStart => exact ⟨0, t, by omega, rfl, HP, HT, HYb, HR, HB⟩
      case round =>
        clear HP HT HYb HR HB
        obtain ⟨k, t, hk, rfl, HP, HT, HYb, HR, HB⟩ := hrel
        by_cases hlk : k < 16
        · have hdk : decide ((k : Int) < 16) = true := by rw [decide_eq_true_eq]; omega
          obtain ⟨c, hc⟩ : ∃ c, c = Cv.at0 ys k := ⟨_, rfl⟩
          have hcb : -140000 ≤ c ∧ c ≤ 140000 := by rw [hc]; exact HYF.out.2 k
          have hik := HIY.out k hlk
          rw [← hc] at hik
          have hmb := Cv.mul_bd a c hab hcb
          obtain ⟨m, hm⟩ : ∃ m, a * c = m := ⟨_, rfl⟩
          rw [hm] at hmb
          obtain ⟨z, hz⟩ : ∃ z, z = Cv.at0 t (i + k) := ⟨_, rfl⟩
          have hzb := HP.out.bd (i + k)
          rw [← hz] at hzb
          have hz1 : -10000000000000 ≤ z := by omega
          have hz2 : z ≤ 10000000000000 := by omega
          obtain ⟨hm1, hm2⟩ := hmb
          have c1 := HT.out.cell (i + k) (by rw [HP.out.len]; omega)
          have f1 := freeAt HT.out (i + k)
          rw [← hz] at c1
          have st := HP.out.step HXF.out HYF.out hlt hlk
          rw [← hz, ← hc, ← HA.out, hm] at st
          have ST := Lib.hid st
          clear hc hz hzb hcb st
          go_wp2
          go_roundw
          case rel =>
            refine ⟨k + 1, _, by omega, by go_num, ST, Lib.hid (Lim.set HT.out (i + k) _), Lib.hid (Lim.other HYb.out _ _ _ (by omega)), Lib.hid (Rom.other HR.out _ _ _ (by omega)), Lib.hid (HB.out.setCell (by show w.heap.size ≤ w.heap.size + 1 + 1 + 1; omega) _)⟩
          case measure => simp [intOf]; omega
        · have hdk : decide ((k : Int) < 16) = false := by rw [decide_eq_false_iff_not]; omega
          have hk16 : k = 16 := by omega
          rw [hk16] at HP
          clear hk16
          go_wp2_with fail
          go_roundw
          case rel => exact ⟨i + 1, t, by omega, by go_num, Lib.hid (HP.out.next HYF.out.1), HT, HYb, HR, HB⟩
          case measure => simp [intOf]; omega
    · have hdi : decide ((i : Int) < 16) = false := by rw [decide_eq_false_iff_not]; omega
      have hi16 : i = 16 := by omega
      rw [hi16] at HP
      have htb : ∀ j, -5017600000000 ≤ Cv.at0 t j ∧ Cv.at0 t j ≤ 5017600000000 := fun j => by have := HP.out.bd j; omega
      have HTB := Lib.hid htb
      clear hi16 htb
      have hws := HB.out.size
      go_wp2_with fail
      have ho0 : Lim (wr.alloc (.cells #[.int .i64 0, .int .i64 0, .int .i64 0, .int .i64 0, .int .i64 0, .int .i64 0, .int .i64 0, .int .i64 0, .int .i64 0, .int .i64 0, .int .i64 0, .int .i64 0, .int .i64 0, .int .i64 0, .int .i64 0, .int .i64 0] 39)) wr.heap.size 39 (List.replicate 16 0) := heapNew _ _
      have LO := Lib.hid ho0
      have LT3 := Lib.hid (HT.out.stay ((Below.refl wr.heap.size wr).alloc (Nat.le_refl _) (.cells #[.int .i64 0, .int .i64 0, .int .i64 0, .int .i64 0, .int .i64 0, .int .i64 0, .int .i64 0, .int .i64 0, .int .i64 0, .int .i64 0, .int .i64 0, .int .i64 0, .int .i64 0, .int .i64 0, .int .i64 0, .int .i64 0] 39)))
      have LR3 := Lib.hid (HR.out.stay ((Below.refl wr.heap.size wr).alloc (Nat.le_refl _) (.cells #[.int .i64 0, .int .i64 0, .int .i64 0, .int .i64 0, .int .i64 0, .int .i64 0, .int .i64 0, .int .i64 0, .int .i64 0, .int .i64 0, .int .i64 0, .int .i64 0, .int .i64 0, .int .i64 0, .int .i64 0, .int .i64 0] 39)))
      have LB3 := Lib.hid (HB.out.alloc hws (.cells #[.int .i64 0, .int .i64 0, .int .i64 0, .int .i64 0, .int .i64 0, .int .i64 0, .int .i64 0, .int .i64 0, .int .i64 0, .int .i64 0, .int .i64 0, .int .i64 0, .int .i64 0, .int .i64 0, .int .i64 0, .int .i64 0] 39))
      have hb1 : w.heap.size + 1 + 1 + 1 < wr.heap.size := lt_of_heap HT.out
      clear ho0 HR HB HYb
      generalize hW3 : World.alloc _ _ = w3 at LO LT3 LR3 LB3 ⊢
      obtain ⟨ob, hob⟩ : ∃ ob, ob = wr.heap.size := ⟨_, rfl⟩
      rw [← hob] at LO hb1 ⊢
      have hob1 : w.heap.size + 1 + 1 + 1 ≠ ob := by omega
      have hob2 : w.heap.size + 1 + 1 ≠ ob := by omega
      have hob3 : w.heap.size ≤ ob := by omega
      have HTL := Lib.hid HP.out.len
      clear hW3 HT hob hws
      go_loopw [34] (fun i wr => ∃ (k : Nat) (o : List Int), k ≤ 16 ∧ i = .int .i64 k ∧ Hid (Cv.Fold t o k) ∧ Hid (Lim wr ob 39 o) ∧ Hid (Lim wr (w.heap.size + 1 + 1 + 1) 46 t) ∧ Hid (Rom wr (w.heap.size + 1 + 1) 16 39) ∧ Hid (Below w.heap.size w wr)) (fun k _ => 16 - (intOf k).toNat)
      case atStart => exact ⟨0, _, by omega, rfl, Lib.hid (Cv.Fold.start t), LO, LT3, LR3, LB3⟩
      case round =>
        clear LO LT3 LR3 LB3
        obtain ⟨k, o, hk, rfl, HF, HO, HT, HR, HB⟩ := hrel
        by_cases hlk : k < 16
        · have hdk : decide ((k : Int) < 16) = true := by rw [decide_eq_true_eq]; omega
          obtain ⟨z, hz⟩ : ∃ z, z = Cv.at0 t k := ⟨_, rfl⟩
          have hzb := HTB.out k
          rw [← hz] at hzb
          obtain ⟨hz1, hz2⟩ := hzb
          have c1 := HT.out.cell k (by rw [HTL.out]; omega)
          rw [← hz] at c1
          have c2 := HO.out.cell k (by rw [HF.out.len]; omega)
          have f2 := freeAt HO.out k
          have HZ := Lib.hid hz
          by_cases h15 : k < 15
          · have hd15 : decide ((k : Int) < 15) = true := by rw [decide_eq_true_eq]; omega
            obtain ⟨y, hy⟩ : ∃ y, y = Cv.at0 t (k + 16) := ⟨_, rfl⟩
            have hyb := HTB.out (k + 16)
            rw [← hy] at hyb
            obtain ⟨hy1, hy2⟩ := hyb
            have st := HF.out.step HTL.out HTB.out h15
            rw [← hz, ← hy] at st
            have ST := Lib.hid st
            have HYv := Lib.hid hy
            clear st hz hy
            go_wp2_with fail
            generalize hW2 : World.setCell _ _ _ = w2
            have ho2 : Lim w2 ob 39 (o.set k z) := by rw [← hW2]; exact Lim.set HO.out k z
            have ht2 : Lim w2 (w.heap.size + 1 + 1 + 1) 46 t := by rw [← hW2]; exact Lim.other HT.out _ _ _ hob1
            have hr2 : Rom w2 (w.heap.size + 1 + 1) 16 39 := by rw [← hW2]; exact Rom.other HR.out _ _ _ hob2
            have hbw2 : Below w.heap.size w w2 := by rw [← hW2]; exact HB.out.setCell hob3 _
            have c3 := ho2.cell k (by rw [List.length_set, HF.out.len]; omega)
            rw [Cv.at_set _ _ _ _ (by rw [HF.out.len]; omega), if_pos rfl] at c3
            have f3 := freeAt ho2 k
            have c4 := ht2.cell (k + 16) (by rw [HTL.out]; omega)
            rw [← HYv.out] at c4
            have HO2 := Lib.hid ho2
            have HT2 := Lib.hid ht2
            have HR2 := Lib.hid hr2
            have HB2 := Lib.hid hbw2
            clear hW2 ho2 ht2 hr2 hbw2 c1 c2 f2
            refine region_quiet_tail 10 (by kernel_rfl) (by kernel_rfl) ?_
            simp only [List.take_succ_cons, List.take_zero, List.drop_succ_cons, List.drop_zero]
            repeat (go_big_quiet_step (fail))
            refine wpQuiet_nil ?_
            intro w9 hw9
            obtain ⟨nq, rfl⟩ := hw9
            go_wp2_with fail
            go_roundw
            case rel =>
              exact ⟨k + 1, _, by omega, by go_num, ST, Lib.hid (Lim.set (w := w2.drewN nq) HO2.out k _), Lib.hid (Lim.other (w := w2.drewN nq) HT2.out _ _ _ hob1), Lib.hid (Rom.other (w := w2.drewN nq) HR2.out _ _ _ hob2), Lib.hid ((below_drewN HB2.out nq).setCell hob3 _)⟩
            case measure => simp [intOf]; omega
          · have hd15 : decide ((k : Int) < 15) = false := by rw [decide_eq_false_iff_not]; omega
            have hk15 : k = 15 := by omega
            have st := HF.out
            rw [hk15] at st
            have st2 := st.last HTL.out HTB.out
            rw [hk15] at HZ
            rw [← HZ.out] at st2
            have ST := Lib.hid (show Cv.Fold t (o.set k z) 16 by rw [hk15]; exact st2)
            have HK15 := Lib.hid hk15
            clear st st2 hz hk15
            go_wp2_with fail
            go_roundw
            case rel => exact ⟨16, _, by omega, by rw [HK15.out]; go_num, ST, Lib.hid (Lim.set HO.out k z), Lib.hid (Lim.other HT.out _ _ _ hob1), Lib.hid (Rom.other HR.out _ _ _ hob2), Lib.hid (HB.out.setCell hob3 _)⟩
            case measure => simp [intOf]; omega
        · have hdk : decide ((k : Int) < 16) = false := by rw [decide_eq_false_iff_not]; omega
          have hk16 : k = 16 := by omega
          rw [hk16] at HF
          have hred := Cv.times_red HXF.out.1 HP.out HF.out
          have hbo : ∀ j, -200000000000000 ≤ Cv.at0 o j ∧ Cv.at0 o j ≤ 200000000000000 := fun j => by have := HF.out.bd j; omega
          have h1 := ckB o HF.out.len hbo
          have HRED := Lib.hid hred
          have HBO := Lib.hid (show ∀ j, -1000000000000000 ≤ Cv.at0 o j ∧ Cv.at0 o j ≤ 1000000000000000 from fun j => by have := hbo j; omega)
          have H1 := Lib.hid h1
          have HOL := Lib.hid HF.out.len
          clear hk16 hred hbo h1
          go_wp2_with fail
          refine (carry_any _ _ o _ HOL.out HBO.out HO.out).mono ?_
          rintro e w5 ⟨rfl, hw5, hk5⟩
          have HW5 := Lib.hid hw5
          have LR5 := Lib.hid (HR.out.kept hk5 (by obtain ⟨cur, hc, -⟩ := HR.out; exact lt_of_heap hc) hob2)
          have LB5 := Lib.hid (HB.out.trans ((hk5.mono (B' := w.heap.size) (S' := fun _ => False) HB.out.size (fun k hk e => by omega)).below (fun _ _ h => h)))
          clear hw5 hk5
          go_wp2_with fail
          refine (carry_any _ _ _ _ H1.out.1 H1.out.2 HW5.out).mono ?_
          rintro e w6 ⟨rfl, hw6, hk6⟩
          obtain ⟨p, hp⟩ : ∃ p, p = Cv.ck (Cv.ck o 16) 16 := ⟨_, rfl⟩
          rw [← hp] at hw6 HRED
          have HW6 := Lib.hid hw6
          have LR6 := Lib.hid (LR5.out.kept hk6 (by obtain ⟨cur, hc, -⟩ := LR5.out; exact lt_of_heap hc) hob2)
          have LB6 := Lib.hid (LB5.out.trans ((hk6.mono (B' := w.heap.size) (S' := fun _ => False) LB5.out.size (fun k hk e => by omega)).below (fun _ _ h => h)))
          have hpl := HRED.out.1.1
          have hrg := range_of HW6.out
          have hsz : (Try.prog.info? 39).map (fun x => x.size) = some (p.map i64v).length := by rw [List.length_map, hpl]; exact fldSz
          have hsz2 : (Try.prog.info? 39).map (fun x => x.size) = some (p.map i64v).toArray.size := by rw [List.size_toArray]; exact hsz
          have hth : w6.there (w.heap.size + 1 + 1) 0 (p.map i64v).toArray.size := by rw [show (p.map i64v).toArray.size = 16 by simp [hpl]]; exact LR6.out.there
          have SZ := Lib.hid hsz
          have SZ2 := Lib.hid hsz2
          have TH := Lib.hid hth
          have PL := Lib.hid hpl
          clear hw6 hk6 hp hpl hsz hsz2 hth
          go_wp2_with (first
            | (refine wpList_load_mid rfl 39 (.tmp 10) rfl ob 0 rfl (p.map i64v) _ hrg Try.underlying39 rfl SZ.out ?_)
            | (refine wpList_store_mid rfl 39 (.tmp 4) (.tmp 57) rfl (w.heap.size + 1 + 1) 0 (p.map i64v).toArray rfl rfl TH.out SZ2.out (limOne p) ?_))
          generalize hW9 : World.setCells _ _ _ _ = w9
          have hb9 : Below w.heap.size w w9 := by rw [← hW9]; exact below_setCells (by omega) _ _ _ LB6.out
          have hf9 : Lim w9 (w.heap.size + 1 + 1) 39 p := by rw [← hW9]; exact Lim.stored (by rw [PL.out]; exact LR6.out)
          have hl9 := run_loadVar_mid (P := Try.prog) w9 (w.heap.size + 1 + 1) 0 39 (p.map i64v) _ (range_of hf9) Try.underlying39 rfl SZ.out
          exact bodyPost_ret (v := .agg (p.map i64v).toArray) (results_c Try.results22 rfl hl9) rfl ⟨⟨p, rfl, HRED.out.1, HRED.out.2⟩, hb9⟩
end Go.Proofs.Ythoganfinpfibaa
