/-
  The walk of LinesBack.
-/
import Derived.Test.YtcbmmkhbfookjaaDoorLnF
import Derived.Test.YtcbmmkhbfookjaaDoorFea
import Derived.Test.YtcbmmkhbfookjaaDoorSameK
set_option linter.unusedVariables false
set_option linter.unusedSimpArgs false
namespace Go.Proofs.YtcbmmkhbfookjaaDoor
open Go.RowKit Go.Con
theorem actsAt {w : World} {a : Option Addr} {n c : Nat} {l : List Acx} (h : RdActs w (.slice a n c) l) (q : Nat) (hq : q < n) : n = l.length ∧ ∃ b off, a = some ⟨b, off, none⟩ ∧ b < w.heap.size ∧ w.cell? ⟨b, off + q * 5, none⟩ = some (.int .i64 (l.getD q Acx.zero).k) ∧ w.cell? ⟨b, off + q * 5 + 1, none⟩ = some (.int .i64 (l.getD q Acx.zero).n) ∧ w.cell? ⟨b, off + q * 5 + 2, none⟩ = some (.int .i64 (l.getD q Acx.zero).a) ∧ w.cell? ⟨b, off + q * 5 + 3, none⟩ = some (.int .i64 (l.getD q Acx.zero).p) ∧ w.cell? ⟨b, off + q * 5 + 4, none⟩ = some (l.getD q Acx.zero).dv ∧ Rd w (l.getD q Acx.zero).dv (l.getD q Acx.zero).d := by
  obtain ⟨h1, h2, h3⟩ := h.1.cells
  obtain ⟨b, off, rfl, hb, hc⟩ := h3 q hq
  have hm : l.getD q Acx.zero ∈ l := by rw [List.getD_eq_getElem?_getD, List.getElem?_eq_getElem (by omega)]; exact List.getElem_mem _
  refine ⟨h1, b, off, rfl, hb, ?_, ?_, ?_, ?_, ?_, h.2 _ hm⟩
  · rw [show off + q * 5 = off + (5 * q + 0) by omega]; exact hc 0 (by decide)
  · rw [show off + q * 5 + 1 = off + (5 * q + 1) by omega]; exact hc 1 (by decide)
  · rw [show off + q * 5 + 2 = off + (5 * q + 2) by omega]; exact hc 2 (by decide)
  · rw [show off + q * 5 + 3 = off + (5 * q + 3) by omega]; exact hc 3 (by decide)
  · rw [show off + q * 5 + 4 = off + (5 * q + 4) by omega]; exact hc 4 (by decide)
/-- what reading gives of lines of acts that may be -/
theorem read_back {w w' : World} {xs : List Acx} {s : List UInt8} {v : Value} {i c : Int} (hs : s = linesX xs) (hok : ∀ x ∈ xs, x.Ok) (hl : xs.length ≤ 30)
    (h : (4000000 < s.length ∧ v = .slice none 0 0 ∧ i = 0 ∧ c = 1) ∨ (∃ pre, ReadBad s pre c ∧ v = .slice none 0 0 ∧ i = pre.length) ∨ ((∀ p ∈ linesOf s, GoodL p) ∧ (linesOf s).length ≤ 100000 ∧ i = 0 ∧ c = 0 ∧ ∃ L, AllX w' w.heap.size v L ∧ Acts (linesOf s) L)) :
    i = 0 ∧ c = 0 ∧ ∃ L, AllX w' w.heap.size v L ∧ Acts (xs.map Acx.line) L := by
  subst hs
  rw [linesOf_acts hok] at h
  rcases h with ⟨h1, -⟩ | ⟨pre, ⟨x, rest, h1, h2, h3⟩, -⟩ | ⟨-, -, h1, h2, h3⟩
  · have := linesX_len hok; omega
  · exfalso
    rw [linesOf_acts hok] at h1
    have h4 : pre.length < xs.length := by
      have := congrArg List.length h1
      simp at this; omega
    rcases h3 with ⟨h3, -⟩ | ⟨-, h3, -⟩
    · omega
    · exact h3 (lines_good hok x (by rw [h1]; simp))
  · exact ⟨h1, h2, h3⟩
theorem alloc2L {w w0 : World} {A B : Obj} (h : (w.alloc A).alloc B = w0) : w0.heap[w.heap.size]? = some A ∧ w0.heap[w.heap.size + 1]? = some B ∧ Below w.heap.size w w0 ∧ w0.heap.size = w.heap.size + 2 := by
  subst h
  exact ⟨heapNew0 _ _ _, heapNew1 _ _ _, ((Below.refl _ _).alloc (Nat.le_refl _) _).alloc (by simp) _, by simp⟩
set_option maxRecDepth 100000 in
set_option maxHeartbeats 4000000 in
theorem walk_LinesBack (v : Value) (l : List FeatX) (w : World) (hv : RdFeats w v l) (hV : LnV w) (hR : LnR w) :
    Calls Tryd.prog 3 #[v] w fun e w' => e = .returned (.bool true) ∧ Below w.heap.size w w' := by
  have HV := Lib.hid hV
  have HR := Lib.hid hR
  have FE := Lib.hid hv
  clear hV hR hv
  go_enter Tryd.func3, Tryd.ntmps3
  go_upto_region 2 with (go_at_call 6; refine (feats_any v l 30 w FE.out (by decide)).mono ?_; rintro e w2 ⟨v2, xs, rfl, ha, hl, hb⟩; have ALL := Lib.hid ha; have HL := Lib.hid hl; have B2 := Lib.hid hb; clear ha hl hb)
  obtain ⟨va, vc, rfl, -, -⟩ := ALL.out.own.row
  obtain ⟨n, hn⟩ : ∃ n, n = xs.length := ⟨_, rfl⟩
  rw [← hn] at ALL ⊢
  have hn30 : n ≤ 30 := by have := HL.out; omega
  have HN := Lib.hid hn
  have V2 := Lib.hid (HV.out.stay B2.out)
  have R2 := Lib.hid (HR.out.stay B2.out)
  clear hn
  go_upto_region 3 with (go_at_call 7; refine (Show_any _ xs _ ALL.out.acts ALL.out.ok (by rw [← HN.out]; omega) V2.out).mono ?_; rintro e w3 ⟨rfl, h3⟩; have B3 := Lib.hid h3; clear h3)
  obtain ⟨s, hs⟩ : ∃ s, s = linesX xs := ⟨_, rfl⟩
  rw [← hs]
  have HS := Lib.hid hs
  have V3 := Lib.hid (V2.out.stay B3.out)
  have R3 := Lib.hid (R2.out.stay B3.out)
  have A3 := Lib.hid (ALL.out.acts.stay B3.out)
  clear hs
  go_upto_region 4 with (go_at_call 8; refine (Read_all s _ V3.out R3.out).mono ?_; rintro e w4 ⟨v4, i, c, rfl, hb, hp⟩; have B4 := Lib.hid hb; have HP := Lib.hid (read_back HS.out ALL.out.ok (by rw [← HN.out]; omega) hp); clear hb hp)
  obtain ⟨rfl, rfl, L, hall, hacts⟩ := HP.out
  clear HP
  obtain ⟨wa, wc, rfl, -, -⟩ := hall.own.row
  obtain ⟨hLn, hLs⟩ := acts_same ALL.out.ok hacts
  rw [← HN.out] at hLn
  rw [hLn] at hall ⊢
  have C4 := Lib.hid hall.acts
  have A4 := Lib.hid (A3.out.stay B4.out)
  have SAME := Lib.hid hLs
  have B24 := Lib.hid (show Below w.heap.size w w4 from B2.out.trans ((B3.out.trans (B4.out.mono B3.out.size)).mono B2.out.size))
  clear hall hacts hLn hLs
  go_upto_region 7 with fail
  have inv0 : Hid (Below w4.heap.size w4 w4) := Lib.hid (Below.refl _ _)
  go_loopw [10] (fun i wr => ∃ q : Nat, q ≤ n ∧ i = .int .i64 q ∧ Hid (Below w4.heap.size w4 wr)) (fun i _ => n - (intOf i).toNat)
  case atStart => exact ⟨0, by omega, rfl, inv0⟩
  case round =>
    clear inv0
    obtain ⟨q, hqn, rfl, HI⟩ := hrel
    have FIN := Lib.hid (show Below w.heap.size w wr from B24.out.trans (HI.out.mono B24.out.size))
    by_cases hq : q < n
    · have hd1 : decide ((q : Int) < n) = true := by rw [decide_eq_true_eq]; omega
      have hd1n : decide (q < n) = true := by rw [decide_eq_true_eq]; omega
      obtain ⟨-, ab, aoff, rfl, hab, x0, x1, x2, x3, x4, xr⟩ := actsAt (A4.out.stay HI.out) q hq
      obtain ⟨-, bb, boff, rfl, hbb, y0, y1, y2, y3, y4, yr⟩ := actsAt (C4.out.stay HI.out) q hq
      obtain ⟨s1, s2, s3, s4, s5⟩ := SAME.out q (by rw [← HN.out]; exact hq)
      rw [s1] at y0
      rw [s2] at y1
      rw [s3] at y2
      rw [s4] at y3
      rw [s5] at yr
      clear s1 s2 s3 s4 s5
      obtain ⟨⟨xk, xn, xa, xp, xdv, xd⟩, hx⟩ : ∃ x, x = xs.getD q Acx.zero := ⟨_, rfl⟩
      rw [← hx] at x0 x1 x2 x3 x4 xr y0 y1 y2 y3 yr
      obtain ⟨ydv, hy⟩ : ∃ y, y = (L.getD q Acx.zero).dv := ⟨_, rfl⟩
      rw [← hy] at y4 yr
      dsimp only at x0 x1 x2 x3 x4 xr y0 y1 y2 y3 yr
      obtain ⟨da, dc, hdx, -, -⟩ := xr.slice
      obtain ⟨ea, ec, hdy, -, -⟩ := yr.slice
      subst hdx hdy
      obtain ⟨nd, hnd⟩ : ∃ z, z = xd.length := ⟨_, rfl⟩
      rw [← hnd] at x4 y4 xr yr
      have XR := Lib.hid xr
      have YR := Lib.hid yr
      clear hx hy hnd xr yr
      go_upto_region 11 with fail
      generalize hW : World.alloc _ _ = w5
      obtain ⟨u0, u1, u2, u3⟩ := alloc2L hW
      obtain ⟨rb, hrb⟩ : ∃ z, z = wr.heap.size := ⟨_, rfl⟩
      rw [← hrb] at u0 u1 u2 u3 ⊢
      have B5 := Lib.hid u2
      clear hW x0 x1 x2 x3 x4 y0 y1 y2 y3 y4
      have x0 := cellAt u0 0 rfl
      have x1 := cellAt u0 1 rfl
      have x2 := cellAt u0 2 rfl
      have x3 := cellAt u0 3 rfl
      have x4 := cellAt u0 4 rfl
      have y0 := cellAt u1 0 rfl
      have y1 := cellAt u1 1 rfl
      have y2 := cellAt u1 2 rfl
      have y3 := cellAt u1 3 rfl
      have y4 := cellAt u1 4 rfl
      have X5 := Lib.hid (show Rd w5 (.slice da nd dc) xd from XR.out.stay (by rw [← hrb]; exact u2))
      have Y5 := Lib.hid (show Rd w5 (.slice ea nd ec) xd from YR.out.stay (by rw [← hrb]; exact u2))
      have NEW := Lib.hid (show Below w4.heap.size w4 w5 from HI.out.trans (u2.mono (by rw [hrb]; exact HI.out.size)))
      clear u0 u1 u2 u3 hrb
      go_wp2_with (go_at_call 9; refine (same_true _ _ _ _ _ X5.out Y5.out rfl).mono ?_; rintro e _ ⟨rfl, rfl⟩)
      exact ⟨⟨q + 1, by omega, by go_num, NEW⟩, by simp [intOf]; omega⟩
    · have hj2 : q = n := by omega
      subst hj2
      have hd1 : decide ((q : Int) < q) = false := by simp
      have hd1n : decide (q < q) = false := by simp
      go_wp2_with fail
      go_ret
      exact ⟨rfl, FIN.out⟩
end Go.Proofs.YtcbmmkhbfookjaaDoor
