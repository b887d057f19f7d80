/-
  The walk of LinesBad.
-/
import Derived.Test.YtcbmmkhbfookjaaDoorWLinesBack
import Derived.Test.YtcbmmkhbfookjaaDoorPick
set_option linter.unusedVariables false
set_option linter.unusedSimpArgs false
namespace Go.Con
open Go
theorem RdRow.rest {α : Type} {k : Nat} {f : α → List Value} {d : α} {w : World} {a : Option Addr} {n c : Nat} {l : List α} (h : RdRow k f d w (.slice a n c) l) (m : Nat) (hm : m ≤ n) : RdRow k f d w (.slice (if c = m then a else a.map (·.add (m * k))) (n - m) (c - m)) (l.drop m) := by
  obtain ⟨a', c', h0, h1, h2, h3⟩ := h
  injection h0 with e1 e2 e3
  subst e1 e3
  have hlen : (l.drop m).length = n - m := by simp; omega
  refine ⟨_, c - m, by rw [hlen], by omega, by omega, fun hne => ?_⟩
  have hpos : 0 < (l.drop m).length := List.length_pos_iff.2 hne
  obtain ⟨b, off, rfl, hb, hc⟩ := h3 (fun e => hne (by rw [e]; simp))
  rw [if_neg (by omega)]
  have ad : Addr.add ⟨b, off, none⟩ (m * k) = ⟨b, off + m * k, none⟩ := by
    unfold Addr.add
    split
    · rename_i h0; simp only [Addr.mk.injEq, and_true, true_and]; omega
    · rfl
  refine ⟨b, off + m * k, by rw [Option.map_some, ad], hb, fun i hi j hj => ?_⟩
  rw [hlen] at hi
  have e4 : off + m * k + (k * i + j) = off + (k * (m + i) + j) := by rw [Nat.mul_add, Nat.mul_comm m k]; omega
  rw [e4, hc (m + i) (by omega) j hj, List.getD_eq_getElem?_getD, List.getD_eq_getElem?_getD, List.getElem?_drop]
theorem RdRow.front {α : Type} {k : Nat} {f : α → List Value} {d : α} {w : World} {a : Option Addr} {n c : Nat} {l : List α} (h : RdRow k f d w (.slice a n c) l) (m : Nat) (hm : m ≤ n) : RdRow k f d w (.slice a m m) (l.take m) := by
  obtain ⟨a', c', h0, h1, h2, h3⟩ := h
  injection h0 with e1 e2 e3
  subst e1 e3
  have hlen : (l.take m).length = m := by simp; omega
  refine ⟨a, m, by rw [hlen], by omega, by omega, fun hne => ?_⟩
  obtain ⟨b, off, rfl, hb, hc⟩ := h3 (fun e => hne (by rw [e]; simp))
  refine ⟨b, off, rfl, hb, fun i hi j hj => ?_⟩
  rw [hlen] at hi
  rw [hc i (by omega) j hj, List.getD_eq_getElem?_getD, List.getD_eq_getElem?_getD, List.getElem?_take, if_pos (by omega)]
theorem bad_whole : ∀ q ∈ badL, Whole q := by
  intro q hq
  have h : q.getLast? = some 10 ∧ (10 : UInt8) ∉ q.dropLast := by
    revert q
    decide
  obtain ⟨h1, h2⟩ := h
  refine ⟨q.dropLast, ?_, h2⟩
  obtain ⟨hne, hl⟩ := List.getLast?_eq_some_iff.1 h1 |> fun ⟨ys, hys⟩ => (⟨by rw [hys]; simp, by rw [hys]; simp⟩ : q ≠ [] ∧ q = q.dropLast ++ [10])
  exact hl
theorem bad_short : ∀ q ∈ badL, q.length ≤ 20 := by decide
/-- the first line that is none -/
theorem first_bad {P R pre rest : List (List UInt8)} {b x : List UInt8} (h : pre ++ x :: rest = P ++ b :: R) (hP : ∀ q ∈ P, GoodL q) (hpre : ∀ q ∈ pre, GoodL q) (hb : ¬ GoodL b) (hx : ¬ GoodL x) : pre.length = P.length := by
  rcases Nat.lt_trichotomy pre.length P.length with h1 | h1 | h1
  · exfalso
    have h2 := congrArg (·[pre.length]?) h
    rw [List.getElem?_append_right (Nat.le_refl _), Nat.sub_self, List.getElem?_cons_zero, List.getElem?_append_left h1, List.getElem?_eq_getElem h1] at h2
    exact hx (hP x (by rw [Option.some.inj h2]; exact List.getElem_mem _))
  · exact h1
  · exfalso
    have h2 := congrArg (·[P.length]?) h
    rw [List.getElem?_append_left h1, List.getElem?_eq_getElem h1, List.getElem?_append_right (Nat.le_refl _), Nat.sub_self, List.getElem?_cons_zero] at h2
    exact hb (hpre b (by rw [← Option.some.inj h2]; exact List.getElem_mem _))
theorem app3 (a b c : List UInt8) : (⟨a.toArray⟩ : ByteArray) ++ ⟨b.toArray⟩ ++ ⟨c.toArray⟩ = ⟨(a ++ b ++ c).toArray⟩ := by
  apply bytes_ext
  simp
theorem not_good_of_bad {q : List UInt8} (h : q ∈ badL) : ¬ GoodL q := fun g => by
  have h1 := g.b
  rw [bad_all q h] at h1
  cases h1
end Go.Con
namespace Go.Proofs.YtcbmmkhbfookjaaDoor
open Go.RowKit Go.Con
/-- what reading gives of lines of acts that may be, a line that may not be among them -/
theorem read_bad {w w' : World} {xs ys : List Acx} {b : List UInt8} {s : List UInt8} {v : Value} {i c : Int} (hs : s = linesX xs ++ b ++ linesX ys) (hx : ∀ x ∈ xs, x.Ok) (hy : ∀ x ∈ ys, x.Ok) (hl : xs.length ≤ 10) (hl2 : ys.length ≤ 10) (hb : b ∈ badL)
    (h : (4000000 < s.length ∧ v = .slice none 0 0 ∧ i = 0 ∧ c = 1) ∨ (∃ pre, ReadBad s pre c ∧ v = .slice none 0 0 ∧ i = pre.length) ∨ ((∀ p ∈ linesOf s, GoodL p) ∧ (linesOf s).length ≤ 100000 ∧ i = 0 ∧ c = 0 ∧ ∃ L, AllX w' w.heap.size v L ∧ Acts (linesOf s) L)) :
    i = xs.length ∧ c = 3 ∧ v = .slice none 0 0 := by
  subst hs
  have e : linesOf (linesX xs ++ b ++ linesX ys) = xs.map Acx.line ++ b :: ys.map Acx.line := by
    have h1 := linesOf_app (xs.map Acx.line ++ [b]) (linesX ys) (fun q hq => by
      rcases List.mem_append.1 hq with hq | hq
      · exact lines_whole hx q hq
      · rw [List.mem_singleton.1 hq]; exact bad_whole b hb)
    rw [List.flatten_append, ← linesX_flatten, linesOf_acts hy] at h1
    simpa using h1
  rcases h with ⟨h1, -⟩ | ⟨pre, ⟨x, rest, h1, h2, h3⟩, h4, h5⟩ | ⟨h1, -⟩
  · have := linesX_len hx
    have := linesX_len hy
    have := bad_short b hb
    simp at h1
    omega
  · rw [e] at h1
    rcases h3 with ⟨h3, -⟩ | ⟨-, h3, h6⟩
    · have := congrArg List.length h1
      simp at this
      omega
    · have h7 := first_bad h1.symm (lines_good hx) h2 (not_good_of_bad hb) h3
      rw [List.length_map] at h7
      exact ⟨by rw [h5, h7], h6, h4⟩
  · exfalso
    exact not_good_of_bad hb (h1 b (by rw [e]; simp))
set_option maxRecDepth 100000 in
set_option maxHeartbeats 4000000 in
theorem walk_LinesBad (v : Value) (l : List FeatX) (v1 : Value) (at1 : Int) (v2 : Value) (bad : Int) (w : World) (hv : RdFeats w v l) (h1 : IsInt v1 at1) (h2 : IsInt v2 bad) (hV : LnV w) (hR : LnR w) :
    Calls Tryd.prog 5 #[v, v1, v2] w fun e w' => e = .returned (.bool true) ∧ Below w.heap.size w w' := by
  obtain ⟨rfl, a0, a1⟩ := h1
  obtain ⟨rfl, b0, b1⟩ := h2
  have HV := Lib.hid hV
  have HR := Lib.hid hR
  have FE := Lib.hid hv
  clear hV hR hv
  go_enter Tryd.func5, Tryd.ntmps5
  go_upto_region 2 with (go_at_call 6; refine (feats_any v l 10 w FE.out (by decide)).mono ?_; rintro e w2 ⟨v2, xs, rfl, ha, hl, hb⟩; have ALL := Lib.hid ha; have HL := Lib.hid hl; have B2 := Lib.hid hb; clear ha hl hb)
  obtain ⟨va, vc, rfl, hcn, hcm⟩ := ALL.out.own.row
  obtain ⟨n, hn⟩ : ∃ n, n = xs.length := ⟨_, rfl⟩
  rw [← hn] at ALL hcn ⊢
  have hcm2 : vc ≤ 9223372036854775807 := hcm.1
  have hn10 : n ≤ 10 := by have := HL.out; omega
  have HN := Lib.hid hn
  have V2 := Lib.hid (HV.out.stay B2.out)
  have R2 := Lib.hid (HR.out.stay B2.out)
  clear hn hcm
  obtain ⟨k, hk⟩ : ∃ k, k = (pick at1 ((n : Int) + 1)).toNat := ⟨_, rfl⟩
  have hkp : pick at1 ((n : Int) + 1) = (k : Int) := by have := pick_nonneg at1 ((n : Int) + 1) (by omega); omega
  have hkn : k ≤ n := by have := pick_lt at1 ((n : Int) + 1) (by omega); omega
  have PK : Hid (Calls Tryd.prog 10 #[.int .i64 at1, .int .i64 ((n : Int) + 1)] w2 fun e w' => e = .returned (.int .i64 k) ∧ w2 = w') := Lib.hid (by rw [← hkp]; exact picked_any at1 _ w2 a0 a1 (by omega))
  clear hk hkp
  go_upto_region 3 with (go_at_call 10; refine PK.out.mono ?_; rintro e _ ⟨rfl, rfl⟩)
  have A2 := Lib.hid ALL.out.acts
  have F2 := Lib.hid (show RdActs w2 (.slice va k k) (xs.take k) from ⟨A2.out.1.front k hkn, fun x hx => A2.out.2 x (List.mem_of_mem_take hx)⟩)
  have G2 := Lib.hid (show RdActs w2 (.slice (if vc = k then va else va.map (·.add (k * 5))) (n - k) (vc - k)) (xs.drop k) from ⟨A2.out.1.rest k hkn, fun x hx => A2.out.2 x (List.mem_of_mem_drop hx)⟩)
  have OKF := Lib.hid (show ∀ x ∈ xs.take k, x.Ok from fun x hx => ALL.out.ok x (List.mem_of_mem_take hx))
  have OKG := Lib.hid (show ∀ x ∈ xs.drop k, x.Ok from fun x hx => ALL.out.ok x (List.mem_of_mem_drop hx))
  have LF := Lib.hid (show (xs.take k).length = k by rw [List.length_take, ← HN.out]; omega)
  have LG := Lib.hid (show (xs.drop k).length ≤ 10 by rw [List.length_drop, ← HN.out]; omega)
  obtain ⟨s1, hs1⟩ : ∃ s, s = linesX (xs.take k) := ⟨_, rfl⟩
  obtain ⟨s2, hs2⟩ : ∃ s, s = linesX (xs.drop k) := ⟨_, rfl⟩
  have HS1 := Lib.hid hs1
  have HS2 := Lib.hid hs2
  have SH1 : Hid (Calls Tryd.prog 7 #[.slice va k k] w2 fun e w' => e = .returned (.tuple #[.string ⟨s1.toArray⟩, .int .i64 0, .int .i64 0]) ∧ Below w2.heap.size w2 w') := Lib.hid (by rw [hs1]; exact Show_any _ _ _ F2.out OKF.out (by rw [LF.out]; omega) V2.out)
  have SH2 : Hid (∀ W, Below w2.heap.size w2 W → Calls Tryd.prog 7 #[.slice (if vc = k then va else va.map (·.add (k * 5))) (n - k) (vc - k)] W fun e w' => e = .returned (.tuple #[.string ⟨s2.toArray⟩, .int .i64 0, .int .i64 0]) ∧ Below W.heap.size W w') := Lib.hid (fun W hW => by rw [hs2]; exact Show_any _ _ _ (G2.out.stay hW) OKG.out (by have := LG.out; omega) (V2.out.stay hW))
  clear hs1 hs2
  go_upto_region 4 with (go_at_call 7; refine SH1.out.mono ?_; rintro e w3 ⟨rfl, h3⟩; have B3 := Lib.hid h3; clear h3)
  have hck : (vc = n ∧ k = n ∧ Hid (∀ W, Below w2.heap.size w2 W → Calls Tryd.prog 7 #[.slice va 0 0] W fun e w' => e = .returned (.tuple #[.string ⟨s2.toArray⟩, .int .i64 0, .int .i64 0]) ∧ Below W.heap.size W w')) ∨
      (k < vc ∧ ¬ (vc = k) ∧ ¬ (k = vc) ∧ Hid (∀ W, Below w2.heap.size w2 W → Calls Tryd.prog 7 #[.slice (va.map (·.add (k * 5))) (n - k) (vc - k)] W fun e w' => e = .returned (.tuple #[.string ⟨s2.toArray⟩, .int .i64 0, .int .i64 0]) ∧ Below W.heap.size W w')) := by
    by_cases h : vc = k
    · have h2 : k = n := by omega
      refine .inl ⟨by omega, h2, ?_⟩
      rw [if_pos h, h, h2, Nat.sub_self] at SH2
      exact SH2
    · refine .inr ⟨by omega, h, fun e => h e.symm, ?_⟩
      rw [if_neg h] at SH2
      exact SH2
  obtain ⟨j, hj⟩ : ∃ j, j = (pick bad 11).toNat := ⟨_, rfl⟩
  have hjp : pick bad 11 = (j : Int) := by have := pick_nonneg bad 11 (by omega); omega
  have hj11 : j < 11 := by have := pick_lt bad 11 (by omega); omega
  have PJ : Hid (∀ W, Calls Tryd.prog 10 #[.int .i64 bad, .int .i64 11] W fun e w' => e = .returned (.int .i64 j) ∧ W = w') := Lib.hid (fun W => by rw [← hjp]; exact picked_any bad 11 W b0 b1 (by decide))
  clear hj hjp SH2
  obtain ⟨bw, hbw⟩ : ∃ b, b = badL.getD j [] := ⟨_, rfl⟩
  have BWM := Lib.hid (show bw ∈ badL by rw [hbw, List.getD_eq_getElem?_getD, List.getElem?_eq_getElem (by exact hj11)]; exact List.getElem_mem _)
  have HBW := Lib.hid hbw
  clear hbw
  rcases hck with ⟨rfl, rfl, SH2⟩ | ⟨hc1, hc2, hc3, SH2⟩
  all_goals
    go_upto_region 5 with (go_at_call 7; refine (SH2.out _ B3.out).mono ?_; rintro e w4 ⟨rfl, h4⟩; have B4 := Lib.hid (B3.out.trans (h4.mono B3.out.size)); clear h4)
    go_upto_region 6 with fail
    generalize hW : World.alloc _ _ = w5
    have B5 := Lib.hid (show Below w2.heap.size w2 w5 by rw [← hW]; exact B4.out.alloc B4.out.size _)
    have T5 := Lib.hid (show w5.heap[w4.heap.size]? = some (.cells (badL.map fun q => .string ⟨q.toArray⟩).toArray 9 (0, 0)) by rw [← hW]; exact heapNew _ _)
    obtain ⟨tb, htb⟩ : ∃ z, z = w4.heap.size := ⟨_, rfl⟩
    rw [← htb] at T5 ⊢
    have y0 : w5.cell? ⟨tb, j, none⟩ = some (.string ⟨bw.toArray⟩) := cellAt T5.out j (by
      rw [HBW.out, List.getElem?_toArray, List.getElem?_map, List.getD_eq_getElem?_getD, List.getElem?_eq_getElem (show j < badL.length from hj11)]; rfl)
    have hji : (0 : Int) ≤ j := by omega
    have hji2 : (j : Int) < 11 := by omega
    clear hW htb
    have hl1 : s1.length ≤ 50000 := by
      have h1 := linesX_len OKF.out
      rw [← HS1.out, LF.out] at h1
      omega
    have hl2 : s2.length ≤ 50000 := by
      have h1 := linesX_len OKG.out
      rw [← HS2.out] at h1
      have := LG.out
      omega
    have hl3 : bw.length ≤ 20 := bad_short bw BWM.out
    have RB : Hid (Calls Tryd.prog 8 #[.string ((⟨s1.toArray⟩ : ByteArray) ++ ⟨bw.toArray⟩ ++ ⟨s2.toArray⟩)] w5 fun e w' => e = .returned (.tuple #[.slice none 0 0, .int .i64 k, .int .i64 3]) ∧ Below w5.heap.size w5 w') := Lib.hid (by
      rw [app3]
      refine (Read_all (s1 ++ bw ++ s2) w5 (V2.out.stay B5.out) (R2.out.stay B5.out)).mono ?_
      rintro e w' ⟨v, i, c, rfl, hb, hp⟩
      obtain ⟨rfl, rfl, rfl⟩ := read_bad (xs := xs.take k) (ys := xs.drop k) (b := bw) (by rw [HS1.out, HS2.out]) OKF.out OKG.out (by rw [LF.out]; omega) LG.out BWM.out hp
      exact ⟨by rw [LF.out], hb⟩)
    go_wp2_with (first
      | (go_at_call 10; refine (PJ.out _).mono ?_; rintro e _ ⟨rfl, rfl⟩)
      | (go_at_call 8; refine RB.out.mono ?_; rintro e w6 ⟨rfl, h6⟩; have FIN := Lib.hid (show Below w.heap.size w w6 from B2.out.trans ((B5.out.trans (h6.mono B5.out.size)).mono B2.out.size)); clear h6))
    go_ret
    exact ⟨rfl, FIN.out⟩
end Go.Proofs.YtcbmmkhbfookjaaDoor
