/-
  The walk of AcceptOne.
-/
import Derived.Test.YtdkbajdnckmckaaSac
set_option linter.unusedVariables false
set_option linter.unusedSimpArgs false
namespace Go.Con
open Go
/-- how many votes are for other slots -/
def cntNe (s : Int) (l : List Vot) : Nat := (l.filter fun v => !(v.slot == s)).length
theorem cntNe_snoc (s : Int) (l : List Vot) (v : Vot) : cntNe s (l ++ [v]) = cntNe s l + if (v.slot == s) = true then 0 else 1 := by
  unfold cntNe
  rw [List.filter_append, List.length_append]
  cases h : (v.slot == s) <;> simp [h]
theorem cntNe_le (s : Int) (l : List Vot) : cntNe s l ≤ l.length := List.length_filter_le _ _
theorem cntNe_parts (s : Int) (l : List Vot) : cntNe s l = (l.filter fun v => decide (v.slot < s)).length + (l.filter fun v => decide (s < v.slot)).length := by
  induction l with
  | nil => rfl
  | cons v l ih =>
    unfold cntNe at ih ⊢
    rcases Int.lt_trichotomy v.slot s with h | h | h
    · have h1 : (v.slot == s) = false := by simp; omega
      have h2 : ¬ s < v.slot := by omega
      simp [List.filter_cons, h, h1, h2]; omega
    · have h1 : (v.slot == s) = true := by simpa using h
      have h2 : ¬ s < v.slot := by omega
      have h3 : ¬ v.slot < s := by omega
      simp [List.filter_cons, h1, h2, h3]; omega
    · have h1 : (v.slot == s) = false := by simp; omega
      have h2 : ¬ v.slot < s := by omega
      simp [List.filter_cons, h, h1, h2]; omega
theorem cntNe_put (y : Vot) (l : List Vot) : cntNe y.slot (putV y l) = cntNe y.slot l := by
  rw [cntNe_parts y.slot l]
  unfold cntNe putV
  rw [List.filter_append, List.filter_cons, List.filter_filter, List.filter_filter, List.length_append]
  have h1 : (l.filter fun v => !(v.slot == y.slot) && decide (v.slot < y.slot)) = l.filter fun v => decide (v.slot < y.slot) := by
    congr 1; funext v
    by_cases h : v.slot < y.slot
    · have : (v.slot == y.slot) = false := by simp; omega
      simp [h, this]
    · simp [h]
  have h2 : (l.filter fun v => !(v.slot == y.slot) && decide (y.slot < v.slot)) = l.filter fun v => decide (y.slot < v.slot) := by
    congr 1; funext v
    by_cases h : y.slot < v.slot
    · have : (v.slot == y.slot) = false := by simp; omega
      simp [h, this]
    · simp [h]
  rw [h1, h2, if_neg (by simp)]
end Go.Con
namespace Go.Proofs.Ytdkbajdnckmckaa
open Go.RowKit Go.Con
theorem votTake {P : List Vot} {q : Nat} (h : q < P.length) : P.take (q + 1) = P.take q ++ [P.getD q Vot.zero] := by
  rw [List.take_add_one, List.getElem?_eq_getElem h, List.getD_eq_getElem?_getD, List.getElem?_eq_getElem h]; rfl
theorem votMem {P : List Vot} {q : Nat} (h : q < P.length) : P.getD q Vot.zero ∈ P := by
  rw [List.getD_eq_getElem?_getD, List.getElem?_eq_getElem h]; exact List.getElem_mem _
/-- two votes, number by number -/
theorem vot_cases (b0 b1 b2 b3 b4 b5 b6 b7 p0 p1 p2 p3 p4 p5 p6 p7 : Int) : (b0 = p0 ∧ b1 = p1 ∧ b2 = p2 ∧ b3 = p3 ∧ b4 = p4 ∧ b5 = p5 ∧ b6 = p6 ∧ b7 = p7) ∨ ((⟨b0, (b1, b2), ⟨b3, b4, b5, b6, b7⟩⟩ : Vot) ≠ ⟨p0, (p1, p2), ⟨p3, p4, p5, p6, p7⟩⟩ ∧ (((b0 == p0) = false) ∨ (b0 = p0 ∧ (b1 == p1) = false) ∨ (b0 = p0 ∧ b1 = p1 ∧ (b2 == p2) = false) ∨ (b0 = p0 ∧ b1 = p1 ∧ b2 = p2 ∧ (b3 == p3) = false) ∨ (b0 = p0 ∧ b1 = p1 ∧ b2 = p2 ∧ b3 = p3 ∧ (b4 == p4) = false) ∨ (b0 = p0 ∧ b1 = p1 ∧ b2 = p2 ∧ b3 = p3 ∧ b4 = p4 ∧ (b5 == p5) = false) ∨ (b0 = p0 ∧ b1 = p1 ∧ b2 = p2 ∧ b3 = p3 ∧ b4 = p4 ∧ b5 = p5 ∧ (b6 == p6) = false) ∨ (b0 = p0 ∧ b1 = p1 ∧ b2 = p2 ∧ b3 = p3 ∧ b4 = p4 ∧ b5 = p5 ∧ b6 = p6 ∧ (b7 == p7) = false))) := by
  by_cases h : b0 = p0 ∧ b1 = p1 ∧ b2 = p2 ∧ b3 = p3 ∧ b4 = p4 ∧ b5 = p5 ∧ b6 = p6 ∧ b7 = p7
  · exact .inl h
  · refine .inr ⟨fun e => h ?_, ?_⟩
    · injection e with e1 e2 e3
      injection e2 with e4 e5
      injection e3 with e6 e7 e8 e9 e10
      exact ⟨e1, e4, e5, e6, e7, e8, e9, e10⟩
    · by_cases h0 : b0 = p0
      case neg => exact .inl (by simpa using h0)
      by_cases h1 : b1 = p1
      case neg => exact .inr (.inl ⟨h0, by simpa using h1⟩)
      by_cases h2 : b2 = p2
      case neg => exact .inr (.inr (.inl ⟨h0, h1, by simpa using h2⟩))
      by_cases h3 : b3 = p3
      case neg => exact .inr (.inr (.inr (.inl ⟨h0, h1, h2, by simpa using h3⟩)))
      by_cases h4 : b4 = p4
      case neg => exact .inr (.inr (.inr (.inr (.inl ⟨h0, h1, h2, h3, by simpa using h4⟩))))
      by_cases h5 : b5 = p5
      case neg => exact .inr (.inr (.inr (.inr (.inr (.inl ⟨h0, h1, h2, h3, h4, by simpa using h5⟩)))))
      by_cases h6 : b6 = p6
      case neg => exact .inr (.inr (.inr (.inr (.inr (.inr (.inl ⟨h0, h1, h2, h3, h4, h5, by simpa using h6⟩))))))
      by_cases h7 : b7 = p7
      case neg => exact .inr (.inr (.inr (.inr (.inr (.inr (.inr ⟨h0, h1, h2, h3, h4, h5, h6, by simpa using h7⟩))))))
      exact absurd ⟨h0, h1, h2, h3, h4, h5, h6, h7⟩ h
set_option maxRecDepth 100000 in
set_option maxHeartbeats 8000000 in
theorem walk_AcceptOne (v : Value) (l : List Cmd) (u1 : Value) (x : Int) (u2 : Value) (y : Int) (w : World) (hv : RdWishes w v l) (hu1 : IsInt u1 x) (hu2 : IsInt u2 y) :
    Calls Try.prog 5 #[v, u1, u2] w fun e w' => e = .returned (.bool true) ∧ Below w.heap.size w w' := by
  obtain ⟨rfl, hx1, hx2⟩ := hu1
  obtain ⟨rfl, hy1, hy2⟩ := hu2
  have HV := Lib.hid hv
  obtain ⟨ea, ec, rfl, -⟩ := hv
  obtain ⟨s, hs⟩ : ∃ a, a = pick x 6 := ⟨_, rfl⟩
  have s0 : 0 ≤ s := by rw [hs]; exact pick_nonneg x 6 (by omega)
  have s6 : s < 6 := by rw [hs]; exact pick_lt x 6 (by omega)
  obtain ⟨aq, haq⟩ : ∃ a, a = pick y 100 := ⟨_, rfl⟩
  have aq0 : 0 ≤ aq := by rw [haq]; exact pick_nonneg y 100 (by omega)
  have aq9 : aq < 100 := by rw [haq]; exact pick_lt y 100 (by omega)
  have PS := Lib.hid hs.symm
  have PQ := Lib.hid haq.symm
  clear hs haq
  have OKB := Lib.hid (show okB (20, 1) = true by decide)
  have OKV := Lib.hid (show okV ⟨s, (20, 1), ⟨2, 0, aq, 0, 0⟩⟩ = true from okV_get s0 (by omega) OKB.out aq0 (by omega))
  go_enter Try.func5, Try.ntmps5
  go_upto_region 4 with (first
    | (go_at_call 10; refine (picked_toP _ _ _ _ (by assumption) (by assumption) (by decide) (by assumption)).mono ?_; rintro e _ ⟨rfl, rfl⟩)
    | (go_at_call 13; refine (voted_to _ l _ HV.out).mono ?_; rintro e w1 ⟨pr, pn, va, vc, L, rfl, ho1, hok1, hp1, hl1, hb1⟩; have O1 := Lib.hid ho1; have OK1 := Lib.hid hok1; have P9 := Lib.hid hp1; have B1 := Lib.hid hb1; clear ho1 hok1 hp1 hb1))
  generalize hW : World.alloc _ _ = wA
  have G := alloc2Q hW
  have A7 := Lib.hid (show AccIn wA w1.heap.size pr pn (.slice va L.length vc) from G.1)
  have A10 := Lib.hid G.2.1
  have BA := Lib.hid G.2.2.1
  have VA := Lib.hid (O1.out.votes.stay G.2.2.1)
  clear hW G
  have LEN := Lib.hid (show L.length ≤ 1000 by omega)
  have LOW := Lib.hid (show 0 ≤ cmpB (20, 1) (pr, pn) from Int.not_lt.1 (by rw [cmpB_low]; have := P9.out; dsimp only; omega))
  obtain ⟨P, hP⟩ : ∃ P, P = putV ⟨s, (20, 1), ⟨2, 0, aq, 0, 0⟩⟩ L := ⟨_, rfl⟩
  have OKP := Lib.hid (show okA (20, 1) P = true by rw [hP]; exact okA_put OK1.out OKV.out (Int.not_lt.2 LOW.out))
  have PLEN : P.length ≤ 31 := by rw [hP]; have := putV_length ⟨s, (20, 1), ⟨2, 0, aq, 0, 0⟩⟩ L; omega
  have PMEM := Lib.hid (show ∀ u, u ∈ P ↔ u = ⟨s, (20, 1), ⟨2, 0, aq, 0, 0⟩⟩ ∨ (u ∈ L ∧ u.slot ≠ s) by rw [hP]; exact fun u => mem_putV)
  have PCNT := Lib.hid (show cntNe s P = cntNe s L by rw [hP]; exact cntNe_put ⟨s, (20, 1), ⟨2, 0, aq, 0, 0⟩⟩ L)
  have HP := Lib.hid hP.symm
  clear hP
  obtain ⟨a0, a1, a2⟩ := A7.out.cells
  have d0 := cellAt A10.out 0 rfl
  have d1 := cellAt A10.out 1 rfl
  have d2 := cellAt A10.out 2 rfl
  have d3 := cellAt A10.out 3 rfl
  have d4 := cellAt A10.out 4 rfl
  have d5 := cellAt A10.out 5 rfl
  have d6 := cellAt A10.out 6 rfl
  have d7 := cellAt A10.out 7 rfl
  go_upto_region 5 with (go_at_call 15; refine (Accept_high _ _ _ _ _ _ _ _ _ _ _ L _ VA.out OK1.out OKV.out LEN.out LOW).mono ?_; rintro e w3 ⟨xa, xc, xn, hxn, rfl, ho3, hb3⟩; rw [HP.out] at hxn ho3; have XN := Lib.hid hxn; have B3 := Lib.hid hb3; have O3 := Lib.hid ho3; clear hb3 ho3 hxn)
  clear a0 a1 a2 d0 d1 d2 d3 d4 d5 d6 d7
  generalize hW : World.alloc _ _ = wB
  have BB := Lib.hid (show Below wA.heap.size wA wB by rw [← hW]; exact B3.out.alloc B3.out.size _)
  have A11 := Lib.hid (show AccIn wB w3.heap.size 20 1 (.slice xa xn xc) by rw [← hW]; exact heapNew _ _)
  have VB := Lib.hid (show Votes wB (.slice xa xn xc) P by rw [← hW]; exact O3.out.votes.stay ((Below.refl _ _).alloc (Nat.le_refl _) _))
  clear hW O3
  obtain ⟨a0, a1, a2⟩ := A11.out.cells
  have HC := Lib.hid (show (if okA (20, 1) P then (0 : Int) else 5) = 0 by rw [OKP.out]; rfl)
  go_wp2_with (go_at_call 12; refine (accCheck_to _ _ _ _ P _ VB.out.1 HC).mono ?_; rintro e wC ⟨rfl, hbC⟩; have BC := Lib.hid hbC; clear hbC)
  clear a0 a1 a2
  have A7C := Lib.hid ((A7.out.stay BB.out).stay BC.out)
  have A11C := Lib.hid (A11.out.stay BC.out)
  have A10C := Lib.hid ((BC.out.block _ (Nat.lt_of_lt_of_le (lt_of_heap A10.out) BB.out.size)).trans ((BB.out.block _ (lt_of_heap A10.out)).trans A10.out))
  have RL := Lib.hid ((VA.out.stay BB.out).stay BC.out).1
  have RP := Lib.hid (VB.out.stay BC.out).1
  have BW := Lib.hid (B1.out.trans ((BA.out.trans ((BB.out.trans (BC.out.mono BB.out.size)).mono BA.out.size)).mono B1.out.size))
  obtain ⟨t0, t1, t2⟩ := A7C.out.cells
  obtain ⟨x0, x1, x2⟩ := A11C.out.cells
  have y0 := cellAt A10C.out 0 rfl
  have y1 := cellAt A10C.out 1 rfl
  have y2 := cellAt A10C.out 2 rfl
  have y3 := cellAt A10C.out 3 rfl
  have y4 := cellAt A10C.out 4 rfl
  have y5 := cellAt A10C.out 5 rfl
  have y6 := cellAt A10C.out 6 rfl
  have y7 := cellAt A10C.out 7 rfl
  have hxc : xn ≤ xc ∧ xc ≤ 9223372036854775807 := ⟨RP.out.cells.2.1, by obtain ⟨a, c, e, -, h, -⟩ := RP.out; injection e with e1 e2 e3; rw [e3]; exact h⟩
  have hvc : L.length ≤ vc ∧ vc ≤ 9223372036854775807 := ⟨RL.out.cells.2.1, by obtain ⟨a, c, e, -, h, -⟩ := RL.out; injection e with e1 e2 e3; rw [e3]; exact h⟩
  obtain ⟨ln, hln⟩ : ∃ n, n = L.length := ⟨_, rfl⟩
  rw [← hln] at hvc t2 hl1 ⊢
  have LN := Lib.hid hln
  have RL2 := Lib.hid (show RdV wC (.slice va ln vc) L by rw [hln]; exact RL.out)
  clear hln RL
  have hxn31 : xn ≤ 31 := by rw [XN.out]; exact PLEN
  go_loopw [13, 14, 15] (fun ot fo i wr => ∃ q : Nat, q ≤ xn ∧ i = .int .i64 q ∧ ot = .int .i64 (cntNe s (P.take q)) ∧ fo = .bool ((P.take q).any fun u => u.slot == s) ∧ Hid (∃ k, wr = wC.drewN k)) (fun _ _ i _ => xn - (intOf i).toNat)
  case atStart => exact ⟨0, by omega, rfl, rfl, rfl, Lib.hid ⟨0, rfl⟩⟩
  case round =>
    obtain ⟨q, hqn, rfl, rfl, rfl, HK⟩ := hrel
    obtain ⟨k, hk⟩ := HK.out
    clear HK
    subst hk
    obtain ⟨oc, hoc⟩ : ∃ c, c = cntNe s (P.take q) := ⟨_, rfl⟩
    obtain ⟨fl, hfl⟩ : ∃ b, b = (P.take q).any fun u => u.slot == s := ⟨_, rfl⟩
    rw [← hoc, ← hfl]
    have OC := Lib.hid hoc
    have FL := Lib.hid hfl
    have hoc31 : oc ≤ 31 := by rw [hoc]; have h1 := cntNe_le s (P.take q); have h2 := List.length_take_le q P; omega
    clear hoc hfl
    by_cases hq : q < xn
    · have hd1 : decide ((q : Int) < xn) = true := by rw [decide_eq_true_eq]; omega
      have hd1n : decide (q < xn) = true := by rw [decide_eq_true_eq]; omega
      have hqP : q < P.length := by rw [← XN.out]; exact hq
      obtain ⟨eb, eoff, rfl, hel, hec⟩ := RP.out.cells.2.2 q hq
      obtain ⟨pv, hpv⟩ : ∃ v, v = P.getD q Vot.zero := ⟨_, rfl⟩
      rw [← hpv] at hec
      have hmem := votMem hqP
      have htk := votTake hqP
      rw [← hpv] at hmem htk
      have hpm := (PMEM.out pv).1 hmem
      have hcn := cntNe_snoc s (P.take q) pv
      have han : (P.take (q + 1)).any (fun u => u.slot == s) = (fl || (pv.slot == s)) := by rw [htk, List.any_append, ← FL.out]; simp
      rw [← htk, ← OC.out] at hcn
      by_cases hsl : pv.slot = s
      · have hpe : pv = ⟨s, (20, 1), ⟨2, 0, aq, 0, 0⟩⟩ := by
          rcases hpm with h | ⟨-, h⟩
          · exact h
          · exact absurd hsl h
        subst hpe
        obtain ⟨e0, e1, e2, e3, e4, e5, e6, e7⟩ := cellsV hec
        dsimp only at e0 e1 e2 e3 e4 e5 e6 e7
        have CN := Lib.hid (show cntNe s (P.take (q + 1)) = oc by rw [hcn, if_pos (by simp)]; rfl)
        have AN := Lib.hid (show (P.take (q + 1)).any (fun u => u.slot == s) = true by rw [han]; simp)
        clear hec hel hpv hmem htk hpm hcn han hsl
        go_wp2_with fail
        refine wp_region_quiet_lit (by kernel_rfl) (by kernel_rfl) ?_
        repeat (go_big_quiet_step (fail))
        refine wpQuiet_nil ?_
        intro w9 hw9
        obtain ⟨nq, rfl⟩ := hw9
        go_wp2_with fail
        go_roundw
        case rel => exact ⟨q + 1, by omega, by go_num, by rw [CN.out], by rw [AN.out], Lib.hid ⟨_, rfl⟩⟩
        case measure => simp [intOf]; omega
      · have hinL : pv ∈ L := by
          rcases hpm with h | ⟨h, -⟩
          · exact absurd (by rw [h]) hsl
          · exact h
        have INL := Lib.hid hinL
        obtain ⟨p0, ⟨p1, p2⟩, ⟨p3, p4, p5, p6, p7⟩⟩ := pv
        dsimp only at hsl hcn han
        have hse : (p0 == s) = false := by rw [beq_eq_false_iff_ne]; exact hsl
        obtain ⟨e0, e1, e2, e3, e4, e5, e6, e7⟩ := cellsV hec
        dsimp only at e0 e1 e2 e3 e4 e5 e6 e7
        have CN := Lib.hid (show cntNe s (P.take (q + 1)) = oc + 1 by rw [hcn, hse]; rfl)
        have AN := Lib.hid (show (P.take (q + 1)).any (fun u => u.slot == s) = fl by rw [han, hse, Bool.or_false])
        clear hec hel hpv hmem htk hpm hcn han hsl hinL
        go_wp2_with fail
        go_loopw [16, 17] (fun sa i wx => ∃ j : Nat, j ≤ ln ∧ i = .int .i64 j ∧ sa = .bool ((L.take j).any fun u => decide (u = ⟨p0, (p1, p2), ⟨p3, p4, p5, p6, p7⟩⟩)) ∧ Hid (∃ k, wx = wC.drewN k)) (fun _ i _ => ln - (intOf i).toNat)
        case atStart => exact ⟨0, by omega, rfl, rfl, Lib.hid ⟨_, rfl⟩⟩
        case round =>
          obtain ⟨j, hjn, rfl, rfl, HK⟩ := hrel
          obtain ⟨k2, hk⟩ := HK.out
          clear HK
          subst hk
          obtain ⟨sf, hsf⟩ : ∃ b, b = (L.take j).any fun u => decide (u = ⟨p0, (p1, p2), ⟨p3, p4, p5, p6, p7⟩⟩) := ⟨_, rfl⟩
          rw [← hsf]
          have SF := Lib.hid hsf
          clear hsf
          by_cases hj : j < ln
          · have hdj : decide ((j : Int) < ln) = true := by rw [decide_eq_true_eq]; omega
            have hdjn : decide (j < ln) = true := by rw [decide_eq_true_eq]; omega
            have hjL : j < L.length := by rw [← LN.out]; exact hj
            have htk := votTake hjL
            cases sf
            · obtain ⟨fb, foff, rfl, hfl, hfc⟩ := RL2.out.cells.2.2 j hj
              obtain ⟨lv, hlv⟩ : ∃ v, v = L.getD j Vot.zero := ⟨_, rfl⟩
              rw [← hlv] at hfc htk
              obtain ⟨b0, ⟨b1, b2⟩, ⟨b3, b4, b5, b6, b7⟩⟩ := lv
              obtain ⟨f0, f1, f2, f3, f4, f5, f6, f7⟩ := cellsV hfc
              dsimp only at f0 f1 f2 f3 f4 f5 f6 f7
              have NX := Lib.hid (show (L.take (j + 1)).any (fun u => decide (u = ⟨p0, (p1, p2), ⟨p3, p4, p5, p6, p7⟩⟩)) = decide ((⟨b0, (b1, b2), ⟨b3, b4, b5, b6, b7⟩⟩ : Vot) = ⟨p0, (p1, p2), ⟨p3, p4, p5, p6, p7⟩⟩) by rw [htk, List.any_append, ← SF.out]; simp)
              clear hfc hfl hlv htk
              rcases vot_cases b0 b1 b2 b3 b4 b5 b6 b7 p0 p1 p2 p3 p4 p5 p6 p7 with ⟨rfl, rfl, rfl, rfl, rfl, rfl, rfl, rfl⟩ | ⟨hne, hb | ⟨rfl, hb⟩ | ⟨rfl, rfl, hb⟩ | ⟨rfl, rfl, rfl, hb⟩ | ⟨rfl, rfl, rfl, rfl, hb⟩ | ⟨rfl, rfl, rfl, rfl, rfl, hb⟩ | ⟨rfl, rfl, rfl, rfl, rfl, rfl, hb⟩ | ⟨rfl, rfl, rfl, rfl, rfl, rfl, rfl, hb⟩⟩
              · have NX2 := Lib.hid (show (L.take (j + 1)).any (fun u => decide (u = ⟨b0, (b1, b2), ⟨b3, b4, b5, b6, b7⟩⟩)) = true by rw [NX.out]; exact decide_eq_true rfl)
                clear NX
                go_wp2_with fail
                refine wp_region_quiet_lit (by kernel_rfl) (by kernel_rfl) ?_
                repeat (go_big_quiet_step (fail))
                refine wpQuiet_nil ?_
                intro w9 hw9
                obtain ⟨nq, rfl⟩ := hw9
                go_wp2_with fail
                go_roundw
                case rel => exact ⟨j + 1, by omega, by go_num, by rw [NX2.out], Lib.hid ⟨_, rfl⟩⟩
                case measure => simp [intOf]; omega
              all_goals
                have NX2 := Lib.hid (NX.out.trans (decide_eq_false hne))
                clear NX hne
                go_wp2_with fail
                refine wp_region_quiet_lit (by kernel_rfl) (by kernel_rfl) ?_
                repeat (go_big_quiet_step (fail))
                refine wpQuiet_nil ?_
                intro w9 hw9
                obtain ⟨nq, rfl⟩ := hw9
                go_wp2_with fail
                go_roundw
                case rel => exact ⟨j + 1, by omega, by go_num, by rw [NX2.out], Lib.hid ⟨_, rfl⟩⟩
                case measure => simp [intOf]; omega
            · have NX2 := Lib.hid (show (L.take (j + 1)).any (fun u => decide (u = ⟨p0, (p1, p2), ⟨p3, p4, p5, p6, p7⟩⟩)) = true by rw [htk, List.any_append, ← SF.out]; rfl)
              clear htk
              go_wp2_with fail
              refine wp_region_quiet_lit (by kernel_rfl) (by kernel_rfl) ?_
              repeat (go_big_quiet_step (fail))
              refine wpQuiet_nil ?_
              intro w9 hw9
              obtain ⟨nq, rfl⟩ := hw9
              go_wp2_with fail
              go_roundw
              case rel => exact ⟨j + 1, by omega, by go_num, by rw [NX2.out], Lib.hid ⟨_, rfl⟩⟩
              case measure => simp [intOf]; omega
          · have hdj : decide ((j : Int) < ln) = false := by rw [decide_eq_false_iff_not]; omega
            have hdjn : decide (j < ln) = false := by rw [decide_eq_false_iff_not]; omega
            have hst : sf = true := by
              rw [SF.out, show L.take j = L by rw [show j = L.length by rw [← LN.out]; omega, List.take_length], List.any_eq_true]
              exact ⟨_, INL.out, by simp⟩
            subst hst
            go_wp2_with fail
            go_roundw
            case rel => exact ⟨q + 1, by omega, by go_num, by rw [CN.out]; go_num, by rw [AN.out], Lib.hid ⟨_, rfl⟩⟩
            case measure => simp [intOf]; omega
    · have hqx : q = xn := by omega
      have hd1 : decide ((q : Int) < xn) = false := by rw [decide_eq_false_iff_not]; omega
      have hd1n : decide (q < xn) = false := by rw [decide_eq_false_iff_not]; omega
      have hPt : P.take q = P := by rw [hqx, XN.out, List.take_length]
      have hfl : fl = true := by
        rw [FL.out, hPt, List.any_eq_true]
        exact ⟨_, (PMEM.out _).2 (.inl rfl), by simp⟩
      have hoc : oc = cntNe s L := by rw [OC.out, hPt]; exact PCNT.out
      subst hfl
      have HOC := Lib.hid hoc
      clear hoc hPt hqx
      go_wp2_with fail
      go_loopw [18, 19] (fun ol i wx => ∃ j : Nat, j ≤ ln ∧ i = .int .i64 j ∧ ol = .int .i64 (cntNe s (L.take j)) ∧ Hid (∃ k, wx = wC.drewN k)) (fun _ i _ => ln - (intOf i).toNat)
      case atStart => exact ⟨0, by omega, rfl, rfl, Lib.hid ⟨_, rfl⟩⟩
      case round =>
        obtain ⟨j, hjn, rfl, rfl, HK⟩ := hrel
        obtain ⟨k2, hk⟩ := HK.out
        clear HK
        subst hk
        obtain ⟨od, hod⟩ : ∃ c, c = cntNe s (L.take j) := ⟨_, rfl⟩
        rw [← hod]
        have OD := Lib.hid hod
        have hod31 : od ≤ 31 := by rw [hod]; have h1 := cntNe_le s (L.take j); have h2 := List.length_take_le j L; omega
        clear hod
        by_cases hj : j < ln
        · have hdj : decide ((j : Int) < ln) = true := by rw [decide_eq_true_eq]; omega
          have hdjn : decide (j < ln) = true := by rw [decide_eq_true_eq]; omega
          have hjL : j < L.length := by rw [← LN.out]; exact hj
          have htk := votTake hjL
          obtain ⟨fb, foff, rfl, hfl, hfc⟩ := RL2.out.cells.2.2 j hj
          obtain ⟨lv, hlv⟩ : ∃ v, v = L.getD j Vot.zero := ⟨_, rfl⟩
          rw [← hlv] at hfc htk
          have hcn := cntNe_snoc s (L.take j) lv
          rw [← htk, ← OD.out] at hcn
          obtain ⟨b0, ⟨b1, b2⟩, ⟨b3, b4, b5, b6, b7⟩⟩ := lv
          obtain ⟨f0, -, -, -, -, -, -, -⟩ := cellsV hfc
          dsimp only at f0 hcn
          clear hfc hfl hlv htk
          by_cases hbs : b0 = s
          · have hb1 : (b0 != s) = false := by simp [hbs]
            have CN := Lib.hid (show cntNe s (L.take (j + 1)) = od by rw [hcn, if_pos (by simpa using hbs)]; rfl)
            clear hcn hbs
            go_wp2_with fail
            go_roundw
            case rel => exact ⟨j + 1, by omega, by go_num, by rw [CN.out], Lib.hid ⟨_, rfl⟩⟩
            case measure => simp [intOf]; omega
          · have hb1 : (b0 != s) = true := by simp [hbs]
            have CN := Lib.hid (show cntNe s (L.take (j + 1)) = od + 1 by rw [hcn, if_neg (by simpa using hbs)])
            clear hcn hbs
            go_wp2_with fail
            go_roundw
            case rel => exact ⟨j + 1, by omega, by go_num, by rw [CN.out]; go_num, Lib.hid ⟨_, rfl⟩⟩
            case measure => simp [intOf]; omega
        · have hdj : decide ((j : Int) < ln) = false := by rw [decide_eq_false_iff_not]; omega
          have hdjn : decide (j < ln) = false := by rw [decide_eq_false_iff_not]; omega
          have hodc : od = oc := by rw [HOC.out, OD.out, show L.take j = L by rw [show j = L.length by rw [← LN.out]; omega, List.take_length]]
          subst hodc
          go_wp2_with fail
          go_ret
          exact ⟨rfl, below_drewN BW.out k2⟩
end Go.Proofs.Ytdkbajdnckmckaa
