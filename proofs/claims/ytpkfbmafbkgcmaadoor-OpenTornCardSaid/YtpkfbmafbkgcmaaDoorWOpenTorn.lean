/-
  The walk of OpenTorn (written by laws_pack.py).
-/
import Derived.Test.YtpkfbmafbkgcmaaDoorMg15
import Derived.Test.YtpkfbmafbkgcmaaDoorMg14
import Derived.Test.YtpkfbmafbkgcmaaDoorMg16
set_option linter.unusedVariables false
set_option linter.unusedSimpArgs false
namespace Go.Proofs.YtpkfbmafbkgcmaaDoor
open Go.RowKit Go.Con
set_option maxRecDepth 100000 in
set_option maxHeartbeats 2000000 in
theorem walk_OpenTorn (v0 : Value) (x : Cmd) (v2 : Value) (n : Int) (v3 : Value) (cut : Int) (w : World) (hu : IsWish v0 x) (hn : IsInt v2 n) (ho : IsInt v3 cut) (hK : Kn w) (hN : Nd w) :
    Calls Tryd.prog 5 #[v0, v2, v3] w fun e w' => e = .returned (.bool true) ∧ Below w.heap.size w w' := by
  obtain ⟨rfl, hx⟩ := hu
  obtain ⟨rfl, hnn⟩ := hn
  obtain ⟨rfl, hoo⟩ := ho
  have HCMD0 := fun W => Command_any x W hx
  have hchk : checkC (cmdOf x) = 0 := cmdOf_check x
  have hk0 : (cmdOf x).kind ≠ 0 := by have h1 := pick_nonneg x.kind 5 (by omega); simp only [cmdOf]; omega
  have hcl : 0 ≤ (cmdOf x).client ∧ (cmdOf x).client < 4 := ⟨pick_nonneg x.client 4 (by omega), pick_lt x.client 4 (by omega)⟩
  obtain ⟨c, hc⟩ : ∃ c, c = cmdOf x := ⟨_, rfl⟩
  rw [← hc] at HCMD0 hchk hk0 hcl
  obtain ⟨b, hb⟩ : ∃ b : UInt8, c.client = b.toNat := ⟨UInt8.ofNat c.client.toNat, by rw [UInt8.toNat_ofNat']; omega⟩
  have hb7 : b.toNat ≤ 7 := by omega
  obtain ⟨m, hm⟩ : ∃ m : Nat, (m : Int) = pick n 1073741824 := ⟨(pick n 1073741824).toNat, by have := pick_nonneg n 1073741824 (by omega); omega⟩
  have hm2 : m < 1073741824 := by have := pick_lt n 1073741824 (by omega); omega
  have HPM : Hid (∀ W, Calls Tryd.prog 8 #[.int .i64 n, .int .i64 1073741824] W fun e w' => e = .returned (.int .i64 (m : Int)) ∧ W = w') := Lib.hid (fun W => by rw [hm]; exact picked_any _ _ _ hnn.1 hnn.2 (by decide))
  obtain ⟨j, hj⟩ : ∃ j : Nat, (j : Int) = pick cut 21 := ⟨(pick cut 21).toNat, by have := pick_nonneg cut 21 (by omega); omega⟩
  have hj2 : j < 21 := by have := pick_lt cut 21 (by omega); omega
  have HPJ : Hid (∀ W, Calls Tryd.prog 8 #[.int .i64 cut, .int .i64 21] W fun e w' => e = .returned (.int .i64 (j : Int)) ∧ W = w') := Lib.hid (fun W => by rw [hj]; exact picked_any _ _ _ hoo.1 hoo.2 (by decide))
  have htk : (Con.Tok.mk c.client 7 10).Ok := ⟨hcl.1, by show c.client ≤ 7; omega, by dsimp only; omega, by dsimp only; omega, by dsimp only; omega, by dsimp only; omega⟩
  have hkk : c.kind = 1 ∨ c.kind = 2 ∨ c.kind = 3 := by have h1 := pick_nonneg x.kind 5 (by omega); have h2 := pick_lt x.kind 5 (by omega); rw [hc]; simp only [cmdOf]; omega
  have hlk : lacks 7 c.kind = false := by rcases hkk with h | h | h <;> rw [h] <;> decide
  have ha0 : allowC ⟨c.client, 7, 10⟩ c 0 = 0 := by unfold allowC; rw [if_neg (by rintro (h | h | h); exact hk0 h; exact h rfl; (rw [hlk] at h; cases h)), if_neg (by dsimp only; omega)]
  have ha1 : allowC ⟨c.client, 7, 10⟩ c 11 = 10 := by unfold allowC; rw [if_neg (by rintro (h | h | h); exact hk0 h; exact h rfl; (rw [hlk] at h; cases h)), if_pos (by dsimp only; omega)]
  obtain ⟨D, hD⟩ : ∃ D, D = packB b m ⟨c.client, 7, 10⟩ c := ⟨_, rfl⟩
  have hDl : D.length = 63 := by rw [hD]; exact packB_length _ _ _ _
  have hD0 : D.getD 0 0 = b := by rw [hD]; rfl
  have hpk := fun W h => Pack_ok m ⟨c.client, 7, 10⟩ c b W hm2 htk hchk hb hb7 h
  have hop := fun v W h1 h2 h3 => Open_ok m ⟨c.client, 7, 10⟩ c b 0 v W h1 hm2 htk hchk hk0 hb hb7 h2 h3
  have hop1 := fun v W h1 h2 h3 => Open_ok m ⟨c.client, 7, 10⟩ c b 11 v W h1 hm2 htk hchk hk0 hb hb7 h2 h3
  rw [show openedC ⟨c.client, 7, 10⟩ c 0 = c by rw [openedC, if_pos ha0], ha0] at hop
  rw [show openedC ⟨c.client, 7, 10⟩ c 11 = Cmd.zero by rw [openedC, ha1]; rfl, ha1] at hop1
  rw [← hD] at hpk hop hop1
  have hos : ∀ (da dc : Nat) (W : World), Rd W (.slice (some ⟨da, 0, none⟩) 63 dc) D → Kn W → Calls Tryd.prog 18 #[.slice (some ⟨da, 0, none⟩) j dc, .int .i64 0] W fun e w' => e = .returned (.tuple #[.agg #[.int .i64 0, .int .i64 0, .int .i64 0, .int .i64 0, .int .i64 0], .int .i64 13]) ∧ Below W.heap.size W w' := fun da dc W h1 h2 => by
    by_cases h0 : j = 0
    · rw [h0]; exact Open_none _ _ _ _
    · obtain ⟨_, _, he, hl, _⟩ := h1.slice
      injection he with _ _ he3
      have hcell := h1.cells _ rfl 0 (u8v b) (by rw [List.getElem?_map, List.getElem?_eq_getElem (by omega)]; simp only [Option.map_some, Option.some.injEq]; rw [← hD0, getD_lt0 D (by omega)])
      have h3 : W.cell? ⟨da, 0, none⟩ = some (u8v b) := by simpa [Addr.add] using hcell
      exact Open_cut b da 0 dc j 0 W (by omega) hj2 (by rw [hDl] at hl; omega) h3 hb7 h2
  obtain ⟨k, cl, sq, nm, vl⟩ := c
  obtain ⟨x0, x1, x2, x3, x4⟩ := x
  unfold cmdV at *
  unfold tokV at *
  unfold Cmd.zero at hop1
  dsimp only at *
  have HCMD := Lib.hid HCMD0
  have HPK := Lib.hid hpk
  have HOP := Lib.hid hop
  have HOP1 := Lib.hid hop1
  have HOS := Lib.hid hos
  have HDL := Lib.hid hDl
  have HK := Lib.hid hK
  have HN := Lib.hid hN
  have hj21 : (j : Int) ≤ 21 := by omega
  clear HCMD0 hpk hop hop1 hos hDl hK hN hchk hk0 hcl hc hb hb7 hm hm2 htk hD hD0 hx hnn hoo hj hkk hlk ha0 ha1
  go_enter Tryd.func5, Tryd.ntmps5
  go_upto_region 1 with fail
  generalize hW : World.alloc _ _ = w1
  have XW : Hid (w1.heap[w.heap.size]? = some (.cells #[.int .i64 x0, .int .i64 x1, .int .i64 x2, .int .i64 x3, .int .i64 x4] 23 (0, 0))) := Lib.hid (by rw [← hW]; exact heapNew _ _)
  have Y : Hid (Below w.heap.size w w1) := Lib.hid (by rw [← hW]; exact (Below.refl _ _).alloc (Nat.le_refl _) _)
  clear hW
  have cW_0 : w1.cell? ⟨w.heap.size, 0, none⟩ = some (.int .i64 x0) := cellAt XW.out 0 rfl
  have cW_1 : w1.cell? ⟨w.heap.size, 1, none⟩ = some (.int .i64 x1) := cellAt XW.out 1 rfl
  have cW_2 : w1.cell? ⟨w.heap.size, 2, none⟩ = some (.int .i64 x2) := cellAt XW.out 2 rfl
  have cW_3 : w1.cell? ⟨w.heap.size, 3, none⟩ = some (.int .i64 x3) := cellAt XW.out 3 rfl
  have cW_4 : w1.cell? ⟨w.heap.size, 4, none⟩ = some (.int .i64 x4) := cellAt XW.out 4 rfl
  go_upto_region 2 with (first
    | (go_at_call 6; refine (HCMD.out _).mono ?_; rintro e v1 ⟨rfl, hb⟩; have BD1 := Lib.hid hb; clear hb))
  generalize hW : World.alloc _ _ = w2
  have GF := Lib.hid (stageC' BD1.out hW)
  clear hW
  clear cW_0 cW_1 cW_2 cW_3 cW_4
  have hrel := GF.out.1
  have xW : w2.heap[w.heap.size]? = some (.cells #[.int .i64 x0, .int .i64 x1, .int .i64 x2, .int .i64 x3, .int .i64 x4] 23 (0, 0)) := (hrel.block (w.heap.size) (lt_of_heap XW.out)).trans XW.out
  replace XW := Lib.hid xW
  clear xW
  replace Y := Lib.hid (Y.out.trans (hrel.mono Y.out.size))
  clear hrel
  have Xc : Hid (w2.heap[v1.heap.size]? = some (.cells #[.int .i64 k, .int .i64 cl, .int .i64 sq, .int .i64 nm, .int .i64 vl] 26 (0, 0))) := Lib.hid (GF.out.2.1)
  clear GF BD1
  have cW_0 : w2.cell? ⟨w.heap.size, 0, none⟩ = some (.int .i64 x0) := cellAt XW.out 0 rfl
  have cW_1 : w2.cell? ⟨w.heap.size, 1, none⟩ = some (.int .i64 x1) := cellAt XW.out 1 rfl
  have cW_2 : w2.cell? ⟨w.heap.size, 2, none⟩ = some (.int .i64 x2) := cellAt XW.out 2 rfl
  have cW_3 : w2.cell? ⟨w.heap.size, 3, none⟩ = some (.int .i64 x3) := cellAt XW.out 3 rfl
  have cW_4 : w2.cell? ⟨w.heap.size, 4, none⟩ = some (.int .i64 x4) := cellAt XW.out 4 rfl
  have cc_0 : w2.cell? ⟨v1.heap.size, 0, none⟩ = some (.int .i64 k) := cellAt Xc.out 0 rfl
  have cc_1 : w2.cell? ⟨v1.heap.size, 1, none⟩ = some (.int .i64 cl) := cellAt Xc.out 1 rfl
  have cc_2 : w2.cell? ⟨v1.heap.size, 2, none⟩ = some (.int .i64 sq) := cellAt Xc.out 2 rfl
  have cc_3 : w2.cell? ⟨v1.heap.size, 3, none⟩ = some (.int .i64 nm) := cellAt Xc.out 3 rfl
  have cc_4 : w2.cell? ⟨v1.heap.size, 4, none⟩ = some (.int .i64 vl) := cellAt Xc.out 4 rfl
  go_upto_region 3 with fail
  generalize hW : World.alloc _ _ = w3
  have GF := Lib.hid (stageC' (Below.refl _ w2) hW)
  clear hW
  clear cW_0 cW_1 cW_2 cW_3 cW_4 cc_0 cc_1 cc_2 cc_3 cc_4
  have hrel := GF.out.1
  have xW : w3.heap[w.heap.size]? = some (.cells #[.int .i64 x0, .int .i64 x1, .int .i64 x2, .int .i64 x3, .int .i64 x4] 23 (0, 0)) := (hrel.block (w.heap.size) (lt_of_heap XW.out)).trans XW.out
  have xc : w3.heap[v1.heap.size]? = some (.cells #[.int .i64 k, .int .i64 cl, .int .i64 sq, .int .i64 nm, .int .i64 vl] 26 (0, 0)) := (hrel.block (v1.heap.size) (lt_of_heap Xc.out)).trans Xc.out
  replace XW := Lib.hid xW
  clear xW
  replace Xc := Lib.hid xc
  clear xc
  replace Y := Lib.hid (Y.out.trans (hrel.mono Y.out.size))
  clear hrel
  have Xt : Hid (w3.heap[w2.heap.size]? = some (.cells #[.int .i64 cl, .int .i64 7, .int .i64 10] 28 (0, 0))) := Lib.hid (GF.out.2.1)
  clear GF
  have S0d : w3.drew.cell? ⟨w2.heap.size, 0, none⟩ = some (.int .i64 cl) ∧ w3.drew.cell? ⟨w2.heap.size, 1, none⟩ = some (.int .i64 7) ∧ w3.drew.cell? ⟨w2.heap.size, 2, none⟩ = some (.int .i64 10) ∧ w3.drew.cell? ⟨v1.heap.size, 0, none⟩ = some (.int .i64 k) ∧ w3.drew.cell? ⟨v1.heap.size, 1, none⟩ = some (.int .i64 cl) ∧ w3.drew.cell? ⟨v1.heap.size, 2, none⟩ = some (.int .i64 sq) ∧ w3.drew.cell? ⟨v1.heap.size, 3, none⟩ = some (.int .i64 nm) ∧ w3.drew.cell? ⟨v1.heap.size, 4, none⟩ = some (.int .i64 vl) := ⟨cellAt Xt.out 0 rfl, cellAt Xt.out 1 rfl, cellAt Xt.out 2 rfl, cellAt Xc.out 0 rfl, cellAt Xc.out 1 rfl, cellAt Xc.out 2 rfl, cellAt Xc.out 3 rfl, cellAt Xc.out 4 rfl⟩
  have KD := Lib.hid (show Kn w3.drew from (show Kn w3 from HK.out.stay Y.out))
  go_region_held3 (fun w' => w'.cell? ⟨w2.heap.size, 0, none⟩ = some (.int .i64 cl) ∧ w'.cell? ⟨w2.heap.size, 1, none⟩ = some (.int .i64 7) ∧ w'.cell? ⟨w2.heap.size, 2, none⟩ = some (.int .i64 10) ∧ w'.cell? ⟨v1.heap.size, 0, none⟩ = some (.int .i64 k) ∧ w'.cell? ⟨v1.heap.size, 1, none⟩ = some (.int .i64 cl) ∧ w'.cell? ⟨v1.heap.size, 2, none⟩ = some (.int .i64 sq) ∧ w'.cell? ⟨v1.heap.size, 3, none⟩ = some (.int .i64 nm) ∧ w'.cell? ⟨v1.heap.size, 4, none⟩ = some (.int .i64 vl)) (first | with_reducible exact S0d | with_reducible exact S1d) (first
    | (go_at_call 8; refine (HPM.out _).mono ?_; rintro e w9 ⟨rfl, rfl⟩)
    | (go_at_call 9; refine (HPK.out _ KD.out).mono ?_; rintro e w4 ⟨vd, rfl, hod, hbp⟩; have OD := Lib.hid hod; have BP := Lib.hid (show Below w3.heap.size w3 w4 from (Below.refl _ _).drew.trans hbp); have S1d : w4.cell? ⟨w2.heap.size, 0, none⟩ = some (.int .i64 cl) ∧ w4.cell? ⟨w2.heap.size, 1, none⟩ = some (.int .i64 7) ∧ w4.cell? ⟨w2.heap.size, 2, none⟩ = some (.int .i64 10) ∧ w4.cell? ⟨v1.heap.size, 0, none⟩ = some (.int .i64 k) ∧ w4.cell? ⟨v1.heap.size, 1, none⟩ = some (.int .i64 cl) ∧ w4.cell? ⟨v1.heap.size, 2, none⟩ = some (.int .i64 sq) ∧ w4.cell? ⟨v1.heap.size, 3, none⟩ = some (.int .i64 nm) ∧ w4.cell? ⟨v1.heap.size, 4, none⟩ = some (.int .i64 vl) := ⟨cellAt ((BP.out.block _ (lt_of_heap Xt.out)).trans Xt.out) 0 rfl, cellAt ((BP.out.block _ (lt_of_heap Xt.out)).trans Xt.out) 1 rfl, cellAt ((BP.out.block _ (lt_of_heap Xt.out)).trans Xt.out) 2 rfl, cellAt ((BP.out.block _ (lt_of_heap Xc.out)).trans Xc.out) 0 rfl, cellAt ((BP.out.block _ (lt_of_heap Xc.out)).trans Xc.out) 1 rfl, cellAt ((BP.out.block _ (lt_of_heap Xc.out)).trans Xc.out) 2 rfl, cellAt ((BP.out.block _ (lt_of_heap Xc.out)).trans Xc.out) 3 rfl, cellAt ((BP.out.block _ (lt_of_heap Xc.out)).trans Xc.out) 4 rfl⟩; clear hod hbp))
  clear S0d S1d KD
  have hrel := BP.out
  have xW : w4.heap[w.heap.size]? = some (.cells #[.int .i64 x0, .int .i64 x1, .int .i64 x2, .int .i64 x3, .int .i64 x4] 23 (0, 0)) := (hrel.block (w.heap.size) (lt_of_heap XW.out)).trans XW.out
  have xc : w4.heap[v1.heap.size]? = some (.cells #[.int .i64 k, .int .i64 cl, .int .i64 sq, .int .i64 nm, .int .i64 vl] 26 (0, 0)) := (hrel.block (v1.heap.size) (lt_of_heap Xc.out)).trans Xc.out
  have xt : w4.heap[w2.heap.size]? = some (.cells #[.int .i64 cl, .int .i64 7, .int .i64 10] 28 (0, 0)) := (hrel.block (w2.heap.size) (lt_of_heap Xt.out)).trans Xt.out
  replace XW := Lib.hid xW
  clear xW
  replace Xc := Lib.hid xc
  clear xc
  replace Xt := Lib.hid xt
  clear xt
  replace Y := Lib.hid (Y.out.trans (hrel.mono Y.out.size))
  clear hrel
  obtain ⟨da, dc, hvd, hd1, hd2, hd3, hd4⟩ := OD.out.shape (by intro h; have := HDL.out; rw [h] at this; cases this)
  rw [HDL.out] at hvd hd3
  subst hvd
  have RD := Lib.hid OD.out.rd
  clear BP OD hd1 hd2
  have hdc : (63 : Int) ≤ (dc : Int) := by omega
  have hdj : (j : Int) ≤ (dc : Int) := by omega
  have hj63 : (j : Int) ≤ 63 := by omega
  have KN := Lib.hid (HK.out.stay Y.out)
  have cW_0 : w4.cell? ⟨w.heap.size, 0, none⟩ = some (.int .i64 x0) := cellAt XW.out 0 rfl
  have cW_1 : w4.cell? ⟨w.heap.size, 1, none⟩ = some (.int .i64 x1) := cellAt XW.out 1 rfl
  have cW_2 : w4.cell? ⟨w.heap.size, 2, none⟩ = some (.int .i64 x2) := cellAt XW.out 2 rfl
  have cW_3 : w4.cell? ⟨w.heap.size, 3, none⟩ = some (.int .i64 x3) := cellAt XW.out 3 rfl
  have cW_4 : w4.cell? ⟨w.heap.size, 4, none⟩ = some (.int .i64 x4) := cellAt XW.out 4 rfl
  have cc_0 : w4.cell? ⟨v1.heap.size, 0, none⟩ = some (.int .i64 k) := cellAt Xc.out 0 rfl
  have cc_1 : w4.cell? ⟨v1.heap.size, 1, none⟩ = some (.int .i64 cl) := cellAt Xc.out 1 rfl
  have cc_2 : w4.cell? ⟨v1.heap.size, 2, none⟩ = some (.int .i64 sq) := cellAt Xc.out 2 rfl
  have cc_3 : w4.cell? ⟨v1.heap.size, 3, none⟩ = some (.int .i64 nm) := cellAt Xc.out 3 rfl
  have cc_4 : w4.cell? ⟨v1.heap.size, 4, none⟩ = some (.int .i64 vl) := cellAt Xc.out 4 rfl
  have ct_0 : w4.cell? ⟨w2.heap.size, 0, none⟩ = some (.int .i64 cl) := cellAt Xt.out 0 rfl
  have ct_1 : w4.cell? ⟨w2.heap.size, 1, none⟩ = some (.int .i64 7) := cellAt Xt.out 1 rfl
  have ct_2 : w4.cell? ⟨w2.heap.size, 2, none⟩ = some (.int .i64 10) := cellAt Xt.out 2 rfl
  go_upto_region 8 with (first
    | (go_at_call 18; refine (HOS.out _ _ _ RD.out KN.out).mono ?_; rintro e v2 ⟨rfl, hb⟩; have BD2 := Lib.hid hb; clear hb)
    | (go_at_call 8; refine (HPJ.out _).mono ?_; rintro e w9 ⟨rfl, rfl⟩))
  generalize hW : World.alloc _ _ = w5
  have GF := Lib.hid (stageC' BD2.out hW)
  clear hW
  clear cW_0 cW_1 cW_2 cW_3 cW_4 cc_0 cc_1 cc_2 cc_3 cc_4 ct_0 ct_1 ct_2
  have hrel := GF.out.1
  have xW : w5.heap[w.heap.size]? = some (.cells #[.int .i64 x0, .int .i64 x1, .int .i64 x2, .int .i64 x3, .int .i64 x4] 23 (0, 0)) := (hrel.block (w.heap.size) (lt_of_heap XW.out)).trans XW.out
  have xc : w5.heap[v1.heap.size]? = some (.cells #[.int .i64 k, .int .i64 cl, .int .i64 sq, .int .i64 nm, .int .i64 vl] 26 (0, 0)) := (hrel.block (v1.heap.size) (lt_of_heap Xc.out)).trans Xc.out
  have xt : w5.heap[w2.heap.size]? = some (.cells #[.int .i64 cl, .int .i64 7, .int .i64 10] 28 (0, 0)) := (hrel.block (w2.heap.size) (lt_of_heap Xt.out)).trans Xt.out
  replace RD := Lib.hid (RD.out.stay hrel)
  replace XW := Lib.hid xW
  clear xW
  replace Xc := Lib.hid xc
  clear xc
  replace Xt := Lib.hid xt
  clear xt
  replace Y := Lib.hid (Y.out.trans (hrel.mono Y.out.size))
  clear hrel
  have Xp : Hid (w5.heap[v2.heap.size]? = some (.cells #[.int .i64 0, .int .i64 0, .int .i64 0, .int .i64 0, .int .i64 0] 26 (0, 0))) := Lib.hid (GF.out.2.1)
  clear GF BD2
  have KN2 := Lib.hid (HK.out.stay Y.out)
  have ND2 := Lib.hid (HN.out.stay Y.out)
  have cW_0 : w5.cell? ⟨w.heap.size, 0, none⟩ = some (.int .i64 x0) := cellAt XW.out 0 rfl
  have cW_1 : w5.cell? ⟨w.heap.size, 1, none⟩ = some (.int .i64 x1) := cellAt XW.out 1 rfl
  have cW_2 : w5.cell? ⟨w.heap.size, 2, none⟩ = some (.int .i64 x2) := cellAt XW.out 2 rfl
  have cW_3 : w5.cell? ⟨w.heap.size, 3, none⟩ = some (.int .i64 x3) := cellAt XW.out 3 rfl
  have cW_4 : w5.cell? ⟨w.heap.size, 4, none⟩ = some (.int .i64 x4) := cellAt XW.out 4 rfl
  have cc_0 : w5.cell? ⟨v1.heap.size, 0, none⟩ = some (.int .i64 k) := cellAt Xc.out 0 rfl
  have cc_1 : w5.cell? ⟨v1.heap.size, 1, none⟩ = some (.int .i64 cl) := cellAt Xc.out 1 rfl
  have cc_2 : w5.cell? ⟨v1.heap.size, 2, none⟩ = some (.int .i64 sq) := cellAt Xc.out 2 rfl
  have cc_3 : w5.cell? ⟨v1.heap.size, 3, none⟩ = some (.int .i64 nm) := cellAt Xc.out 3 rfl
  have cc_4 : w5.cell? ⟨v1.heap.size, 4, none⟩ = some (.int .i64 vl) := cellAt Xc.out 4 rfl
  have ct_0 : w5.cell? ⟨w2.heap.size, 0, none⟩ = some (.int .i64 cl) := cellAt Xt.out 0 rfl
  have ct_1 : w5.cell? ⟨w2.heap.size, 1, none⟩ = some (.int .i64 7) := cellAt Xt.out 1 rfl
  have ct_2 : w5.cell? ⟨w2.heap.size, 2, none⟩ = some (.int .i64 10) := cellAt Xt.out 2 rfl
  have cp_0 : w5.cell? ⟨v2.heap.size, 0, none⟩ = some (.int .i64 0) := cellAt Xp.out 0 rfl
  have cp_1 : w5.cell? ⟨v2.heap.size, 1, none⟩ = some (.int .i64 0) := cellAt Xp.out 1 rfl
  have cp_2 : w5.cell? ⟨v2.heap.size, 2, none⟩ = some (.int .i64 0) := cellAt Xp.out 2 rfl
  have cp_3 : w5.cell? ⟨v2.heap.size, 3, none⟩ = some (.int .i64 0) := cellAt Xp.out 3 rfl
  have cp_4 : w5.cell? ⟨v2.heap.size, 4, none⟩ = some (.int .i64 0) := cellAt Xp.out 4 rfl
  go_upto_region 9 with (first
    | (go_at_call 18; refine (HOP.out _ _ RD.out KN2.out ND2.out).mono ?_; rintro e v3 ⟨rfl, hb⟩; have BD3 := Lib.hid hb; clear hb))
  generalize hW : World.alloc _ _ = w6
  have GF := Lib.hid (stageC' BD3.out hW)
  clear hW
  clear cW_0 cW_1 cW_2 cW_3 cW_4 cc_0 cc_1 cc_2 cc_3 cc_4 ct_0 ct_1 ct_2 cp_0 cp_1 cp_2 cp_3 cp_4
  have hrel := GF.out.1
  have xW : w6.heap[w.heap.size]? = some (.cells #[.int .i64 x0, .int .i64 x1, .int .i64 x2, .int .i64 x3, .int .i64 x4] 23 (0, 0)) := (hrel.block (w.heap.size) (lt_of_heap XW.out)).trans XW.out
  have xc : w6.heap[v1.heap.size]? = some (.cells #[.int .i64 k, .int .i64 cl, .int .i64 sq, .int .i64 nm, .int .i64 vl] 26 (0, 0)) := (hrel.block (v1.heap.size) (lt_of_heap Xc.out)).trans Xc.out
  have xt : w6.heap[w2.heap.size]? = some (.cells #[.int .i64 cl, .int .i64 7, .int .i64 10] 28 (0, 0)) := (hrel.block (w2.heap.size) (lt_of_heap Xt.out)).trans Xt.out
  have xp : w6.heap[v2.heap.size]? = some (.cells #[.int .i64 0, .int .i64 0, .int .i64 0, .int .i64 0, .int .i64 0] 26 (0, 0)) := (hrel.block (v2.heap.size) (lt_of_heap Xp.out)).trans Xp.out
  replace RD := Lib.hid (RD.out.stay hrel)
  replace XW := Lib.hid xW
  clear xW
  replace Xc := Lib.hid xc
  clear xc
  replace Xt := Lib.hid xt
  clear xt
  replace Xp := Lib.hid xp
  clear xp
  replace Y := Lib.hid (Y.out.trans (hrel.mono Y.out.size))
  clear hrel
  have Xq : Hid (w6.heap[v3.heap.size]? = some (.cells #[.int .i64 k, .int .i64 cl, .int .i64 sq, .int .i64 nm, .int .i64 vl] 26 (0, 0))) := Lib.hid (GF.out.2.1)
  clear GF BD3
  have KN3 := Lib.hid (HK.out.stay Y.out)
  have ND3 := Lib.hid (HN.out.stay Y.out)
  have cW_0 : w6.cell? ⟨w.heap.size, 0, none⟩ = some (.int .i64 x0) := cellAt XW.out 0 rfl
  have cW_1 : w6.cell? ⟨w.heap.size, 1, none⟩ = some (.int .i64 x1) := cellAt XW.out 1 rfl
  have cW_2 : w6.cell? ⟨w.heap.size, 2, none⟩ = some (.int .i64 x2) := cellAt XW.out 2 rfl
  have cW_3 : w6.cell? ⟨w.heap.size, 3, none⟩ = some (.int .i64 x3) := cellAt XW.out 3 rfl
  have cW_4 : w6.cell? ⟨w.heap.size, 4, none⟩ = some (.int .i64 x4) := cellAt XW.out 4 rfl
  have cc_0 : w6.cell? ⟨v1.heap.size, 0, none⟩ = some (.int .i64 k) := cellAt Xc.out 0 rfl
  have cc_1 : w6.cell? ⟨v1.heap.size, 1, none⟩ = some (.int .i64 cl) := cellAt Xc.out 1 rfl
  have cc_2 : w6.cell? ⟨v1.heap.size, 2, none⟩ = some (.int .i64 sq) := cellAt Xc.out 2 rfl
  have cc_3 : w6.cell? ⟨v1.heap.size, 3, none⟩ = some (.int .i64 nm) := cellAt Xc.out 3 rfl
  have cc_4 : w6.cell? ⟨v1.heap.size, 4, none⟩ = some (.int .i64 vl) := cellAt Xc.out 4 rfl
  have ct_0 : w6.cell? ⟨w2.heap.size, 0, none⟩ = some (.int .i64 cl) := cellAt Xt.out 0 rfl
  have ct_1 : w6.cell? ⟨w2.heap.size, 1, none⟩ = some (.int .i64 7) := cellAt Xt.out 1 rfl
  have ct_2 : w6.cell? ⟨w2.heap.size, 2, none⟩ = some (.int .i64 10) := cellAt Xt.out 2 rfl
  have cp_0 : w6.cell? ⟨v2.heap.size, 0, none⟩ = some (.int .i64 0) := cellAt Xp.out 0 rfl
  have cp_1 : w6.cell? ⟨v2.heap.size, 1, none⟩ = some (.int .i64 0) := cellAt Xp.out 1 rfl
  have cp_2 : w6.cell? ⟨v2.heap.size, 2, none⟩ = some (.int .i64 0) := cellAt Xp.out 2 rfl
  have cp_3 : w6.cell? ⟨v2.heap.size, 3, none⟩ = some (.int .i64 0) := cellAt Xp.out 3 rfl
  have cp_4 : w6.cell? ⟨v2.heap.size, 4, none⟩ = some (.int .i64 0) := cellAt Xp.out 4 rfl
  have cq_0 : w6.cell? ⟨v3.heap.size, 0, none⟩ = some (.int .i64 k) := cellAt Xq.out 0 rfl
  have cq_1 : w6.cell? ⟨v3.heap.size, 1, none⟩ = some (.int .i64 cl) := cellAt Xq.out 1 rfl
  have cq_2 : w6.cell? ⟨v3.heap.size, 2, none⟩ = some (.int .i64 sq) := cellAt Xq.out 2 rfl
  have cq_3 : w6.cell? ⟨v3.heap.size, 3, none⟩ = some (.int .i64 nm) := cellAt Xq.out 3 rfl
  have cq_4 : w6.cell? ⟨v3.heap.size, 4, none⟩ = some (.int .i64 vl) := cellAt Xq.out 4 rfl
  go_upto_region 10 with (first
    | (go_at_call 18; refine (HOP1.out _ _ RD.out KN3.out ND3.out).mono ?_; rintro e v4 ⟨rfl, hb⟩; have BD4 := Lib.hid hb; clear hb))
  generalize hW : World.alloc _ _ = w7
  have GF := Lib.hid (stageC' BD4.out hW)
  clear hW
  clear cW_0 cW_1 cW_2 cW_3 cW_4 cc_0 cc_1 cc_2 cc_3 cc_4 ct_0 ct_1 ct_2 cp_0 cp_1 cp_2 cp_3 cp_4 cq_0 cq_1 cq_2 cq_3 cq_4
  have hrel := GF.out.1
  have xW : w7.heap[w.heap.size]? = some (.cells #[.int .i64 x0, .int .i64 x1, .int .i64 x2, .int .i64 x3, .int .i64 x4] 23 (0, 0)) := (hrel.block (w.heap.size) (lt_of_heap XW.out)).trans XW.out
  have xc : w7.heap[v1.heap.size]? = some (.cells #[.int .i64 k, .int .i64 cl, .int .i64 sq, .int .i64 nm, .int .i64 vl] 26 (0, 0)) := (hrel.block (v1.heap.size) (lt_of_heap Xc.out)).trans Xc.out
  have xt : w7.heap[w2.heap.size]? = some (.cells #[.int .i64 cl, .int .i64 7, .int .i64 10] 28 (0, 0)) := (hrel.block (w2.heap.size) (lt_of_heap Xt.out)).trans Xt.out
  have xp : w7.heap[v2.heap.size]? = some (.cells #[.int .i64 0, .int .i64 0, .int .i64 0, .int .i64 0, .int .i64 0] 26 (0, 0)) := (hrel.block (v2.heap.size) (lt_of_heap Xp.out)).trans Xp.out
  have xq : w7.heap[v3.heap.size]? = some (.cells #[.int .i64 k, .int .i64 cl, .int .i64 sq, .int .i64 nm, .int .i64 vl] 26 (0, 0)) := (hrel.block (v3.heap.size) (lt_of_heap Xq.out)).trans Xq.out
  replace RD := Lib.hid (RD.out.stay hrel)
  replace XW := Lib.hid xW
  clear xW
  replace Xc := Lib.hid xc
  clear xc
  replace Xt := Lib.hid xt
  clear xt
  replace Xp := Lib.hid xp
  clear xp
  replace Xq := Lib.hid xq
  clear xq
  replace Y := Lib.hid (Y.out.trans (hrel.mono Y.out.size))
  clear hrel
  have Xr : Hid (w7.heap[v4.heap.size]? = some (.cells #[.int .i64 0, .int .i64 0, .int .i64 0, .int .i64 0, .int .i64 0] 26 (0, 0))) := Lib.hid (GF.out.2.1)
  clear GF BD4
  have cW_0 : w7.cell? ⟨w.heap.size, 0, none⟩ = some (.int .i64 x0) := cellAt XW.out 0 rfl
  have cW_1 : w7.cell? ⟨w.heap.size, 1, none⟩ = some (.int .i64 x1) := cellAt XW.out 1 rfl
  have cW_2 : w7.cell? ⟨w.heap.size, 2, none⟩ = some (.int .i64 x2) := cellAt XW.out 2 rfl
  have cW_3 : w7.cell? ⟨w.heap.size, 3, none⟩ = some (.int .i64 x3) := cellAt XW.out 3 rfl
  have cW_4 : w7.cell? ⟨w.heap.size, 4, none⟩ = some (.int .i64 x4) := cellAt XW.out 4 rfl
  have cc_0 : w7.cell? ⟨v1.heap.size, 0, none⟩ = some (.int .i64 k) := cellAt Xc.out 0 rfl
  have cc_1 : w7.cell? ⟨v1.heap.size, 1, none⟩ = some (.int .i64 cl) := cellAt Xc.out 1 rfl
  have cc_2 : w7.cell? ⟨v1.heap.size, 2, none⟩ = some (.int .i64 sq) := cellAt Xc.out 2 rfl
  have cc_3 : w7.cell? ⟨v1.heap.size, 3, none⟩ = some (.int .i64 nm) := cellAt Xc.out 3 rfl
  have cc_4 : w7.cell? ⟨v1.heap.size, 4, none⟩ = some (.int .i64 vl) := cellAt Xc.out 4 rfl
  have ct_0 : w7.cell? ⟨w2.heap.size, 0, none⟩ = some (.int .i64 cl) := cellAt Xt.out 0 rfl
  have ct_1 : w7.cell? ⟨w2.heap.size, 1, none⟩ = some (.int .i64 7) := cellAt Xt.out 1 rfl
  have ct_2 : w7.cell? ⟨w2.heap.size, 2, none⟩ = some (.int .i64 10) := cellAt Xt.out 2 rfl
  have cp_0 : w7.cell? ⟨v2.heap.size, 0, none⟩ = some (.int .i64 0) := cellAt Xp.out 0 rfl
  have cp_1 : w7.cell? ⟨v2.heap.size, 1, none⟩ = some (.int .i64 0) := cellAt Xp.out 1 rfl
  have cp_2 : w7.cell? ⟨v2.heap.size, 2, none⟩ = some (.int .i64 0) := cellAt Xp.out 2 rfl
  have cp_3 : w7.cell? ⟨v2.heap.size, 3, none⟩ = some (.int .i64 0) := cellAt Xp.out 3 rfl
  have cp_4 : w7.cell? ⟨v2.heap.size, 4, none⟩ = some (.int .i64 0) := cellAt Xp.out 4 rfl
  have cq_0 : w7.cell? ⟨v3.heap.size, 0, none⟩ = some (.int .i64 k) := cellAt Xq.out 0 rfl
  have cq_1 : w7.cell? ⟨v3.heap.size, 1, none⟩ = some (.int .i64 cl) := cellAt Xq.out 1 rfl
  have cq_2 : w7.cell? ⟨v3.heap.size, 2, none⟩ = some (.int .i64 sq) := cellAt Xq.out 2 rfl
  have cq_3 : w7.cell? ⟨v3.heap.size, 3, none⟩ = some (.int .i64 nm) := cellAt Xq.out 3 rfl
  have cq_4 : w7.cell? ⟨v3.heap.size, 4, none⟩ = some (.int .i64 vl) := cellAt Xq.out 4 rfl
  have cr_0 : w7.cell? ⟨v4.heap.size, 0, none⟩ = some (.int .i64 0) := cellAt Xr.out 0 rfl
  have cr_1 : w7.cell? ⟨v4.heap.size, 1, none⟩ = some (.int .i64 0) := cellAt Xr.out 1 rfl
  have cr_2 : w7.cell? ⟨v4.heap.size, 2, none⟩ = some (.int .i64 0) := cellAt Xr.out 2 rfl
  have cr_3 : w7.cell? ⟨v4.heap.size, 3, none⟩ = some (.int .i64 0) := cellAt Xr.out 3 rfl
  have cr_4 : w7.cell? ⟨v4.heap.size, 4, none⟩ = some (.int .i64 0) := cellAt Xr.out 4 rfl
  go_wp2
  go_ret
  exact ⟨rfl, Y.out⟩
end Go.Proofs.YtpkfbmafbkgcmaaDoor
