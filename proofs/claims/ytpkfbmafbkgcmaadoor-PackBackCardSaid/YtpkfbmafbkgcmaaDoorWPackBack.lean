/-
  The walk of PackBack (written by laws_pack.py).
-/
import Derived.Test.YtpkfbmafbkgcmaaDoorMg15
import Derived.Test.YtpkfbmafbkgcmaaDoorMg14
import Derived.Test.YtpkfbmafbkgcmaaDoorMg16
set_option linter.unusedVariables false
set_option linter.unusedSimpArgs false
namespace Go.Proofs.YtpkfbmafbkgcmaaDoor
open Go.RowKit Go.Con
set_option maxRecDepth 100000 in
set_option maxHeartbeats 2000000 in
theorem walk_PackBack (v0 : Value) (x : Cmd) (v1 : Value) (y : Con.Tok) (v2 : Value) (n : Int) (v3 : Value) (now : Int) (w : World) (hu : IsWish v0 x) (hp : IsPass v1 y) (hn : IsInt v2 n) (ho : IsInt v3 now) (hK : Kn w) (hN : Nd w) :
    Calls Tryd.prog 4 #[v0, v1, v2, v3] w fun e w' => e = .returned (.bool true) ∧ Below w.heap.size w w' := by
  obtain ⟨rfl, hx⟩ := hu
  obtain ⟨rfl, hy⟩ := hp
  obtain ⟨rfl, hnn⟩ := hn
  obtain ⟨rfl, hoo⟩ := ho
  have HCMD0 := fun W => Command_any x W hx
  have hchk : checkC (cmdOf x) = 0 := cmdOf_check x
  have hk0 : (cmdOf x).kind ≠ 0 := by have h1 := pick_nonneg x.kind 5 (by omega); simp only [cmdOf]; omega
  have hcl : 0 ≤ (cmdOf x).client ∧ (cmdOf x).client < 4 := ⟨pick_nonneg x.client 4 (by omega), pick_lt x.client 4 (by omega)⟩
  obtain ⟨c, hc⟩ : ∃ c, c = cmdOf x := ⟨_, rfl⟩
  rw [← hc] at HCMD0 hchk hk0 hcl
  obtain ⟨b, hb⟩ : ∃ b : UInt8, c.client = b.toNat := ⟨UInt8.ofNat c.client.toNat, by rw [UInt8.toNat_ofNat']; omega⟩
  have hb7 : b.toNat ≤ 7 := by omega
  obtain ⟨m, hm⟩ : ∃ m : Nat, (m : Int) = pick n 1073741824 := ⟨(pick n 1073741824).toNat, by have := pick_nonneg n 1073741824 (by omega); omega⟩
  have hm2 : m < 1073741824 := by have := pick_lt n 1073741824 (by omega); omega
  have HPM : Hid (∀ W, Calls Tryd.prog 8 #[.int .i64 n, .int .i64 1073741824] W fun e w' => e = .returned (.int .i64 (m : Int)) ∧ W = w') := Lib.hid (fun W => by rw [hm]; exact picked_any _ _ _ hnn.1 hnn.2 (by decide))
  obtain ⟨a, ha⟩ : ∃ a, a = pick now 1048577 := ⟨_, rfl⟩
  have HPA : Hid (∀ W, Calls Tryd.prog 8 #[.int .i64 now, .int .i64 1048577] W fun e w' => e = .returned (.int .i64 a) ∧ W = w') := Lib.hid (fun W => by rw [ha]; exact picked_any _ _ _ hoo.1 hoo.2 (by decide))
  have htok0 := fun W => Token_any y W hy
  have htk : (tokOf y).Ok := tokOf_ok y
  obtain ⟨t, ht⟩ : ∃ t, t = tokOf y := ⟨_, rfl⟩
  rw [← ht] at htok0 htk
  obtain ⟨D, hD⟩ : ∃ D, D = packB b m t c := ⟨_, rfl⟩
  have hDl : D.length = 63 := by rw [hD]; exact packB_length _ _ _ _
  have hpk := fun W h => Pack_ok m t c b W hm2 htk hchk hb hb7 h
  have hop := fun v W h1 h2 h3 => Open_ok m t c b a v W h1 hm2 htk hchk hk0 hb hb7 h2 h3
  rw [← hD] at hpk hop
  have hal := fun W h => Allows_any t c a W htk hchk h
  obtain ⟨ac, hac⟩ : ∃ ac, ac = allowC t c a := ⟨_, rfl⟩
  obtain ⟨oc, hoc⟩ : ∃ oc, oc = openedC t c a := ⟨_, rfl⟩
  have hoc2 : oc = if ac = 0 then c else Cmd.zero := by rw [hoc, openedC, ← hac]
  rw [← hac] at hal hop
  rw [← hoc] at hop
  obtain ⟨k, cl, sq, nm, vl⟩ := c
  obtain ⟨tc, tr, tu⟩ := t
  obtain ⟨ok, ocl, osq, onm, ovl⟩ := oc
  obtain ⟨y0, y1, y2⟩ := y
  obtain ⟨x0, x1, x2, x3, x4⟩ := x
  unfold cmdV tokV at *
  dsimp only at *
  have HCMD := Lib.hid HCMD0
  have HTOK := Lib.hid htok0
  have HPK := Lib.hid hpk
  have HOP := Lib.hid hop
  have HAL := Lib.hid hal
  have HOC := Lib.hid hoc2
  have HDL := Lib.hid hDl
  have HK := Lib.hid hK
  have HN := Lib.hid hN
  clear HCMD0 htok0 hpk hop hal hoc2 hDl hK hN hchk hk0 hcl hc hb hb7 hm hm2 ha htk ht hD hac hoc hx hy hnn hoo
  go_enter Tryd.func4, Tryd.ntmps4
  go_upto_region 1 with fail
  generalize hW : World.alloc _ _ = w1
  have XW : Hid (w1.heap[w.heap.size]? = some (.cells #[.int .i64 x0, .int .i64 x1, .int .i64 x2, .int .i64 x3, .int .i64 x4] 23 (0, 0))) := Lib.hid (by rw [← hW]; exact heapNew0 _ _ _)
  have XV : Hid (w1.heap[w.heap.size + 1]? = some (.cells #[.int .i64 y0, .int .i64 y1, .int .i64 y2] 25 (0, 0))) := Lib.hid (by rw [← hW]; exact heapNew1 _ _ _)
  have Y : Hid (Below w.heap.size w w1) := Lib.hid (by rw [← hW]; exact ((Below.refl _ _).alloc (Nat.le_refl _) _).alloc (by simp) _)
  clear hW
  have cW_0 : w1.cell? ⟨w.heap.size, 0, none⟩ = some (.int .i64 x0) := cellAt XW.out 0 rfl
  have cW_1 : w1.cell? ⟨w.heap.size, 1, none⟩ = some (.int .i64 x1) := cellAt XW.out 1 rfl
  have cW_2 : w1.cell? ⟨w.heap.size, 2, none⟩ = some (.int .i64 x2) := cellAt XW.out 2 rfl
  have cW_3 : w1.cell? ⟨w.heap.size, 3, none⟩ = some (.int .i64 x3) := cellAt XW.out 3 rfl
  have cW_4 : w1.cell? ⟨w.heap.size, 4, none⟩ = some (.int .i64 x4) := cellAt XW.out 4 rfl
  have cV_0 : w1.cell? ⟨w.heap.size + 1, 0, none⟩ = some (.int .i64 y0) := cellAt XV.out 0 rfl
  have cV_1 : w1.cell? ⟨w.heap.size + 1, 1, none⟩ = some (.int .i64 y1) := cellAt XV.out 1 rfl
  have cV_2 : w1.cell? ⟨w.heap.size + 1, 2, none⟩ = some (.int .i64 y2) := cellAt XV.out 2 rfl
  go_upto_region 2 with (first
    | (go_at_call 6; refine (HCMD.out _).mono ?_; rintro e v1 ⟨rfl, hb⟩; have BD1 := Lib.hid hb; clear hb))
  generalize hW : World.alloc _ _ = w2
  have GF := Lib.hid (stageC' BD1.out hW)
  clear hW
  clear cW_0 cW_1 cW_2 cW_3 cW_4 cV_0 cV_1 cV_2
  have hrel := GF.out.1
  have xW : w2.heap[w.heap.size]? = some (.cells #[.int .i64 x0, .int .i64 x1, .int .i64 x2, .int .i64 x3, .int .i64 x4] 23 (0, 0)) := (hrel.block (w.heap.size) (lt_of_heap XW.out)).trans XW.out
  have xV : w2.heap[w.heap.size + 1]? = some (.cells #[.int .i64 y0, .int .i64 y1, .int .i64 y2] 25 (0, 0)) := (hrel.block (w.heap.size + 1) (lt_of_heap XV.out)).trans XV.out
  replace XW := Lib.hid xW
  clear xW
  replace XV := Lib.hid xV
  clear xV
  replace Y := Lib.hid (Y.out.trans (hrel.mono Y.out.size))
  clear hrel
  have Xc : Hid (w2.heap[v1.heap.size]? = some (.cells #[.int .i64 k, .int .i64 cl, .int .i64 sq, .int .i64 nm, .int .i64 vl] 26 (0, 0))) := Lib.hid (GF.out.2.1)
  clear GF BD1
  have cW_0 : w2.cell? ⟨w.heap.size, 0, none⟩ = some (.int .i64 x0) := cellAt XW.out 0 rfl
  have cW_1 : w2.cell? ⟨w.heap.size, 1, none⟩ = some (.int .i64 x1) := cellAt XW.out 1 rfl
  have cW_2 : w2.cell? ⟨w.heap.size, 2, none⟩ = some (.int .i64 x2) := cellAt XW.out 2 rfl
  have cW_3 : w2.cell? ⟨w.heap.size, 3, none⟩ = some (.int .i64 x3) := cellAt XW.out 3 rfl
  have cW_4 : w2.cell? ⟨w.heap.size, 4, none⟩ = some (.int .i64 x4) := cellAt XW.out 4 rfl
  have cV_0 : w2.cell? ⟨w.heap.size + 1, 0, none⟩ = some (.int .i64 y0) := cellAt XV.out 0 rfl
  have cV_1 : w2.cell? ⟨w.heap.size + 1, 1, none⟩ = some (.int .i64 y1) := cellAt XV.out 1 rfl
  have cV_2 : w2.cell? ⟨w.heap.size + 1, 2, none⟩ = some (.int .i64 y2) := cellAt XV.out 2 rfl
  have cc_0 : w2.cell? ⟨v1.heap.size, 0, none⟩ = some (.int .i64 k) := cellAt Xc.out 0 rfl
  have cc_1 : w2.cell? ⟨v1.heap.size, 1, none⟩ = some (.int .i64 cl) := cellAt Xc.out 1 rfl
  have cc_2 : w2.cell? ⟨v1.heap.size, 2, none⟩ = some (.int .i64 sq) := cellAt Xc.out 2 rfl
  have cc_3 : w2.cell? ⟨v1.heap.size, 3, none⟩ = some (.int .i64 nm) := cellAt Xc.out 3 rfl
  have cc_4 : w2.cell? ⟨v1.heap.size, 4, none⟩ = some (.int .i64 vl) := cellAt Xc.out 4 rfl
  go_upto_region 3 with (first
    | (go_at_call 7; refine (HTOK.out _).mono ?_; rintro e v2 ⟨rfl, hb⟩; have BD2 := Lib.hid hb; clear hb))
  generalize hW : World.alloc _ _ = w3
  have GF := Lib.hid (stageC' BD2.out hW)
  clear hW
  clear cW_0 cW_1 cW_2 cW_3 cW_4 cV_0 cV_1 cV_2 cc_0 cc_1 cc_2 cc_3 cc_4
  have hrel := GF.out.1
  have xW : w3.heap[w.heap.size]? = some (.cells #[.int .i64 x0, .int .i64 x1, .int .i64 x2, .int .i64 x3, .int .i64 x4] 23 (0, 0)) := (hrel.block (w.heap.size) (lt_of_heap XW.out)).trans XW.out
  have xV : w3.heap[w.heap.size + 1]? = some (.cells #[.int .i64 y0, .int .i64 y1, .int .i64 y2] 25 (0, 0)) := (hrel.block (w.heap.size + 1) (lt_of_heap XV.out)).trans XV.out
  have xc : w3.heap[v1.heap.size]? = some (.cells #[.int .i64 k, .int .i64 cl, .int .i64 sq, .int .i64 nm, .int .i64 vl] 26 (0, 0)) := (hrel.block (v1.heap.size) (lt_of_heap Xc.out)).trans Xc.out
  replace XW := Lib.hid xW
  clear xW
  replace XV := Lib.hid xV
  clear xV
  replace Xc := Lib.hid xc
  clear xc
  replace Y := Lib.hid (Y.out.trans (hrel.mono Y.out.size))
  clear hrel
  have Xt : Hid (w3.heap[v2.heap.size]? = some (.cells #[.int .i64 tc, .int .i64 tr, .int .i64 tu] 28 (0, 0))) := Lib.hid (GF.out.2.1)
  clear GF BD2
  go_upto_region 4 with (go_at_call 8; refine (HPA.out _).mono ?_; rintro e w9 ⟨rfl, rfl⟩)
  have S0d : w3.drew.cell? ⟨v2.heap.size, 0, none⟩ = some (.int .i64 tc) ∧ w3.drew.cell? ⟨v2.heap.size, 1, none⟩ = some (.int .i64 tr) ∧ w3.drew.cell? ⟨v2.heap.size, 2, none⟩ = some (.int .i64 tu) ∧ w3.drew.cell? ⟨v1.heap.size, 0, none⟩ = some (.int .i64 k) ∧ w3.drew.cell? ⟨v1.heap.size, 1, none⟩ = some (.int .i64 cl) ∧ w3.drew.cell? ⟨v1.heap.size, 2, none⟩ = some (.int .i64 sq) ∧ w3.drew.cell? ⟨v1.heap.size, 3, none⟩ = some (.int .i64 nm) ∧ w3.drew.cell? ⟨v1.heap.size, 4, none⟩ = some (.int .i64 vl) := ⟨cellAt Xt.out 0 rfl, cellAt Xt.out 1 rfl, cellAt Xt.out 2 rfl, cellAt Xc.out 0 rfl, cellAt Xc.out 1 rfl, cellAt Xc.out 2 rfl, cellAt Xc.out 3 rfl, cellAt Xc.out 4 rfl⟩
  have KD := Lib.hid (show Kn w3.drew from (show Kn w3 from HK.out.stay Y.out))
  go_region_held3 (fun w' => w'.cell? ⟨v2.heap.size, 0, none⟩ = some (.int .i64 tc) ∧ w'.cell? ⟨v2.heap.size, 1, none⟩ = some (.int .i64 tr) ∧ w'.cell? ⟨v2.heap.size, 2, none⟩ = some (.int .i64 tu) ∧ w'.cell? ⟨v1.heap.size, 0, none⟩ = some (.int .i64 k) ∧ w'.cell? ⟨v1.heap.size, 1, none⟩ = some (.int .i64 cl) ∧ w'.cell? ⟨v1.heap.size, 2, none⟩ = some (.int .i64 sq) ∧ w'.cell? ⟨v1.heap.size, 3, none⟩ = some (.int .i64 nm) ∧ w'.cell? ⟨v1.heap.size, 4, none⟩ = some (.int .i64 vl)) (first | with_reducible exact S0d | with_reducible exact S1d) (first
    | (go_at_call 8; refine (HPM.out _).mono ?_; rintro e w9 ⟨rfl, rfl⟩)
    | (go_at_call 9; refine (HPK.out _ KD.out).mono ?_; rintro e w4 ⟨vd, rfl, hod, hbp⟩; have OD := Lib.hid hod; have BP := Lib.hid (show Below w3.heap.size w3 w4 from (Below.refl _ _).drew.trans hbp); have S1d : w4.cell? ⟨v2.heap.size, 0, none⟩ = some (.int .i64 tc) ∧ w4.cell? ⟨v2.heap.size, 1, none⟩ = some (.int .i64 tr) ∧ w4.cell? ⟨v2.heap.size, 2, none⟩ = some (.int .i64 tu) ∧ w4.cell? ⟨v1.heap.size, 0, none⟩ = some (.int .i64 k) ∧ w4.cell? ⟨v1.heap.size, 1, none⟩ = some (.int .i64 cl) ∧ w4.cell? ⟨v1.heap.size, 2, none⟩ = some (.int .i64 sq) ∧ w4.cell? ⟨v1.heap.size, 3, none⟩ = some (.int .i64 nm) ∧ w4.cell? ⟨v1.heap.size, 4, none⟩ = some (.int .i64 vl) := ⟨cellAt ((BP.out.block _ (lt_of_heap Xt.out)).trans Xt.out) 0 rfl, cellAt ((BP.out.block _ (lt_of_heap Xt.out)).trans Xt.out) 1 rfl, cellAt ((BP.out.block _ (lt_of_heap Xt.out)).trans Xt.out) 2 rfl, cellAt ((BP.out.block _ (lt_of_heap Xc.out)).trans Xc.out) 0 rfl, cellAt ((BP.out.block _ (lt_of_heap Xc.out)).trans Xc.out) 1 rfl, cellAt ((BP.out.block _ (lt_of_heap Xc.out)).trans Xc.out) 2 rfl, cellAt ((BP.out.block _ (lt_of_heap Xc.out)).trans Xc.out) 3 rfl, cellAt ((BP.out.block _ (lt_of_heap Xc.out)).trans Xc.out) 4 rfl⟩; clear hod hbp))
  clear S0d S1d KD
  have hrel := BP.out
  have xW : w4.heap[w.heap.size]? = some (.cells #[.int .i64 x0, .int .i64 x1, .int .i64 x2, .int .i64 x3, .int .i64 x4] 23 (0, 0)) := (hrel.block (w.heap.size) (lt_of_heap XW.out)).trans XW.out
  have xV : w4.heap[w.heap.size + 1]? = some (.cells #[.int .i64 y0, .int .i64 y1, .int .i64 y2] 25 (0, 0)) := (hrel.block (w.heap.size + 1) (lt_of_heap XV.out)).trans XV.out
  have xc : w4.heap[v1.heap.size]? = some (.cells #[.int .i64 k, .int .i64 cl, .int .i64 sq, .int .i64 nm, .int .i64 vl] 26 (0, 0)) := (hrel.block (v1.heap.size) (lt_of_heap Xc.out)).trans Xc.out
  have xt : w4.heap[v2.heap.size]? = some (.cells #[.int .i64 tc, .int .i64 tr, .int .i64 tu] 28 (0, 0)) := (hrel.block (v2.heap.size) (lt_of_heap Xt.out)).trans Xt.out
  replace XW := Lib.hid xW
  clear xW
  replace XV := Lib.hid xV
  clear xV
  replace Xc := Lib.hid xc
  clear xc
  replace Xt := Lib.hid xt
  clear xt
  replace Y := Lib.hid (Y.out.trans (hrel.mono Y.out.size))
  clear hrel
  obtain ⟨da, dc, hvd, hd1, hd2, hd3, hd4⟩ := OD.out.shape (by intro h; have := HDL.out; rw [h] at this; cases this)
  rw [HDL.out] at hvd hd3
  subst hvd
  have RD := Lib.hid OD.out.rd
  clear BP OD hd1 hd2
  have KN := Lib.hid (HK.out.stay Y.out)
  have ND := Lib.hid (HN.out.stay Y.out)
  have cW_0 : w4.cell? ⟨w.heap.size, 0, none⟩ = some (.int .i64 x0) := cellAt XW.out 0 rfl
  have cW_1 : w4.cell? ⟨w.heap.size, 1, none⟩ = some (.int .i64 x1) := cellAt XW.out 1 rfl
  have cW_2 : w4.cell? ⟨w.heap.size, 2, none⟩ = some (.int .i64 x2) := cellAt XW.out 2 rfl
  have cW_3 : w4.cell? ⟨w.heap.size, 3, none⟩ = some (.int .i64 x3) := cellAt XW.out 3 rfl
  have cW_4 : w4.cell? ⟨w.heap.size, 4, none⟩ = some (.int .i64 x4) := cellAt XW.out 4 rfl
  have cV_0 : w4.cell? ⟨w.heap.size + 1, 0, none⟩ = some (.int .i64 y0) := cellAt XV.out 0 rfl
  have cV_1 : w4.cell? ⟨w.heap.size + 1, 1, none⟩ = some (.int .i64 y1) := cellAt XV.out 1 rfl
  have cV_2 : w4.cell? ⟨w.heap.size + 1, 2, none⟩ = some (.int .i64 y2) := cellAt XV.out 2 rfl
  have cc_0 : w4.cell? ⟨v1.heap.size, 0, none⟩ = some (.int .i64 k) := cellAt Xc.out 0 rfl
  have cc_1 : w4.cell? ⟨v1.heap.size, 1, none⟩ = some (.int .i64 cl) := cellAt Xc.out 1 rfl
  have cc_2 : w4.cell? ⟨v1.heap.size, 2, none⟩ = some (.int .i64 sq) := cellAt Xc.out 2 rfl
  have cc_3 : w4.cell? ⟨v1.heap.size, 3, none⟩ = some (.int .i64 nm) := cellAt Xc.out 3 rfl
  have cc_4 : w4.cell? ⟨v1.heap.size, 4, none⟩ = some (.int .i64 vl) := cellAt Xc.out 4 rfl
  have ct_0 : w4.cell? ⟨v2.heap.size, 0, none⟩ = some (.int .i64 tc) := cellAt Xt.out 0 rfl
  have ct_1 : w4.cell? ⟨v2.heap.size, 1, none⟩ = some (.int .i64 tr) := cellAt Xt.out 1 rfl
  have ct_2 : w4.cell? ⟨v2.heap.size, 2, none⟩ = some (.int .i64 tu) := cellAt Xt.out 2 rfl
  go_upto_region 6 with (first
    | (go_at_call 18; refine (HOP.out _ _ RD.out KN.out ND.out).mono ?_; rintro e v3 ⟨rfl, hb⟩; have BD3 := Lib.hid hb; clear hb))
  generalize hW : World.alloc _ _ = w5
  have GF := Lib.hid (stageC' BD3.out hW)
  clear hW
  clear cW_0 cW_1 cW_2 cW_3 cW_4 cV_0 cV_1 cV_2 cc_0 cc_1 cc_2 cc_3 cc_4 ct_0 ct_1 ct_2
  have hrel := GF.out.1
  have xW : w5.heap[w.heap.size]? = some (.cells #[.int .i64 x0, .int .i64 x1, .int .i64 x2, .int .i64 x3, .int .i64 x4] 23 (0, 0)) := (hrel.block (w.heap.size) (lt_of_heap XW.out)).trans XW.out
  have xV : w5.heap[w.heap.size + 1]? = some (.cells #[.int .i64 y0, .int .i64 y1, .int .i64 y2] 25 (0, 0)) := (hrel.block (w.heap.size + 1) (lt_of_heap XV.out)).trans XV.out
  have xc : w5.heap[v1.heap.size]? = some (.cells #[.int .i64 k, .int .i64 cl, .int .i64 sq, .int .i64 nm, .int .i64 vl] 26 (0, 0)) := (hrel.block (v1.heap.size) (lt_of_heap Xc.out)).trans Xc.out
  have xt : w5.heap[v2.heap.size]? = some (.cells #[.int .i64 tc, .int .i64 tr, .int .i64 tu] 28 (0, 0)) := (hrel.block (v2.heap.size) (lt_of_heap Xt.out)).trans Xt.out
  replace XW := Lib.hid xW
  clear xW
  replace XV := Lib.hid xV
  clear xV
  replace Xc := Lib.hid xc
  clear xc
  replace Xt := Lib.hid xt
  clear xt
  replace Y := Lib.hid (Y.out.trans (hrel.mono Y.out.size))
  clear hrel
  have Xo : Hid (w5.heap[v3.heap.size]? = some (.cells #[.int .i64 ok, .int .i64 ocl, .int .i64 osq, .int .i64 onm, .int .i64 ovl] 26 (0, 0))) := Lib.hid (GF.out.2.1)
  clear GF BD3
  have ND2 := Lib.hid (HN.out.stay Y.out)
  have cW_0 : w5.cell? ⟨w.heap.size, 0, none⟩ = some (.int .i64 x0) := cellAt XW.out 0 rfl
  have cW_1 : w5.cell? ⟨w.heap.size, 1, none⟩ = some (.int .i64 x1) := cellAt XW.out 1 rfl
  have cW_2 : w5.cell? ⟨w.heap.size, 2, none⟩ = some (.int .i64 x2) := cellAt XW.out 2 rfl
  have cW_3 : w5.cell? ⟨w.heap.size, 3, none⟩ = some (.int .i64 x3) := cellAt XW.out 3 rfl
  have cW_4 : w5.cell? ⟨w.heap.size, 4, none⟩ = some (.int .i64 x4) := cellAt XW.out 4 rfl
  have cV_0 : w5.cell? ⟨w.heap.size + 1, 0, none⟩ = some (.int .i64 y0) := cellAt XV.out 0 rfl
  have cV_1 : w5.cell? ⟨w.heap.size + 1, 1, none⟩ = some (.int .i64 y1) := cellAt XV.out 1 rfl
  have cV_2 : w5.cell? ⟨w.heap.size + 1, 2, none⟩ = some (.int .i64 y2) := cellAt XV.out 2 rfl
  have cc_0 : w5.cell? ⟨v1.heap.size, 0, none⟩ = some (.int .i64 k) := cellAt Xc.out 0 rfl
  have cc_1 : w5.cell? ⟨v1.heap.size, 1, none⟩ = some (.int .i64 cl) := cellAt Xc.out 1 rfl
  have cc_2 : w5.cell? ⟨v1.heap.size, 2, none⟩ = some (.int .i64 sq) := cellAt Xc.out 2 rfl
  have cc_3 : w5.cell? ⟨v1.heap.size, 3, none⟩ = some (.int .i64 nm) := cellAt Xc.out 3 rfl
  have cc_4 : w5.cell? ⟨v1.heap.size, 4, none⟩ = some (.int .i64 vl) := cellAt Xc.out 4 rfl
  have ct_0 : w5.cell? ⟨v2.heap.size, 0, none⟩ = some (.int .i64 tc) := cellAt Xt.out 0 rfl
  have ct_1 : w5.cell? ⟨v2.heap.size, 1, none⟩ = some (.int .i64 tr) := cellAt Xt.out 1 rfl
  have ct_2 : w5.cell? ⟨v2.heap.size, 2, none⟩ = some (.int .i64 tu) := cellAt Xt.out 2 rfl
  have co_0 : w5.cell? ⟨v3.heap.size, 0, none⟩ = some (.int .i64 ok) := cellAt Xo.out 0 rfl
  have co_1 : w5.cell? ⟨v3.heap.size, 1, none⟩ = some (.int .i64 ocl) := cellAt Xo.out 1 rfl
  have co_2 : w5.cell? ⟨v3.heap.size, 2, none⟩ = some (.int .i64 osq) := cellAt Xo.out 2 rfl
  have co_3 : w5.cell? ⟨v3.heap.size, 3, none⟩ = some (.int .i64 onm) := cellAt Xo.out 3 rfl
  have co_4 : w5.cell? ⟨v3.heap.size, 4, none⟩ = some (.int .i64 ovl) := cellAt Xo.out 4 rfl
  go_upto_region 7 with (first
    | (go_at_call 19; refine (HAL.out _ ND2.out).mono ?_; rintro e w6 ⟨rfl, hb⟩; have BDx := Lib.hid hb; clear hb))
  clear cW_0 cW_1 cW_2 cW_3 cW_4 cV_0 cV_1 cV_2 cc_0 cc_1 cc_2 cc_3 cc_4 ct_0 ct_1 ct_2 co_0 co_1 co_2 co_3 co_4
  have hrel := BDx.out
  have xW : w6.heap[w.heap.size]? = some (.cells #[.int .i64 x0, .int .i64 x1, .int .i64 x2, .int .i64 x3, .int .i64 x4] 23 (0, 0)) := (hrel.block (w.heap.size) (lt_of_heap XW.out)).trans XW.out
  have xV : w6.heap[w.heap.size + 1]? = some (.cells #[.int .i64 y0, .int .i64 y1, .int .i64 y2] 25 (0, 0)) := (hrel.block (w.heap.size + 1) (lt_of_heap XV.out)).trans XV.out
  have xc : w6.heap[v1.heap.size]? = some (.cells #[.int .i64 k, .int .i64 cl, .int .i64 sq, .int .i64 nm, .int .i64 vl] 26 (0, 0)) := (hrel.block (v1.heap.size) (lt_of_heap Xc.out)).trans Xc.out
  have xt : w6.heap[v2.heap.size]? = some (.cells #[.int .i64 tc, .int .i64 tr, .int .i64 tu] 28 (0, 0)) := (hrel.block (v2.heap.size) (lt_of_heap Xt.out)).trans Xt.out
  have xo : w6.heap[v3.heap.size]? = some (.cells #[.int .i64 ok, .int .i64 ocl, .int .i64 osq, .int .i64 onm, .int .i64 ovl] 26 (0, 0)) := (hrel.block (v3.heap.size) (lt_of_heap Xo.out)).trans Xo.out
  replace XW := Lib.hid xW
  clear xW
  replace XV := Lib.hid xV
  clear xV
  replace Xc := Lib.hid xc
  clear xc
  replace Xt := Lib.hid xt
  clear xt
  replace Xo := Lib.hid xo
  clear xo
  replace Y := Lib.hid (Y.out.trans (hrel.mono Y.out.size))
  clear hrel
  clear BDx
  by_cases ha : ac = 0
  · have hoc := HOC.out
    rw [if_pos ha] at hoc
    injection hoc with e1 e2 e3 e4 e5
    subst e1 e2 e3 e4 e5
    have ea : (ac != 0) = false := by simp [ha]
    have ea2 : (ac == 0) = true := by simp [ha]
    clear ha HOC
    have cW_0 : w6.cell? ⟨w.heap.size, 0, none⟩ = some (.int .i64 x0) := cellAt XW.out 0 rfl
    have cW_1 : w6.cell? ⟨w.heap.size, 1, none⟩ = some (.int .i64 x1) := cellAt XW.out 1 rfl
    have cW_2 : w6.cell? ⟨w.heap.size, 2, none⟩ = some (.int .i64 x2) := cellAt XW.out 2 rfl
    have cW_3 : w6.cell? ⟨w.heap.size, 3, none⟩ = some (.int .i64 x3) := cellAt XW.out 3 rfl
    have cW_4 : w6.cell? ⟨w.heap.size, 4, none⟩ = some (.int .i64 x4) := cellAt XW.out 4 rfl
    have cV_0 : w6.cell? ⟨w.heap.size + 1, 0, none⟩ = some (.int .i64 y0) := cellAt XV.out 0 rfl
    have cV_1 : w6.cell? ⟨w.heap.size + 1, 1, none⟩ = some (.int .i64 y1) := cellAt XV.out 1 rfl
    have cV_2 : w6.cell? ⟨w.heap.size + 1, 2, none⟩ = some (.int .i64 y2) := cellAt XV.out 2 rfl
    have cc_0 : w6.cell? ⟨v1.heap.size, 0, none⟩ = some (.int .i64 ok) := cellAt Xc.out 0 rfl
    have cc_1 : w6.cell? ⟨v1.heap.size, 1, none⟩ = some (.int .i64 ocl) := cellAt Xc.out 1 rfl
    have cc_2 : w6.cell? ⟨v1.heap.size, 2, none⟩ = some (.int .i64 osq) := cellAt Xc.out 2 rfl
    have cc_3 : w6.cell? ⟨v1.heap.size, 3, none⟩ = some (.int .i64 onm) := cellAt Xc.out 3 rfl
    have cc_4 : w6.cell? ⟨v1.heap.size, 4, none⟩ = some (.int .i64 ovl) := cellAt Xc.out 4 rfl
    have ct_0 : w6.cell? ⟨v2.heap.size, 0, none⟩ = some (.int .i64 tc) := cellAt Xt.out 0 rfl
    have ct_1 : w6.cell? ⟨v2.heap.size, 1, none⟩ = some (.int .i64 tr) := cellAt Xt.out 1 rfl
    have ct_2 : w6.cell? ⟨v2.heap.size, 2, none⟩ = some (.int .i64 tu) := cellAt Xt.out 2 rfl
    have co_0 : w6.cell? ⟨v3.heap.size, 0, none⟩ = some (.int .i64 ok) := cellAt Xo.out 0 rfl
    have co_1 : w6.cell? ⟨v3.heap.size, 1, none⟩ = some (.int .i64 ocl) := cellAt Xo.out 1 rfl
    have co_2 : w6.cell? ⟨v3.heap.size, 2, none⟩ = some (.int .i64 osq) := cellAt Xo.out 2 rfl
    have co_3 : w6.cell? ⟨v3.heap.size, 3, none⟩ = some (.int .i64 onm) := cellAt Xo.out 3 rfl
    have co_4 : w6.cell? ⟨v3.heap.size, 4, none⟩ = some (.int .i64 ovl) := cellAt Xo.out 4 rfl
    go_wp2
    go_ret
    exact ⟨rfl, Y.out⟩
  · have hoc := HOC.out
    rw [if_neg ha] at hoc
    injection hoc with e1 e2 e3 e4 e5
    subst e1 e2 e3 e4 e5
    have ea : (ac != 0) = true := by rw [bne_iff_ne]; exact ha
    have ea2 : (ac == 0) = false := by rw [beq_eq_false_iff_ne]; exact ha
    clear ha HOC
    have cW_0 : w6.cell? ⟨w.heap.size, 0, none⟩ = some (.int .i64 x0) := cellAt XW.out 0 rfl
    have cW_1 : w6.cell? ⟨w.heap.size, 1, none⟩ = some (.int .i64 x1) := cellAt XW.out 1 rfl
    have cW_2 : w6.cell? ⟨w.heap.size, 2, none⟩ = some (.int .i64 x2) := cellAt XW.out 2 rfl
    have cW_3 : w6.cell? ⟨w.heap.size, 3, none⟩ = some (.int .i64 x3) := cellAt XW.out 3 rfl
    have cW_4 : w6.cell? ⟨w.heap.size, 4, none⟩ = some (.int .i64 x4) := cellAt XW.out 4 rfl
    have cV_0 : w6.cell? ⟨w.heap.size + 1, 0, none⟩ = some (.int .i64 y0) := cellAt XV.out 0 rfl
    have cV_1 : w6.cell? ⟨w.heap.size + 1, 1, none⟩ = some (.int .i64 y1) := cellAt XV.out 1 rfl
    have cV_2 : w6.cell? ⟨w.heap.size + 1, 2, none⟩ = some (.int .i64 y2) := cellAt XV.out 2 rfl
    have cc_0 : w6.cell? ⟨v1.heap.size, 0, none⟩ = some (.int .i64 k) := cellAt Xc.out 0 rfl
    have cc_1 : w6.cell? ⟨v1.heap.size, 1, none⟩ = some (.int .i64 cl) := cellAt Xc.out 1 rfl
    have cc_2 : w6.cell? ⟨v1.heap.size, 2, none⟩ = some (.int .i64 sq) := cellAt Xc.out 2 rfl
    have cc_3 : w6.cell? ⟨v1.heap.size, 3, none⟩ = some (.int .i64 nm) := cellAt Xc.out 3 rfl
    have cc_4 : w6.cell? ⟨v1.heap.size, 4, none⟩ = some (.int .i64 vl) := cellAt Xc.out 4 rfl
    have ct_0 : w6.cell? ⟨v2.heap.size, 0, none⟩ = some (.int .i64 tc) := cellAt Xt.out 0 rfl
    have ct_1 : w6.cell? ⟨v2.heap.size, 1, none⟩ = some (.int .i64 tr) := cellAt Xt.out 1 rfl
    have ct_2 : w6.cell? ⟨v2.heap.size, 2, none⟩ = some (.int .i64 tu) := cellAt Xt.out 2 rfl
    have co_0 : w6.cell? ⟨v3.heap.size, 0, none⟩ = some (.int .i64 0) := cellAt Xo.out 0 rfl
    have co_1 : w6.cell? ⟨v3.heap.size, 1, none⟩ = some (.int .i64 0) := cellAt Xo.out 1 rfl
    have co_2 : w6.cell? ⟨v3.heap.size, 2, none⟩ = some (.int .i64 0) := cellAt Xo.out 2 rfl
    have co_3 : w6.cell? ⟨v3.heap.size, 3, none⟩ = some (.int .i64 0) := cellAt Xo.out 3 rfl
    have co_4 : w6.cell? ⟨v3.heap.size, 4, none⟩ = some (.int .i64 0) := cellAt Xo.out 4 rfl
    go_wp2
    go_ret
    exact ⟨rfl, Y.out⟩
end Go.Proofs.YtpkfbmafbkgcmaaDoor
