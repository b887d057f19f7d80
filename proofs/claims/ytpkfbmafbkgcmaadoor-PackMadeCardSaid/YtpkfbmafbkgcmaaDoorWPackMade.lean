/-
  The walk of PackMade (written by laws_pack.py).
-/
import Derived.Test.YtpkfbmafbkgcmaaDoorMg15
import Derived.Test.YtpkfbmafbkgcmaaDoorMg16
import Derived.Test.YtpkfbmafbkgcmaaDoorMg4
import Derived.Test.YtpkfbmafbkgcmaaDoorMg14
set_option linter.unusedVariables false
set_option linter.unusedSimpArgs false
namespace Go.Proofs.YtpkfbmafbkgcmaaDoor
open Go.RowKit Go.Con
set_option maxRecDepth 100000 in
set_option maxHeartbeats 2000000 in
theorem walk_PackMade (v0 : Value) (x : Cmd) (v1 : Value) (y : Con.Tok) (v2 : Value) (n : Int) (w : World) (hu : IsWish v0 x) (hp : IsPass v1 y) (hn : IsInt v2 n) (hK : Kn w) :
    Calls Tryd.prog 3 #[v0, v1, v2] w fun e w' => e = .returned (.bool true) ∧ Below w.heap.size w w' := by
  obtain ⟨rfl, hx⟩ := hu
  obtain ⟨rfl, hy⟩ := hp
  obtain ⟨rfl, hnn⟩ := hn
  have HCMD0 := fun W => Command_any x W hx
  have hchk : checkC (cmdOf x) = 0 := cmdOf_check x
  have hk0 : (cmdOf x).kind ≠ 0 := by have h1 := pick_nonneg x.kind 5 (by omega); simp only [cmdOf]; omega
  have hcl : 0 ≤ (cmdOf x).client ∧ (cmdOf x).client < 4 := ⟨pick_nonneg x.client 4 (by omega), pick_lt x.client 4 (by omega)⟩
  obtain ⟨c, hc⟩ : ∃ c, c = cmdOf x := ⟨_, rfl⟩
  rw [← hc] at HCMD0 hchk hk0 hcl
  obtain ⟨b, hb⟩ : ∃ b : UInt8, c.client = b.toNat := ⟨UInt8.ofNat c.client.toNat, by rw [UInt8.toNat_ofNat']; omega⟩
  have hb7 : b.toNat ≤ 7 := by omega
  obtain ⟨m, hm⟩ : ∃ m : Nat, (m : Int) = pick n 1073741824 := ⟨(pick n 1073741824).toNat, by have := pick_nonneg n 1073741824 (by omega); omega⟩
  have hm2 : m < 1073741824 := by have := pick_lt n 1073741824 (by omega); omega
  have HPM : Hid (∀ W, Calls Tryd.prog 8 #[.int .i64 n, .int .i64 1073741824] W fun e w' => e = .returned (.int .i64 (m : Int)) ∧ W = w') := Lib.hid (fun W => by rw [hm]; exact picked_any _ _ _ hnn.1 hnn.2 (by decide))
  have htok0 := fun W => Token_any y W hy
  have htk : (tokOf y).Ok := tokOf_ok y
  obtain ⟨t, ht⟩ : ∃ t, t = tokOf y := ⟨_, rfl⟩
  rw [← ht] at htok0 htk
  obtain ⟨P, hP⟩ : ∃ P, P = tokenB keyI t ++ encC c := ⟨_, rfl⟩
  obtain ⟨Q, hQ⟩ : ∃ Q, Q = recB (keyC b) m P := ⟨_, rfl⟩
  obtain ⟨D, hD⟩ : ∃ D, D = packB b m t c := ⟨_, rfl⟩
  have hDQ : D = [b] ++ Q := by rw [hD, packB, ← hP, ← hQ]
  have hDl : D.length = 63 := by rw [hD]; exact packB_length _ _ _ _
  obtain ⟨TB, hTB⟩ : ∃ TB, TB = tokenB keyI t := ⟨_, rfl⟩
  obtain ⟨EC, hEC⟩ : ∃ EC, EC = encC c := ⟨_, rfl⟩
  obtain ⟨KC, hKC⟩ : ∃ KC, KC = keyC b := ⟨_, rfl⟩
  have hPE : P = TB ++ EC := by rw [hP, hTB, hEC]
  have hTl : TB.length = 22 := by rw [hTB]; exact tokenB_length _ _
  have hEl : EC.length = 20 := by rw [hEC]; rfl
  have hKl : KC.length = 32 := by rw [hKC]; exact keyC_length _
  have hPl : P.length = 42 := by rw [hPE, List.length_append, hTl, hEl]
  have hQl : Q.length = 62 := by rw [hQ, recB_length, hPl]
  have hpk := fun W h => Pack_ok m t c b W hm2 htk hchk hb hb7 h
  rw [← hD] at hpk
  have hgr := fun v w h1 h2 => Grant_ok v keyI t w h1 keyI_length htk h2
  have hen := fun w => Encode_ok c w hchk
  have hky := fun w hk => Key_ok b w hb7 hk
  have hdr : ∀ (a1 a2 : Value) (W : World), Rd W a1 [b] → Rd W a2 [99, 108, 105, 101, 110, 116] → Kn W → Calls Tryd.prog 10 #[a1, a2, .slice none 0 0, .int .i64 32] W (FreshRE W (keyC b) 0) := fun a1 a2 W h1 h2 h3 => Draw_ok a1 a2 _ [b] [99, 108, 105, 101, 110, 116] [] 32 W h1 h2 (Rd.nil _) (by simp) (by simp) (by simp) (by decide) h3
  rw [← hTB] at hgr
  rw [← hEC] at hen
  rw [← hKC] at hky hdr hQ
  have hsd : ∀ (a : Addr) (c : Nat) (pv : Value) (w : World), Rd w (.slice (some a) 32 c) KC → Rd w pv P → Calls Tryd.prog 15 #[.agg #[.slice (some a) 32 c, .int .i64 m, .int .i64 0, .bool false, .bool false, .bool false, .bool false, .bool false, .bool false, .bool false, .bool false], pv] w fun e w' => ∃ kg kcap rv, e = .returned (.tuple #[.agg #[.slice (some ⟨kg, 0, none⟩) 32 kcap, .int .i64 ((m : Int) + 1), .int .i64 0, .bool false, .bool false, .bool false, .bool false, .bool false, .bool false, .bool false, .bool false], rv, .int .i64 0]) ∧ Own w' w.heap.size (.slice (some ⟨kg, 0, none⟩) 32 kcap) KC ∧ Own w' w.heap.size rv Q ∧ Below w.heap.size w w' := fun a c pv w h1 h2 => Send_lit a c pv KC P Q m 0 (fun _ => false) w h1 h2 hKl (by omega) hm2 (by decide) Rep.none.ok hQ.symm
  obtain ⟨k, cl, sq, nm, vl⟩ := c
  obtain ⟨tc, tr, tu⟩ := t
  obtain ⟨y0, y1, y2⟩ := y
  obtain ⟨x0, x1, x2, x3, x4⟩ := x
  unfold cmdV tokV at *
  dsimp only at *
  subst hb
  have hb8 : (b.toNat : Int) ≤ 7 := by omega
  have hb0 : (0 : Int) ≤ (b.toNat : Int) := by omega
  have HCMD := Lib.hid HCMD0
  have HTOK := Lib.hid htok0
  have HPK := Lib.hid hpk
  have HGR := Lib.hid hgr
  have HEN := Lib.hid hen
  have HKY := Lib.hid hky
  have HDR := Lib.hid hdr
  have HSD := Lib.hid hsd
  have HDL := Lib.hid hDl
  have HDQ := Lib.hid hDQ
  have HPE := Lib.hid hPE
  have HKL := Lib.hid hKl
  have HTL := Lib.hid hTl
  have HEL := Lib.hid hEl
  have HQL := Lib.hid hQl
  have HK := Lib.hid hK
  clear HCMD0 htok0 hpk hgr hen hky hdr hsd hDl hDQ hPE hKl hTl hEl hPl hQl hK hchk hk0 hcl hc hb7 hm hm2 htk ht hD hP hQ hTB hEC hKC hx hy hnn
  go_enter Tryd.func3, Tryd.ntmps3
  go_upto_region 1 with fail
  generalize hW : World.alloc _ _ = w1
  have XW : Hid (w1.heap[w.heap.size]? = some (.cells #[.int .i64 x0, .int .i64 x1, .int .i64 x2, .int .i64 x3, .int .i64 x4] 23 (0, 0))) := Lib.hid (by rw [← hW]; exact heapNew0 _ _ _)
  have XV : Hid (w1.heap[w.heap.size + 1]? = some (.cells #[.int .i64 y0, .int .i64 y1, .int .i64 y2] 25 (0, 0))) := Lib.hid (by rw [← hW]; exact heapNew1 _ _ _)
  have Y : Hid (Below w.heap.size w w1) := Lib.hid (by rw [← hW]; exact ((Below.refl _ _).alloc (Nat.le_refl _) _).alloc (by simp) _)
  clear hW
  have cW_0 : w1.cell? ⟨w.heap.size, 0, none⟩ = some (.int .i64 x0) := cellAt XW.out 0 rfl
  have cW_1 : w1.cell? ⟨w.heap.size, 1, none⟩ = some (.int .i64 x1) := cellAt XW.out 1 rfl
  have cW_2 : w1.cell? ⟨w.heap.size, 2, none⟩ = some (.int .i64 x2) := cellAt XW.out 2 rfl
  have cW_3 : w1.cell? ⟨w.heap.size, 3, none⟩ = some (.int .i64 x3) := cellAt XW.out 3 rfl
  have cW_4 : w1.cell? ⟨w.heap.size, 4, none⟩ = some (.int .i64 x4) := cellAt XW.out 4 rfl
  have cV_0 : w1.cell? ⟨w.heap.size + 1, 0, none⟩ = some (.int .i64 y0) := cellAt XV.out 0 rfl
  have cV_1 : w1.cell? ⟨w.heap.size + 1, 1, none⟩ = some (.int .i64 y1) := cellAt XV.out 1 rfl
  have cV_2 : w1.cell? ⟨w.heap.size + 1, 2, none⟩ = some (.int .i64 y2) := cellAt XV.out 2 rfl
  go_upto_region 2 with (first
    | (go_at_call 6; refine (HCMD.out _).mono ?_; rintro e v1 ⟨rfl, hb⟩; have BD1 := Lib.hid hb; clear hb))
  generalize hW : World.alloc _ _ = w2
  have GF := Lib.hid (stageC' BD1.out hW)
  clear hW
  clear cW_0 cW_1 cW_2 cW_3 cW_4 cV_0 cV_1 cV_2
  have hrel := GF.out.1
  have xW : w2.heap[w.heap.size]? = some (.cells #[.int .i64 x0, .int .i64 x1, .int .i64 x2, .int .i64 x3, .int .i64 x4] 23 (0, 0)) := (hrel.block (w.heap.size) (lt_of_heap XW.out)).trans XW.out
  have xV : w2.heap[w.heap.size + 1]? = some (.cells #[.int .i64 y0, .int .i64 y1, .int .i64 y2] 25 (0, 0)) := (hrel.block (w.heap.size + 1) (lt_of_heap XV.out)).trans XV.out
  replace XW := Lib.hid xW
  clear xW
  replace XV := Lib.hid xV
  clear xV
  replace Y := Lib.hid (Y.out.trans (hrel.mono Y.out.size))
  clear hrel
  have Xc : Hid (w2.heap[v1.heap.size]? = some (.cells #[.int .i64 k, .int .i64 b.toNat, .int .i64 sq, .int .i64 nm, .int .i64 vl] 26 (0, 0))) := Lib.hid (GF.out.2.1)
  clear GF BD1
  have cW_0 : w2.cell? ⟨w.heap.size, 0, none⟩ = some (.int .i64 x0) := cellAt XW.out 0 rfl
  have cW_1 : w2.cell? ⟨w.heap.size, 1, none⟩ = some (.int .i64 x1) := cellAt XW.out 1 rfl
  have cW_2 : w2.cell? ⟨w.heap.size, 2, none⟩ = some (.int .i64 x2) := cellAt XW.out 2 rfl
  have cW_3 : w2.cell? ⟨w.heap.size, 3, none⟩ = some (.int .i64 x3) := cellAt XW.out 3 rfl
  have cW_4 : w2.cell? ⟨w.heap.size, 4, none⟩ = some (.int .i64 x4) := cellAt XW.out 4 rfl
  have cV_0 : w2.cell? ⟨w.heap.size + 1, 0, none⟩ = some (.int .i64 y0) := cellAt XV.out 0 rfl
  have cV_1 : w2.cell? ⟨w.heap.size + 1, 1, none⟩ = some (.int .i64 y1) := cellAt XV.out 1 rfl
  have cV_2 : w2.cell? ⟨w.heap.size + 1, 2, none⟩ = some (.int .i64 y2) := cellAt XV.out 2 rfl
  have cc_0 : w2.cell? ⟨v1.heap.size, 0, none⟩ = some (.int .i64 k) := cellAt Xc.out 0 rfl
  have cc_1 : w2.cell? ⟨v1.heap.size, 1, none⟩ = some (.int .i64 b.toNat) := cellAt Xc.out 1 rfl
  have cc_2 : w2.cell? ⟨v1.heap.size, 2, none⟩ = some (.int .i64 sq) := cellAt Xc.out 2 rfl
  have cc_3 : w2.cell? ⟨v1.heap.size, 3, none⟩ = some (.int .i64 nm) := cellAt Xc.out 3 rfl
  have cc_4 : w2.cell? ⟨v1.heap.size, 4, none⟩ = some (.int .i64 vl) := cellAt Xc.out 4 rfl
  go_upto_region 3 with (first
    | (go_at_call 7; refine (HTOK.out _).mono ?_; rintro e v2 ⟨rfl, hb⟩; have BD2 := Lib.hid hb; clear hb))
  generalize hW : World.alloc _ _ = w3
  have GF := Lib.hid (stageC' BD2.out hW)
  clear hW
  clear cW_0 cW_1 cW_2 cW_3 cW_4 cV_0 cV_1 cV_2 cc_0 cc_1 cc_2 cc_3 cc_4
  have hrel := GF.out.1
  have xW : w3.heap[w.heap.size]? = some (.cells #[.int .i64 x0, .int .i64 x1, .int .i64 x2, .int .i64 x3, .int .i64 x4] 23 (0, 0)) := (hrel.block (w.heap.size) (lt_of_heap XW.out)).trans XW.out
  have xV : w3.heap[w.heap.size + 1]? = some (.cells #[.int .i64 y0, .int .i64 y1, .int .i64 y2] 25 (0, 0)) := (hrel.block (w.heap.size + 1) (lt_of_heap XV.out)).trans XV.out
  have xc : w3.heap[v1.heap.size]? = some (.cells #[.int .i64 k, .int .i64 b.toNat, .int .i64 sq, .int .i64 nm, .int .i64 vl] 26 (0, 0)) := (hrel.block (v1.heap.size) (lt_of_heap Xc.out)).trans Xc.out
  replace XW := Lib.hid xW
  clear xW
  replace XV := Lib.hid xV
  clear xV
  replace Xc := Lib.hid xc
  clear xc
  replace Y := Lib.hid (Y.out.trans (hrel.mono Y.out.size))
  clear hrel
  have Xt : Hid (w3.heap[v2.heap.size]? = some (.cells #[.int .i64 tc, .int .i64 tr, .int .i64 tu] 28 (0, 0))) := Lib.hid (GF.out.2.1)
  clear GF BD2
  have K3 := Lib.hid (HK.out.stay Y.out)
  have cW_0 : w3.cell? ⟨w.heap.size, 0, none⟩ = some (.int .i64 x0) := cellAt XW.out 0 rfl
  have cW_1 : w3.cell? ⟨w.heap.size, 1, none⟩ = some (.int .i64 x1) := cellAt XW.out 1 rfl
  have cW_2 : w3.cell? ⟨w.heap.size, 2, none⟩ = some (.int .i64 x2) := cellAt XW.out 2 rfl
  have cW_3 : w3.cell? ⟨w.heap.size, 3, none⟩ = some (.int .i64 x3) := cellAt XW.out 3 rfl
  have cW_4 : w3.cell? ⟨w.heap.size, 4, none⟩ = some (.int .i64 x4) := cellAt XW.out 4 rfl
  have cV_0 : w3.cell? ⟨w.heap.size + 1, 0, none⟩ = some (.int .i64 y0) := cellAt XV.out 0 rfl
  have cV_1 : w3.cell? ⟨w.heap.size + 1, 1, none⟩ = some (.int .i64 y1) := cellAt XV.out 1 rfl
  have cV_2 : w3.cell? ⟨w.heap.size + 1, 2, none⟩ = some (.int .i64 y2) := cellAt XV.out 2 rfl
  have cc_0 : w3.cell? ⟨v1.heap.size, 0, none⟩ = some (.int .i64 k) := cellAt Xc.out 0 rfl
  have cc_1 : w3.cell? ⟨v1.heap.size, 1, none⟩ = some (.int .i64 b.toNat) := cellAt Xc.out 1 rfl
  have cc_2 : w3.cell? ⟨v1.heap.size, 2, none⟩ = some (.int .i64 sq) := cellAt Xc.out 2 rfl
  have cc_3 : w3.cell? ⟨v1.heap.size, 3, none⟩ = some (.int .i64 nm) := cellAt Xc.out 3 rfl
  have cc_4 : w3.cell? ⟨v1.heap.size, 4, none⟩ = some (.int .i64 vl) := cellAt Xc.out 4 rfl
  have ct_0 : w3.cell? ⟨v2.heap.size, 0, none⟩ = some (.int .i64 tc) := cellAt Xt.out 0 rfl
  have ct_1 : w3.cell? ⟨v2.heap.size, 1, none⟩ = some (.int .i64 tr) := cellAt Xt.out 1 rfl
  have ct_2 : w3.cell? ⟨v2.heap.size, 2, none⟩ = some (.int .i64 tu) := cellAt Xt.out 2 rfl
  go_upto_region 5 with (first
    | (go_at_call 8; refine (HPM.out _).mono ?_; rintro e w9 ⟨rfl, rfl⟩)
    | (go_at_call 9; refine (HPK.out _ K3.out).mono ?_; rintro e w4 ⟨vd, rfl, hod, hbp⟩; have RB := Lib.hid hod.rd; have BP := Lib.hid hbp; clear hod hbp))
  clear cW_0 cW_1 cW_2 cW_3 cW_4 cV_0 cV_1 cV_2 cc_0 cc_1 cc_2 cc_3 cc_4 ct_0 ct_1 ct_2
  have hrel := BP.out
  have xW : w4.heap[w.heap.size]? = some (.cells #[.int .i64 x0, .int .i64 x1, .int .i64 x2, .int .i64 x3, .int .i64 x4] 23 (0, 0)) := (hrel.block (w.heap.size) (lt_of_heap XW.out)).trans XW.out
  have xV : w4.heap[w.heap.size + 1]? = some (.cells #[.int .i64 y0, .int .i64 y1, .int .i64 y2] 25 (0, 0)) := (hrel.block (w.heap.size + 1) (lt_of_heap XV.out)).trans XV.out
  have xc : w4.heap[v1.heap.size]? = some (.cells #[.int .i64 k, .int .i64 b.toNat, .int .i64 sq, .int .i64 nm, .int .i64 vl] 26 (0, 0)) := (hrel.block (v1.heap.size) (lt_of_heap Xc.out)).trans Xc.out
  have xt : w4.heap[v2.heap.size]? = some (.cells #[.int .i64 tc, .int .i64 tr, .int .i64 tu] 28 (0, 0)) := (hrel.block (v2.heap.size) (lt_of_heap Xt.out)).trans Xt.out
  replace XW := Lib.hid xW
  clear xW
  replace XV := Lib.hid xV
  clear xV
  replace Xc := Lib.hid xc
  clear xc
  replace Xt := Lib.hid xt
  clear xt
  replace Y := Lib.hid (Y.out.trans (hrel.mono Y.out.size))
  clear hrel
  clear BP K3
  have kc := fun (w : World) (A : Obj) (C : Array Value) (n c : Nat) => kconst1 w A C n c
  have b1 : Below w4.heap.size w4 ((w4.alloc (.cells #[.int .u8 b.toNat] 5)).alloc (.cells ([99, 108, 105, 101, 110, 116].map u8v).toArray 5 (6, 7))) := ((Below.refl _ _).alloc (Nat.le_refl _) _).alloc (by simp) _
  have HR1 := Lib.hid (show Rd ((w4.alloc (.cells #[.int .u8 b.toNat] 5)).alloc (.cells ([99, 108, 105, 101, 110, 116].map u8v).toArray 5 (6, 7))) (.slice (some ⟨w4.heap.size, 0, none⟩) 1 1) [b] from (newB w4 _ b rfl).alloc _)
  have hr2 : Rd ((w4.alloc (.cells #[.int .u8 b.toNat] 5)).alloc (.cells ([99, 108, 105, 101, 110, 116].map u8v).toArray 5 (6, 7))) (.slice (some ⟨w4.heap.size + 1, 0, none⟩) 6 6) [99, 108, 105, 101, 110, 116] := by
    have h := Rd.newMark (w4.alloc (.cells #[.int .u8 b.toNat] 5)) [99, 108, 105, 101, 110, 116] 6 (6, 7) rfl (by decide)
    have e : (w4.alloc (.cells #[.int .u8 b.toNat] 5)).heap.size = w4.heap.size + 1 := by simp
    rw [e] at h; exact h
  have HR2 := Lib.hid hr2
  have B1 := Lib.hid b1
  have K4 := Lib.hid ((HK.out.stay Y.out).stay b1)
  clear hr2 b1
  have cW_0 : w4.cell? ⟨w.heap.size, 0, none⟩ = some (.int .i64 x0) := cellAt XW.out 0 rfl
  have cW_1 : w4.cell? ⟨w.heap.size, 1, none⟩ = some (.int .i64 x1) := cellAt XW.out 1 rfl
  have cW_2 : w4.cell? ⟨w.heap.size, 2, none⟩ = some (.int .i64 x2) := cellAt XW.out 2 rfl
  have cW_3 : w4.cell? ⟨w.heap.size, 3, none⟩ = some (.int .i64 x3) := cellAt XW.out 3 rfl
  have cW_4 : w4.cell? ⟨w.heap.size, 4, none⟩ = some (.int .i64 x4) := cellAt XW.out 4 rfl
  have cV_0 : w4.cell? ⟨w.heap.size + 1, 0, none⟩ = some (.int .i64 y0) := cellAt XV.out 0 rfl
  have cV_1 : w4.cell? ⟨w.heap.size + 1, 1, none⟩ = some (.int .i64 y1) := cellAt XV.out 1 rfl
  have cV_2 : w4.cell? ⟨w.heap.size + 1, 2, none⟩ = some (.int .i64 y2) := cellAt XV.out 2 rfl
  have cc_0 : w4.cell? ⟨v1.heap.size, 0, none⟩ = some (.int .i64 k) := cellAt Xc.out 0 rfl
  have cc_1 : w4.cell? ⟨v1.heap.size, 1, none⟩ = some (.int .i64 b.toNat) := cellAt Xc.out 1 rfl
  have cc_2 : w4.cell? ⟨v1.heap.size, 2, none⟩ = some (.int .i64 sq) := cellAt Xc.out 2 rfl
  have cc_3 : w4.cell? ⟨v1.heap.size, 3, none⟩ = some (.int .i64 nm) := cellAt Xc.out 3 rfl
  have cc_4 : w4.cell? ⟨v1.heap.size, 4, none⟩ = some (.int .i64 vl) := cellAt Xc.out 4 rfl
  have ct_0 : w4.cell? ⟨v2.heap.size, 0, none⟩ = some (.int .i64 tc) := cellAt Xt.out 0 rfl
  have ct_1 : w4.cell? ⟨v2.heap.size, 1, none⟩ = some (.int .i64 tr) := cellAt Xt.out 1 rfl
  have ct_2 : w4.cell? ⟨v2.heap.size, 2, none⟩ = some (.int .i64 tu) := cellAt Xt.out 2 rfl
  go_upto_region 6 with (go_at_call 10; refine (HDR.out _ _ _ HR1.out HR2.out K4.out).mono ?_; rintro e w5 ⟨v5, rfl, hv5, hf5, hb5⟩; have RK := Lib.hid hv5; have BP := Lib.hid (B1.out.trans (hb5.mono B1.out.size)); clear hv5 hf5 hb5)
  clear cW_0 cW_1 cW_2 cW_3 cW_4 cV_0 cV_1 cV_2 cc_0 cc_1 cc_2 cc_3 cc_4 ct_0 ct_1 ct_2
  clear kc HR1 HR2 B1 K4
  have hrel := BP.out
  have xW : w5.heap[w.heap.size]? = some (.cells #[.int .i64 x0, .int .i64 x1, .int .i64 x2, .int .i64 x3, .int .i64 x4] 23 (0, 0)) := (hrel.block (w.heap.size) (lt_of_heap XW.out)).trans XW.out
  have xV : w5.heap[w.heap.size + 1]? = some (.cells #[.int .i64 y0, .int .i64 y1, .int .i64 y2] 25 (0, 0)) := (hrel.block (w.heap.size + 1) (lt_of_heap XV.out)).trans XV.out
  have xc : w5.heap[v1.heap.size]? = some (.cells #[.int .i64 k, .int .i64 b.toNat, .int .i64 sq, .int .i64 nm, .int .i64 vl] 26 (0, 0)) := (hrel.block (v1.heap.size) (lt_of_heap Xc.out)).trans Xc.out
  have xt : w5.heap[v2.heap.size]? = some (.cells #[.int .i64 tc, .int .i64 tr, .int .i64 tu] 28 (0, 0)) := (hrel.block (v2.heap.size) (lt_of_heap Xt.out)).trans Xt.out
  replace RB := Lib.hid (RB.out.stay hrel)
  replace XW := Lib.hid xW
  clear xW
  replace XV := Lib.hid xV
  clear xV
  replace Xc := Lib.hid xc
  clear xc
  replace Xt := Lib.hid xt
  clear xt
  replace Y := Lib.hid (Y.out.trans (hrel.mono Y.out.size))
  clear hrel
  clear BP
  obtain ⟨kb, koff, kcap, hvk, _, _⟩ := RK.out.shapeN 32 HKL.out (by decide)
  subst hvk
  have K5 := Lib.hid (HK.out.stay Y.out)
  have cW_0 : w5.cell? ⟨w.heap.size, 0, none⟩ = some (.int .i64 x0) := cellAt XW.out 0 rfl
  have cW_1 : w5.cell? ⟨w.heap.size, 1, none⟩ = some (.int .i64 x1) := cellAt XW.out 1 rfl
  have cW_2 : w5.cell? ⟨w.heap.size, 2, none⟩ = some (.int .i64 x2) := cellAt XW.out 2 rfl
  have cW_3 : w5.cell? ⟨w.heap.size, 3, none⟩ = some (.int .i64 x3) := cellAt XW.out 3 rfl
  have cW_4 : w5.cell? ⟨w.heap.size, 4, none⟩ = some (.int .i64 x4) := cellAt XW.out 4 rfl
  have cV_0 : w5.cell? ⟨w.heap.size + 1, 0, none⟩ = some (.int .i64 y0) := cellAt XV.out 0 rfl
  have cV_1 : w5.cell? ⟨w.heap.size + 1, 1, none⟩ = some (.int .i64 y1) := cellAt XV.out 1 rfl
  have cV_2 : w5.cell? ⟨w.heap.size + 1, 2, none⟩ = some (.int .i64 y2) := cellAt XV.out 2 rfl
  have cc_0 : w5.cell? ⟨v1.heap.size, 0, none⟩ = some (.int .i64 k) := cellAt Xc.out 0 rfl
  have cc_1 : w5.cell? ⟨v1.heap.size, 1, none⟩ = some (.int .i64 b.toNat) := cellAt Xc.out 1 rfl
  have cc_2 : w5.cell? ⟨v1.heap.size, 2, none⟩ = some (.int .i64 sq) := cellAt Xc.out 2 rfl
  have cc_3 : w5.cell? ⟨v1.heap.size, 3, none⟩ = some (.int .i64 nm) := cellAt Xc.out 3 rfl
  have cc_4 : w5.cell? ⟨v1.heap.size, 4, none⟩ = some (.int .i64 vl) := cellAt Xc.out 4 rfl
  have ct_0 : w5.cell? ⟨v2.heap.size, 0, none⟩ = some (.int .i64 tc) := cellAt Xt.out 0 rfl
  have ct_1 : w5.cell? ⟨v2.heap.size, 1, none⟩ = some (.int .i64 tr) := cellAt Xt.out 1 rfl
  have ct_2 : w5.cell? ⟨v2.heap.size, 2, none⟩ = some (.int .i64 tu) := cellAt Xt.out 2 rfl
  go_upto_region 7 with (go_at_call 11; refine (HKY.out _ K5.out).mono ?_; rintro e w6 ⟨vm, rfl, hv6, hf6, hb6⟩; have RM := Lib.hid hv6; have BP := Lib.hid hb6; clear hv6 hf6 hb6)
  clear cW_0 cW_1 cW_2 cW_3 cW_4 cV_0 cV_1 cV_2 cc_0 cc_1 cc_2 cc_3 cc_4 ct_0 ct_1 ct_2
  clear K5
  have hrel := BP.out
  have xW : w6.heap[w.heap.size]? = some (.cells #[.int .i64 x0, .int .i64 x1, .int .i64 x2, .int .i64 x3, .int .i64 x4] 23 (0, 0)) := (hrel.block (w.heap.size) (lt_of_heap XW.out)).trans XW.out
  have xV : w6.heap[w.heap.size + 1]? = some (.cells #[.int .i64 y0, .int .i64 y1, .int .i64 y2] 25 (0, 0)) := (hrel.block (w.heap.size + 1) (lt_of_heap XV.out)).trans XV.out
  have xc : w6.heap[v1.heap.size]? = some (.cells #[.int .i64 k, .int .i64 b.toNat, .int .i64 sq, .int .i64 nm, .int .i64 vl] 26 (0, 0)) := (hrel.block (v1.heap.size) (lt_of_heap Xc.out)).trans Xc.out
  have xt : w6.heap[v2.heap.size]? = some (.cells #[.int .i64 tc, .int .i64 tr, .int .i64 tu] 28 (0, 0)) := (hrel.block (v2.heap.size) (lt_of_heap Xt.out)).trans Xt.out
  replace RB := Lib.hid (RB.out.stay hrel)
  replace RK := Lib.hid (RK.out.stay hrel)
  replace XW := Lib.hid xW
  clear xW
  replace XV := Lib.hid xV
  clear xV
  replace Xc := Lib.hid xc
  clear xc
  replace Xt := Lib.hid xt
  clear xt
  replace Y := Lib.hid (Y.out.trans (hrel.mono Y.out.size))
  clear hrel
  clear BP
  have S0d : w6.drew.cell? ⟨v2.heap.size, 0, none⟩ = some (.int .i64 tc) ∧ w6.drew.cell? ⟨v2.heap.size, 1, none⟩ = some (.int .i64 tr) ∧ w6.drew.cell? ⟨v2.heap.size, 2, none⟩ = some (.int .i64 tu) := ⟨cellAt Xt.out 0 rfl, cellAt Xt.out 1 rfl, cellAt Xt.out 2 rfl⟩
  have K6 := Lib.hid (show Kn w6 from HK.out.stay Y.out)
  have KD := Lib.hid (show Kn w6.drew from K6.out)
  go_region_held3 (fun w' => w'.cell? ⟨v2.heap.size, 0, none⟩ = some (.int .i64 tc) ∧ w'.cell? ⟨v2.heap.size, 1, none⟩ = some (.int .i64 tr) ∧ w'.cell? ⟨v2.heap.size, 2, none⟩ = some (.int .i64 tu)) (first | with_reducible exact S0d | with_reducible exact S1 | with_reducible exact S2) (first
    | (go_at_call 13; refine (Issuer_any _ KD.out).mono ?_; rintro e u1 ⟨vi, rfl, hri, hoi, hb1⟩; have RI := Lib.hid hri; have B1 := Lib.hid (show Below w6.heap.size w6 u1 from (Below.refl _ _).drew.trans hb1); have K1 := Lib.hid (K6.out.stay B1.out); have y0 := (B1.out.block _ (lt_of_heap Xt.out)).trans Xt.out; have S1 : u1.cell? ⟨v2.heap.size, 0, none⟩ = some (.int .i64 tc) ∧ u1.cell? ⟨v2.heap.size, 1, none⟩ = some (.int .i64 tr) ∧ u1.cell? ⟨v2.heap.size, 2, none⟩ = some (.int .i64 tu) := ⟨cellAt y0 0 rfl, cellAt y0 1 rfl, cellAt y0 2 rfl⟩; clear hri hoi hb1 y0)
    | (go_at_call 12; refine (HGR.out _ _ RI.out K1.out).mono ?_; rintro e w7 ⟨vg, rfl, hog, hb2⟩; have BP := Lib.hid (show Below w6.heap.size w6 w7 from B1.out.trans (hb2.mono B1.out.size)); have RG := Lib.hid hog.rd; have y0 := (BP.out.block _ (lt_of_heap Xt.out)).trans Xt.out; have S2 : w7.cell? ⟨v2.heap.size, 0, none⟩ = some (.int .i64 tc) ∧ w7.cell? ⟨v2.heap.size, 1, none⟩ = some (.int .i64 tr) ∧ w7.cell? ⟨v2.heap.size, 2, none⟩ = some (.int .i64 tu) := ⟨cellAt y0 0 rfl, cellAt y0 1 rfl, cellAt y0 2 rfl⟩; clear hog hb2 y0))
  clear S0d S1 S2 KD K6 K1 RI B1
  have hrel := BP.out
  have xW : w7.heap[w.heap.size]? = some (.cells #[.int .i64 x0, .int .i64 x1, .int .i64 x2, .int .i64 x3, .int .i64 x4] 23 (0, 0)) := (hrel.block (w.heap.size) (lt_of_heap XW.out)).trans XW.out
  have xV : w7.heap[w.heap.size + 1]? = some (.cells #[.int .i64 y0, .int .i64 y1, .int .i64 y2] 25 (0, 0)) := (hrel.block (w.heap.size + 1) (lt_of_heap XV.out)).trans XV.out
  have xc : w7.heap[v1.heap.size]? = some (.cells #[.int .i64 k, .int .i64 b.toNat, .int .i64 sq, .int .i64 nm, .int .i64 vl] 26 (0, 0)) := (hrel.block (v1.heap.size) (lt_of_heap Xc.out)).trans Xc.out
  have xt : w7.heap[v2.heap.size]? = some (.cells #[.int .i64 tc, .int .i64 tr, .int .i64 tu] 28 (0, 0)) := (hrel.block (v2.heap.size) (lt_of_heap Xt.out)).trans Xt.out
  replace RB := Lib.hid (RB.out.stay hrel)
  replace RK := Lib.hid (RK.out.stay hrel)
  replace RM := Lib.hid (RM.out.stay hrel)
  replace XW := Lib.hid xW
  clear xW
  replace XV := Lib.hid xV
  clear xV
  replace Xc := Lib.hid xc
  clear xc
  replace Xt := Lib.hid xt
  clear xt
  replace Y := Lib.hid (Y.out.trans (hrel.mono Y.out.size))
  clear hrel
  clear BP
  have cW_0 : w7.cell? ⟨w.heap.size, 0, none⟩ = some (.int .i64 x0) := cellAt XW.out 0 rfl
  have cW_1 : w7.cell? ⟨w.heap.size, 1, none⟩ = some (.int .i64 x1) := cellAt XW.out 1 rfl
  have cW_2 : w7.cell? ⟨w.heap.size, 2, none⟩ = some (.int .i64 x2) := cellAt XW.out 2 rfl
  have cW_3 : w7.cell? ⟨w.heap.size, 3, none⟩ = some (.int .i64 x3) := cellAt XW.out 3 rfl
  have cW_4 : w7.cell? ⟨w.heap.size, 4, none⟩ = some (.int .i64 x4) := cellAt XW.out 4 rfl
  have cV_0 : w7.cell? ⟨w.heap.size + 1, 0, none⟩ = some (.int .i64 y0) := cellAt XV.out 0 rfl
  have cV_1 : w7.cell? ⟨w.heap.size + 1, 1, none⟩ = some (.int .i64 y1) := cellAt XV.out 1 rfl
  have cV_2 : w7.cell? ⟨w.heap.size + 1, 2, none⟩ = some (.int .i64 y2) := cellAt XV.out 2 rfl
  have cc_0 : w7.cell? ⟨v1.heap.size, 0, none⟩ = some (.int .i64 k) := cellAt Xc.out 0 rfl
  have cc_1 : w7.cell? ⟨v1.heap.size, 1, none⟩ = some (.int .i64 b.toNat) := cellAt Xc.out 1 rfl
  have cc_2 : w7.cell? ⟨v1.heap.size, 2, none⟩ = some (.int .i64 sq) := cellAt Xc.out 2 rfl
  have cc_3 : w7.cell? ⟨v1.heap.size, 3, none⟩ = some (.int .i64 nm) := cellAt Xc.out 3 rfl
  have cc_4 : w7.cell? ⟨v1.heap.size, 4, none⟩ = some (.int .i64 vl) := cellAt Xc.out 4 rfl
  have ct_0 : w7.cell? ⟨v2.heap.size, 0, none⟩ = some (.int .i64 tc) := cellAt Xt.out 0 rfl
  have ct_1 : w7.cell? ⟨v2.heap.size, 1, none⟩ = some (.int .i64 tr) := cellAt Xt.out 1 rfl
  have ct_2 : w7.cell? ⟨v2.heap.size, 2, none⟩ = some (.int .i64 tu) := cellAt Xt.out 2 rfl
  go_upto_region 9 with (go_at_call 14; refine (HEN.out _).mono ?_; rintro e w8 ⟨ve, rfl, hoe, hb8x⟩; have RE := Lib.hid hoe.rd; have BP := Lib.hid hb8x; clear hoe hb8x)
  clear cW_0 cW_1 cW_2 cW_3 cW_4 cV_0 cV_1 cV_2 cc_0 cc_1 cc_2 cc_3 cc_4 ct_0 ct_1 ct_2
  have hrel := BP.out
  have xW : w8.heap[w.heap.size]? = some (.cells #[.int .i64 x0, .int .i64 x1, .int .i64 x2, .int .i64 x3, .int .i64 x4] 23 (0, 0)) := (hrel.block (w.heap.size) (lt_of_heap XW.out)).trans XW.out
  have xV : w8.heap[w.heap.size + 1]? = some (.cells #[.int .i64 y0, .int .i64 y1, .int .i64 y2] 25 (0, 0)) := (hrel.block (w.heap.size + 1) (lt_of_heap XV.out)).trans XV.out
  have xc : w8.heap[v1.heap.size]? = some (.cells #[.int .i64 k, .int .i64 b.toNat, .int .i64 sq, .int .i64 nm, .int .i64 vl] 26 (0, 0)) := (hrel.block (v1.heap.size) (lt_of_heap Xc.out)).trans Xc.out
  have xt : w8.heap[v2.heap.size]? = some (.cells #[.int .i64 tc, .int .i64 tr, .int .i64 tu] 28 (0, 0)) := (hrel.block (v2.heap.size) (lt_of_heap Xt.out)).trans Xt.out
  replace RB := Lib.hid (RB.out.stay hrel)
  replace RK := Lib.hid (RK.out.stay hrel)
  replace RM := Lib.hid (RM.out.stay hrel)
  replace RG := Lib.hid (RG.out.stay hrel)
  replace XW := Lib.hid xW
  clear xW
  replace XV := Lib.hid xV
  clear xV
  replace Xc := Lib.hid xc
  clear xc
  replace Xt := Lib.hid xt
  clear xt
  replace Y := Lib.hid (Y.out.trans (hrel.mono Y.out.size))
  clear hrel
  clear BP
  obtain ⟨ga, gc, hvg, _, _⟩ := RG.out.sliceN 22 HTL.out
  subst hvg
  obtain ⟨ea, ec, hve, _, _⟩ := RE.out.sliceN 20 HEL.out
  subst hve
  have cW_0 : w8.cell? ⟨w.heap.size, 0, none⟩ = some (.int .i64 x0) := cellAt XW.out 0 rfl
  have cW_1 : w8.cell? ⟨w.heap.size, 1, none⟩ = some (.int .i64 x1) := cellAt XW.out 1 rfl
  have cW_2 : w8.cell? ⟨w.heap.size, 2, none⟩ = some (.int .i64 x2) := cellAt XW.out 2 rfl
  have cW_3 : w8.cell? ⟨w.heap.size, 3, none⟩ = some (.int .i64 x3) := cellAt XW.out 3 rfl
  have cW_4 : w8.cell? ⟨w.heap.size, 4, none⟩ = some (.int .i64 x4) := cellAt XW.out 4 rfl
  have cV_0 : w8.cell? ⟨w.heap.size + 1, 0, none⟩ = some (.int .i64 y0) := cellAt XV.out 0 rfl
  have cV_1 : w8.cell? ⟨w.heap.size + 1, 1, none⟩ = some (.int .i64 y1) := cellAt XV.out 1 rfl
  have cV_2 : w8.cell? ⟨w.heap.size + 1, 2, none⟩ = some (.int .i64 y2) := cellAt XV.out 2 rfl
  have cc_0 : w8.cell? ⟨v1.heap.size, 0, none⟩ = some (.int .i64 k) := cellAt Xc.out 0 rfl
  have cc_1 : w8.cell? ⟨v1.heap.size, 1, none⟩ = some (.int .i64 b.toNat) := cellAt Xc.out 1 rfl
  have cc_2 : w8.cell? ⟨v1.heap.size, 2, none⟩ = some (.int .i64 sq) := cellAt Xc.out 2 rfl
  have cc_3 : w8.cell? ⟨v1.heap.size, 3, none⟩ = some (.int .i64 nm) := cellAt Xc.out 3 rfl
  have cc_4 : w8.cell? ⟨v1.heap.size, 4, none⟩ = some (.int .i64 vl) := cellAt Xc.out 4 rfl
  have ct_0 : w8.cell? ⟨v2.heap.size, 0, none⟩ = some (.int .i64 tc) := cellAt Xt.out 0 rfl
  have ct_1 : w8.cell? ⟨v2.heap.size, 1, none⟩ = some (.int .i64 tr) := cellAt Xt.out 1 rfl
  have ct_2 : w8.cell? ⟨v2.heap.size, 2, none⟩ = some (.int .i64 tu) := cellAt Xt.out 2 rfl
  go_upto_region 10 with (first
    | (go_at_call 16; refine (joined2b w8 _ _ _ TB EC rfl RG.out RE.out (by rw [HTL.out]; decide) (by rw [HEL.out]; decide)).mono ?_; rintro e w9 ⟨vj, rfl, hoj, hbj⟩; have BJ := Lib.hid (((Below.refl w8.heap.size w8).alloc (Nat.le_refl _) _).trans (hbj.mono (by simp))); have RJ := Lib.hid (show Rd w9 vj P by rw [HPE.out]; exact hoj.rd); have RK9 := Lib.hid (RK.out.stay BJ.out); clear hoj hbj)
    | (go_at_call 15; refine (HSD.out _ kcap _ w9 RK9.out RJ.out).mono ?_; rintro e u9 ⟨kg, kc2, rv, rfl, hok6, hor6, hb6⟩; have OR := Lib.hid hor6; have BS := Lib.hid (BJ.out.trans (hb6.mono BJ.out.size)); clear hok6 hor6 hb6)
    | (refine wpList_store_mid rfl 42 (.tmp 20) (.tmp 72) rfl u9.heap.size 0 #[.slice (some ⟨kg, 0, none⟩) 32 kc2, .int .i64 ((m : Int) + 1), .int .i64 0, .bool false, .bool false, .bool false, .bool false, .bool false, .bool false, .bool false, .bool false] rfl rfl ?_ chanSz (chanOne' _ _ _ _ _ _ _ _ _ _ _ rfl) ?_; (exact there_of (heapNew u9 _) rfl); generalize hW : World.setCells _ _ _ _ = w10; have RS := Lib.hid (show Rd w10 rv Q by rw [← hW]; exact (OR.out.ofHeap (fun k hk => by have e1 := (OR.out.lt k hk).2; rw [heap_setCells_ne (by omega), heapOld _ _ _ e1])).rd); have BP := Lib.hid (show Below w8.heap.size w8 w10 by rw [← hW]; exact below_setCells BS.out.size _ _ _ (BS.out.alloc BS.out.size _)); clear hW))
  clear cW_0 cW_1 cW_2 cW_3 cW_4 cV_0 cV_1 cV_2 cc_0 cc_1 cc_2 cc_3 cc_4 ct_0 ct_1 ct_2
  have hrel := BP.out
  have xW : w10.heap[w.heap.size]? = some (.cells #[.int .i64 x0, .int .i64 x1, .int .i64 x2, .int .i64 x3, .int .i64 x4] 23 (0, 0)) := (hrel.block (w.heap.size) (lt_of_heap XW.out)).trans XW.out
  have xV : w10.heap[w.heap.size + 1]? = some (.cells #[.int .i64 y0, .int .i64 y1, .int .i64 y2] 25 (0, 0)) := (hrel.block (w.heap.size + 1) (lt_of_heap XV.out)).trans XV.out
  have xc : w10.heap[v1.heap.size]? = some (.cells #[.int .i64 k, .int .i64 b.toNat, .int .i64 sq, .int .i64 nm, .int .i64 vl] 26 (0, 0)) := (hrel.block (v1.heap.size) (lt_of_heap Xc.out)).trans Xc.out
  have xt : w10.heap[v2.heap.size]? = some (.cells #[.int .i64 tc, .int .i64 tr, .int .i64 tu] 28 (0, 0)) := (hrel.block (v2.heap.size) (lt_of_heap Xt.out)).trans Xt.out
  replace RB := Lib.hid (RB.out.stay hrel)
  replace RK := Lib.hid (RK.out.stay hrel)
  replace RM := Lib.hid (RM.out.stay hrel)
  replace RG := Lib.hid (RG.out.stay hrel)
  replace RE := Lib.hid (RE.out.stay hrel)
  replace XW := Lib.hid xW
  clear xW
  replace XV := Lib.hid xV
  clear xV
  replace Xc := Lib.hid xc
  clear xc
  replace Xt := Lib.hid xt
  clear xt
  replace Y := Lib.hid (Y.out.trans (hrel.mono Y.out.size))
  clear hrel
  clear BP BJ RJ RK9 OR BS
  obtain ⟨ra, rc, hrv, _, _⟩ := RS.out.sliceN 62 HQL.out
  subst hrv
  have cW_0 : w10.cell? ⟨w.heap.size, 0, none⟩ = some (.int .i64 x0) := cellAt XW.out 0 rfl
  have cW_1 : w10.cell? ⟨w.heap.size, 1, none⟩ = some (.int .i64 x1) := cellAt XW.out 1 rfl
  have cW_2 : w10.cell? ⟨w.heap.size, 2, none⟩ = some (.int .i64 x2) := cellAt XW.out 2 rfl
  have cW_3 : w10.cell? ⟨w.heap.size, 3, none⟩ = some (.int .i64 x3) := cellAt XW.out 3 rfl
  have cW_4 : w10.cell? ⟨w.heap.size, 4, none⟩ = some (.int .i64 x4) := cellAt XW.out 4 rfl
  have cV_0 : w10.cell? ⟨w.heap.size + 1, 0, none⟩ = some (.int .i64 y0) := cellAt XV.out 0 rfl
  have cV_1 : w10.cell? ⟨w.heap.size + 1, 1, none⟩ = some (.int .i64 y1) := cellAt XV.out 1 rfl
  have cV_2 : w10.cell? ⟨w.heap.size + 1, 2, none⟩ = some (.int .i64 y2) := cellAt XV.out 2 rfl
  have cc_0 : w10.cell? ⟨v1.heap.size, 0, none⟩ = some (.int .i64 k) := cellAt Xc.out 0 rfl
  have cc_1 : w10.cell? ⟨v1.heap.size, 1, none⟩ = some (.int .i64 b.toNat) := cellAt Xc.out 1 rfl
  have cc_2 : w10.cell? ⟨v1.heap.size, 2, none⟩ = some (.int .i64 sq) := cellAt Xc.out 2 rfl
  have cc_3 : w10.cell? ⟨v1.heap.size, 3, none⟩ = some (.int .i64 nm) := cellAt Xc.out 3 rfl
  have cc_4 : w10.cell? ⟨v1.heap.size, 4, none⟩ = some (.int .i64 vl) := cellAt Xc.out 4 rfl
  have ct_0 : w10.cell? ⟨v2.heap.size, 0, none⟩ = some (.int .i64 tc) := cellAt Xt.out 0 rfl
  have ct_1 : w10.cell? ⟨v2.heap.size, 1, none⟩ = some (.int .i64 tr) := cellAt Xt.out 1 rfl
  have ct_2 : w10.cell? ⟨v2.heap.size, 2, none⟩ = some (.int .i64 tu) := cellAt Xt.out 2 rfl
  go_wp2_with (first
    | (go_at_call 17; refine (same_true _ _ KC KC w10 RK.out RM.out rfl).mono ?_; rintro e ww ⟨rfl, rfl⟩)
    | (go_at_call 16; refine (joined2b (w10.alloc (.cells #[.int .u8 b.toNat] 5)) _ (.slice (some ⟨w10.heap.size, 0, none⟩) 1 1) _ [b] Q (by simp) (newB w10 _ b rfl) (RS.out.alloc _) (by simp) (by rw [HQL.out]; decide)).mono ?_; rintro e w12 ⟨vj, rfl, hoj, hbj⟩; have BJ := Lib.hid ((((Below.refl w10.heap.size w10).alloc (Nat.le_refl _) _).alloc (by simp) _).trans (hbj.mono (by simp; omega))); have RJ := Lib.hid (show Rd w12 vj D by rw [HDQ.out]; exact hoj.rd); have RB12 := Lib.hid (RB.out.stay BJ.out); clear hoj hbj)
    | (go_at_call 17; refine (same_true _ _ D D w12 RB12.out RJ.out rfl).mono ?_; rintro e ww ⟨rfl, rfl⟩))
  go_ret
  exact ⟨rfl, Y.out.trans (BJ.out.mono Y.out.size)⟩
end Go.Proofs.YtpkfbmafbkgcmaaDoor
