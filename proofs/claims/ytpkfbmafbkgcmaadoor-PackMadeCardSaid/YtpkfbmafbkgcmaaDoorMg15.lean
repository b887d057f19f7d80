/-
  Texts put together: WCommandBack, Opn, OpS, FrP, Pas.
-/
import Derived.Test.YtpkfbmafbkgcmaaDoorMg14
import Derived.Test.YtpkfbmafbkgcmaaDoorMg13
import Derived.Test.YtpkfbmafbkgcmaaDoorMg4
import Derived.Deep.CutRange
import Derived.Test.YtpkfbmafbkgcmaaDoorMg7
import Derived.Deep.RegionHeld3
set_option linter.unusedVariables false
set_option linter.unusedSimpArgs false
namespace Go.Con
theorem decC_encC (c : Cmd) (hc : checkC c = 0) (hf : ∀ k, 0 ≤ c.fld k ∧ c.fld k ≤ 1073741824) : decC (encC c) = (c, 0) := by
  have e : decRaw (encC c) = c := by
    unfold decRaw
    rw [decAt_encC c 0 (by omega) (hf 0).1 (by have := (hf 0).2; omega), decAt_encC c 1 (by omega) (hf 1).1 (by have := (hf 1).2; omega), decAt_encC c 2 (by omega) (hf 2).1 (by have := (hf 2).2; omega), decAt_encC c 3 (by omega) (hf 3).1 (by have := (hf 3).2; omega), decAt_encC c 4 (by omega) (hf 4).1 (by have := (hf 4).2; omega)]
    rfl
  have hl : (encC c).length = 20 := encK_length c 5
  rw [decC, if_neg (by rw [hl]; decide), e, if_neg (by rw [hc]; decide)]
/-- a wish as a command, its client and its number from the whole of their ranges -/
def cmdFar (x : Cmd) : Cmd := { cmdOf x with seq := pick x.seq 1048577, client := pick x.client 8 }
theorem cmdFar_check (x : Cmd) : checkC (cmdFar x) = 0 := by
  have h0 := cmdOf_check x
  have h3 := pick_nonneg x.client 8 (by omega)
  have h4 := pick_lt x.client 8 (by omega)
  have h5 := pick_nonneg x.seq 1048577 (by omega)
  have h6 := pick_lt x.seq 1048577 (by omega)
  have hk1 := pick_nonneg x.kind 5 (by omega)
  have hk2 := pick_lt x.kind 5 (by omega)
  have h7 := pick_nonneg x.name 4 (by omega)
  have h8 := pick_lt x.name 4 (by omega)
  have h9 := pick_nonneg x.value 1000 (by omega)
  have h10 := pick_lt x.value 1000 (by omega)
  unfold checkC
  have hk : 1 ≤ (cmdFar x).kind ∧ (cmdFar x).kind ≤ 3 := by simp only [cmdFar, cmdOf]; omega
  rw [if_neg (by omega), if_pos hk]
  have hr : inRange (cmdFar x) = true := by
    unfold inRange
    rw [decide_eq_true_eq]
    simp only [cmdFar, cmdOf]
    refine ⟨h3, by omega, h5, by omega, h7, by omega, ?_⟩
    split <;> omega
  rw [if_neg (by rw [hr]; decide), if_neg]
  intro ⟨ha, hb⟩
  apply hb
  simp only [cmdFar, cmdOf] at ha ⊢
  rw [if_neg ha]
end Go.Con
namespace Go.Proofs.YtpkfbmafbkgcmaaDoor
open Go.RowKit Go.Con

end Go.Proofs.YtpkfbmafbkgcmaaDoor

set_option linter.unusedVariables false
set_option linter.unusedSimpArgs false
namespace Go.Con
open Go.Proofs.YtpkfbmafbkgcmaaDoor
theorem packB_length (b : UInt8) (n : Nat) (t : Con.Tok) (c : Cmd) : (packB b n t c).length = 63 := by
  have hl : (encC c).length = 20 := rfl
  unfold packB
  rw [List.length_append, recB_length, List.length_append, tokenB_length, hl]; rfl
/-- what is opened: the command, if it is allowed -/
def openedC (t : Con.Tok) (c : Cmd) (now : Int) : Cmd := if allowC t c now = 0 then c else Cmd.zero
end Go.Con
namespace Go.Proofs.YtpkfbmafbkgcmaaDoor
open Go.RowKit Go.Con
theorem getD_lt0 (l : List UInt8) (h : 0 < l.length) : l.getD 0 0 = l[0] := by simp [List.getD, h]
theorem Nd.allocs {w : World} (h : Nd w) (A : Obj) : Nd (w.alloc A) := h.stay ((Below.refl w.heap.size w).alloc (Nat.le_refl _) A)
theorem Kn.alloc1 {w : World} (h : Kn w) (A : Obj) : Kn (w.alloc A) := h.stay ((Below.refl w.heap.size w).alloc (Nat.le_refl _) A)
/-- the result's cell and the code -/
theorem open_end {w : World} {b : Nat} {tmps : Array Value} {c : Cmd} {n : Int} (ht4 : tmps.getD 4 undef = .pointer (some ⟨b, 0, none⟩)) (ht5 : tmps.getD 5 undef = .int .i64 n)
    (h1 : w.heap[b]? = some (.cells #[.int .i64 c.kind, .int .i64 c.client, .int .i64 c.seq, .int .i64 c.name, .int .i64 c.value] 26 (0, 0))) :
    (results Tryd.f18 tmps).run Tryd.prog w = .ok (.tuple #[.agg #[.int .i64 c.kind, .int .i64 c.client, .int .i64 c.seq, .int .i64 c.name, .int .i64 c.value], .int .i64 n]) w := by
  have l1 := run_loadVar_mid (P := Tryd.prog) w b 0 26 [.int .i64 c.kind, .int .i64 c.client, .int .i64 c.seq, .int .i64 c.name, .int .i64 c.value] _ (range_of h1) Tryd.underlying26 rfl (by kernel_rfl)
  rw [results_ct Tryd.results18 ht4 l1, ht5]
/-- what the proof of a token leaves: the token in a block of its own -/
def TokRel (w : World) (tc tr tu : Int) (v7 v10 : Value) (wc : World) : Prop :=
  v7 = .int .i64 0 ∧ ∃ q, v10 = .pointer (some ⟨q, 0, none⟩) ∧ wc.heap[q]? = some (.cells #[.int .i64 tc, .int .i64 tr, .int .i64 tu] 28 (0, 0)) ∧ w.heap.size ≤ q ∧ Below w.heap.size w wc
theorem tok_last {w v2 : World} {tc tr tu : Int} (hb : Below w.heap.size w v2) : TokRel w tc tr tu (.int .i64 0) (.pointer (some ⟨v2.heap.size, 0, none⟩)) (v2.alloc (.cells #[.int .i64 tc, .int .i64 tr, .int .i64 tu] 28)) :=
  ⟨rfl, _, rfl, heapNew _ _, hb.size, hb.alloc hb.size _⟩
theorem tok_set {w v2 : World} {tc tr tu : Int} {q : Nat} {a b c : Value} (hb : Below w.heap.size w v2) (hq : w.heap.size ≤ q) (hz : v2.heap[q]? = some (.cells #[a, b, c] 28 (0, 0))) : TokRel w tc tr tu (.int .i64 0) (.pointer (some ⟨q, 0, none⟩)) (((v2.setCell ⟨q, 0, none⟩ (.int .i64 tc)).setCell ⟨q, 1, none⟩ (.int .i64 tr)).setCell ⟨q, 2, none⟩ (.int .i64 tu)) :=
  ⟨rfl, _, rfl, heapSet (heapSet (heapSet hz _) _) _, hq, ((hb.setCell hq _).setCell hq _).setCell hq _⟩
set_option maxRecDepth 100000 in
set_option maxHeartbeats 2000000 in
theorem Open_ok (n : Nat) (t : Con.Tok) (c : Cmd) (b : UInt8) (now : Int) (v : Value) (w : World) (hv : Rd w v (packB b n t c)) (hn : n < 1073741824) (ht : t.Ok) (hc : checkC c = 0) (hk0 : c.kind ≠ 0) (hb : c.client = b.toNat) (hb7 : b.toNat ≤ 7) (hk : Kn w) (hN : Nd w) :
    Calls Tryd.prog 18 #[v, .int .i64 now] w fun e w' => e = .returned (.tuple #[cmdV (openedC t c now), .int .i64 (allowC t c now)]) ∧ Below w.heap.size w w' := by
  obtain ⟨P, hP⟩ : ∃ P, P = tokenB keyI t ++ encC c := ⟨_, rfl⟩
  obtain ⟨Q, hQ⟩ : ∃ Q, Q = recB (keyC b) n P := ⟨_, rfl⟩
  obtain ⟨D, hD⟩ : ∃ D, D = packB b n t c := ⟨_, rfl⟩
  have hDQ : D = [b] ++ Q := by rw [hD, packB, ← hP, ← hQ]
  have hDl : D.length = 63 := by rw [hD]; exact packB_length _ _ _ _
  obtain ⟨TB, hTB⟩ : ∃ TB, TB = tokenB keyI t := ⟨_, rfl⟩
  obtain ⟨EC, hEC⟩ : ∃ EC, EC = encC c := ⟨_, rfl⟩
  obtain ⟨KC, hKC⟩ : ∃ KC, KC = keyC b := ⟨_, rfl⟩
  have hPE : P = TB ++ EC := by rw [hP, hTB, hEC]
  have hTl : TB.length = 22 := by rw [hTB]; exact tokenB_length _ _
  have hEl : EC.length = 20 := by rw [hEC]; rfl
  have hKl : KC.length = 32 := by rw [hKC]; exact keyC_length _
  have hPl : P.length = 42 := by rw [hPE, List.length_append, hTl, hEl]
  have hPt : P.take 22 = TB := by rw [hPE]; exact List.take_left' hTl
  have hPd : P.drop 22 = EC := by rw [hPE]; exact List.drop_left' hTl
  have hD1 : D.drop 1 = Q := by rw [hDQ]; rfl
  have hD0 : D.getD 0 0 = b := by rw [hDQ]; rfl
  have hky := fun w hk => Key_ok b w hb7 hk
  rw [← hKC] at hky hQ
  obtain ⟨T, hT⟩ : ∃ T, T = max 0 (n + 1) := ⟨_, rfl⟩
  obtain ⟨g, hg⟩ : ∃ g, g = withF 0 n (fun _ => false) := ⟨_, rfl⟩
  have htk : ∀ (a : Addr) (c : Nat) (rv : Value) (w : World), Rd w (.slice (some a) 32 c) KC → Rd w rv Q → Calls Tryd.prog 31 #[.agg #[.slice (some a) 32 c, .int .i64 0, .int .i64 0, .bool false, .bool false, .bool false, .bool false, .bool false, .bool false, .bool false, .bool false], rv] w fun e w' => ∃ kg kcap pv, e = .returned (.tuple #[.agg #[.slice (some ⟨kg, 0, none⟩) 32 kcap, .int .i64 0, .int .i64 T, .bool (g 0), .bool (g 1), .bool (g 2), .bool (g 3), .bool (g 4), .bool (g 5), .bool (g 6), .bool (g 7)], pv, .int .i64 0]) ∧ Own w' w.heap.size (.slice (some ⟨kg, 0, none⟩) 32 kcap) KC ∧ Own w' w.heap.size pv P ∧ Below w.heap.size w w' := fun a c rv w h1 h2 => Take_lit a c rv KC Q P 0 0 n T (fun _ => false) g w h1 h2 hKl hQ (by omega) hn (by decide) (by decide) Rep.none.ok (by simp [metB]) hT.symm hg.symm
  have hpr := fun v1 v2 w h1 h2 h3 => Prove_any v1 v2 keyI TB w h1 h2 keyI_length h3
  rw [show proveC keyI TB = (t, 0) by rw [hTB]; exact prove_grant _ _ ht] at hpr
  have hde := fun v w h => Decode_any v EC w h
  rw [show decC EC = (c, 0) by rw [hEC]; exact decC_encC c hc (fld_nonneg c hc)] at hde
  have hal := fun w h => Allows_any t c now w ht hc h
  obtain ⟨ac, hac⟩ : ∃ ac, ac = allowC t c now := ⟨_, rfl⟩
  rw [← hac] at hal ⊢
  obtain ⟨oc, hoc⟩ : ∃ oc, oc = openedC t c now := ⟨_, rfl⟩
  rw [← hoc]
  have hoc2 : oc = if ac = 0 then c else Cmd.zero := by rw [hoc, openedC, ← hac]
  rw [← hD] at hv
  obtain ⟨k, cl, sq, nm, vl⟩ := c
  obtain ⟨tc, tr, tu⟩ := t
  dsimp only at hb hk0
  subst hb
  unfold cmdV at hde hal ⊢
  unfold tokV at hpr hal
  dsimp only at hde hal hpr
  obtain ⟨vb, voff, vc, rfl, hvc1, hvc2⟩ := hv.shapeN 63 hDl (by decide)
  have c0 : w.cell? ⟨vb, voff, none⟩ = some (.int .u8 b.toNat) := by
    have h0 := hv.cells _ rfl 0 (u8v b) (by rw [List.getElem?_map, List.getElem?_eq_getElem (by omega)]; simp only [Option.map_some, Option.some.injEq]; rw [← hD0, getD_lt0 D (by omega)])
    have h1 : w.cell? ⟨vb, voff, none⟩ = some (u8v b) := by simpa [Addr.add] using h0
    exact h1
  have ek : (k == 0) = false := by rw [beq_eq_false_iff_ne]; exact hk0
  have ek2 : (k != 0) = true := by rw [bne_iff_ne]; exact hk0
  have hb8 : (b.toNat : Int) ≤ 7 := by omega
  have hb0 : (0 : Int) ≤ (b.toNat : Int) := by omega
  have hvlt := World.block_lt_of_cell? w _ c0
  have HKY := Lib.hid hky
  have HTK := Lib.hid htk
  have HPR := Lib.hid hpr
  have HDE := Lib.hid hde
  have HAL := Lib.hid hal
  have HV := Lib.hid hv
  have HC0 := Lib.hid c0
  have HD1 := Lib.hid hD1
  have HPT := Lib.hid hPt
  have HPD := Lib.hid hPd
  have HKL := Lib.hid hKl
  have HPL := Lib.hid hPl
  have HTL := Lib.hid hTl
  have HEL := Lib.hid hEl
  have HOC := Lib.hid hoc2
  have HK := Lib.hid hk
  have HND := Lib.hid hN
  have hvc : (1 : Int) ≤ (vc : Int) := by omega
  clear hP hQ hD hDQ hDl hTB hEC hKC hPE hTl hEl hKl hPl hPt hPd hD1 hD0 hky htk hpr hde hal hac hoc hoc2 ht hc hk hN hv hT hg
  go_enter Tryd.func18, Tryd.ntmps18
  have c0a : ∀ o, (w.alloc o).cell? ⟨vb, voff, none⟩ = some (.int .u8 b.toNat) := fun o => (World.cell?_of_block (w := w) (heapOld w o vb hvlt)).trans HC0.out
  go_wp2_with fail
  refine (HKY.out _ (HK.out.alloc1 _)).mono ?_
  rintro e v1 ⟨vk, rfl, hrk, hok, hb1⟩
  obtain ⟨kb, koff, kcap, hvk, _, _⟩ := hrk.shapeN 32 HKL.out (by decide)
  subst hvk
  have RK := Lib.hid hrk
  have X1 := Lib.hid ((hb1.block w.heap.size (by simp)).trans (heapNew w (.cells #[.int .i64 0, .int .i64 0, .int .i64 0, .int .i64 0, .int .i64 0] 26)))
  have B1 := Lib.hid (((Below.refl w.heap.size w).alloc (Nat.le_refl _) _).trans (hb1.mono (by simp)))
  have RV1 := Lib.hid (HV.out.stay B1.out)
  have RT1 := Lib.hid (show Rd v1 (.slice (some ⟨vb, voff + 1, none⟩) 62 (vc - 1)) Q by have h := RV1.out.tail 1 62 (by decide) rfl; rw [HD1.out] at h; exact h)
  clear hrk hok hb1 c0a c0
  go_wp2_with fail
  refine (HTK.out _ kcap _ _ RK.out RT1.out).mono ?_
  rintro e v2 ⟨kg, kc2, pv, rfl, hok2, hop, hb2⟩
  obtain ⟨pb, pcap, hpv, hp1, hp2, hp3, hp4⟩ := hop.shape (by intro h; have := HPL.out; rw [h] at this; cases this)
  rw [HPL.out] at hpv hp3
  subst hpv
  have OP := Lib.hid hop
  have X2 := Lib.hid ((hb2.block w.heap.size (lt_of_heap X1.out)).trans X1.out)
  have B2 := Lib.hid (B1.out.trans (hb2.mono B1.out.size))
  have PLT := Lib.hid hp2
  have hpc : (22 : Int) ≤ (pcap : Int) := by omega
  have hpc42 : (42 : Int) ≤ (pcap : Int) := by omega
  clear hok2 hop hb2 hp1 hp4 RK RT1 RV1
  go_wp2_with (refine wpList_store_mid rfl 42 (.tmp 8) (.tmp 35) rfl v2.heap.size 0 #[.slice (some ⟨kg, 0, none⟩) 32 kc2, .int .i64 0, .int .i64 T, .bool (g 0), .bool (g 1), .bool (g 2), .bool (g 3), .bool (g 4), .bool (g 5), .bool (g 6), .bool (g 7)] rfl rfl ?_ chanSz (chanOne' _ _ _ _ _ _ _ _ _ _ _ rfl) ?_; (exact there_of (heapNew v2 _) rfl); generalize hW : World.setCells _ _ _ _ = wy; have RP := Lib.hid (show Rd wy (.slice (some ⟨pb, 0, none⟩) 42 pcap) P by rw [← hW]; exact (OP.out.ofHeap (fun k hk => by have e1 := (OP.out.lt k hk).2; rw [heap_setCells_ne (by omega), heapOld _ _ _ e1])).rd); have BY := Lib.hid (show Below w.heap.size w wy by rw [← hW]; exact below_setCells B2.out.size _ _ _ (B2.out.alloc B2.out.size _)); have X3 := Lib.hid (show wy.heap[w.heap.size]? = some (.cells #[.int .i64 0, .int .i64 0, .int .i64 0, .int .i64 0, .int .i64 0] 26 (0, 0)) by rw [← hW]; exact (heap_setCells_ne (by have e1 := lt_of_heap X2.out; omega) _ _ _).trans ((heapOld _ _ _ (lt_of_heap X2.out)).trans X2.out)); clear hW)
  have KY := Lib.hid (HK.out.stay BY.out)
  have KYd := Lib.hid (show Kn (wy.drewN 1) from KY.out)
  have KYa := Lib.hid (show ∀ A, Kn ((wy.alloc A).drewN 1) from fun A => KY.out.alloc1 A)
  have RT := Lib.hid (show Rd wy (.slice (some ⟨pb, 0, none⟩) 22 pcap) TB by have h := RP.out.pre 22 (by rw [HPL.out]; decide); rw [HPT.out] at h; exact h)
  go_cut [7, 10] from 46 to 52 (fun v7 v10 wc => TokRel wy tc tr tu v7 v10 wc)
  case first =>
    go_region_held3 (fun _ => True) (trivial) (first
      | (go_at_call 13; refine (Issuer_any (wy.drewN 1) KYd.out).mono ?_; rintro e u1 ⟨vi, rfl, hri, hoi, hb1⟩; have B1 := Lib.hid (show Below wy.heap.size wy u1 from (below_drewN (Below.refl _ _) 1).trans hb1); have RI := Lib.hid hri; have RT1 := Lib.hid (RT.out.stay B1.out); have K1 := Lib.hid (KY.out.stay B1.out); clear hri hoi hb1)
      | (go_at_call 13; refine (Issuer_any ((wy.alloc _).drewN 1) (KYa.out _)).mono ?_; rintro e u1 ⟨vi, rfl, hri, hoi, hb1⟩; have B1 := Lib.hid (show Below wy.heap.size wy u1 from (below_drewN ((Below.refl _ _).alloc (Nat.le_refl _) _) 1).trans (hb1.mono (by simp))); have RI := Lib.hid hri; have RT1 := Lib.hid (RT.out.stay B1.out); have K1 := Lib.hid (KY.out.stay B1.out); have Z1 := Lib.hid ((hb1.block wy.heap.size (by simp)).trans (heapNew wy (.cells #[.int .i64 0, .int .i64 0, .int .i64 0] 28))); clear hri hoi hb1)
      | (go_at_call 32; refine (HPR.out _ _ (u1.alloc _) (RI.out.alloc _) (RT1.out.alloc _) (K1.out.alloc1 _)).mono ?_; rintro e u2 ⟨rfl, hb2⟩; have B2p := Lib.hid (show Below wy.heap.size wy u2 from (B1.out.alloc B1.out.size _).trans (hb2.mono (Nat.le_trans B1.out.size (by simp)))); have ZZ := (hb2.block u1.heap.size (by simp)).trans (heapNew u1 (.cells #[.int .i64 0, .int .i64 0, .int .i64 0] 28)); have z20 := cellAt ZZ 0 rfl; have z21 := cellAt ZZ 1 rfl; have z22 := cellAt ZZ 2 rfl; have zfr := freeAt ZZ; have ZQ := Lib.hid B1.out.size; have ZH := Lib.hid ZZ; clear hb2 ZZ)
      | (go_at_call 32; refine (HPR.out _ _ u1 RI.out RT1.out K1.out).mono ?_; rintro e u2 ⟨rfl, hb2⟩; have B2p := Lib.hid (show Below wy.heap.size wy u2 from B1.out.trans (hb2.mono B1.out.size)); have ZZ := (hb2.block wy.heap.size (lt_of_heap Z1.out)).trans Z1.out; have z20 := cellAt ZZ 0 rfl; have z21 := cellAt ZZ 1 rfl; have z22 := cellAt ZZ 2 rfl; have zfr := freeAt ZZ; have ZQ := Lib.hid (Nat.le_refl wy.heap.size); have ZH := Lib.hid ZZ; clear hb2 ZZ)
      | (go_at_call 32; refine (HPR.out _ _ u1 RI.out RT1.out K1.out).mono ?_; rintro e u2 ⟨rfl, hb2⟩; have B2p := Lib.hid (show Below wy.heap.size wy u2 from B1.out.trans (hb2.mono B1.out.size)); clear hb2))
    all_goals
      go_wp2_with fail
      go_meet
      case rel => first | exact tok_last B2p.out | exact tok_set B2p.out ZQ.out ZH.out
  case rest =>
    obtain ⟨hv7, q, hv10, hxq, hqq, hbq⟩ := hcut
    subst hv7
    subst hv10
    have XQ := Lib.hid hxq
    have BQ := Lib.hid (BY.out.trans (hbq.mono BY.out.size))
    have RE := Lib.hid (show Rd wc (.slice (some ⟨pb, 22, none⟩) 20 (pcap - 22)) EC by have h := (RP.out.stay hbq).tail 22 20 (by decide) rfl; rw [HPD.out, Nat.zero_add] at h; exact h)
    have X4 := Lib.hid ((hbq.block w.heap.size (lt_of_heap X3.out)).trans X3.out)
    have QN := Lib.hid (show w.heap.size < q by have e1 := lt_of_heap X3.out; omega)
    clear hxq hqq hbq
    go_wp2_with fail
    refine (HDE.out _ _ RE.out).mono ?_
    rintro e v5 ⟨rfl, hb5⟩
    have X5 := Lib.hid ((hb5.block w.heap.size (lt_of_heap X4.out)).trans X4.out)
    have XQ5 := Lib.hid ((hb5.block q (lt_of_heap XQ.out)).trans XQ.out)
    have B5 := Lib.hid (BQ.out.trans (hb5.mono BQ.out.size))
    have QL := Lib.hid (Nat.lt_of_lt_of_le (lt_of_heap XQ.out) hb5.size)
    clear hb5
    go_wp2_with fail
    generalize hW : World.alloc _ _ = w6
    have x6 : w6.heap[w.heap.size]? = some (.cells #[.int .i64 0, .int .i64 0, .int .i64 0, .int .i64 0, .int .i64 0] 26 (0, 0)) := by rw [← hW]; exact (heapOld _ _ _ (lt_of_heap X5.out)).trans X5.out
    have xq6 : w6.heap[q]? = some (.cells #[.int .i64 tc, .int .i64 tr, .int .i64 tu] 28 (0, 0)) := by rw [← hW]; exact (heapOld _ _ _ (lt_of_heap XQ5.out)).trans XQ5.out
    have xc6 : w6.heap[v5.heap.size]? = some (.cells #[.int .i64 k, .int .i64 b.toNat, .int .i64 sq, .int .i64 nm, .int .i64 vl] 26 (0, 0)) := by rw [← hW]; exact heapNew _ _
    have b6 : Below w.heap.size w w6 := by rw [← hW]; exact B5.out.alloc B5.out.size _
    have c6 : w6.cell? ⟨vb, voff, none⟩ = some (.int .u8 b.toNat) := (b6.cell (p := ⟨vb, voff, none⟩) hvlt).trans HC0.out
    have k0 : w6.cell? ⟨v5.heap.size, 0, none⟩ = some (.int .i64 k) := cellAt xc6 0 rfl
    have k1 : w6.cell? ⟨v5.heap.size, 1, none⟩ = some (.int .i64 b.toNat) := cellAt xc6 1 rfl
    have k2 : w6.cell? ⟨v5.heap.size, 2, none⟩ = some (.int .i64 sq) := cellAt xc6 2 rfl
    have k3 : w6.cell? ⟨v5.heap.size, 3, none⟩ = some (.int .i64 nm) := cellAt xc6 3 rfl
    have k4 : w6.cell? ⟨v5.heap.size, 4, none⟩ = some (.int .i64 vl) := cellAt xc6 4 rfl
    have q0 : w6.cell? ⟨q, 0, none⟩ = some (.int .i64 tc) := cellAt xq6 0 rfl
    have q1 : w6.cell? ⟨q, 1, none⟩ = some (.int .i64 tr) := cellAt xq6 1 rfl
    have q2 : w6.cell? ⟨q, 2, none⟩ = some (.int .i64 tu) := cellAt xq6 2 rfl
    have X6 := Lib.hid x6
    have XC6 := Lib.hid xc6
    have B6 := Lib.hid b6
    have N6 := Lib.hid (HND.out.stay b6)
    have CN := Lib.hid (show w.heap.size < v5.heap.size from lt_of_heap X5.out)
    clear hW x6 xq6 xc6 b6
    refine wp_region_quiet_lit (by kernel_rfl) (by kernel_rfl) ?_
    repeat (go_big_quiet_step (fail))
    refine wpQuiet_nil ?_
    intro w9 hw9
    obtain ⟨nq, rfl⟩ := hw9
    go_wp2_with fail
    refine (HAL.out (w6.drewN nq) N6.out).mono ?_
    rintro e w7 ⟨rfl, hb7⟩
    have x7 : w7.heap[w.heap.size]? = some (.cells #[.int .i64 0, .int .i64 0, .int .i64 0, .int .i64 0, .int .i64 0] 26 (0, 0)) := (hb7.block w.heap.size (lt_of_heap X6.out)).trans X6.out
    have xc7 : w7.heap[v5.heap.size]? = some (.cells #[.int .i64 k, .int .i64 b.toNat, .int .i64 sq, .int .i64 nm, .int .i64 vl] 26 (0, 0)) := (hb7.block v5.heap.size (lt_of_heap XC6.out)).trans XC6.out
    have m0 : w7.cell? ⟨v5.heap.size, 0, none⟩ = some (.int .i64 k) := cellAt xc7 0 rfl
    have m1 : w7.cell? ⟨v5.heap.size, 1, none⟩ = some (.int .i64 b.toNat) := cellAt xc7 1 rfl
    have m2 : w7.cell? ⟨v5.heap.size, 2, none⟩ = some (.int .i64 sq) := cellAt xc7 2 rfl
    have m3 : w7.cell? ⟨v5.heap.size, 3, none⟩ = some (.int .i64 nm) := cellAt xc7 3 rfl
    have m4 : w7.cell? ⟨v5.heap.size, 4, none⟩ = some (.int .i64 vl) := cellAt xc7 4 rfl
    have r0 : w7.cell? ⟨w.heap.size, 0, none⟩ = some (.int .i64 0) := cellAt x7 0 rfl
    have r1 : w7.cell? ⟨w.heap.size, 1, none⟩ = some (.int .i64 0) := cellAt x7 1 rfl
    have r2 : w7.cell? ⟨w.heap.size, 2, none⟩ = some (.int .i64 0) := cellAt x7 2 rfl
    have r3 : w7.cell? ⟨w.heap.size, 3, none⟩ = some (.int .i64 0) := cellAt x7 3 rfl
    have r4 : w7.cell? ⟨w.heap.size, 4, none⟩ = some (.int .i64 0) := cellAt x7 4 rfl
    have rf := freeAt x7
    have X7 := Lib.hid x7
    have B7 := Lib.hid (show Below w.heap.size w w7 from (below_drewN B6.out nq).trans (hb7.mono B6.out.size))
    clear hb7 x7 xc7 k0 k1 k2 k3 k4 q0 q1 q2 c6
    by_cases ha : ac = 0
    · have hoc := HOC.out
      rw [if_pos ha] at hoc
      have ea : (ac != 0) = false := by simp [ha]
      subst hoc
      clear HOC
      subst ha
      go_wp2_with fail
      refine bodyPost_ret (v := .tuple #[.agg #[.int .i64 k, .int .i64 b.toNat, .int .i64 sq, .int .i64 nm, .int .i64 vl], .int .i64 0]) (open_end (b := w.heap.size) (c := ⟨k, b.toNat, sq, nm, vl⟩) rfl rfl ?_) rfl ⟨rfl, ?_⟩
      · exact heapSet (heapSet (heapSet (heapSet (heapSet X7.out _) _) _) _) _
      · exact ((((B7.out.setCell (Nat.le_refl _) _).setCell (Nat.le_refl _) _).setCell (Nat.le_refl _) _).setCell (Nat.le_refl _) _).setCell (Nat.le_refl _) _
    · have hoc := HOC.out
      rw [if_neg ha] at hoc
      have ea : (ac != 0) = true := by rw [bne_iff_ne]; exact ha
      subst hoc
      clear ha HOC
      go_wp2_with fail
      refine bodyPost_ret (v := .tuple #[.agg #[.int .i64 0, .int .i64 0, .int .i64 0, .int .i64 0, .int .i64 0], .int .i64 ac]) (open_end (b := w.heap.size) (c := Cmd.zero) rfl rfl ?_) rfl ⟨rfl, ?_⟩
      · exact heapSet (heapSet (heapSet (heapSet (heapSet X7.out _) _) _) _) _
      · exact ((((B7.out.setCell (Nat.le_refl _) _).setCell (Nat.le_refl _) _).setCell (Nat.le_refl _) _).setCell (Nat.le_refl _) _).setCell (Nat.le_refl _) _
end Go.Proofs.YtpkfbmafbkgcmaaDoor

set_option linter.unusedVariables false
set_option linter.unusedSimpArgs false
namespace Go.Proofs.YtpkfbmafbkgcmaaDoor
open Go.RowKit Go.Con
set_option maxRecDepth 100000 in
set_option maxHeartbeats 1000000 in
theorem Open_none (ra : Option Addr) (rc : Nat) (now : Int) (w : World) :
    Calls Tryd.prog 18 #[.slice ra 0 rc, .int .i64 now] w fun e w' => e = .returned (.tuple #[.agg #[.int .i64 0, .int .i64 0, .int .i64 0, .int .i64 0, .int .i64 0], .int .i64 13]) ∧ Below w.heap.size w w' := by
  go_enter Tryd.func18, Tryd.ntmps18
  go_wp2_with fail
  refine bodyPost_ret (v := .tuple #[.agg #[.int .i64 0, .int .i64 0, .int .i64 0, .int .i64 0, .int .i64 0], .int .i64 13]) (open_end (b := w.heap.size) (c := Cmd.zero) rfl rfl ?_) rfl ⟨rfl, ?_⟩
  · first | exact heapNew _ _ | exact heapSet (heapSet (heapSet (heapSet (heapSet (heapNew _ _) _) _) _) _) _
  · first | exact (Below.refl _ _).alloc (Nat.le_refl _) _ | exact (((((((Below.refl _ _).alloc (Nat.le_refl _) _).setCell (Nat.le_refl _) _).setCell (Nat.le_refl _) _).setCell (Nat.le_refl _) _).setCell (Nat.le_refl _) _).setCell (Nat.le_refl _) _)
set_option maxRecDepth 100000 in
set_option maxHeartbeats 1000000 in
theorem Open_cut (b : UInt8) (vb voff vc m : Nat) (now : Int) (w : World) (hm : 1 ≤ m) (hm2 : m < 21) (hvc1 : 63 ≤ vc) (c0 : w.cell? ⟨vb, voff, none⟩ = some (.int .u8 b.toNat)) (hb7 : b.toNat ≤ 7) (hk : Kn w) :
    Calls Tryd.prog 18 #[.slice (some ⟨vb, voff, none⟩) m vc, .int .i64 now] w fun e w' => e = .returned (.tuple #[.agg #[.int .i64 0, .int .i64 0, .int .i64 0, .int .i64 0, .int .i64 0], .int .i64 13]) ∧ Below w.heap.size w w' := by
  obtain ⟨r, rfl⟩ : ∃ r, m = r + 1 := ⟨m - 1, by omega⟩
  have hr : r < 20 := by omega
  have hky := fun w hk => Key_ok b w hb7 hk
  obtain ⟨KC, hKC⟩ : ∃ KC, KC = keyC b := ⟨_, rfl⟩
  have hKl : KC.length = 32 := by rw [hKC]; exact keyC_length _
  rw [← hKC] at hky
  have htk : ∀ (a : Addr) (c : Nat) (ro : Option Addr) (rc : Nat) (w : World), Calls Tryd.prog 31 #[.agg #[.slice (some a) 32 c, .int .i64 0, .int .i64 0, .bool false, .bool false, .bool false, .bool false, .bool false, .bool false, .bool false, .bool false], .slice ro r rc] w fun e w' => e = .returned (.tuple #[.agg #[.slice none 0 0, .int .i64 0, .int .i64 0, .bool false, .bool false, .bool false, .bool false, .bool false, .bool false, .bool false, .bool false], .slice none 0 0, .int .i64 13]) ∧ Below w.heap.size w w' := fun a c ro rc w => Take_short a a c r rc 0 0 ro (fun _ => false) w hr (by decide) (by decide) Rep.none.ok
  have hvlt := World.block_lt_of_cell? w _ c0
  have hb8 : (b.toNat : Int) ≤ 7 := by omega
  have hb0 : (0 : Int) ≤ (b.toNat : Int) := by omega
  have e1 : ((r : Int) + 1 == 0) = false := by rw [beq_eq_false_iff_ne]; omega
  have e2 : (((r + 1 : Nat) : Int) == 0) = false := by rw [beq_eq_false_iff_ne]; omega
  have hvc : (1 : Int) ≤ (vc : Int) := by omega
  have hvr : ((r + 1 : Nat) : Int) ≤ (vc : Int) := by omega
  have hvr2 : (r : Int) + 1 ≤ (vc : Int) := by omega
  have c0a : ∀ o, (w.alloc o).cell? ⟨vb, voff, none⟩ = some (.int .u8 b.toNat) := fun o => (World.cell?_of_block (w := w) (heapOld w o vb hvlt)).trans c0
  have HKY := Lib.hid hky
  have HTK := Lib.hid htk
  have HKL := Lib.hid hKl
  have HK := Lib.hid hk
  clear hky htk hKl hk hKC hb7 c0
  go_enter Tryd.func18, Tryd.ntmps18
  go_wp2_with fail
  refine (HKY.out _ (HK.out.alloc1 _)).mono ?_
  rintro e v1 ⟨vk, rfl, hrk, hok, hb1⟩
  obtain ⟨kb, koff, kcap, hvk, _, _⟩ := hrk.shapeN 32 HKL.out (by decide)
  subst hvk
  have X1 := Lib.hid ((hb1.block w.heap.size (by simp)).trans (heapNew w (.cells #[.int .i64 0, .int .i64 0, .int .i64 0, .int .i64 0, .int .i64 0] 26)))
  have B1 := Lib.hid (((Below.refl w.heap.size w).alloc (Nat.le_refl _) _).trans (hb1.mono (by simp)))
  clear hrk hok hb1 c0a
  go_wp2_with fail
  refine (HTK.out _ kcap _ _ _).mono ?_
  rintro e v2 ⟨rfl, hb2⟩
  have X2 := Lib.hid ((hb2.block w.heap.size (lt_of_heap X1.out)).trans X1.out)
  have B2 := Lib.hid (B1.out.trans (hb2.mono B1.out.size))
  clear hb2
  go_wp2_with (refine wpList_store_mid rfl 42 (.tmp 8) (.tmp 35) rfl v2.heap.size 0 #[.slice none 0 0, .int .i64 0, .int .i64 0, .bool false, .bool false, .bool false, .bool false, .bool false, .bool false, .bool false, .bool false] rfl rfl ?_ chanSz (chanOne' _ _ _ _ _ _ _ _ _ _ _ rfl) ?_; (exact there_of (heapNew v2 _) rfl); generalize hW : World.setCells _ _ _ _ = wy; have BY := Lib.hid (show Below w.heap.size w wy by rw [← hW]; exact below_setCells B2.out.size _ _ _ (B2.out.alloc B2.out.size _)); have x3 : wy.heap[w.heap.size]? = some (.cells #[.int .i64 0, .int .i64 0, .int .i64 0, .int .i64 0, .int .i64 0] 26 (0, 0)) := (by rw [← hW]; exact (heap_setCells_ne (by have e1 := lt_of_heap X2.out; omega) _ _ _).trans ((heapOld _ _ _ (lt_of_heap X2.out)).trans X2.out)); have r0 := cellAt x3 0 rfl; have r1 := cellAt x3 1 rfl; have r2 := cellAt x3 2 rfl; have r3 := cellAt x3 3 rfl; have r4 := cellAt x3 4 rfl; have rf := freeAt x3; have X3 := Lib.hid x3; clear hW x3)
  refine bodyPost_ret (v := .tuple #[.agg #[.int .i64 0, .int .i64 0, .int .i64 0, .int .i64 0, .int .i64 0], .int .i64 13]) (open_end (b := w.heap.size) (c := Cmd.zero) rfl rfl ?_) rfl ⟨rfl, ?_⟩
  · exact heapSet (heapSet (heapSet (heapSet (heapSet X3.out _) _) _) _) _
  · exact ((((BY.out.setCell (Nat.le_refl _) _).setCell (Nat.le_refl _) _).setCell (Nat.le_refl _) _).setCell (Nat.le_refl _) _).setCell (Nat.le_refl _) _
end Go.Proofs.YtpkfbmafbkgcmaaDoor

set_option linter.unusedVariables false
set_option linter.unusedSimpArgs false
namespace Go.Proofs.YtpkfbmafbkgcmaaDoor
open Go.ChangeShapes Go.WideShapes Go.ChangeAt Go.RowKit Go.Con Go.Deep
section
variable {H : Type} {enc : TypeId × Value → H} {W : World} {base b0 : Nat} {sp : Nat → Bool}
/-- every number of a pass is an int -/
def PassOk (x : Con.Tok) : Prop := Con.Int64 x.client ∧ Con.Int64 x.rights ∧ Con.Int64 x.til
def IsPass (v : Value) (x : Con.Tok) : Prop := v = tokV x ∧ PassOk x
set_option maxRecDepth 100000 in
theorem open_pass {v : Value} {d : DataW H} {p : List MemPlace} (hv : Value.okWide Tryd.prog W .any b0 25 v) (h : DataW.Trod enc Tryd.prog W base (fun _ => true) true 25 v d p) : ∃ x, IsPass v x := by
  obtain ⟨⟨cs⟩, rfl, hsz⟩ := okWide_struct Tryd.underlying25 hv
  obtain ⟨fuel, hf⟩ := h
  obtain ⟨hl, hi⟩ := trod_ints Tryd.underlying25 (by kernel_rfl) hf
  have h3 : cs.length = 3 := by
    have e : Tryd.prog.cellsOf 25 = 3 := by kernel_rfl
    simpa [e] using hsz
  match cs, h3 with
  | [c0, c1, c2], _ =>
    have e : ∀ i, i < 3 → ∃ n, ([c0, c1, c2] : List Value)[i]? = some (.int .i64 n) ∧ Int64 n := fun i h => by simpa [Value.cells] using hi i h
    obtain ⟨n0, e0, b0⟩ := e 0 (by omega)
    obtain ⟨n1, e1, b1⟩ := e 1 (by omega)
    obtain ⟨n2, e2, b2⟩ := e 2 (by omega)
    simp at e0 e1 e2
    subst e0 e1 e2
    exact ⟨⟨n0, n1, n2⟩, rfl, b0, b1, b2⟩
end
end Go.Proofs.YtpkfbmafbkgcmaaDoor

set_option linter.unusedVariables false
set_option linter.unusedSimpArgs false
namespace Go.Con
/-- a pass as a token -/
def tokOf (x : Tok) : Tok := ⟨pick x.client 8, pick x.rights 8, pick x.til 1048577⟩
theorem tokOf_ok (x : Tok) : (tokOf x).Ok := by
  have h1 := pick_nonneg x.client 8 (by omega)
  have h2 := pick_lt x.client 8 (by omega)
  have h3 := pick_nonneg x.rights 8 (by omega)
  have h4 := pick_lt x.rights 8 (by omega)
  have h5 := pick_nonneg x.til 1048577 (by omega)
  have h6 := pick_lt x.til 1048577 (by omega)
  constructor <;> simp only [tokOf] <;> omega
end Go.Con
namespace Go.Proofs.YtpkfbmafbkgcmaaDoor
open Go.RowKit Go.Con
set_option maxRecDepth 100000 in
set_option maxHeartbeats 1000000 in
theorem Token_any (x : Con.Tok) (w : World) (hx : PassOk x) :
    Calls Tryd.prog 7 #[tokV x] w fun e w' => e = .returned (tokV (tokOf x)) ∧ Below w.heap.size w w' := by
  obtain ⟨cl, r, u⟩ := x
  obtain ⟨⟨a1, a2⟩, ⟨b1, b2⟩, ⟨c1, c2⟩⟩ := hx
  dsimp only at a1 a2 b1 b2 c1 c2
  unfold tokV tokOf
  dsimp only
  go_enter Tryd.func7, Tryd.ntmps7
  go_wp2
  go_region_held3 (fun w' => w'.cell? ⟨w.heap.size, 0, none⟩ = some (.int .i64 cl) ∧ w'.cell? ⟨w.heap.size, 1, none⟩ = some (.int .i64 r) ∧ w'.cell? ⟨w.heap.size, 2, none⟩ = some (.int .i64 u)) (go_keep) (first | (go_at_call 8; refine (picked_any _ _ _ (by assumption) (by assumption) (by decide)).mono ?_; rintro e w' ⟨rfl, rfl⟩))
  go_wp2
  refine bodyPost_ret (v := .agg #[.int .i64 (pick cl 8), .int .i64 (pick r 8), .int .i64 (pick u 1048577)]) ?_ rfl ⟨rfl, ?_⟩
  · simp [results, Tryd.results7, go_sem]
  · exact below_drewN ((((Below.refl _ _).alloc (Nat.le_refl _) _).alloc (by simp) _)) 1
end Go.Proofs.YtpkfbmafbkgcmaaDoor
