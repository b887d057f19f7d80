/-
  The walk of conclavekeep.StableKeeps: what was synced is never lost (written by gen_keep.py).
-/
import Derived.Test.YtdkbajdnckmckaaDoorKep
import Derived.Deep.RegionLaw
set_option linter.unusedVariables false
set_option linter.unusedSimpArgs false
namespace Go.Proofs.YtdkbajdnckmckaaDoor
open Go.RowKit Go.Con
theorem step_callB {P : Program} {ops : Array Oper} {o : Oper} {a : Act} {w : World} {K : Act → World → Prop} {Q : Exit → Act → World → Prop} {E : Prop} (hg : o.guard = none) (f : FuncId) (args : Array Value) (he : (execOp a.eval o).run P w = .ok (.enter f args) w)
    (h : Calls P f args w fun e w' => ∃ v, e = .returned v ∧ K (a.put o.dst v) w') : if Region.wanted o (yielded ops a.tmps) = true then Oper.wp P o a w K Q else E := by
  have hw : Region.wanted o (yielded ops a.tmps) = true := by simp [Region.wanted, hg]
  rw [if_pos hw]
  unfold Oper.wp
  rw [he, Oper.upon_enter]
  refine h.mono ?_
  rintro e w' ⟨v, rfl, hk⟩
  exact hk
theorem Rd.neZ {w : World} {b s : Nat} {v v0 : Value} {l : List UInt8} (h : Rd w v l) {sa : Option Addr} {sn sc : Nat} {z : Int} {t : TypeId} {f : Nat × Nat} (hx : w.heap[b]? = some (.cells #[.slice sa sn sc, .int .i64 z] t f)) (hl : l ≠ []) : ∀ k, v.ownBlock = some k → k ≠ b := by
  intro k hk hkb
  subst hkb
  obtain ⟨a, c, rfl, h1, h2, h3, h4⟩ := h
  obtain ⟨b, off, rfl, hc⟩ := h4 hl
  injection hk with hk
  subst hk
  have hlen : 0 < l.length := List.length_pos_iff.2 hl
  have h0 := hc 0 hlen
  rcases Nat.lt_or_ge off 2 with ho | ho
  · have ho2 : off = 0 ∨ off = 1 := by omega
    rcases ho2 with rfl | rfl
    · rw [Nat.add_zero, cellAt hx 0 rfl] at h0; injection h0 with h0; cases h0
    · rw [Nat.add_zero, cellAt hx 1 rfl] at h0; injection h0 with h0; cases h0
  · have hn : w.cell? ⟨b, off + 0, none⟩ = none := by
      unfold World.cell?
      simp [hx]
      omega
    rw [hn] at h0; cases h0
set_option maxRecDepth 100000 in
set_option maxHeartbeats 16000000 in
theorem walk_StableKeeps (v : Value) (l : List Cmd) (u1 : Value) (l2 : List Cmd) (u2 : Value) (keep : Int) (w : World) (hv : RdWishes w v l) (hv2 : RdWishes w u1 l2) (hu2 : IsInt u2 keep) (hk : Kn w) :
    Calls Tryd.prog 6 #[v, u1, u2] w fun e w' => e = .returned (.bool true) ∧ Below w.heap.size w w' := by
  obtain ⟨rfl, hu1, hu2⟩ := hu2
  have hv0 := hv
  obtain ⟨ea, ec, rfl, hle, hcm, -, -⟩ := hv
  obtain ⟨ea2, ec2, rfl, hle2, hcm2, hwok2, hcell2⟩ := hv2
  have HTAP := Lib.hid (taped_any _ l w hv0 hk)
  obtain ⟨n, hn⟩ : ∃ n, n = l.length := ⟨_, rfl⟩
  rw [← hn] at HTAP hle ⊢
  obtain ⟨m, hm⟩ : ∃ n, n = l2.length := ⟨_, rfl⟩
  rw [← hm] at hle2 hcell2 ⊢
  have HWOK2 := Lib.hid hwok2
  have HCELL2 := Lib.hid hcell2
  have HM := Lib.hid hm
  have hcm3 : ec2 ≤ 9223372036854775807 := hcm2
  obtain ⟨lim, hlim⟩ : ∃ k, k = min m 10 := ⟨_, rfl⟩
  have hlm : lim ≤ m := by omega
  have hl10 : lim ≤ 10 := by omega
  have HLIM := Lib.hid hlim
  obtain ⟨mk, hmk⟩ : ∃ x, x = pick keep 160 := ⟨_, rfl⟩
  have mk0 : 0 ≤ mk := by rw [hmk]; exact pick_nonneg keep 160 (by omega)
  have mk1 : mk < 160 := by rw [hmk]; exact pick_lt keep 160 (by omega)
  have PMK := Lib.hid hmk.symm
  have HK := Lib.hid hk
  have HK0 := Lib.hid hk
  clear hv0 hk hn hcm hwok2 hcell2 hm hlim hmk hcm2
  go_enter Tryd.func6, Tryd.ntmps6
  go_upto_region 2 with (go_at_call 13; refine HTAP.out.mono ?_; rintro e w1 ⟨T, al, tv, av, rfl, ht, hb⟩; obtain ⟨ta, tc, rfl, _, _⟩ := ht.tv.rd.slice; obtain ⟨nd, hnd⟩ : ∃ k, k = T.length := ⟨_, rfl⟩; rw [← hnd] at ht ⊢; have HND := Lib.hid hnd; have HT := Lib.hid ht; have HB := Lib.hid hb; clear ht hb hnd)
  have hb2 : Below w.heap.size w (w1.alloc (.cells #[.slice ta nd tc, .int .i64 0] 27)) := bel_alloc HB.out
  have hx2 : (w1.alloc (.cells #[.slice ta nd tc, .int .i64 0] 27)).heap[w1.heap.size]? = some (.cells #[.slice ta nd tc, .int .i64 0] 27 (0, 0)) := heapNew _ _
  have B12 : Below w1.heap.size w1 (w1.alloc (.cells #[.slice ta nd tc, .int .i64 0] 27)) := bel_alloc (Below.refl _ _)
  have hal := HT.out.all.stay B12
  have htv := HT.out.tv.rd.stay B12
  obtain ⟨x, L0, hxl, hal0, htap, hmap, hp9, hxok, hxv⟩ := HT.out.last
  have hxm := List.mem_of_getElem? hxl
  have hxlt : x.a.l ≠ [] → ∀ k, (Value.slice x.ad x.n x.c).ownBlock = some k → k < w1.heap.size := fun hl => votesLt hxv hl
  have hne : al ≠ [] := fun h => by rw [h] at hal0; cases hal0
  obtain ⟨b0, off0, ac, hav', hac1, hac2, hbl, hcells⟩ := RdA_cells hal.own.row hne
  subst hav'
  have hwtb : w.heap.size ≤ w1.heap.size := HB.out.size
  have hxv2 := hxv.stay B12
  obtain ⟨tb, htb⟩ : ∃ b, b = w1.heap.size := ⟨_, rfl⟩
  rw [← htb] at hx2 hxlt hwtb ⊢
  generalize hW : World.alloc _ _ = w2 at hb2 hx2 B12 hal htv hcells hbl hxv2 ⊢
  have hndl : nd ≤ 760 := by have h1 := HT.out.len; have h2 := HND.out; have : min n 20 ≤ 20 := Nat.min_le_right _ _; omega
  have HX2 := Lib.hid hx2
  have HB2 := Lib.hid hb2
  have HRD := Lib.hid htv
  have HXV := Lib.hid hxv2
  have HXLT := Lib.hid hxlt
  have HXOK := Lib.hid hxok
  have HTAPP := Lib.hid htap
  have HMAP := Lib.hid hmap
  obtain ⟨na, hna⟩ : ∃ na, na = al.length := ⟨_, rfl⟩
  obtain ⟨z, hz⟩ : ∃ z, z = al.length - 1 := ⟨_, rfl⟩
  obtain ⟨hq0, hq1, hq2⟩ := hcells _ _ hxl
  rw [← hz] at hq0 hq1 hq2
  rw [← hna] at hac1 ⊢
  have hzi : (na : Int) - 1 = (z : Int) := by omega
  have hzn : z < na := by omega
  have hac3 : ac ≤ 9223372036854775807 := hac2
  have QQ := Lib.hid (And.intro hq0 (And.intro hq1 hq2))
  have HSYN := Lib.hid (fun w h => sSync_ok (.slice ta nd tc) T 0 w h (by decide) (Int.natCast_nonneg _) (by rw [← HND.out]; omega))
  rw [← HND.out] at HSYN
  have c0 := cellAt HX2.out 0 rfl
  have c1 := cellAt HX2.out 1 rfl
  have cf := freeAt HX2.out
  have hlt2 := lt_of_heap hx2
  clear hW hb2 hx2 B12 hal htv hxlt hxok htap hmap hne hcells htb hq0 hq1 hq2 hz hna hac2 hxl hal0 hxv hxv2 hxm HT HB HTAP
  go_upto_region 3 with (go_at_call 11; refine (HSYN.out _ HRD.out).mono ?_; rintro e w3 ⟨v3, rfl, ho3, hb3⟩; obtain ⟨sa, sc, rfl, _, _⟩ := ho3.rd.sliceN nd HND.out.symm; have x3 := (hb3.block _ hlt2).trans HX2.out; have e0 := cellAt x3 0 rfl; have e1 := cellAt x3 1 rfl; have ef := freeAt x3; have X3 := Lib.hid x3; have B3 := Lib.hid hb3; have O3 := Lib.hid ho3; clear ho3 hb3 x3)
  have hx4 : ((w3.setCell ⟨tb, 0, none⟩ (.slice sa nd sc)).setCell ⟨tb, 1, none⟩ (.int .i64 (nd : Int))).heap[tb]? = some (.cells #[.slice sa nd sc, .int .i64 (nd : Int)] 27 (0, 0)) := heapSet (o := 1) (heapSet (o := 0) X3.out _) _
  have e4 : ∀ k, k ≠ tb → ((w3.setCell ⟨tb, 0, none⟩ (.slice sa nd sc)).setCell ⟨tb, 1, none⟩ (.int .i64 (nd : Int))).heap[k]? = w3.heap[k]? := fun k hk => (heapSet_ne 1 _ hk).trans (heapSet_ne 0 _ hk)
  have hb4 : Below w.heap.size w ((w3.setCell ⟨tb, 0, none⟩ (.slice sa nd sc)).setCell ⟨tb, 1, none⟩ (.int .i64 (nd : Int))) := ((bel_trans HB2.out B3.out).setCell hwtb _).setCell hwtb _
  have hs4 : ((w3.setCell ⟨tb, 0, none⟩ (.slice sa nd sc)).setCell ⟨tb, 1, none⟩ (.int .i64 (nd : Int))).heap.size = w3.heap.size := by simp
  generalize hW : World.setCell _ _ _ = w4 at hx4 e4 hb4 hs4 ⊢
  have hs3 := B3.out.size
  have hntb : ∀ k, k ≠ tb → k < w2.heap.size → w4.heap[k]? = w2.heap[k]? := fun k h1 h2 => (e4 k h1).trans (B3.out.block k h2)
  have hb0 : b0 ≠ tb := by
    intro e
    have h := QQ.out.2.2
    rw [e] at h
    have h5 := cellAt HX2.out 0 rfl
    have h6 := cellAt HX2.out 1 rfl
    rcases Nat.lt_or_ge (off0 + z * 3 + 2) 2 with h7 | h7
    · omega
    · have hn : w2.cell? ⟨tb, off0 + z * 3 + 2, none⟩ = none := by
        unfold World.cell?
        simp [HX2.out]
      rw [hn] at h; cases h
  have q0 : w4.cell? ⟨b0, off0 + z * 3, none⟩ = some (.int .i64 x.a.p.1) := (World.cell?_of_block (w := w2) (hntb b0 hb0 hbl)).trans QQ.out.1
  have q1 : w4.cell? ⟨b0, off0 + z * 3 + 1, none⟩ = some (.int .i64 x.a.p.2) := (World.cell?_of_block (w := w2) (hntb b0 hb0 hbl)).trans QQ.out.2.1
  have q2 : w4.cell? ⟨b0, off0 + z * 3 + 2, none⟩ = some (.slice x.ad x.n x.c) := (World.cell?_of_block (w := w2) (hntb b0 hb0 hbl)).trans QQ.out.2.2
  have hv4 : Votes w4 (.slice x.ad x.n x.c) x.a.l := votesHeap HXV.out (fun hl k hk hkl => hntb k (by have := HXLT.out hl k hk; omega) hkl)
  have hr4 : Rd w4 (.slice sa nd sc) T := O3.out.rd.ofHeapS (fun k hk _ => e4 k (by have := (O3.out.lt k hk).1; omega))
  have htl : ∀ k, (Value.slice sa nd sc).ownBlock = some k → w2.heap.size ≤ k ∧ k < w4.heap.size := fun k hk => by have := O3.out.lt k hk; omega
  have HX4 := Lib.hid hx4
  have HB4 := Lib.hid hb4
  have HV4 := Lib.hid hv4
  have HR4 := Lib.hid hr4
  have HTL := Lib.hid htl
  have hlt4 := lt_of_heap hx4
  clear hW hx4 e4 hb4 hs4 hntb hv4 hr4 htl c0 c1 cf e0 e1 ef X3 B3 O3 HX2 HRD HXV QQ HSYN HB2 hs3
  go_upto_region 5 with fail
  -- the acceptor's variable, and the row of those that come later
  have g0 : ((w4.alloc (.cells #[.int .i64 x.a.p.1, .int .i64 x.a.p.2, .slice x.ad x.n x.c] 45)).alloc (.cells #[.int .i64 x.a.p.1, .int .i64 x.a.p.2, .slice x.ad x.n x.c] 45)) = ((w4.alloc (.cells #[.int .i64 x.a.p.1, .int .i64 x.a.p.2, .slice x.ad x.n x.c] 45)).alloc (.cells #[.int .i64 x.a.p.1, .int .i64 x.a.p.2, .slice x.ad x.n x.c] 45)) := rfl
  generalize hW : World.alloc _ _ = w5 at g0 ⊢
  obtain ⟨x5, y5, b45, hz5⟩ := alloc2T hW
  clear g0 hW
  obtain ⟨ab, hab⟩ : ∃ b, b = w4.heap.size := ⟨_, rfl⟩
  have inv0 : Hid (∃ U l y tv', (Value.slice (some ⟨ab + 1, 0, none⟩) 1 1) = Value.slice (some ⟨ab + 1, 0, none⟩) 1 1 ∧ KpIn w w5 tb ab 0 T U x.a l y tv' (.slice (some ⟨ab + 1, 0, none⟩) 1 1)) := Lib.hid (by
    rw [← hab] at x5 y5 hz5
    refine ⟨[], [x], x, .slice sa nd sc, rfl, bel_trans HB4.out b45, ?_, x5, ?_, fun _ k hk => ?_, row_mono (newA1 _ _ _ y5) (by omega), fun k hk => ?_, fun y hy => ?_, ⟨[], Tap.zero, rfl⟩, List.mem_singleton.2 rfl, rfl, rfl, hwtb, by omega⟩
    · have h := (b45.block _ hlt4).trans HX4.out
      rw [HND.out] at h
      rw [HND.out]
      exact h
    · rw [List.append_nil]; exact HR4.out.stay b45
    · have h := HTL.out k hk
      exact ⟨by omega, by omega, fun e => by have e2 : k = ab + 1 := (by injection e); omega⟩
    · have hk2 : ab + 1 = k := by injection hk
      exact ⟨by omega, by omega⟩
    · rw [List.mem_singleton] at hy
      subst hy
      refine ⟨HXOK.out, by simpa using hp9, HV4.out.stay b45, fun hl k hk => ?_⟩
      have h := HXLT.out hl k hk
      exact ⟨by omega, by omega, fun e => by have e2 : k = ab + 1 := (by injection e); omega⟩)
  rw [← hab] at hz5 ⊢
  have HK5 := Lib.hid (show Kn w5 from HK.out.stay (bel_trans HB4.out b45))
  clear x5 y5 b45 hz5 hab q0 q1 q2 HX4 HV4 HR4 HTL HXLT HK hb0 hbl hlt4 hlt2
  go_wp2_with fail
  go_loopw [12, 13, 14, 15, 16, 17, 18, 19] (fun lv i _ _ _ _ _ _ wr => ∃ q : Nat, q ≤ lim ∧ i = .int .i64 q ∧ Hid (∃ U l y tv', KpIn w wr tb ab q T U x.a l y tv' lv)) (fun _ i _ _ _ _ _ _ _ => lim - (intOf i).toNat)
  case atStart => exact ⟨0, by omega, rfl, Lib.hid (by obtain ⟨U, l, y, tv', -, h⟩ := inv0.out; exact ⟨U, l, y, tv', h⟩)⟩
  case round =>
    clear inv0
    obtain ⟨q, hqm, rfl, HI⟩ := hrel
    obtain ⟨U, ll, y, tv', hinv⟩ := HI.out
    obtain ⟨lda, ldc, hlv, -⟩ := id hinv.own.row
    subst hlv
    obtain ⟨nl, hnl⟩ : ∃ k, k = ll.length := ⟨_, rfl⟩
    rw [← hnl] at hinv ⊢
    have HNL := Lib.hid hnl
    clear hnl
    obtain ⟨tda, tdc, rfl, _, _⟩ := hinv.trd.slice
    obtain ⟨nt, hnt⟩ : ∃ k, k = (T ++ U).length := ⟨_, rfl⟩
    have hntl : nt = nd + 14 * q := by have h1 := hinv.len; have h2 := HND.out; rw [hnt, List.length_append]; omega
    rw [← hnt] at hinv
    have HNT := Lib.hid hnt
    have INV := Lib.hid hinv
    have hT := HND.out
    have TBX := Lib.hid (show wr.heap[tb]? = some (.cells #[.slice tda nt tdc, .int .i64 (nd : Int)] 27 (0, 0)) by rw [HND.out]; exact hinv.tbx)
    have hnt2 : nt ≤ 900 := by omega
    have hndt : nd ≤ nt := by omega
    clear HI hnt hinv hT hntl
    by_cases h1 : q < lim
    · have hd1 : decide ((q : Int) < m) = true := by rw [decide_eq_true_eq]; omega
      have hd1n : decide (q < m) = true := by rw [decide_eq_true_eq]; omega
      have hd2 : decide ((q : Int) < 10) = true := by rw [decide_eq_true_eq]; omega
      have hd2n : decide (q < 10) = true := by rw [decide_eq_true_eq]; omega
      have hqm2 : q < m := by omega
      have hql : q < l2.length := by rw [← HM.out]; omega
      obtain ⟨eb, eoff, rfl, hc⟩ := HCELL2.out (by intro h; rw [h] at hql; cases hql)
      obtain ⟨py, hy⟩ : ∃ y, y = l2.getD q Cmd.zero := ⟨_, rfl⟩
      have hebl : eb < w.heap.size := by
        have h2 := hc q (by omega) 0 (by decide)
        exact World.block_lt_of_cell? w _ h2
      have hyok : WishOk py := HWOK2.out py (by rw [hy, List.getD_eq_getElem?_getD, List.getElem?_eq_getElem hql]; exact List.getElem_mem _)
      have hcr := hc q (by omega) 1 (by decide)
      rw [← hy] at hcr
      obtain ⟨pk, pno, pp, ps, pv⟩ := py
      have x1 : wr.cell? ⟨eb, eoff + q * 5 + 1, none⟩ = some (.int .i64 pno) := by
        rw [show eoff + q * 5 + 1 = eoff + (5 * q + 1) by omega]
        exact (World.cell?_of_block (w := w) (INV.out.below.block eb hebl)).trans hcr
      obtain ⟨-, ⟨n1, n2⟩, -, -, -⟩ := hyok
      dsimp only at n1 n2
      obtain ⟨an, han⟩ : ∃ x, x = pick pno 5 := ⟨_, rfl⟩
      have an0 : 0 ≤ an := by rw [han]; exact pick_nonneg pno 5 (by omega)
      have an5 : an < 5 := by rw [han]; exact pick_lt pno 5 (by omega)
      have PAN := Lib.hid han.symm
      have hw1 : IntKind.i64.wrap (10 + (q : Int)) = 10 + (q : Int) := IntWalk.i64_in _ (by omega)
      have OKB := Lib.hid (show okB (10 + (q : Int), an) = true by unfold okB; simp; omega)
      have hyl := INV.out.each y INV.out.last
      have LOW := Lib.hid (show 0 ≤ cmpB (10 + (q : Int), an) y.a.p by
        have h2 := hyl.2.1
        have e : cmpI (10 + (q : Int)) y.a.p.1 = 1 := by unfold cmpI; split <;> (try split) <;> omega
        unfold cmpB
        simp only [e]
        simp)
      have XOK := Lib.hid hyl.1
      have VTS := Lib.hid hyl.2.2.1
      have HK6 := Lib.hid (show Kn wr from HK0.out.stay INV.out.below)
      have ABX := Lib.hid INV.out.abx
      obtain ⟨⟨⟨yp1, yp2⟩, YL⟩, ya, yn, yc⟩ := y
      dsimp only at LOW VTS ABX
      have hla := lt_of_heap ABX.out
      have hlb := lt_of_heap TBX.out
      clear hc hy hebl hcr han hyl hql
      go_upto_region 9 with (go_at_call 8; refine (picked_toP _ _ _ _ (by assumption) (by assumption) (by decide) (by assumption)).mono ?_; rintro e _ ⟨rfl, rfl⟩)
      generalize hW : World.alloc _ _ = w6
      have T6 := Lib.hid (show w6.heap[wr.heap.size]? = some (.cells #[.int .i64 (10 + (q : Int)), .int .i64 an] 24 (0, 0)) by rw [← hW]; exact heapNew wr _)
      have B6 := Lib.hid (show Below wr.heap.size wr w6 by rw [← hW]; exact bel_alloc (Below.refl _ _))
      clear hW x1
      obtain ⟨bb, hbb⟩ : ∃ b, b = wr.heap.size := ⟨_, rfl⟩
      rw [← hbb] at T6 ⊢
      have hl6 := lt_of_heap T6.out
      clear hbb
      have A6 := Lib.hid ((B6.out.block _ hla).trans ABX.out)
      have X6 := Lib.hid ((B6.out.block _ hlb).trans TBX.out)
      have a0 := cellAt A6.out 0 rfl
      have a1 := cellAt A6.out 1 rfl
      have a2 := cellAt A6.out 2 rfl
      have t0 := cellAt T6.out 0 rfl
      have t1 := cellAt T6.out 1 rfl
      have VT6 := Lib.hid (VTS.out.stay B6.out)
      have LEN := Lib.hid (okA_len (p := (yp1, yp2)) (l := YL) XOK.out)
      go_upto_region 10 with (go_at_call 16; refine (Promise_high _ _ _ _ _ YL _ VT6.out XOK.out OKB.out LEN.out LOW).mono ?_; rintro e w7 ⟨sa2, sc2, sb2, sd2, rfl, ho7, -, hb7⟩; have B7 := Lib.hid hb7; have O7 := Lib.hid ho7; clear hb7 ho7)
      clear a0 a1 a2 t0 t1
      generalize hW : World.alloc _ _ = w8
      have T8 := Lib.hid (show w8.heap[w7.heap.size]? = some (.cells #[.int .i64 (10 + (q : Int)), .int .i64 an, .slice sa2 YL.length sc2] 45 (0, 0)) by rw [← hW]; exact heapNew w7 _)
      have b78 : Below w7.heap.size w7 w8 := by rw [← hW]; exact bel_alloc (Below.refl _ _)
      have b68 := bel_trans B7.out b78
      have B8 := Lib.hid (bel_trans B6.out b68)
      have O8 := Lib.hid (ownV_move O7.out (Nat.le_refl _) (fun k _ hk => b78.block k hk))
      have X8 := Lib.hid ((B8.out.block _ hlb).trans TBX.out)
      have U8 := Lib.hid ((b68.block _ hl6).trans T6.out)
      have hs8 := b68.size
      obtain ⟨nb, hnb⟩ : ∃ b, b = w7.heap.size := ⟨_, rfl⟩
      rw [← hnb] at T8 ⊢
      have hl8 := lt_of_heap T8.out
      have hnb1 : wr.heap.size ≤ nb := by have h1 := B6.out.size; have h2 := B7.out.size; omega
      clear hW b78 b68 hnb B7 O7 A6 X6 T6
      have t0 := cellAt U8.out 0 rfl
      have t1 := cellAt U8.out 1 rfl
      have c0 := cellAt X8.out 0 rfl
      have c1 := cellAt X8.out 1 rfl
      have HK8 := Lib.hid (HK6.out.stay B8.out)
      have RD8 := Lib.hid (INV.out.trd.stay B8.out)
      obtain ⟨nt2, hnt3⟩ : ∃ k, k = nt + 14 := ⟨_, rfl⟩
      have HNT2 := Lib.hid (show ((T ++ U) ++ Tp.frame (Tp.proB (10 + (q : Int)) an)).length = nt2 by rw [List.length_append, frame_len, proB_len, hnt3, HNT.out])
      have hnt4 : nt < nt2 := by omega
      clear hnt3
      have HPRO := Lib.hid (sPromise_ok (.slice tda nt tdc) (T ++ U) (nd : Int) (10 + (q : Int)) an w8 RD8.out (Int.natCast_nonneg _) (by have h := HNT.out; omega) (by have h := HNT.out; omega) OKB.out HK8.out)
      go_upto_region 11 with (go_at_call 9; refine HPRO.out.mono ?_; rintro e w9 ⟨v9, rfl, ho9, hb9⟩; obtain ⟨ua, uc, rfl, _, _⟩ := ho9.rd.sliceN nt2 HNT2.out; have B9 := Lib.hid hb9; have O9 := Lib.hid ho9; clear hb9 ho9)
      clear t0 t1 c0 c1
      generalize hW : World.alloc _ _ = wA
      have T10 := Lib.hid (show wA.heap[w9.heap.size]? = some (.cells #[.slice ua nt2 uc, .int .i64 (nd : Int)] 27 (0, 0)) by rw [← hW]; exact heapNew w9 _)
      have b9A : Below w9.heap.size w9 wA := by rw [← hW]; exact bel_alloc (Below.refl _ _)
      have b8A := bel_trans B9.out b9A
      have BA := Lib.hid (bel_trans B8.out b8A)
      have OVA := Lib.hid (ownV_move (base' := wr.heap.size) O8.out (by have := B6.out.size; omega) (fun k _ hk => b8A.block k hk))
      have OA := Lib.hid ((O9.out.mono (base' := wr.heap.size) (by have := B6.out.size; omega)).ofHeapK (fun k hk => b9A.block k (O9.out.lt k hk).2))
      have TA := Lib.hid ((b8A.block _ hl8).trans T8.out)
      have XA := Lib.hid ((BA.out.block _ hlb).trans TBX.out)
      have AA := Lib.hid ((BA.out.block _ hla).trans ABX.out)
      have hsA := B9.out.size
      obtain ⟨ub, hub⟩ : ∃ b, b = w9.heap.size := ⟨_, rfl⟩
      rw [← hub] at T10 ⊢
      have hub1 : wr.heap.size ≤ ub := by have h1 := B6.out.size; omega
      clear hub hW b9A b8A B9 O9 O8 T8 U8 X8 RD8 HK8
      have n0 := cellAt TA.out 0 rfl
      have n1' := cellAt TA.out 1 rfl
      have n2' := cellAt TA.out 2 rfl
      have a0 := cellAt AA.out 0 rfl
      have a1 := cellAt AA.out 1 rfl
      have a2 := cellAt AA.out 2 rfl
      have af := freeAt AA.out
      have u0 := cellAt T10.out 0 rfl
      have u1 := cellAt T10.out 1 rfl
      have c0 := cellAt XA.out 0 rfl
      have c1 := cellAt XA.out 1 rfl
      have cf := freeAt XA.out
      have htab := INV.out.lo.2
      have hj1 : ¬ (ab = tb) := by omega
      have hj2 : ¬ (tb = ab) := by omega
      have hj3 : ¬ (ub = ab) := by omega
      have hj4 : ¬ (ab = ub) := by omega
      have hj5 : ¬ (nb = ab) := by omega
      have hj6 : ¬ (ub = tb) := by omega
      have hj7 : ¬ (nb = tb) := by omega
      go_upto_region 15 with fail
      have MIDO := Lib.hid (fun o => INV.out.mid BA.out (10 + (q : Int)) an (nd : Int) (.slice sa2 YL.length sc2) (.slice ua nt2 uc) o)
      have abW : (kpW wA tb ab (10 + (q : Int)) an (nd : Int) (.slice sa2 YL.length sc2) (.slice ua nt2 uc)).heap[ab]? = some (.cells #[.int .i64 (10 + (q : Int)), .int .i64 an, .slice sa2 YL.length sc2] 45 (0, 0)) := (heapSet_ne 1 _ hj1).trans ((heapSet_ne 0 _ hj1).trans (heapSet (o := 2) (heapSet (o := 1) (heapSet (o := 0) AA.out _) _) _))
      obtain ⟨wB, hB⟩ : ∃ W, W = kpW wA tb ab (10 + (q : Int)) an (nd : Int) (.slice sa2 YL.length sc2) (.slice ua nt2 uc) := ⟨_, rfl⟩
      have hB' := hB
      unfold kpW at hB'
      rw [← hB] at abW MIDO
      rw [← hB']
      have HB := Lib.hid hB
      have hsB : wB.heap.size = wA.heap.size := by rw [hB]; simp
      have q0 := cellAt abW 0 rfl
      have q1 := cellAt abW 1 rfl
      have q2 := cellAt abW 2 rfl
      have FEW := Lib.hid (show ll.length ≤ 1000000 by have := INV.out.few; omega)
      have HSZ := Lib.hid (show w.heap.size ≤ wB.heap.size by have h1 := INV.out.below.size; have h2 := BA.out.size; omega)
      clear hB hB' abW n0 n1' n2' a0 a1 a2 af u0 u1 c0 c1 cf
      go_upto_region 7 with (at_builtin; refine apA rfl (.tmp 91) (.tmp 93) rfl w.heap.size _ ll ⟨⟨(10 + (q : Int), an), YL⟩, sa2, YL.length, sc2⟩ wB.heap.size rfl (MIDO.out _) (by simp [go_sem]) (heapNew _ _) FEW.out (by have := HSZ.out; simp; omega) ?_; intro v10 w10 ho10 hg10 hat10; have O10 := Lib.hid ho10; have G10 := Lib.hid hg10; have A10 := Lib.hid hat10; clear ho10 hg10 hat10)
      have NEW := Lib.hid (INV.out.next (c := ⟨⟨(10 + (q : Int), an), YL⟩, sa2, YL.length, sc2⟩) (r := an) (tv' := .slice ua nt2 uc) (lv' := v10) (w' := w10) BA.out (show proA ⟨(yp1, yp2), YL⟩ (10 + (q : Int), an) = some ⟨(10 + (q : Int), an), YL⟩ by rw [proA, if_pos ⟨OKB.out, Int.not_lt.2 LOW.out⟩]) OKB.out OA.out OVA.out O10.out (by rw [← HND.out, ← HB.out]; exact G10.out) (by rw [← HND.out, ← HB.out]; exact A10.out))
      clear q0 q1 q2
      go_wp2_with fail
      go_roundw
      case rel => exact ⟨q + 1, by omega, by go_num, Lib.hid ⟨_, _, _, _, NEW.out⟩⟩
      case measure => simp [intOf]; omega
    · have hex : (decide (q < m) = false ∧ decide ((q : Int) < m) = false) ∨ (decide (q < m) = true ∧ decide ((q : Int) < m) = true ∧ decide (q < 10) = false ∧ decide ((q : Int) < 10) = false) := by
        have := HLIM.out
        simp only [decide_eq_true_eq, decide_eq_false_iff_not]
        omega
      have hq10 : q ≤ 10 := by omega
      obtain ⟨L, htap, hmap⟩ := INV.out.tap
      obtain ⟨G, H, gn, c, d, hcin, hgn9, hGl, hHl, -, ⟨kc, hkc9, hkcl, hcra, hrep⟩, hrcv, hpro, hrc2⟩ := keeps_all (q := q) HTAPP.out htap hmap (by have := HND.out; omega) (by have := INV.out.len; omega) (fun e he => by
        obtain ⟨y', hy', rfl⟩ := List.mem_map.1 he
        have h := (INV.out.each y' hy').2.1
        omega) mk0 mk1
      rw [← HND.out] at hcra
      have CIN := Lib.hid hcin
      have HGL := Lib.hid hGl
      have HHL := Lib.hid hHl
      have HKC := Lib.hid hkcl
      have HCRA := Lib.hid hcra
      have HREP := Lib.hid hrep
      have HRCV := Lib.hid hrcv
      have HPRO := Lib.hid hpro
      have HRC2 := Lib.hid hrc2
      have KE := Lib.hid INV.out.kpE
      have RD := Lib.hid INV.out.trd
      have hne : ll ≠ [] := fun h => by have := INV.out.few; rw [h] at this; simp at this
      obtain ⟨b2, off2, lc2, hlv2, hlc1, hlc2, hb2l, hcells⟩ := RdA_cells KE.out.row hne
      injection hlv2 with g1 g2 g3
      subst g1
      have hldc : ldc ≤ 9223372036854775807 := by rw [g3]; exact hlc2
      have hldn : nl ≤ ldc := by rw [g3, HNL.out]; exact hlc1
      have hb2tb : b2 ≠ tb := KE.out.rne b2 rfl
      have c0 := cellAt TBX.out 0 rfl
      have c1 := cellAt TBX.out 1 rfl
      have cf := freeAt TBX.out
      have hlb := lt_of_heap TBX.out
      obtain ⟨nH, hnH⟩ : ∃ k, k = gn + 14 := ⟨_, rfl⟩
      rw [← hnH] at HHL
      have hnH9 : nH ≤ 914 := by omega
      have HKR := Lib.hid HK0.out
      clear htap hmap hcin hGl hHl hkcl hcra hrep hrcv hpro hrc2 hne hcells g2 g3 hlc1 hlc2 hnH HCELL2 HWOK2 INV HTAPP HMAP HXOK
      have hw0 : w.heap.size ≤ tb := hwtb
      have YEX := Lib.hid (show ∀ y ∈ ll, True from fun _ _ => trivial)
      clear YEX
      rcases hex with ⟨he1, he2⟩ | ⟨he1, he2, he3, he4⟩
      all_goals
        go_upto_region 16 with fail
        refine' cutTo (fun key => _) _
        rotate_left 1
        · skip
          go_region_law (first
            | (refine step_callB rfl 8 #[.int .i64 keep, .int .i64 160] ?_ ?_; (focus (simp [go_sem]; done)); refine (picked_toP _ _ _ _ hu1 hu2 (by decide) PMK).mono ?_; rintro e _ ⟨rfl, rfl⟩; refine ⟨_, rfl, ?_⟩)
            | (refine step_callB rfl 17 #[.agg #[.slice tda nt tdc, .int .i64 (nd : Int)], .int .i64 mk] ?_ ?_; (focus (simp [go_sem]; done)); refine (HCRA.out _ wr.drew (show Rd wr.drew _ _ from RD.out.drewN 1)).mono ?_; rintro e y1 ⟨v1, rfl, hr1, hb1⟩; obtain ⟨ca, cc, rfl, _, _⟩ := hr1.sliceN kc HKC.out; have hbW : Below wr.heap.size wr y1 := (show Below wr.heap.size wr wr.drew from below_drewN (Below.refl _ _) 1).trans hb1; have x1 := (hbW.block _ hlb).trans TBX.out; have e0 := cellAt x1 0 rfl; have e1 := cellAt x1 1 rfl; have ef := freeAt x1; have X1 := Lib.hid x1; have K1 := Lib.hid (KE.out.stay hbW); have RC := Lib.hid hr1; clear hr1 hb1 hbW x1; refine ⟨_, rfl, ?_⟩))
          all_goals
            have hx7 : ((y1.setCell ⟨tb, 0, none⟩ (.slice ca kc cc)).setCell ⟨tb, 1, none⟩ (.int .i64 (kc : Int))).heap[tb]? = some (.cells #[.slice ca kc cc, .int .i64 (kc : Int)] 27 (0, 0)) := heapSet (o := 1) (heapSet (o := 0) X1.out _) _
            have hr7 : Rd ((y1.setCell ⟨tb, 0, none⟩ (.slice ca kc cc)).setCell ⟨tb, 1, none⟩ (.int .i64 (kc : Int))) (.slice ca kc cc) ((T ++ U).take kc) := RC.out.ofHeapS (fun k hk hl => by
              have h1 := RC.out.neZ (s := 0) (v0 := .int .i64 0) X1.out hl k hk
              exact (heapSet_ne 1 _ h1).trans (heapSet_ne 0 _ h1))
            have hk7 := K1.out.set (.slice ca kc cc) (.int .i64 (kc : Int))
            generalize hW : World.setCell _ _ _ = w7 at hx7 hr7 hk7 ⊢
            clear hW e0 e1 ef X1 K1 RC
            revert hx7 hr7 hk7
            revert w7
            revert ca cc
            exact key.out
        · intro ca cc hcc1 hcc2 w7 hx7 hr7 hk7
          have X7 := Lib.hid hx7
          have R7 := Lib.hid hr7
          have K7 := Lib.hid hk7
          clear hx7 hr7 hk7
          have d0 := cellAt X7.out 0 rfl
          have d1 := cellAt X7.out 1 rfl
          have df := freeAt X7.out
          have hl7 := lt_of_heap X7.out
          have HK7 := Lib.hid (HKR.out.stay K7.out.below)
          go_upto_region 18 with (go_at_call 18; refine (HREP.out _ _ R7.out HK7.out).mono ?_; rintro e w8 ⟨v8, rfl, ho8, hb8⟩; obtain ⟨ga, gc, rfl, _, _⟩ := ho8.rd.sliceN gn HGL.out; have x8 := (hb8.block _ hl7).trans X7.out; have e0 := cellAt x8 0 rfl; have e1 := cellAt x8 1 rfl; have ef := freeAt x8; have X8 := Lib.hid x8; have K8 := Lib.hid (K7.out.stay hb8); have O8 := Lib.hid ho8; clear ho8 hb8 x8)
          have hx9 : ((w8.setCell ⟨tb, 0, none⟩ (.slice ga gn gc)).setCell ⟨tb, 1, none⟩ (.int .i64 (gn : Int))).heap[tb]? = some (.cells #[.slice ga gn gc, .int .i64 (gn : Int)] 27 (0, 0)) := heapSet (o := 1) (heapSet (o := 0) X8.out _) _
          have hr9 : Rd ((w8.setCell ⟨tb, 0, none⟩ (.slice ga gn gc)).setCell ⟨tb, 1, none⟩ (.int .i64 (gn : Int))) (.slice ga gn gc) G := O8.out.rd.ofHeapS (fun k hk hl => by
            have h1 := O8.out.rd.neZ (s := 0) (v0 := .int .i64 0) X8.out hl k hk
            exact (heapSet_ne 1 _ h1).trans (heapSet_ne 0 _ h1))
          have hk9 := K8.out.set (.slice ga gn gc) (.int .i64 (gn : Int))
          generalize hW : World.setCell _ _ _ = w9 at hx9 hr9 hk9 ⊢
          have X9 := Lib.hid hx9
          have R9 := Lib.hid hr9
          have K9 := Lib.hid hk9
          clear hW hx9 hr9 hk9 e0 e1 ef X8 K8 O8 d0 d1 df X7 R7 K7 HK7
          have d0 := cellAt X9.out 0 rfl
          have d1 := cellAt X9.out 1 rfl
          have hl9 := lt_of_heap X9.out
          have HK9 := Lib.hid (HKR.out.stay K9.out.below)
          go_upto_region 19 with (go_at_call 14; refine (HRCV.out _ _ R9.out HK9.out).mono ?_; rintro e w10 ⟨hb10, ra, rn, rc, rfl, ho10⟩; have B10 := Lib.hid hb10; have O10 := Lib.hid ho10; clear hb10 ho10)
          generalize hW : World.alloc _ _ = w11
          have hx11 : w11.heap[w10.heap.size]? = some (.cells #[.int .i64 c.p.1, .int .i64 c.p.2, .slice ra rn rc] 45 (0, 0)) := by rw [← hW]; exact heapNew _ _
          have b1011 : Below w10.heap.size w10 w11 := by rw [← hW]; exact bel_alloc (Below.refl _ _)
          have b911 := bel_trans B10.out b1011
          have VR := Lib.hid (O10.out.votes.stay b1011)
          have X11 := Lib.hid ((b911.block _ hl9).trans X9.out)
          have R11 := Lib.hid (R9.out.stay b911)
          have K11 := Lib.hid (K9.out.stay b911)
          obtain ⟨rb, hrb⟩ : ∃ b, b = w10.heap.size := ⟨_, rfl⟩
          rw [← hrb] at hx11 ⊢
          have HXR := Lib.hid hx11
          clear hW hx11 b1011 b911 hrb B10 O10 X9 R9 K9 HK9 d0 d1
          have hb2x : b2 < w11.heap.size := by
            obtain ⟨a', c', h, -, -, h3⟩ := K11.out.row
            injection h with h1 h2 h4
            have hnn : ll ≠ [] := fun h0 => by have := CIN.out; rw [h0] at this; simp at this
            obtain ⟨b, off, h5, h6, -⟩ := h3 hnn
            rw [← h1] at h5
            injection h5 with h5
            injection h5 with h7
            rw [h7]; exact h6
          obtain ⟨⟨cp1, cp2⟩, cL⟩ := c
          go_wp2_with fail
          go_loopw [25, 26] (fun fd i wq => ∃ j : Nat, j ≤ nl ∧ i = .int .i64 j ∧ ∃ fb, fd = .bool fb ∧ Hid (Below w11.heap.size w11 wq ∧ ((⟨(cp1, cp2), cL⟩ : Apr) ∈ (ll.take j).map (·.a) → fb = true))) (fun _ i _ => nl - (intOf i).toNat)
          case atStart => exact ⟨0, by omega, rfl, false, rfl, Lib.hid ⟨Below.refl _ _, fun h => by simp at h⟩⟩
          case round =>
            obtain ⟨j, hjn, rfl, fb, rfl, HJ⟩ := hrel
            have BR := Lib.hid HJ.out.1
            have FB := Lib.hid HJ.out.2
            clear HJ
            by_cases hj : j < nl
            · have hd1 : decide ((j : Int) < nl) = true := by rw [decide_eq_true_eq]; omega
              have hd1n : decide (j < nl) = true := by rw [decide_eq_true_eq]; omega
              have hq1 : (0 : Int) ≤ (j : Int) := by omega
              have hq2 : (j : Int) < (nl : Int) := by omega
              cases fb with
              | true =>
                go_upto_region 23 with fail
                refine wp_region_below (by kernel_rfl) (by kernel_rfl) ?_
                repeat (go_big_quiet_step (fail))
                refine wpQuiet_nil ?_
                rintro _ ⟨n9, rfl⟩
                have NEW := Lib.hid (bel_trans BR.out n9.bel)
                go_wp2_with fail
                go_roundw
                case rel => exact ⟨j + 1, by omega, by go_num, true, rfl, Lib.hid ⟨NEW.out, fun _ => rfl⟩⟩
                case measure => simp [intOf]; omega
              | false =>
                have hql : j < ll.length := by rw [← HNL.out]; exact hj
                obtain ⟨x, hx⟩ : ∃ x, x = ll[j] := ⟨_, rfl⟩
                have hxq : ll[j]? = some x := by rw [hx]; exact List.getElem?_eq_getElem hql
                have KQ := K11.out.stay BR.out
                have hnn : ll ≠ [] := fun h0 => by rw [h0] at hql; cases hql
                obtain ⟨b3, off3, lc3, h3v, -, -, h3l, h3c⟩ := RdA_cells KQ.row hnn
                injection h3v with h31 h32 h33
                injection h31 with h31
                injection h31 with h34 h35
                subst h34 h35
                obtain ⟨y0, y1, y2⟩ := h3c j x hxq
                have hvx : Votes wr (.slice x.ad x.n x.c) x.a.l := (KQ.each x (List.mem_of_getElem? hxq)).1
                have hvr : Votes wr (.slice ra rn rc) cL := VR.out.stay BR.out
                obtain ⟨g0, g1, g2, g3, g4, g5⟩ := sfCells ((BR.out.block _ (lt_of_heap HXR.out)).trans HXR.out) h3l y0 y1 y2
                obtain ⟨b, hb⟩ : ∃ b, b = decide ((⟨(cp1, cp2), cL⟩ : Apr) = x.a) := ⟨_, rfl⟩
                have HBB := Lib.hid hb
                have HSAME := Lib.hid (fun W (hW : Below wr.heap.size wr W) => sameAcc_bb x x ra rn rc (cp1, cp2) cL b W (hvr.stay hW).1 (hvx.stay hW) HBB)
                have FN : Hid ((⟨(cp1, cp2), cL⟩ : Apr) ∈ (ll.take (j + 1)).map (·.a) → b = true) := Lib.hid (fun h => by
                  rw [List.take_add_one, hxq, List.map_append, List.mem_append] at h
                  rcases h with h | h
                  · exact absurd (FB.out h) (by decide)
                  · simp at h
                    rw [hb, decide_eq_true_eq]; exact h)
                obtain ⟨⟨⟨x1, x2⟩, XL⟩, xa, xn, xc⟩ := x
                dsimp only at HSAME g3 g4 g5
                clear hql hx hxq y0 y1 y2 hvx hvr hb HBB FB KQ h32 h33 h3c hnn
                go_upto_region 23 with fail
                refine wp_region_below (by kernel_rfl) (by kernel_rfl) ?_
                repeat (go_big_quiet_step ((go_at_call 15; exact calls_below (HSAME.out _ (BelW.bel _)))))
                refine wpQuiet_nil ?_
                rintro _ ⟨n9, rfl⟩
                have NEW := Lib.hid (bel_trans BR.out n9.bel)
                go_wp2_with fail
                go_roundw
                case rel => exact ⟨j + 1, by omega, by go_num, b, rfl, Lib.hid ⟨NEW.out, FN.out⟩⟩
                case measure => simp [intOf]; omega
            · have hd1 : decide ((j : Int) < nl) = false := by rw [decide_eq_false_iff_not]; omega
              have hd1n : decide (j < nl) = false := by rw [decide_eq_false_iff_not]; omega
              have hqe : j = nl := by omega
              have hfb : fb = true := FB.out (by rw [hqe, HNL.out, List.take_length]; exact CIN.out)
              subst hfb
              have d0 := cellAt ((BR.out.block _ (lt_of_heap X11.out)).trans X11.out) 0 rfl
              have d1 := cellAt ((BR.out.block _ (lt_of_heap X11.out)).trans X11.out) 1 rfl
              have R12 := Lib.hid (R11.out.stay BR.out)
              have HK12 := Lib.hid (HKR.out.stay (bel_trans K11.out.below BR.out))
              clear hqe FB
              go_upto_region 25 with (go_at_call 9; refine (HPRO.out _ _ R12.out HK12.out).mono ?_; rintro e w13 ⟨v13, rfl, ho13, hb13⟩; obtain ⟨ha, hc, rfl, _, _⟩ := ho13.rd.sliceN nH HHL.out; have B13 := Lib.hid hb13; have O13 := Lib.hid ho13; clear ho13 hb13)
              generalize hW : World.alloc _ _ = w14
              have hx14 : w14.heap[w13.heap.size]? = some (.cells #[.slice ha nH hc, .int .i64 (gn : Int)] 27 (0, 0)) := by rw [← hW]; exact heapNew _ _
              have b14 : Below w13.heap.size w13 w14 := by rw [← hW]; exact bel_alloc (Below.refl _ _)
              have bq14 := bel_trans B13.out b14
              have R14 := Lib.hid (O13.out.rd.stay b14)
              have B14 := Lib.hid (bel_trans BR.out bq14)
              have HK14 := Lib.hid (HK12.out.stay bq14)
              obtain ⟨hb, hhb⟩ : ∃ b, b = w13.heap.size := ⟨_, rfl⟩
              rw [← hhb] at hx14 ⊢
              have t0 := cellAt hx14 0 rfl
              have t1 := cellAt hx14 1 rfl
              clear hW b14 bq14 hhb B13 O13 d0 d1
              go_upto_region 26 with (go_at_call 14; refine (HRC2.out _ _ R14.out HK14.out).mono ?_; rintro e w15 ⟨hb15, mm, a15, n15, c15, rfl⟩; have B15 := Lib.hid hb15; clear hb15)
              generalize hW : World.alloc _ _ = w16
              have hx16 : w16.heap[w15.heap.size]? = some (.cells #[.int .i64 100, .int .i64 0, .slice a15 n15 c15] 45 (0, 0)) := by rw [← hW]; exact heapNew _ _
              have b16 : Below w15.heap.size w15 w16 := by rw [← hW]; exact bel_alloc (Below.refl _ _)
              have bb16 := bel_trans B14.out (bel_trans B15.out b16)
              have WIN := Lib.hid (bel_trans K11.out.below bb16)
              have d0 := cellAt ((bb16.block _ (lt_of_heap X11.out)).trans X11.out) 0 rfl
              obtain ⟨zb, hzb⟩ : ∃ b, b = w15.heap.size := ⟨_, rfl⟩
              rw [← hzb] at hx16 ⊢
              have z0 := cellAt hx16 0 rfl
              have z1 := cellAt hx16 1 rfl
              clear hW b16 bb16 hzb B15 B14 t0 t1 hx14 hx16
              go_wp2_with fail
              go_ret
              exact ⟨rfl, WIN.out⟩
end Go.Proofs.YtdkbajdnckmckaaDoor
