/-
  The walk of conclavekeep.voted.
-/
import Derived.Test.YtdkbajdnckmckaaVod
set_option linter.unusedVariables false
set_option linter.unusedSimpArgs false
namespace Go.Proofs.Ytdkbajdnckmckaa
open Go.RowKit Go.Con
structure Later (T : Prop) : Prop where
  out : T
theorem cutTo {T G : Prop} (h : Later T → G) (t : T) : G := h ⟨t⟩
theorem alloc2Q {w w0 : World} {A B : Obj} (h : (w.alloc A).alloc B = w0) : w0.heap[w.heap.size]? = some A ∧ w0.heap[w.heap.size + 1]? = some B ∧ Below w.heap.size w w0 ∧ w0.heap.size = w.heap.size + 2 := by
  subst h
  have e1 : (w.alloc A).heap.size = w.heap.size + 1 := by simp
  refine ⟨by rw [heapOld _ _ _ (by simp)]; exact heapNew _ _, ?_, ((Below.refl w.heap.size w).alloc (Nat.le_refl _) _).alloc (by simp) _, by simp⟩
  have := heapNew (w.alloc A) B
  rwa [e1] at this
set_option maxRecDepth 100000 in
set_option maxHeartbeats 8000000 in
theorem voted_any (v : Value) (l : List Cmd) (w : World) (hv : RdWishes w v l) :
    Calls Try.prog 13 #[v] w (VodPost w) := by
  obtain ⟨ea, ec, rfl, hle, hcm, hwok, hcell⟩ := hv
  obtain ⟨n, hn⟩ : ∃ n, n = l.length := ⟨_, rfl⟩
  rw [← hn] at hle hcell ⊢
  have hcm2 : ec ≤ 9223372036854775807 := hcm
  have HWOK := Lib.hid hwok
  have HCELL := Lib.hid hcell
  have HN := Lib.hid hn
  obtain ⟨m, hm⟩ : ∃ m, m = min n 30 := ⟨_, rfl⟩
  have hmn : m ≤ n := by omega
  have hm30 : m ≤ 30 := by omega
  have HM := Lib.hid hm
  clear hwok hcell hn hm
  go_enter Try.func13, Try.ntmps13
  go_wp2_with fail
  generalize hW : World.alloc _ _ = w1
  have inv0 : Hid (∃ p vs L, VodInv w w1 0 p vs L) := Lib.hid (by
    obtain ⟨g1, g2, g3, g4⟩ := alloc2Q hW
    exact ⟨(0, 0), .slice none 0 0, [], g1, g2, World.ownsRow_nil _ _ _ _, rfl, by decide, Nat.le_refl _, g3⟩)
  clear hW
  go_loopw [5, 6, 7, 8, 11] (fun ok i _ _ _ wr => ∃ q : Nat, q ≤ m ∧ i = .int .i64 q ∧ ok = .bool true ∧ Hid (∃ p vs L, VodInv w wr q p vs L)) (fun _ i _ _ _ _ => m - (intOf i).toNat)
  case atStart => exact ⟨0, by omega, rfl, rfl, inv0⟩
  case round =>
    clear inv0
    obtain ⟨q, hqm, rfl, rfl, HI⟩ := hrel
    by_cases h1 : q < m
    · have hd1 : decide ((q : Int) < n) = true := by rw [decide_eq_true_eq]; omega
      have hd1n : decide (q < n) = true := by rw [decide_eq_true_eq]; omega
      have hd2 : decide ((q : Int) < 30) = true := by rw [decide_eq_true_eq]; omega
      have hd2n : decide (q < 30) = true := by rw [decide_eq_true_eq]; omega
      have hqn : q < n := by omega
      have hql : q < l.length := by rw [← HN.out]; omega
      obtain ⟨eb, eoff, rfl, hc⟩ := HCELL.out (by intro h; rw [h] at hql; cases hql)
      obtain ⟨y, hy⟩ : ∃ y, y = l.getD q Cmd.zero := ⟨_, rfl⟩
      have hebl : eb < w.heap.size := by
        have h2 := hc q (by omega) 0 (by decide)
        exact World.block_lt_of_cell? w _ h2
      have hyok : WishOk y := HWOK.out y (by rw [hy, List.getD_eq_getElem?_getD, List.getElem?_eq_getElem hql]; exact List.getElem_mem _)
      obtain ⟨⟨pr, pn⟩, vs, L, hinv⟩ := HI.out
      have INV := Lib.hid hinv
      have hcr : ∀ p, p < 5 → wr.cell? ⟨eb, eoff + (5 * q + p), none⟩ = (wishCells y)[p]? := fun p hp => by
        have h2 := hc q (by omega) p hp
        rw [← hy] at h2
        rw [← h2]
        exact World.cell?_of_block (w := w) (hinv.below.block eb hebl)
      obtain ⟨pk, pno, pp, ps, pv⟩ := y
      have x0 : wr.cell? ⟨eb, eoff + q * 5, none⟩ = some (.int .i64 pk) := by rw [show eoff + q * 5 = eoff + (5 * q + 0) by omega]; exact hcr 0 (by decide)
      have x1 : wr.cell? ⟨eb, eoff + q * 5 + 1, none⟩ = some (.int .i64 pno) := by rw [show eoff + q * 5 + 1 = eoff + (5 * q + 1) by omega]; exact hcr 1 (by decide)
      have x2 : wr.cell? ⟨eb, eoff + q * 5 + 2, none⟩ = some (.int .i64 pp) := by rw [show eoff + q * 5 + 2 = eoff + (5 * q + 2) by omega]; exact hcr 2 (by decide)
      have x3 : wr.cell? ⟨eb, eoff + q * 5 + 3, none⟩ = some (.int .i64 ps) := by rw [show eoff + q * 5 + 3 = eoff + (5 * q + 3) by omega]; exact hcr 3 (by decide)
      have x4 : wr.cell? ⟨eb, eoff + q * 5 + 4, none⟩ = some (.int .i64 pv) := by rw [show eoff + q * 5 + 4 = eoff + (5 * q + 4) by omega]; exact hcr 4 (by decide)
      obtain ⟨⟨k1, k2⟩, ⟨n1, n2⟩, ⟨p1, p2⟩, ⟨s1, s2⟩, ⟨v1, v2⟩⟩ := hyok
      dsimp only at k1 k2 n1 n2 p1 p2 s1 s2 v1 v2
      obtain ⟨an, han⟩ : ∃ x, x = pick pno 5 := ⟨_, rfl⟩
      obtain ⟨asl, has⟩ : ∃ x, x = pick ps 5 := ⟨_, rfl⟩
      obtain ⟨av, hav⟩ : ∃ x, x = pick pv 50 := ⟨_, rfl⟩
      obtain ⟨ap, hap⟩ : ∃ x, x = pick pp 9 := ⟨_, rfl⟩
      obtain ⟨ak, hak⟩ : ∃ x, x = pick pk 2 := ⟨_, rfl⟩
      have an0 : 0 ≤ an := by rw [han]; exact pick_nonneg pno 5 (by omega)
      have an5 : an < 5 := by rw [han]; exact pick_lt pno 5 (by omega)
      have as0 : 0 ≤ asl := by rw [has]; exact pick_nonneg ps 5 (by omega)
      have as5 : asl < 5 := by rw [has]; exact pick_lt ps 5 (by omega)
      have av0 : 0 ≤ av := by rw [hav]; exact pick_nonneg pv 50 (by omega)
      have av5 : av < 50 := by rw [hav]; exact pick_lt pv 50 (by omega)
      have ap0 : 0 ≤ ap := by rw [hap]; exact pick_nonneg pp 9 (by omega)
      have ap9 : ap < 9 := by rw [hap]; exact pick_lt pp 9 (by omega)
      have ak0 : 0 ≤ ak := by rw [hak]; exact pick_nonneg pk 2 (by omega)
      have ak2 : ak < 2 := by rw [hak]; exact pick_lt pk 2 (by omega)
      have PAN := Lib.hid han.symm
      have PAS := Lib.hid has.symm
      have PAV := Lib.hid hav.symm
      have PAP := Lib.hid hap.symm
      have PAK := Lib.hid hak.symm
      have hbs := hinv.below.size
      have hroom : w.heap.size + 1 < wr.heap.size := lt_of_heap hinv.acc
      have hw1 : IntKind.i64.wrap (1 + ap) = 1 + ap := IntWalk.i64_in _ (by omega)
      have X0 := Lib.hid x0
      have X3 := Lib.hid x3
      have X4 := Lib.hid x4
      clear hc hcr hy han has hav hap hak hql x0 x3 x4 hinv
      go_wp2_with fail
      refine' cutTo (fun key => _) _
      rotate_left 1
      · skip
        go_region_held3 (fun w' => w'.cell? ⟨eb, eoff + q * 5 + 1, none⟩ = some (.int .i64 pno) ∧ w'.cell? ⟨eb, eoff + q * 5 + 2, none⟩ = some (.int .i64 pp)) (go_keep) (first
          | (go_at_call 10; refine (picked_toP _ _ _ _ (by assumption) (by assumption) (by decide) (by assumption)).mono ?_; rintro e _ ⟨rfl, rfl⟩))
        all_goals exact key.out
      · generalize hW : World.drew _ = w2
        have T7 := Lib.hid (show w2.heap[wr.heap.size]? = some (.cells #[.int .i64 (1 + ap), .int .i64 an] 28 (0, 0)) by rw [← hW]; exact heapNew wr _)
        have B2 := Lib.hid (show Below wr.heap.size wr w2 by rw [← hW]; exact ((Below.refl _ _).alloc (Nat.le_refl _) _).drew)
        clear hW
        obtain ⟨va, vc, hvs, -⟩ := id INV.out.own.row
        subst hvs
        have A2 := Lib.hid ((B2.out.block _ hroom).trans INV.out.acc)
        have O2 := Lib.hid ((B2.out.block _ (by omega)).trans INV.out.out)
        have VT := Lib.hid (INV.out.own.votes.stay B2.out)
        have WV := Lib.hid (ownV_move INV.out.own (Nat.le_refl _) (fun k _ hk2 => B2.out.block k hk2))
        have LEN := Lib.hid (show L.length ≤ 1000 by have := INV.out.len; omega)
        have OKB := Lib.hid (show okB (1 + ap, an) = true by unfold okB; simp; omega)
        have B02 := Lib.hid (INV.out.below.trans (B2.out.mono hbs))
        have h2s := B2.out.size
        have hT7 := lt_of_heap T7.out
        have hxe : ∀ o, w2.cell? ⟨eb, o, none⟩ = wr.cell? ⟨eb, o, none⟩ := fun o => World.cell?_of_block (w := wr) (B2.out.block eb (by omega))
        have x0 : w2.cell? ⟨eb, eoff + q * 5, none⟩ = some (.int .i64 pk) := (hxe _).trans X0.out
        have x3 : w2.cell? ⟨eb, eoff + q * 5 + 3, none⟩ = some (.int .i64 ps) := (hxe _).trans X3.out
        have x4 : w2.cell? ⟨eb, eoff + q * 5 + 4, none⟩ = some (.int .i64 pv) := (hxe _).trans X4.out
        have a0 : w2.cell? ⟨w.heap.size + 1, 0, none⟩ = some (.int .i64 pr) := cellAt A2.out 0 rfl
        have a1 : w2.cell? ⟨w.heap.size + 1, 1, none⟩ = some (.int .i64 pn) := cellAt A2.out 1 rfl
        have a2 : w2.cell? ⟨w.heap.size + 1, 2, none⟩ = some (.slice va L.length vc) := cellAt A2.out 2 rfl
        have t0 : w2.cell? ⟨wr.heap.size, 0, none⟩ = some (.int .i64 (1 + ap)) := cellAt T7.out 0 rfl
        have t1 : w2.cell? ⟨wr.heap.size, 1, none⟩ = some (.int .i64 an) := cellAt T7.out 1 rfl
        clear x1 x2 hxe
        have hkc : ak = 0 ∨ ak = 1 := by omega
        clear ak0 ak2
        rcases hkc with rfl | rfl
        · by_cases hlow : cmpB (1 + ap, an) (pr, pn) < 0
          · have LOW := Lib.hid hlow
            clear hlow
            go_upto_region 9 with (first
              | (go_at_call 10; refine (picked_toP _ _ _ _ (by assumption) (by assumption) (by decide) (by assumption)).mono ?_; rintro e _ ⟨rfl, rfl⟩)
              | (go_at_call 14; refine (Promise_low _ _ _ _ _ L _ VT.out INV.out.ok OKB.out LEN.out LOW).mono ?_; rintro e w3 ⟨rfl, hb3⟩; have B3 := Lib.hid hb3; clear hb3))
            generalize hW : World.alloc _ _ = w4
            have B4 := Lib.hid (show Below wr.heap.size wr w4 by rw [← hW]; exact (B2.out.trans (B3.out.mono h2s)).alloc (Nat.le_trans h2s B3.out.size) _)
            have NEW : Hid (∃ p vs L, VodInv w w4 (q + 1) p vs L) := Lib.hid ⟨_, _, _, INV.out.keep B4.out⟩
            clear hW x0 x3 x4 a0 a1 a2 t0 t1
            go_wp2_with fail
            go_roundw
            case rel => exact ⟨q + 1, by omega, by go_num, rfl, NEW⟩
            case measure => simp [intOf]; omega
          · have LOW := Lib.hid (Int.not_lt.1 hlow)
            clear hlow
            go_upto_region 9 with (first
              | (go_at_call 10; refine (picked_toP _ _ _ _ (by assumption) (by assumption) (by decide) (by assumption)).mono ?_; rintro e _ ⟨rfl, rfl⟩)
              | (go_at_call 14; refine (Promise_high _ _ _ _ _ L _ VT.out INV.out.ok OKB.out LEN.out LOW).mono ?_; rintro e w3 ⟨sa, sc, ta, tc, rfl, ho3, -, hb3⟩; have B3 := Lib.hid hb3; have O3 := Lib.hid ho3; clear hb3 ho3))
            generalize hW : World.alloc _ _ = w4
            have B4 := Lib.hid (show Below wr.heap.size wr w4 by rw [← hW]; exact (B2.out.trans (B3.out.mono h2s)).alloc (Nat.le_trans h2s B3.out.size) _)
            have T8 := Lib.hid (show w4.heap[w3.heap.size]? = some (.cells #[.int .i64 (1 + ap), .int .i64 an, .slice sa L.length sc] 39 (0, 0)) by rw [← hW]; exact heapNew _ _)
            have OW4 := Lib.hid (show OwnV w4 wr.heap.size (.slice sa L.length sc) (L) from ownV_move O3.out h2s (fun k _ hk => by rw [← hW]; exact heapOld _ _ _ hk))
            have A4 := Lib.hid ((B4.out.block _ hroom).trans INV.out.acc)
            clear hW x0 x3 x4 a0 a1 a2 t0 t1
            have e0 : w4.cell? ⟨w3.heap.size, 0, none⟩ = some (.int .i64 (1 + ap)) := cellAt T8.out 0 rfl
            have e1 : w4.cell? ⟨w3.heap.size, 1, none⟩ = some (.int .i64 an) := cellAt T8.out 1 rfl
            have e2 : w4.cell? ⟨w3.heap.size, 2, none⟩ = some (.slice sa L.length sc) := cellAt T8.out 2 rfl
            have a0 : w4.cell? ⟨w.heap.size + 1, 0, none⟩ = some (.int .i64 pr) := cellAt A4.out 0 rfl
            have a1 : w4.cell? ⟨w.heap.size + 1, 1, none⟩ = some (.int .i64 pn) := cellAt A4.out 1 rfl
            have a2 : w4.cell? ⟨w.heap.size + 1, 2, none⟩ = some (.slice va L.length vc) := cellAt A4.out 2 rfl
            have af := freeAt A4.out
            have hne : ¬ (w3.heap.size = w.heap.size + 1) := by have := B3.out.size; omega
            have hne' : ¬ (w.heap.size + 1 = w3.heap.size) := by have := B3.out.size; omega
            have NEW0 := Lib.hid (INV.out.turn (b := (1 + ap, an)) (L1 := L) B4.out OW4.out (okA_higher INV.out.ok OKB.out (Int.not_lt.2 LOW.out)) (by show 1 + ap ≤ 9; omega) (by have := INV.out.len; omega))
            go_wp2_with fail
            generalize hW : World.setCell _ _ _ = w5
            have NEW : Hid (∃ p vs L, VodInv w w5 (q + 1) p vs L) := Lib.hid (by rw [← hW]; exact ⟨_, _, _, NEW0.out⟩)
            clear hW NEW0 e0 e1 e2 a0 a1 a2 af hne hne'
            go_roundw
            case rel => exact ⟨q + 1, by omega, by go_num, rfl, NEW⟩
            case measure => simp [intOf]; omega
        · have OKY := Lib.hid (show okV ⟨asl, (1 + ap, an), ⟨2, 0, av, 0, 0⟩⟩ = true by
            have hcc : checkC ⟨2, 0, av, 0, 0⟩ = 0 := by
              unfold checkC
              rw [if_neg (show ¬ ((2 : Int) = 0) by decide), if_pos (show (1 : Int) ≤ 2 ∧ (2 : Int) ≤ 3 by decide)]
              have hr : inRange ⟨2, 0, av, 0, 0⟩ = true := by unfold inRange; rw [decide_eq_true_eq]; simp; omega
              rw [if_neg (by rw [hr]; decide), if_neg (show ¬ ((2 : Int) ≠ 1 ∧ (0 : Int) ≠ 0) by decide)]
            unfold okV
            dsimp only
            rw [OKB.out, hcc]
            simp
            omega)
          by_cases hlow : cmpB (1 + ap, an) (pr, pn) < 0
          · have LOW := Lib.hid hlow
            clear hlow
            have hnA : ¬ (w2.heap.size = eb) := by omega
            have hnA' : ¬ (eb = w2.heap.size) := by omega
            have hnB : ¬ (w2.heap.size = w.heap.size + 1) := by omega
            have hnB' : ¬ (w.heap.size + 1 = w2.heap.size) := by omega
            have hnC : ¬ (w2.heap.size = wr.heap.size) := by omega
            have hnC' : ¬ (wr.heap.size = w2.heap.size) := by omega
            have Y3 := Lib.hid x3
            have Y4 := Lib.hid x4
            have U0 := Lib.hid a0
            have U1 := Lib.hid a1
            have U2 := Lib.hid a2
            have V0 := Lib.hid t0
            have V1 := Lib.hid t1
            go_upto_region 12 with (go_at_call 10; refine (picked_toP _ _ _ _ (by assumption) (by assumption) (by decide) (by assumption)).mono ?_; rintro e _ ⟨rfl, rfl⟩)
            go_region_held3 (fun w' => w'.cell? ⟨eb, eoff + q * 5 + 3, none⟩ = some (.int .i64 ps) ∧ w'.cell? ⟨eb, eoff + q * 5 + 4, none⟩ = some (.int .i64 pv) ∧ w'.cell? ⟨w.heap.size + 1, 0, none⟩ = some (.int .i64 pr) ∧ w'.cell? ⟨w.heap.size + 1, 1, none⟩ = some (.int .i64 pn) ∧ w'.cell? ⟨w.heap.size + 1, 2, none⟩ = some (.slice va L.length vc) ∧ w'.cell? ⟨wr.heap.size, 0, none⟩ = some (.int .i64 (1 + ap)) ∧ w'.cell? ⟨wr.heap.size, 1, none⟩ = some (.int .i64 an)) (first | exact SS | go_keep) (first
              | (go_at_call 10; refine (picked_toP _ _ _ _ (by assumption) (by assumption) (by decide) (by assumption)).mono ?_; rintro e _ ⟨rfl, rfl⟩)
              | (go_at_call 15; refine (Accept_low _ _ _ _ _ _ _ _ _ _ _ L _ (VT.out.stay (by first | exact (Below.refl _ _).drew | exact ((Below.refl _ _).alloc (Nat.le_refl _) _).drew)) INV.out.ok OKY.out LEN.out LOW).mono ?_; rintro e w3 ⟨rfl, hb3⟩; have B3 := Lib.hid (show Below w2.heap.size w2 w3 by first | exact (Below.refl w2.heap.size w2).drew.trans hb3 | exact ((Below.refl w2.heap.size w2).alloc (Nat.le_refl _) _).drew.trans (hb3.mono (by simp))); have c5 : ∀ p : Addr, p.block < w2.heap.size → w3.cell? p = w2.cell? p := fun p hp => World.cell?_of_block (w := w2) (B3.out.block p.block hp); (first | (have nz : w3.heap[w2.heap.size]? = some (.cells #[.int .i64 0, .int .i64 0, .slice none 0 0] 39 (0, 0)) := (hb3.block w2.heap.size (by simp)).trans (heapNew w2 _); have NZ := Lib.hid nz; have n0 := cellAt nz 0 rfl; have n1 := cellAt nz 1 rfl; have n2 := cellAt nz 2 rfl; have nf := freeAt nz; clear nz) | skip); have SS : w3.cell? ⟨eb, eoff + q * 5 + 3, none⟩ = some (.int .i64 ps) ∧ w3.cell? ⟨eb, eoff + q * 5 + 4, none⟩ = some (.int .i64 pv) ∧ w3.cell? ⟨w.heap.size + 1, 0, none⟩ = some (.int .i64 pr) ∧ w3.cell? ⟨w.heap.size + 1, 1, none⟩ = some (.int .i64 pn) ∧ w3.cell? ⟨w.heap.size + 1, 2, none⟩ = some (.slice va L.length vc) ∧ w3.cell? ⟨wr.heap.size, 0, none⟩ = some (.int .i64 (1 + ap)) ∧ w3.cell? ⟨wr.heap.size, 1, none⟩ = some (.int .i64 an) := ⟨(c5 _ (show eb < _ by omega)).trans Y3.out, (c5 _ (show eb < _ by omega)).trans Y4.out, (c5 _ (lt_of_heap A2.out)).trans U0.out, (c5 _ (lt_of_heap A2.out)).trans U1.out, (c5 _ (lt_of_heap A2.out)).trans U2.out, (c5 _ hT7).trans V0.out, (c5 _ hT7).trans V1.out⟩; clear hb3 c5))
            all_goals clear x3 x4 a0 a1 a2 t0 t1 SS
            all_goals first
            | (have hnz := NZ
               clear hnz n0 n1 n2 nf
               generalize hW : World.setCell _ _ _ = w4
               have B4 := Lib.hid (show Below wr.heap.size wr w4 by rw [← hW]; exact (((B2.out.trans (B3.out.mono h2s)).setCell h2s _).setCell h2s _).setCell h2s _)
               have NEW : Hid (∃ p vs L, VodInv w w4 (q + 1) p vs L) := Lib.hid ⟨_, _, _, INV.out.keep B4.out⟩
               clear hW
               go_wp2_with fail
               go_roundw
               case rel => exact ⟨q + 1, by omega, by go_num, rfl, NEW⟩
               case measure => simp [intOf]; omega)
            | (generalize hW : World.alloc _ _ = w4
               have B4 := Lib.hid (show Below wr.heap.size wr w4 by rw [← hW]; exact (B2.out.trans (B3.out.mono h2s)).alloc (Nat.le_trans h2s B3.out.size) _)
               have NEW : Hid (∃ p vs L, VodInv w w4 (q + 1) p vs L) := Lib.hid ⟨_, _, _, INV.out.keep B4.out⟩
               clear hW
               go_wp2_with fail
               go_roundw
               case rel => exact ⟨q + 1, by omega, by go_num, rfl, NEW⟩
               case measure => simp [intOf]; omega)
          · have LOW := Lib.hid (Int.not_lt.1 hlow)
            clear hlow
            have hnA : ¬ (w2.heap.size = eb) := by omega
            have hnA' : ¬ (eb = w2.heap.size) := by omega
            have hnB : ¬ (w2.heap.size = w.heap.size + 1) := by omega
            have hnB' : ¬ (w.heap.size + 1 = w2.heap.size) := by omega
            have hnC : ¬ (w2.heap.size = wr.heap.size) := by omega
            have hnC' : ¬ (wr.heap.size = w2.heap.size) := by omega
            have Y3 := Lib.hid x3
            have Y4 := Lib.hid x4
            have U0 := Lib.hid a0
            have U1 := Lib.hid a1
            have U2 := Lib.hid a2
            have V0 := Lib.hid t0
            have V1 := Lib.hid t1
            go_upto_region 12 with (go_at_call 10; refine (picked_toP _ _ _ _ (by assumption) (by assumption) (by decide) (by assumption)).mono ?_; rintro e _ ⟨rfl, rfl⟩)
            go_region_held3 (fun w' => w'.cell? ⟨eb, eoff + q * 5 + 3, none⟩ = some (.int .i64 ps) ∧ w'.cell? ⟨eb, eoff + q * 5 + 4, none⟩ = some (.int .i64 pv) ∧ w'.cell? ⟨w.heap.size + 1, 0, none⟩ = some (.int .i64 pr) ∧ w'.cell? ⟨w.heap.size + 1, 1, none⟩ = some (.int .i64 pn) ∧ w'.cell? ⟨w.heap.size + 1, 2, none⟩ = some (.slice va L.length vc) ∧ w'.cell? ⟨wr.heap.size, 0, none⟩ = some (.int .i64 (1 + ap)) ∧ w'.cell? ⟨wr.heap.size, 1, none⟩ = some (.int .i64 an)) (first | exact SS | go_keep) (first
              | (go_at_call 10; refine (picked_toP _ _ _ _ (by assumption) (by assumption) (by decide) (by assumption)).mono ?_; rintro e _ ⟨rfl, rfl⟩)
              | (go_at_call 15; refine (Accept_high _ _ _ _ _ _ _ _ _ _ _ L _ (VT.out.stay (by first | exact (Below.refl _ _).drew | exact ((Below.refl _ _).alloc (Nat.le_refl _) _).drew)) INV.out.ok OKY.out LEN.out LOW).mono ?_; rintro e w3 ⟨sa, sc, sn, hsn, rfl, ho3, hb3⟩; have O3 := Lib.hid ho3; have SN := Lib.hid hsn; clear ho3 hsn; have B3 := Lib.hid (show Below w2.heap.size w2 w3 by first | exact (Below.refl w2.heap.size w2).drew.trans hb3 | exact ((Below.refl w2.heap.size w2).alloc (Nat.le_refl _) _).drew.trans (hb3.mono (by simp))); have c5 : ∀ p : Addr, p.block < w2.heap.size → w3.cell? p = w2.cell? p := fun p hp => World.cell?_of_block (w := w2) (B3.out.block p.block hp); (first | (have nz : w3.heap[w2.heap.size]? = some (.cells #[.int .i64 0, .int .i64 0, .slice none 0 0] 39 (0, 0)) := (hb3.block w2.heap.size (by simp)).trans (heapNew w2 _); have NZ := Lib.hid nz; have n0 := cellAt nz 0 rfl; have n1 := cellAt nz 1 rfl; have n2 := cellAt nz 2 rfl; have nf := freeAt nz; clear nz) | skip); have SS : w3.cell? ⟨eb, eoff + q * 5 + 3, none⟩ = some (.int .i64 ps) ∧ w3.cell? ⟨eb, eoff + q * 5 + 4, none⟩ = some (.int .i64 pv) ∧ w3.cell? ⟨w.heap.size + 1, 0, none⟩ = some (.int .i64 pr) ∧ w3.cell? ⟨w.heap.size + 1, 1, none⟩ = some (.int .i64 pn) ∧ w3.cell? ⟨w.heap.size + 1, 2, none⟩ = some (.slice va L.length vc) ∧ w3.cell? ⟨wr.heap.size, 0, none⟩ = some (.int .i64 (1 + ap)) ∧ w3.cell? ⟨wr.heap.size, 1, none⟩ = some (.int .i64 an) := ⟨(c5 _ (show eb < _ by omega)).trans Y3.out, (c5 _ (show eb < _ by omega)).trans Y4.out, (c5 _ (lt_of_heap A2.out)).trans U0.out, (c5 _ (lt_of_heap A2.out)).trans U1.out, (c5 _ (lt_of_heap A2.out)).trans U2.out, (c5 _ hT7).trans V0.out, (c5 _ hT7).trans V1.out⟩; clear hb3 c5))
            all_goals clear x3 x4 a0 a1 a2 t0 t1 SS
            all_goals first
            | (have hnz := NZ
               clear hnz n0 n1 n2 nf
               generalize hW : World.setCell _ _ _ = w4
               have B4 := Lib.hid (show Below wr.heap.size wr w4 by rw [← hW]; exact (((B2.out.trans (B3.out.mono h2s)).setCell h2s _).setCell h2s _).setCell h2s _)
               have T8 := Lib.hid (show w4.heap[w2.heap.size]? = some (.cells #[.int .i64 (1 + ap), .int .i64 an, .slice sa sn sc] 39 (0, 0)) by rw [← hW]; exact heapSet (heapSet (heapSet NZ.out _) _) _)
               have OW4 := Lib.hid (show OwnV w4 wr.heap.size (.slice sa sn sc) (putV ⟨asl, (1 + ap, an), ⟨2, 0, av, 0, 0⟩⟩ L) from ownV_move O3.out (by simp; omega) (fun k hk0 hk => by
                 have hkk : k ≠ w2.heap.size := by simp at hk0; omega
                 rw [← hW, heapSet_ne _ _ hkk, heapSet_ne _ _ hkk, heapSet_ne _ _ hkk]))
               have A4 := Lib.hid ((B4.out.block _ hroom).trans INV.out.acc)
               clear hW
               have e0 : w4.cell? ⟨w2.heap.size, 0, none⟩ = some (.int .i64 (1 + ap)) := cellAt T8.out 0 rfl
               have e1 : w4.cell? ⟨w2.heap.size, 1, none⟩ = some (.int .i64 an) := cellAt T8.out 1 rfl
               have e2 : w4.cell? ⟨w2.heap.size, 2, none⟩ = some (.slice sa sn sc) := cellAt T8.out 2 rfl
               have a0 : w4.cell? ⟨w.heap.size + 1, 0, none⟩ = some (.int .i64 pr) := cellAt A4.out 0 rfl
               have a1 : w4.cell? ⟨w.heap.size + 1, 1, none⟩ = some (.int .i64 pn) := cellAt A4.out 1 rfl
               have a2 : w4.cell? ⟨w.heap.size + 1, 2, none⟩ = some (.slice va L.length vc) := cellAt A4.out 2 rfl
               have af := freeAt A4.out
               have hne : ¬ (w2.heap.size = w.heap.size + 1) := by have := B3.out.size; omega
               have hne' : ¬ (w.heap.size + 1 = w2.heap.size) := by have := B3.out.size; omega
               have NEW0 := Lib.hid (INV.out.turn (b := (1 + ap, an)) (L1 := putV ⟨asl, (1 + ap, an), ⟨2, 0, av, 0, 0⟩⟩ L) B4.out OW4.out (okA_put INV.out.ok OKY.out (Int.not_lt.2 LOW.out)) (by show 1 + ap ≤ 9; omega) (by have h1 := INV.out.len; have h2 := putV_length ⟨asl, (1 + ap, an), ⟨2, 0, av, 0, 0⟩⟩ L; omega))
               go_wp2_with fail
               generalize hW : World.setCell _ _ _ = w5
               have NEW : Hid (∃ p vs L, VodInv w w5 (q + 1) p vs L) := Lib.hid (by rw [← hW]; exact ⟨_, _, _, NEW0.out⟩)
               clear hW NEW0 e0 e1 e2 a0 a1 a2 af hne hne'
               go_roundw
               case rel => exact ⟨q + 1, by omega, by go_num, rfl, NEW⟩
               case measure => simp [intOf]; omega)
            | (generalize hW : World.alloc _ _ = w4
               have B4 := Lib.hid (show Below wr.heap.size wr w4 by rw [← hW]; exact (B2.out.trans (B3.out.mono h2s)).alloc (Nat.le_trans h2s B3.out.size) _)
               have T8 := Lib.hid (show w4.heap[w3.heap.size]? = some (.cells #[.int .i64 (1 + ap), .int .i64 an, .slice sa sn sc] 39 (0, 0)) by rw [← hW]; exact heapNew _ _)
               have OW4 := Lib.hid (show OwnV w4 wr.heap.size (.slice sa sn sc) (putV ⟨asl, (1 + ap, an), ⟨2, 0, av, 0, 0⟩⟩ L) from ownV_move O3.out h2s (fun k _ hk => by rw [← hW]; exact heapOld _ _ _ hk))
               have A4 := Lib.hid ((B4.out.block _ hroom).trans INV.out.acc)
               clear hW
               have e0 : w4.cell? ⟨w3.heap.size, 0, none⟩ = some (.int .i64 (1 + ap)) := cellAt T8.out 0 rfl
               have e1 : w4.cell? ⟨w3.heap.size, 1, none⟩ = some (.int .i64 an) := cellAt T8.out 1 rfl
               have e2 : w4.cell? ⟨w3.heap.size, 2, none⟩ = some (.slice sa sn sc) := cellAt T8.out 2 rfl
               have a0 : w4.cell? ⟨w.heap.size + 1, 0, none⟩ = some (.int .i64 pr) := cellAt A4.out 0 rfl
               have a1 : w4.cell? ⟨w.heap.size + 1, 1, none⟩ = some (.int .i64 pn) := cellAt A4.out 1 rfl
               have a2 : w4.cell? ⟨w.heap.size + 1, 2, none⟩ = some (.slice va L.length vc) := cellAt A4.out 2 rfl
               have af := freeAt A4.out
               have hne : ¬ (w3.heap.size = w.heap.size + 1) := by have := B3.out.size; omega
               have hne' : ¬ (w.heap.size + 1 = w3.heap.size) := by have := B3.out.size; omega
               have NEW0 := Lib.hid (INV.out.turn (b := (1 + ap, an)) (L1 := putV ⟨asl, (1 + ap, an), ⟨2, 0, av, 0, 0⟩⟩ L) B4.out OW4.out (okA_put INV.out.ok OKY.out (Int.not_lt.2 LOW.out)) (by show 1 + ap ≤ 9; omega) (by have h1 := INV.out.len; have h2 := putV_length ⟨asl, (1 + ap, an), ⟨2, 0, av, 0, 0⟩⟩ L; omega))
               go_wp2_with fail
               generalize hW : World.setCell _ _ _ = w5
               have NEW : Hid (∃ p vs L, VodInv w w5 (q + 1) p vs L) := Lib.hid (by rw [← hW]; exact ⟨_, _, _, NEW0.out⟩)
               clear hW NEW0 e0 e1 e2 a0 a1 a2 af hne hne'
               go_roundw
               case rel => exact ⟨q + 1, by omega, by go_num, rfl, NEW⟩
               case measure => simp [intOf]; omega)
    · have hex : (decide (q < n) = false ∧ decide ((q : Int) < n) = false) ∨ (decide (q < n) = true ∧ decide ((q : Int) < n) = true ∧ decide (q < 30) = false ∧ decide ((q : Int) < 30) = false) := by
        have := HM.out
        simp only [decide_eq_true_eq, decide_eq_false_iff_not]
        omega
      obtain ⟨⟨pr, pn⟩, vs, L, hinv⟩ := HI.out
      obtain ⟨va, vc, hvs, -⟩ := id hinv.own.row
      subst hvs
      have INV := Lib.hid hinv
      have o0 : wr.cell? ⟨w.heap.size, 0, none⟩ = some (.int .i64 0) := cellAt hinv.out 0 rfl
      have o1 : wr.cell? ⟨w.heap.size, 1, none⟩ = some (.int .i64 0) := cellAt hinv.out 1 rfl
      have o2 : wr.cell? ⟨w.heap.size, 2, none⟩ = some (.slice none 0 0) := cellAt hinv.out 2 rfl
      have of := freeAt hinv.out
      have a0 : wr.cell? ⟨w.heap.size + 1, 0, none⟩ = some (.int .i64 pr) := cellAt hinv.acc 0 rfl
      have a1 : wr.cell? ⟨w.heap.size + 1, 1, none⟩ = some (.int .i64 pn) := cellAt hinv.acc 1 rfl
      have a2 : wr.cell? ⟨w.heap.size + 1, 2, none⟩ = some (.slice va L.length vc) := cellAt hinv.acc 2 rfl
      clear hinv HI
      rcases hex with ⟨he1, he2⟩ | ⟨he1, he2, he3, he4⟩
      all_goals
        go_wp2_with fail
        generalize hW : World.setCell _ _ _ = w5
        have z5 : w5.heap[w.heap.size]? = some (.cells #[.int .i64 pr, .int .i64 pn, .slice va L.length vc] 39 (0, 0)) := by
          rw [← hW]; exact heapSet (heapSet (heapSet INV.out.out _) _) _
        have b5 : Below w.heap.size w w5 := by
          have hle : w.heap.size ≤ w.heap.size := Nat.le_refl _
          rw [← hW]; exact ((INV.out.below.setCell hle _).setCell hle _).setCell hle _
        have o5 : OwnV w5 w.heap.size (.slice va L.length vc) L := ownV_move INV.out.own (by omega) (fun k hk _ => by
          have hkk : k ≠ w.heap.size := by omega
          rw [← hW, heapSet_ne _ _ hkk, heapSet_ne _ _ hkk, heapSet_ne _ _ hkk])
        clear hW o0 o1 o2 of a0 a1 a2
        have e0 : w5.cell? ⟨w.heap.size, 0, none⟩ = some (.int .i64 pr) := cellAt z5 0 rfl
        have e1 : w5.cell? ⟨w.heap.size, 1, none⟩ = some (.int .i64 pn) := cellAt z5 1 rfl
        have e2 : w5.cell? ⟨w.heap.size, 2, none⟩ = some (.slice va L.length vc) := cellAt z5 2 rfl
        refine bodyPost_ret (v := .tuple #[.agg #[.int .i64 pr, .int .i64 pn, .slice va L.length vc], .bool true]) ?_ rfl ⟨(pr, pn), _, L, rfl, o5, INV.out.ok, INV.out.few, by have := INV.out.len; omega, b5⟩
        simp [results, Try.results13, go_sem, e0, e1, e2]
end Go.Proofs.Ytdkbajdnckmckaa
