/-
  The walks of package sha's inner functions: turning a word, and mixing in a block.
-/
import Derived.Test.YtdkbajdnckmckaaDoorRows
import Derived.Test.YtdkbajdnckmckaaDoorBit
import Derived.Test.YtdkbajdnckmckaaDoorWld
import Derived.Test.YtdkbajdnckmckaaDoorQt
import Derived.Test.YtdkbajdnckmckaaDoorShaS
import Derived.WalkKit
import Derived.WalkSpells
import Derived.WalkLawsBesides
import Derived.BigQuiet
import Derived.Deep.QuietTactic
import Derived.LoopTactic
import Derived.Lib.Hide
set_option linter.unusedVariables false
set_option linter.unusedSimpArgs false
namespace Go.Proofs.YtdkbajdnckmckaaDoor
open Go.RowKit Go.Con

theorem rotrN (x : UInt32) (n : Nat) : bits .or .u32 ((x.toNat : Int) / 2 ^ n) ((x.toNat : Int) * 2 ^ (32 - n) % 4294967296) = ((Sha.rotr x n).toNat : Int) := by
  have h1 : ((x.toNat : Int) / 2 ^ n) = ((x.toNat / 2 ^ n : Nat) : Int) := by simp
  have h2 : ((x.toNat : Int) * 2 ^ (32 - n) % 4294967296) = ((x.toNat <<< (32 - n) % 4294967296 : Nat) : Int) := by
    rw [Nat.shiftLeft_eq]; simp
  rw [h1, h2, u32_or_nat _ _ (Nat.lt_of_le_of_lt (Nat.div_le_self _ _) x.toNat_lt) (Nat.mod_lt _ (by decide))]
  congr 1
  unfold Sha.rotr
  rw [UInt32.toNat_ofNat_of_lt']
  exact Nat.or_lt_two_pow (n := 32) (Nat.lt_of_le_of_lt (Nat.div_le_self _ _) x.toNat_lt) (Nat.mod_lt _ (by decide))

set_option maxHeartbeats 400000 in
theorem turn_any (x : UInt32) (n : Nat) (w : World) (h1 : 0 < n) (h2 : n < 32) :
    Calls Tryd.prog 52 #[.int .u32 x.toNat, .int .i64 n] w fun e w' => e = .returned (.int .u32 (Sha.rotr x n).toNat) ∧ ∃ k, w' = w.drewN k := by
  go_enter Tryd.func52, Tryd.ntmps52
  go_wp2
  go_quiet (fail)
  go_wp2
  go_ret
  exact ⟨by rw [← rotrN]; rfl, _, rfl⟩

theorem turn_at (x : UInt32) (n : Int) (m : Nat) (w : World) (hn : n = m) (h1 : 0 < m) (h2 : m < 32) :
    Calls Tryd.prog 52 #[.int .u32 x.toNat, .int .i64 n] w fun e w' => e = .returned (.int .u32 (Sha.rotr x m).toNat) ∧ ∃ k, w' = w.drewN k := by
  subst hn; exact turn_any x m w h1 h2

theorem turn_i (x : UInt32) (n : Int) (w : World) (h1 : 0 < n) (h2 : n < 32) :
    Calls Tryd.prog 52 #[.int .u32 x.toNat, .int .i64 n] w fun e w' => e = .returned (.int .u32 (Sha.rotr x n.toNat).toNat) ∧ ∃ k, w' = w.drewN k := by
  obtain ⟨m, rfl⟩ := Int.eq_ofNat_of_zero_le (Int.le_of_lt h1)
  exact turn_any x m w (by omega) (by omega)

theorem notF (x : UInt32) : bits .xor .u32 IntKind.u32.max (x.toNat : Int) = ((~~~x).toNat : Int) := u32_notF x
theorem up_raw (s : Sha.D8) (k w : UInt32) :
    ((s.h.toNat : Int) + bits .xor .u32 (bits .xor .u32 ((Sha.rotr s.e 6).toNat : Int) ((Sha.rotr s.e 11).toNat : Int)) ((Sha.rotr s.e 25).toNat : Int) +
      bits .xor .u32 (bits .and .u32 (s.e.toNat : Int) (s.f.toNat : Int)) (bits .and .u32 (bits .xor .u32 IntKind.u32.max (s.e.toNat : Int)) (s.g.toNat : Int)) + (k.toNat : Int) + (w.toNat : Int)) % 4294967296
      = ((Sha.upOf s k w).toNat : Int) := by
  simp only [notF, u32_xorF, u32_andF, Sha.upOf, UInt32.toNat_add]
  omega
theorem down_raw (s : Sha.D8) :
    (bits .xor .u32 (bits .xor .u32 ((Sha.rotr s.a 2).toNat : Int) ((Sha.rotr s.a 13).toNat : Int)) ((Sha.rotr s.a 22).toNat : Int) +
      bits .xor .u32 (bits .xor .u32 (bits .and .u32 (s.a.toNat : Int) (s.b.toNat : Int)) (bits .and .u32 (s.a.toNat : Int) (s.c.toNat : Int))) (bits .and .u32 (s.b.toNat : Int) (s.c.toNat : Int))) % 4294967296
      = ((Sha.downOf s).toNat : Int) := by
  simp only [u32_xorF, u32_andF, Sha.downOf, UInt32.toNat_add]
  omega
theorem modAdd (a b : Int) (x y : UInt32) (ha : a % 4294967296 = (x.toNat : Int)) (hb : b % 4294967296 = (y.toNat : Int)) : (a + b) % 4294967296 = ((x + y).toNat : Int) := by
  rw [UInt32.toNat_add]; omega
theorem modSelf (y : UInt32) : (y.toNat : Int) % 4294967296 = (y.toNat : Int) := by
  have := y.toNat_lt; omega

theorem index8 (s : Sha.D8) (k : Nat) (hk : k < 8) (W : World) :
    (Instr.index 97 (.agg #[.int .u32 s.a.toNat, .int .u32 s.b.toNat, .int .u32 s.c.toNat, .int .u32 s.d.toNat, .int .u32 s.e.toNat, .int .u32 s.f.toNat, .int .u32 s.g.toNat, .int .u32 s.h.toNat]) (.int .i64 k)).run Tryd.prog W
      = .ok (.int .u32 (s.toList.getD k 0).toNat) W := by
  have h8 : k = 0 ∨ k = 1 ∨ k = 2 ∨ k = 3 ∨ k = 4 ∨ k = 5 ∨ k = 6 ∨ k = 7 := by omega
  rcases h8 with rfl | rfl | rfl | rfl | rfl | rfl | rfl | rfl <;> (show _ = _; kernel_rfl)


def u32v (x : UInt32) : Value := .int .u32 x.toNat

set_option maxRecDepth 100000 in
set_option maxHeartbeats 1000000 in
theorem block_any (bd b off cap : Nat) (D : Sha.D8) (B : List UInt8) (w : World)
    (hd : w.heap[bd]? = some (.cells #[u32v D.a, u32v D.b, u32v D.c, u32v D.d, u32v D.e, u32v D.f, u32v D.g, u32v D.h] 97 (0, 0)))
    (hk : ∀ i, i < 64 → w.cell? ⟨0, i, none⟩ = some (u32v (Sha.kn.getD i 0)))
    (hg : 0 ≠ bd)
    (hc : ∀ i, i < 64 → w.cell? ⟨b, off + i, none⟩ = some (u8v (B.getD i 0))) :
    Calls Tryd.prog 50 #[.pointer (some ⟨bd, 0, none⟩), .slice (some ⟨b, off, none⟩) 64 cap] w fun e w' =>
      e = .returned (.tuple #[]) ∧ Kept w.heap.size (· = bd) w w' ∧
      w'.heap[bd]? = some (.cells #[u32v (Sha.blk D B).a, u32v (Sha.blk D B).b, u32v (Sha.blk D B).c, u32v (Sha.blk D B).d, u32v (Sha.blk D B).e, u32v (Sha.blk D B).f, u32v (Sha.blk D B).g, u32v (Sha.blk D B).h] 97 (0, 0)) := by
  unfold u8v u32v at *
  have hk0 := Lib.hid hk
  clear hk
  go_enter Tryd.func50, Tryd.ntmps50
  go_wp2
  go_loopw [16] (fun c wr => ∃ k : Nat, k ≤ 64 ∧ c = .int .i64 k ∧ Kept w.heap.size (fun _ => False) w wr ∧
      ∃ arr : Array Value, wr.heap[w.heap.size]? = some (.cells arr 100 (0, 0)) ∧ arr.size = 64 ∧ ∀ j, j < k → arr[j]? = some (.int .u32 ((Sha.sched B k).getD j 0).toNat))
    (fun c _ => 64 - (intOf c).toNat)
  case atStart => exact ⟨0, by omega, rfl, (Kept.refl _ _ _).alloc (Nat.le_refl _) _, _, heapNew _ _, rfl, fun j hj => absurd hj (Nat.not_lt_zero _)⟩
  case round =>
    obtain ⟨k, hk, rfl, hkept, arr, harr, hsz, hold⟩ := hrel
    by_cases hlt : k < 64
    · have c4 := cellD harr k (by omega)
      have c5 := freeAt harr k
      by_cases h16 : k < 16
      · have hcc : ∀ j, j < 64 → wr.cell? ⟨b, off + j, none⟩ = some (.int .u8 (B.getD j 0).toNat) := fun j hj => (hkept.cell (p := ⟨b, off + j, none⟩) (World.block_lt_of_cell? w _ (hc j hj)) id).trans (hc j hj)
        obtain ⟨x0, hx0⟩ : ∃ x, x = B.getD (4 * k) 0 := ⟨_, rfl⟩
        obtain ⟨x1, hx1⟩ : ∃ x, x = B.getD (4 * k + 1) 0 := ⟨_, rfl⟩
        obtain ⟨x2, hx2⟩ : ∃ x, x = B.getD (4 * k + 2) 0 := ⟨_, rfl⟩
        obtain ⟨x3, hx3⟩ : ∃ x, x = B.getD (4 * k + 3) 0 := ⟨_, rfl⟩
        have c0 := hcc (4 * k) (by omega)
        have c1 := hcc (4 * k + 1) (by omega)
        have c2 := hcc (4 * k + 2) (by omega)
        have c3 := hcc (4 * k + 3) (by omega)
        rw [← hx0] at c0; rw [← hx1] at c1; rw [← hx2] at c2; rw [← hx3] at c3
        have HS : Hid (x0.toUInt32 <<< 24 ||| x1.toUInt32 <<< 16 ||| x2.toUInt32 <<< 8 ||| x3.toUInt32 = (Sha.sched B (k + 1)).getD k 0) := by
          rw [Sha.sched_new, Sha.nextW, if_pos h16, hx0, hx1, hx2, hx3]; rfl
        clear hx0 hx1 hx2 hx3 hcc hc hd
        have hold' := Lib.hid hold
        clear hold
        go_wp2
        refine region_quiet_tail 35 (by kernel_rfl) (by kernel_rfl) ?_
        simp only [List.take_succ_cons, List.take_zero, List.drop_succ_cons, List.drop_zero]
        repeat (go_big_quiet_step (fail))
        refine wpQuiet_nil ?_
        intro w9 hw9
        obtain ⟨nq, rfl⟩ := hw9
        go_wp2
        go_roundw
        case rel =>
          refine ⟨k + 1, by omega, by go_num, (hkept.drewN nq).setCell (.inl (Nat.le_refl _)) _, fillOne (g := fun j => .int .u32 ((Sha.sched B (k + 1)).getD j 0).toNat) nq harr hsz hlt (fun j hj => by rw [hold'.out j hj, Sha.sched_old B k j hj]) ?_⟩
          rw [word_raw, HS.out]
        case measure => simp [intOf]; omega
      · obtain ⟨y16, h16'⟩ : ∃ x, x = (Sha.sched B k).getD (k - 16) 0 := ⟨_, rfl⟩
        obtain ⟨y15, h15'⟩ : ∃ x, x = (Sha.sched B k).getD (k - 15) 0 := ⟨_, rfl⟩
        obtain ⟨y7, h7'⟩ : ∃ x, x = (Sha.sched B k).getD (k - 7) 0 := ⟨_, rfl⟩
        obtain ⟨y2, h2'⟩ : ∃ x, x = (Sha.sched B k).getD (k - 2) 0 := ⟨_, rfl⟩
        have c0 := cellAt harr _ (hold (k - 16) (by omega))
        have c1 := cellAt harr _ (hold (k - 15) (by omega))
        have c2 := cellAt harr _ (hold (k - 7) (by omega))
        have c3 := cellAt harr _ (hold (k - 2) (by omega))
        rw [← h16'] at c0; rw [← h15'] at c1; rw [← h7'] at c2; rw [← h2'] at c3
        have HS : Hid (y16 + y7 + (Sha.rotr y15 7 ^^^ Sha.rotr y15 18 ^^^ y15 >>> 3) + (Sha.rotr y2 17 ^^^ Sha.rotr y2 19 ^^^ y2 >>> 10) = (Sha.sched B (k + 1)).getD k 0) := by
          rw [Sha.sched_new, Sha.nextW, if_neg h16, h16', h15', h7', h2']; rfl
        have h16i : (16 : Int) ≤ (k : Int) := by omega
        clear h16' h15' h7' h2' hc hd
        have hold' := Lib.hid hold
        clear hold
        go_wp2
        go_quiet (fail)
        go_wp2
        refine region_quiet_tail 29 (by kernel_rfl) (by kernel_rfl) ?_
        simp only [List.take_succ_cons, List.take_zero, List.drop_succ_cons, List.drop_zero]
        repeat (go_big_quiet_step ((go_at_call 52; exact quiet_of2 (turn_i _ _ _ (by decide) (by decide)))))
        refine wpQuiet_nil ?_
        intro w9 hw9
        obtain ⟨nq, rfl⟩ := hw9
        go_wp2
        go_roundw
        case rel =>
          refine ⟨k + 1, by omega, by go_num, (hkept.drewN _).setCell (.inl (Nat.le_refl _)) _, fillOne (g := fun j => .int .u32 ((Sha.sched B (k + 1)).getD j 0).toNat) _ harr hsz hlt (fun j hj => by rw [hold'.out j hj, Sha.sched_old B k j hj]) ?_⟩
          rw [← HS.out, u32_xorF, u32_xorF, shr32 y15 3 3 8 (by decide) rfl (by decide), shr32 y2 10 10 1024 (by decide) rfl (by decide), u32_xorF, u32_xorF]
          congr 1
          simp only [UInt32.toNat_add]
          omega
        case measure => simp [intOf]; omega
    · have hk64 : k = 64 := by omega
      rw [hk64] at hold
      have hk64d : decide ((k : Int) < 64) = false := by rw [hk64]; decide
      have Hk64 := Lib.hid hk64
      clear hk64
      have cg : ∀ i, i < 64 → wr.cell? ⟨0, i, none⟩ = some (.int .u32 (Sha.kn.getD i 0).toNat) := fun i hi => (hkept.cell (p := ⟨0, i, none⟩) (World.block_lt_of_cell? w _ (hk0.out i hi)) id).trans (hk0.out i hi)
      have hdr : wr.heap[bd]? = some (.cells #[.int .u32 D.a.toNat, .int .u32 D.b.toNat, .int .u32 D.c.toNat, .int .u32 D.d.toNat, .int .u32 D.e.toNat, .int .u32 D.f.toNat, .int .u32 D.g.toNat, .int .u32 D.h.toNat] 97 (0, 0)) := (hkept.block bd (lt_of_heap hd) id).trans hd
      have q0 := cellAt hdr 0 rfl
      have q1 := cellAt hdr 1 rfl
      have q2 := cellAt hdr 2 rfl
      have q3 := cellAt hdr 3 rfl
      have q4 := cellAt hdr 4 rfl
      have q5 := cellAt hdr 5 rfl
      have q6 := cellAt hdr 6 rfl
      have q7 := cellAt hdr 7 rfl
      have Hold := Lib.hid hold
      have Cg := Lib.hid cg
      have Hd := Lib.hid hd
      have Hdr := Lib.hid hdr
      have Harr := Lib.hid harr
      clear hold hc hd hdr cg harr
      go_wp2
      obtain ⟨w1, hw1⟩ : ∃ w1 : World, w1 = wr := ⟨_, rfl⟩
      rw [← hw1]
      rw [← hw1] at hkept Harr
      generalize hbv : w1.heap.size = bv
      have hbv' : w.heap.size < bv := by rw [← hbv]; exact lt_of_heap Harr.out
      have k0 : ∀ o, Kept w.heap.size (fun _ => False) w (w1.alloc o) := fun o => hkept.alloc (by have := hkept.size; omega) o
      have r0 : ∀ o, (w1.alloc o).heap[w.heap.size]? = some (.cells arr 100 (0, 0)) := fun o => (heapOld w1 o _ (lt_of_heap Harr.out)).trans Harr.out
      have r1 : ∀ o, (w1.alloc o).heap[bv]? = some o := fun o => by rw [← hbv]; exact heapNew w1 o
      have Hbv := Lib.hid hbv
      clear hbv
      go_loopw [97] (fun c wr2 => ∃ k2 : Nat, k2 ≤ 64 ∧ c = .int .i64 k2 ∧ Kept w.heap.size (fun _ => False) w wr2 ∧
          wr2.heap[w.heap.size]? = some (.cells arr 100 (0, 0)) ∧ ∃ s : Sha.D8, s = Sha.rounds (Sha.sched B 64) D k2 ∧
          wr2.heap[bv]? = some (.cells #[.int .u32 s.a.toNat, .int .u32 s.b.toNat, .int .u32 s.c.toNat, .int .u32 s.d.toNat, .int .u32 s.e.toNat, .int .u32 s.f.toNat, .int .u32 s.g.toNat, .int .u32 s.h.toNat] 97 (0, 0)))
        (fun c _ => 64 - (intOf c).toNat)
      case atStart => exact ⟨0, by omega, rfl, k0 _, r0 _, D, rfl, r1 _⟩
      case round =>
        clear r0 r1 k0 q0 q1 q2 q3 q4 q5 q6 q7
        obtain ⟨k2, hk2, rfl, hkept2, harr2, s, hs, hv⟩ := hrel
        have q0 := cellAt hv 0 rfl
        have q1 := cellAt hv 1 rfl
        have q2 := cellAt hv 2 rfl
        have q3 := cellAt hv 3 rfl
        have q4 := cellAt hv 4 rfl
        have q5 := cellAt hv 5 rfl
        have q6 := cellAt hv 6 rfl
        have q7 := cellAt hv 7 rfl
        have fv := freeAt hv
        have Hv := Lib.hid hv
        have Hs := Lib.hid hs
        have Harr2 := Lib.hid harr2
        clear hv hs harr2
        by_cases hlt2 : k2 < 64
        · obtain ⟨wk, hwk⟩ : ∃ x, x = (Sha.sched B 64).getD k2 0 := ⟨_, rfl⟩
          obtain ⟨kk, hkk⟩ : ∃ x, x = Sha.kn.getD k2 0 := ⟨_, rfl⟩
          have cw : wr.cell? ⟨w.heap.size, k2, none⟩ = some (.int .u32 wk.toNat) := by rw [hwk]; exact cellAt Harr2.out k2 (Hold.out k2 hlt2)
          have ck : wr.cell? ⟨0, k2, none⟩ = some (.int .u32 kk.toNat) := by
            rw [hkk]; exact (hkept2.cell (p := ⟨0, k2, none⟩) (World.block_lt_of_cell? w _ (hk0.out k2 hlt2)) id).trans (hk0.out k2 hlt2)
          have Hwk := Lib.hid hwk
          have Hkk := Lib.hid hkk
          clear hwk hkk
          go_wp2
          go_quiet (fail)
          go_wp2
          go_quiet ((go_at_call 52; exact quiet_of2 (turn_i _ _ _ (by decide) (by decide))))
          go_wp2
          go_quiet ((go_at_call 52; exact quiet_of2 (turn_i _ _ _ (by decide) (by decide))))
          go_wp2
          go_roundw
          case rel =>
            refine ⟨k2 + 1, by omega, by go_num, ?_, ?_, Sha.stepD s kk wk, ?_, ?_⟩
            · exact (((((((((hkept2.drewN _).setCell (.inl (by exact Nat.le_of_lt hbv')) _).setCell (.inl (by exact Nat.le_of_lt hbv')) _).setCell (.inl (by exact Nat.le_of_lt hbv')) _).setCell (.inl (by exact Nat.le_of_lt hbv')) _).setCell (.inl (by exact Nat.le_of_lt hbv')) _).setCell (.inl (by exact Nat.le_of_lt hbv')) _).setCell (.inl (by exact Nat.le_of_lt hbv')) _).setCell (.inl (by exact Nat.le_of_lt hbv')) _)
            · have hne : w.heap.size ≠ bv := by omega
              rw [heapSet_ne _ _ hne, heapSet_ne _ _ hne, heapSet_ne _ _ hne, heapSet_ne _ _ hne, heapSet_ne _ _ hne, heapSet_ne _ _ hne, heapSet_ne _ _ hne, heapSet_ne _ _ hne]
              exact Harr2.out
            · rw [Hkk.out, Hwk.out, Hs.out]; rfl
            · refine (set8 (w := wr.drewN _) Hv.out _ _ _ _ _ _ _ _).trans ?_
              rw [modAdd _ _ _ _ (up_raw s kk wk) (down_raw s), modAdd _ _ _ _ (modSelf s.d) (up_raw s kk wk)]
              rfl
          case measure => simp [intOf]; omega
        · have hk64 : k2 = 64 := by omega
          obtain ⟨s', hs'⟩ : ∃ x, x = s := ⟨_, rfl⟩
          have hdr : wr.heap[bd]? = some (.cells #[.int .u32 D.a.toNat, .int .u32 D.b.toNat, .int .u32 D.c.toNat, .int .u32 D.d.toNat, .int .u32 D.e.toNat, .int .u32 D.f.toNat, .int .u32 D.g.toNat, .int .u32 D.h.toNat] 97 (0, 0)) := (hkept2.block bd (lt_of_heap Hd.out) id).trans Hd.out
          have Hdr2 := Lib.hid hdr
          clear hdr
          go_wp2
          have hix := index8 s
          have hlt0 : (0 : Nat) < 8 := by decide
          have Hs2 := Lib.hid (show s = Sha.rounds (Sha.sched B 64) D 64 by rw [Hs.out, hk64])
          have Hk64b := Lib.hid hk64
          clear hk64 Hs q0 q1 q2 q3 q4 q5 q6 q7 fv Hv
          obtain ⟨w2, hw2⟩ : ∃ w2 : World, w2 = wr := ⟨_, rfl⟩
          rw [← hw2]
          rw [← hw2] at hkept2 Hdr2
          clear hw2 hw1 Cg Hdr
          go_loopw [178] (fun c wr3 => ∃ k3 : Nat, k3 ≤ 8 ∧ c = .int .i64 k3 ∧ Kept w.heap.size (fun x => x = bd) w wr3 ∧
              ∃ cur : Array Value, wr3.heap[bd]? = some (.cells cur 97 (0, 0)) ∧ cur.size = 8 ∧ ∀ j, j < 8 → cur[j]? = some (.int .u32 (if j < k3 then D.toList.getD j 0 + s.toList.getD j 0 else D.toList.getD j 0).toNat))
            (fun c _ => 8 - (intOf c).toNat)
          case atStart =>
            refine ⟨0, by omega, rfl, hkept2.mono (Nat.le_refl _) (fun _ _ h => h.elim), _, Hdr2.out, rfl, fun j hj => ?_⟩
            match j, hj with
            | 0, _ => rfl
            | 1, _ => rfl
            | 2, _ => rfl
            | 3, _ => rfl
            | 4, _ => rfl
            | 5, _ => rfl
            | 6, _ => rfl
            | 7, _ => rfl
          case round =>
            obtain ⟨k3, hk3, rfl, hkept3, cur, hcur, hcs, hcv⟩ := hrel
            by_cases hlt3 : k3 < 8
            · have hix3 := hix k3 hlt3
              obtain ⟨sk, hsk⟩ : ∃ x, x = s.toList.getD k3 0 := ⟨_, rfl⟩
              obtain ⟨dk, hdk⟩ : ∃ x, x = D.toList.getD k3 0 := ⟨_, rfl⟩
              rw [← hsk] at hix3
              have c0 := cellAt hcur k3 (hcv k3 hlt3)
              rw [if_neg (Nat.lt_irrefl k3), ← hdk] at c0
              have f0 := freeAt hcur k3
              have Hcur := Lib.hid hcur
              have Hcv := Lib.hid hcv
              have Hsk := Lib.hid hsk
              have Hdk := Lib.hid hdk
              clear hcur hcv hsk hdk hix
              go_wp2
              refine region_quiet_tail 9 (by kernel_rfl) (by kernel_rfl) ?_
              simp only [List.take_succ_cons, List.take_zero, List.drop_succ_cons, List.drop_zero]
              repeat (go_big_quiet_step (fail))
              refine wpQuiet_nil ?_
              intro w9 hw9
              obtain ⟨nq, rfl⟩ := hw9
              go_wp2
              go_roundw
              case rel =>
                refine ⟨k3 + 1, by omega, by go_num, (hkept3.drewN _).setCell (.inr rfl) _, turnOne _ Hcur.out hcs hlt3 Hcv.out ?_ ?_⟩
                · rw [if_pos (by omega), ← Hdk.out, ← Hsk.out, modAdd _ _ _ _ (modSelf dk) (modSelf sk)]
                · intro j hj hne
                  by_cases h : j < k3
                  · rw [if_pos h, if_pos (by omega)]
                  · rw [if_neg h, if_neg (by omega)]
              case measure => simp [intOf]; omega
            · have Hcv := Lib.hid hcv
              have Hcur := Lib.hid hcur
              clear hix hcv hcur
              go_wp2
              go_end0
              refine ⟨rfl, hkept3, ?_⟩
              have h3 : k3 = 8 := by omega
              subst h3
              rw [Hcur.out, arr8 hcs (fun j hj => by rw [Hcv.out j hj, if_pos hj]), Sha.blk, ← Hs2.out]
              rfl
end Go.Proofs.YtdkbajdnckmckaaDoor
