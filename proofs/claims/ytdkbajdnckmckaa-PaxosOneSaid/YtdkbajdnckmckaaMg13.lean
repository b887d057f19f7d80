/-
  Texts put together: MaK, MaP, MaQ, MaV, MaF.
-/
import Derived.Test.YtdkbajdnckmckaaMg12
import Derived.Test.YtdkbajdnckmckaaMg1
set_option linter.unusedVariables false
set_option linter.unusedSimpArgs false
namespace Go.Proofs.Ytdkbajdnckmckaa
open Go.RowKit Go.Con
theorem row_length (M : Mat) (ad : Nat → Option Addr) (c : Nat → Nat) : (M.row ad c).length = 5 := by simp [Mat.row]
theorem row_get {M : Mat} {ad : Nat → Option Addr} {c : Nat → Nat} {i : Nat} (hi : i < 5) : (M.row ad c).getD i Acr.zero = ⟨M.node i, ad i, (M.node i).l.length, c i⟩ := by
  unfold Mat.row
  rw [List.getD_eq_getElem?_getD, List.getElem?_map, List.getElem?_range hi]; rfl
theorem row_mem {M : Mat} {ad : Nat → Option Addr} {c : Nat → Nat} {x : Acr} (h : x ∈ M.row ad c) : ∃ a, a < 5 ∧ x = ⟨M.node a, ad a, (M.node a).l.length, c a⟩ := by
  unfold Mat.row at h
  obtain ⟨a, h1, rfl⟩ := List.mem_map.1 h
  exact ⟨a, List.mem_range.1 h1, rfl⟩
theorem MatW.row {w : World} {g : Nat} {M : Mat} {ad : Nat → Option Addr} {c pb : Nat → Nat} (h : MatW w g M ad c pb) : RdA w (.slice (some ⟨g, 0, none⟩) 5 5) (M.row ad c) := by
  refine ⟨_, 5, by rw [row_length], by rw [row_length]; exact Nat.le_refl _, by decide, fun _ => ⟨g, 0, rfl, h.blk.lt, fun i hi j hj => ?_⟩⟩
  rw [row_length] at hi
  rw [row_get hi, Nat.zero_add]
  have h3 : j = 0 ∨ j = 1 ∨ j = 2 := by omega
  rcases h3 with rfl | rfl | rfl
  · rw [show 3 * i + 0 = i * 3 by omega]; exact h.n0 i hi
  · rw [show 3 * i + 1 = i * 3 + 1 by omega]; exact h.n1 i hi
  · rw [show 3 * i + 2 = i * 3 + 2 by omega]; exact h.n2 i hi
theorem Chosen_mat {w : World} {g : Nat} {M : Mat} {ad : Nat → Option Addr} {c pb : Nat → Nat} {nd : Nat → Int} {S : Nat → PxS Cmd} (h : MatW w g M ad c pb) (hi : MInv M nd S) (s : Nat) (hs : s < 3) :
    Calls Try.prog 18 #[.slice (some ⟨g, 0, none⟩) 5 5, .int .i64 s] w fun e w' => Below w.heap.size w w' ∧ ((∃ y, 5 < 2 * (slotV s (M.row ad c)).count y ∧ e = .returned (.tuple #[cmdV y.what, .int .i64 0])) ∨ ((∀ y, ¬ 5 < 2 * (slotV s (M.row ad c)).count y) ∧ e = .returned (.tuple #[cmdV Cmd.zero, .int .i64 9]))) := by
  have h1 := Chosen_ok (M.row ad c) (.slice (some ⟨g, 0, none⟩) 5 5) s w h.row (fun x hx => by
    obtain ⟨a, ha, rfl⟩ := row_mem hx
    exact (h.own a ha).votes) (fun x hx => by
    obtain ⟨a, ha, rfl⟩ := row_mem hx
    exact hi.fit a ha) (by omega) (by omega) (by rw [row_length]; omega) (by rw [row_length]; omega)
  rw [row_length] at h1
  exact h1
theorem Chosen_some {w : World} {g : Nat} {M : Mat} {ad : Nat → Option Addr} {c pb : Nat → Nat} {nd : Nat → Int} {S : Nat → PxS Cmd} (h : MatW w g M ad c pb) (hi : MInv M nd S) (s : Nat) (hs : s < 3) (hy : Hid (∃ y, 5 < 2 * (slotV s (M.row ad c)).count y)) :
    Calls Try.prog 18 #[.slice (some ⟨g, 0, none⟩) 5 5, .int .i64 s] w fun e w' => ∃ k cl sq nm vl, e = .returned (.tuple #[.agg #[.int .i64 k, .int .i64 cl, .int .i64 sq, .int .i64 nm, .int .i64 vl], .int .i64 0]) ∧ (∀ x, M.chosen s = some x → x = ⟨k, cl, sq, nm, vl⟩) ∧ MInv (M.choose s ⟨k, cl, sq, nm, vl⟩) nd S ∧ Below w.heap.size w w' :=
  (Chosen_mat h hi s hs).mono fun e w' ⟨h1, h2⟩ => by
    rcases h2 with ⟨y, h3, h4⟩ | ⟨h3, -⟩
    · obtain ⟨g1, g2⟩ := hi.seen hs ad c h3
      exact ⟨y.what.kind, y.what.client, y.what.seq, y.what.name, y.what.value, h4, g1, g2, h1⟩
    · obtain ⟨y, h4⟩ := hy.out
      exact absurd h4 (h3 y)
theorem Chosen_none {w : World} {g : Nat} {M : Mat} {ad : Nat → Option Addr} {c pb : Nat → Nat} {nd : Nat → Int} {S : Nat → PxS Cmd} (h : MatW w g M ad c pb) (hi : MInv M nd S) (s : Nat) (hs : s < 3) (hy : Hid (¬ ∃ y, 5 < 2 * (slotV s (M.row ad c)).count y)) :
    Calls Try.prog 18 #[.slice (some ⟨g, 0, none⟩) 5 5, .int .i64 s] w fun e w' => e = .returned (.tuple #[.agg #[.int .i64 0, .int .i64 0, .int .i64 0, .int .i64 0, .int .i64 0], .int .i64 9]) ∧ Below w.heap.size w w' :=
  (Chosen_mat h hi s hs).mono fun e w' ⟨h1, h2⟩ => by
    rcases h2 with ⟨y, h3, -⟩ | ⟨-, h3⟩
    · exact absurd ⟨y, h3⟩ hy.out
    · exact ⟨h3, h1⟩
/-- what look's loop keeps -/
structure LkInv (base : Nat) (w wr : World) (g : Nat) (M0 M : Mat) (ad : Nat → Option Addr) (c pb : Nat → Nat) (nd : Nat → Int) (S : Nat → PxS Cmd) : Prop where
  mat : MatW wr g M ad c pb
  inv : MInv M nd S
  rounds : M.rounds = M0.rounds
  bid : M.bid = M0.bid
  below : Below base w wr
theorem LkInv.stay {base : Nat} {w wr w' : World} {g : Nat} {M0 M : Mat} {ad : Nat → Option Addr} {c pb : Nat → Nat} {nd : Nat → Int} {S : Nat → PxS Cmd} (h : LkInv base w wr g M0 M ad c pb nd S) (hg : base ≤ g) (hb : Below wr.heap.size wr w') : LkInv base w w' g M0 M ad c pb nd S :=
  ⟨h.mat.stay hb, h.inv, h.rounds, h.bid, h.below.trans (hb.mono (by have := h.mat.blk.lt; omega))⟩
theorem Below.setCellsM {base : Nat} {w : World} {g : Nat} (hg : base ≤ g) : ∀ (vs : List Value) (o : Nat) {w1 : World}, Below base w w1 → Below base w (w1.setCells g o vs)
  | [], _, _, h => h
  | v :: vs, o, w1, h => Below.setCellsM hg vs (o + 1) (h.setCell hg v)
theorem LkInv.choose {base : Nat} {w wr : World} {g : Nat} {M0 M : Mat} {ad : Nat → Option Addr} {c pb : Nat → Nat} {nd : Nat → Int} {S : Nat → PxS Cmd} (h : LkInv base w wr g M0 M ad c pb nd S) (hg : base ≤ g) {s : Nat} (hs : s < 3) {x : Cmd} (hi : MInv (M.choose s x) nd S) :
    LkInv base w ((wr.setCells g (34 + s) [.bool true]).setCells g (19 + s * 5) (wishCells x)) g M0 (M.choose s x) ad c pb nd S :=
  ⟨h.mat.setDone hs x, hi, h.rounds, h.bid, Below.setCellsM hg _ _ (Below.setCellsM hg _ _ h.below)⟩
theorem setCells_drewN (g n : Nat) : ∀ (vs : List Value) (o : Nat) (w : World), (w.drewN n).setCells g o vs = (w.setCells g o vs).drewN n
  | [], _, _ => rfl
  | v :: vs, o, w => by
    show ((w.drewN n).setCell ⟨g, o, none⟩ v).setCells g (o + 1) vs = ((w.setCell ⟨g, o, none⟩ v).setCells g (o + 1) vs).drewN n
    rw [← setCells_drewN g n vs (o + 1) (w.setCell ⟨g, o, none⟩ v)]
    rfl
theorem LkInv.drewN {base : Nat} {w wr : World} {g : Nat} {M0 M : Mat} {ad : Nat → Option Addr} {c pb : Nat → Nat} {nd : Nat → Int} {S : Nat → PxS Cmd} (h : LkInv base w wr g M0 M ad c pb nd S) (n : Nat) : LkInv base w (wr.drewN n) g M0 M ad c pb nd S :=
  ⟨h.mat.heap (fun _ _ => rfl), h.inv, h.rounds, h.bid, below_drewN h.below n⟩
set_option maxRecDepth 100000 in
set_option maxHeartbeats 4000000 in
theorem look_any (base : Nat) {w : World} {g : Nat} {M : Mat} {ad : Nat → Option Addr} {c pb : Nat → Nat} {nd : Nat → Int} {S : Nat → PxS Cmd} (h : MatW w g M ad c pb) (hi : MInv M nd S) (hg : base ≤ g) :
    Calls Try.prog 30 #[.pointer (some ⟨g, 0, none⟩)] w fun e w' => e = .returned (.tuple #[]) ∧ ∃ M', LkInv base w w' g M M' ad c pb nd S := by
  have I0 : Hid (∃ M', LkInv base w w g M M' ad c pb nd S) := Lib.hid ⟨M, h, hi, rfl, rfl, Below.refl _ _⟩
  clear h hi
  go_enter Try.func30, Try.ntmps30
  go_wp2_with fail
  go_loopw [2] (fun i wr => ∃ s : Nat, s ≤ 3 ∧ i = .int .i64 s ∧ Hid (∃ M', LkInv base w wr g M M' ad c pb nd S)) (fun i _ => 3 - (intOf i).toNat)
  case atStart => exact ⟨0, by omega, rfl, I0⟩
  case round =>
    clear I0
    obtain ⟨s, hs, rfl, HI⟩ := hrel
    by_cases hs3 : s < 3
    · have hd1 : decide ((s : Int) < 3) = true := by rw [decide_eq_true_eq]; omega
      have hd1n : decide (s < 3) = true := by rw [decide_eq_true_eq]; omega
      obtain ⟨M1, hlk⟩ := HI.out
      have LK := Lib.hid hlk
      clear hlk HI
      by_cases hy : ∃ y, 5 < 2 * (slotV s (M1.row ad c)).count y
      · have HY := Lib.hid hy
        clear hy
        go_upto_region 4 with (go_at_call 18; refine (Chosen_some LK.out.mat LK.out.inv s hs3 HY).mono ?_; rintro e w1 ⟨k, cl, sq, nm, vl, rfl, hx, hin, hb⟩; have HX := Lib.hid hx; have HIN := Lib.hid hin; have B1 := Lib.hid hb; clear hx hin hb)
        generalize hW : World.alloc _ _ = wA
        have T3 := Lib.hid (show wA.heap[w1.heap.size]? = some (.cells #[.int .i64 k, .int .i64 cl, .int .i64 sq, .int .i64 nm, .int .i64 vl] 30 (0, 0)) by rw [← hW]; exact heapNew _ _)
        have LA := Lib.hid (LK.out.stay hg (show Below wr.heap.size wr wA by rw [← hW]; exact B1.out.alloc B1.out.size _))
        clear hW
        have hgl := LA.out.mat.blk.lt
        have htl := lt_of_heap T3.out
        have hdn : ∀ n : BelW wA, n.out.cell? ⟨g, 34 + s, none⟩ = some (.bool (M1.chosen s).isSome) := fun n => (World.cell?_of_block (w := wA) (n.bel.block g hgl)).trans (LA.out.mat.done s hs3)
        go_upto_region 5 with fail
        cases hch : M1.chosen s with
        | none =>
          rw [hch] at hdn
          have hdn : ∀ n : BelW wA, n.out.cell? ⟨g, 34 + s, none⟩ = some (.bool false) := hdn
          clear hch
          refine wp_region_below (by kernel_rfl) (by kernel_rfl) ?_
          repeat (go_big_quiet_step (fail))
          refine wpQuiet_nil ?_
          rintro wB hwB
          have hbB : Below wA.heap.size wA wB := by obtain ⟨n9, hw9⟩ := hwB; rw [hw9]; exact n9.bel
          clear hwB
          have LB := Lib.hid (LA.out.stay hg hbB)
          have hTB := (hbB.block _ htl).trans T3.out
          clear hbB hdn
          have hne : ¬ (w1.heap.size = g) := by
            have h1 := LK.out.mat.blk.lt
            have h2 := B1.out.size
            omega
          have hne' : ¬ (g = w1.heap.size) := fun e => hne e.symm
          have hf := LB.out.mat.blk.free
          obtain ⟨v0, q0⟩ := LB.out.mat.blk.cell (j := 34 + s) (by omega)
          go_upto_region 8 with fail
          generalize hW : World.setCell _ _ _ = wC
          have hbC : Blk wC g 62 38 := by rw [← hW]; exact LB.out.mat.blk.set [.bool true] (34 + s) wB
          have hTC := (show wC.heap[w1.heap.size]? = wB.heap[w1.heap.size]? by rw [← hW]; exact heapSet_ne _ _ hne).trans hTB
          have HW := Lib.hid (show wB.setCells g (34 + s) [.bool true] = wC from hW)
          clear hW hf q0 hTB
          have hf := hbC.free
          have t0 := cellAt hTC 0 rfl
          have t1 := cellAt hTC 1 rfl
          have t2 := cellAt hTC 2 rfl
          have t3 := cellAt hTC 3 rfl
          have t4 := cellAt hTC 4 rfl
          clear hTC
          obtain ⟨v1, q1⟩ := hbC.cell (j := 19 + s * 5) (by omega)
          obtain ⟨v2, q2⟩ := hbC.cell (j := 19 + s * 5 + 1) (by omega)
          obtain ⟨v3, q3⟩ := hbC.cell (j := 19 + s * 5 + 2) (by omega)
          obtain ⟨v4, q4⟩ := hbC.cell (j := 19 + s * 5 + 3) (by omega)
          obtain ⟨v5, q5⟩ := hbC.cell (j := 19 + s * 5 + 4) (by omega)
          clear hbC
          refine region_quiet_tail 6 (by kernel_rfl) (by kernel_rfl) ?_
          simp only [List.take_succ_cons, List.take_zero, List.drop_succ_cons, List.drop_zero]
          repeat (go_big_quiet_step (fail))
          refine wpQuiet_nil ?_
          intro w9 hw9
          obtain ⟨nq, rfl⟩ := hw9
          go_wp2_with fail
          refine ⟨⟨s + 1, by omega, by go_num, Lib.hid ⟨M1.choose s ⟨k, cl, sq, nm, vl⟩, ?_⟩⟩, by simp [intOf]; omega⟩
          have h1 := (LB.out.choose hg hs3 HIN.out).drewN nq
          rw [HW.out, ← setCells_drewN] at h1
          exact h1
        | some x =>
          rw [hch] at hdn
          have hdn : ∀ n : BelW wA, n.out.cell? ⟨g, 34 + s, none⟩ = some (.bool true) := hdn
          have hcc := LA.out.mat.cho s x hs3 hch
          have hxe := HX.out x hch
          subst hxe
          clear hch
          have hcn : ∀ (n : BelW wA) o, n.out.cell? ⟨g, o, none⟩ = wA.cell? ⟨g, o, none⟩ := fun n o => World.cell?_of_block (w := wA) (n.bel.block g hgl)
          have hct : ∀ (n : BelW wA) o, n.out.cell? ⟨w1.heap.size, o, none⟩ = wA.cell? ⟨w1.heap.size, o, none⟩ := fun n o => World.cell?_of_block (w := wA) (n.bel.block _ htl)
          have c0 : ∀ n : BelW wA, n.out.cell? ⟨g, 19 + s * 5, none⟩ = some (.int .i64 k) := fun n => (hcn n _).trans (hcc 0 (by decide))
          have c1 : ∀ n : BelW wA, n.out.cell? ⟨g, 19 + s * 5 + 1, none⟩ = some (.int .i64 cl) := fun n => (hcn n _).trans (hcc 1 (by decide))
          have c2 : ∀ n : BelW wA, n.out.cell? ⟨g, 19 + s * 5 + 2, none⟩ = some (.int .i64 sq) := fun n => (hcn n _).trans (hcc 2 (by decide))
          have c3 : ∀ n : BelW wA, n.out.cell? ⟨g, 19 + s * 5 + 3, none⟩ = some (.int .i64 nm) := fun n => (hcn n _).trans (hcc 3 (by decide))
          have c4 : ∀ n : BelW wA, n.out.cell? ⟨g, 19 + s * 5 + 4, none⟩ = some (.int .i64 vl) := fun n => (hcn n _).trans (hcc 4 (by decide))
          have t0 : ∀ n : BelW wA, n.out.cell? ⟨w1.heap.size, 0, none⟩ = some (.int .i64 k) := fun n => (hct n _).trans (cellAt T3.out 0 rfl)
          have t1 : ∀ n : BelW wA, n.out.cell? ⟨w1.heap.size, 1, none⟩ = some (.int .i64 cl) := fun n => (hct n _).trans (cellAt T3.out 1 rfl)
          have t2 : ∀ n : BelW wA, n.out.cell? ⟨w1.heap.size, 2, none⟩ = some (.int .i64 sq) := fun n => (hct n _).trans (cellAt T3.out 2 rfl)
          have t3 : ∀ n : BelW wA, n.out.cell? ⟨w1.heap.size, 3, none⟩ = some (.int .i64 nm) := fun n => (hct n _).trans (cellAt T3.out 3 rfl)
          have t4 : ∀ n : BelW wA, n.out.cell? ⟨w1.heap.size, 4, none⟩ = some (.int .i64 vl) := fun n => (hct n _).trans (cellAt T3.out 4 rfl)
          clear hcc hcn hct
          refine wp_region_below (by kernel_rfl) (by kernel_rfl) ?_
          repeat (go_big_quiet_step (fail))
          refine wpQuiet_nil ?_
          rintro wB hwB
          have hbB : Below wA.heap.size wA wB := by obtain ⟨n9, hw9⟩ := hwB; rw [hw9]; exact n9.bel
          clear hwB
          have LB := Lib.hid (LA.out.stay hg hbB)
          have hTB := (hbB.block _ htl).trans T3.out
          clear hbB hdn c0 c1 c2 c3 c4 t0 t1 t2 t3 t4
          have hne : ¬ (w1.heap.size = g) := by
            have h1 := LK.out.mat.blk.lt
            have h2 := B1.out.size
            omega
          have hne' : ¬ (g = w1.heap.size) := fun e => hne e.symm
          have hf := LB.out.mat.blk.free
          obtain ⟨v0, q0⟩ := LB.out.mat.blk.cell (j := 34 + s) (by omega)
          go_upto_region 8 with fail
          generalize hW : World.setCell _ _ _ = wC
          have hbC : Blk wC g 62 38 := by rw [← hW]; exact LB.out.mat.blk.set [.bool true] (34 + s) wB
          have hTC := (show wC.heap[w1.heap.size]? = wB.heap[w1.heap.size]? by rw [← hW]; exact heapSet_ne _ _ hne).trans hTB
          have HW := Lib.hid (show wB.setCells g (34 + s) [.bool true] = wC from hW)
          clear hW hf q0 hTB
          have hf := hbC.free
          have t0 := cellAt hTC 0 rfl
          have t1 := cellAt hTC 1 rfl
          have t2 := cellAt hTC 2 rfl
          have t3 := cellAt hTC 3 rfl
          have t4 := cellAt hTC 4 rfl
          clear hTC
          obtain ⟨v1, q1⟩ := hbC.cell (j := 19 + s * 5) (by omega)
          obtain ⟨v2, q2⟩ := hbC.cell (j := 19 + s * 5 + 1) (by omega)
          obtain ⟨v3, q3⟩ := hbC.cell (j := 19 + s * 5 + 2) (by omega)
          obtain ⟨v4, q4⟩ := hbC.cell (j := 19 + s * 5 + 3) (by omega)
          obtain ⟨v5, q5⟩ := hbC.cell (j := 19 + s * 5 + 4) (by omega)
          clear hbC
          refine region_quiet_tail 6 (by kernel_rfl) (by kernel_rfl) ?_
          simp only [List.take_succ_cons, List.take_zero, List.drop_succ_cons, List.drop_zero]
          repeat (go_big_quiet_step (fail))
          refine wpQuiet_nil ?_
          intro w9 hw9
          obtain ⟨nq, rfl⟩ := hw9
          go_wp2_with fail
          refine ⟨⟨s + 1, by omega, by go_num, Lib.hid ⟨M1.choose s ⟨k, cl, sq, nm, vl⟩, ?_⟩⟩, by simp [intOf]; omega⟩
          have h1 := (LB.out.choose hg hs3 HIN.out).drewN nq
          rw [HW.out, ← setCells_drewN] at h1
          exact h1
      · have HY := Lib.hid hy
        clear hy
        go_wp2_with (go_at_call 18; refine (Chosen_none LK.out.mat LK.out.inv s hs3 HY).mono ?_; rintro e w1 ⟨rfl, hb⟩; have B1 := Lib.hid hb; clear hb)
        exact ⟨⟨s + 1, by omega, by go_num, Lib.hid ⟨M1, LK.out.stay hg (B1.out.alloc B1.out.size _)⟩⟩, by simp [intOf]; omega⟩
    · have hq6 : s = 3 := by omega
      subst hq6
      go_wp2_with fail
      exact bodyPost_end (v := .tuple #[]) (by simp [results, Try.results30, go_sem]) rfl ⟨rfl, HI.out⟩
end Go.Proofs.Ytdkbajdnckmckaa

set_option linter.unusedVariables false
set_option linter.unusedSimpArgs false
namespace Go.Proofs.Ytdkbajdnckmckaa
open Go.RowKit Go.Con
/-- the match at play -/
def PlS (base : Nat) (w wr : World) (g R : Nat) : Prop := ∃ M nd S ad c pb, MatW wr g M ad c pb ∧ MInv M nd S ∧ M.rounds ≤ R ∧ (∀ k B, k < 3 → M.bid k = some B → base ≤ pb k) ∧ Below base w wr
theorem LkInv.pls {base : Nat} {w w1 wr : World} {g R : Nat} {M0 M : Mat} {ad : Nat → Option Addr} {c pb : Nat → Nat} {nd : Nat → Int} {S : Nat → PxS Cmd} (h : LkInv base w1 wr g M0 M ad c pb nd S) (hb : Below base w w1) (hR : M0.rounds ≤ R) (hp : ∀ k B, k < 3 → M0.bid k = some B → base ≤ pb k) : PlS base w wr g R :=
  ⟨M, nd, S, ad, c, pb, h.mat, h.inv, by rw [h.rounds]; exact hR, by rw [h.bid]; exact hp, hb.trans h.below⟩
theorem keep18 {w : World} {g k : Nat} {v x : Value} {C : Obj} (hne : ¬ (15 + k = 18)) (h : w.cell? ⟨g, 18, none⟩ = some x) (hg : g < w.heap.size) : ((w.setCell ⟨g, 15 + k, none⟩ v).alloc C).drew.cell? ⟨g, 18, none⟩ = some x := by
  have h1 : ((w.setCell ⟨g, 15 + k, none⟩ v).alloc C).cell? ⟨g, 18, none⟩ = (w.setCell ⟨g, 15 + k, none⟩ v).cell? ⟨g, 18, none⟩ := World.cell?_of_block (w := w.setCell ⟨g, 15 + k, none⟩ v) (heapOld _ _ _ (by simpa [World.setCell] using hg))
  show ((w.setCell ⟨g, 15 + k, none⟩ v).alloc C).cell? ⟨g, 18, none⟩ = some x
  rw [h1, World.cell?_setCell_other _ _ _ _ (by intro e; injection e with e1 e2; exact hne e2)]
  exact h
/-- the cells of a new bidder -/
def newBid (r n : Int) : Array Value := #[.int .i64 r, .int .i64 n, .slice none 0 0, .slice none 0 0, .slice none 0 0, .slice none 0 0, .slice none 0 0, .bool false, .bool false, .bool false, .bool false, .bool false, .bool false, .bool false, .bool false, .int .i64 0, .int .i64 0, .int .i64 0, .int .i64 0, .int .i64 0, .int .i64 0, .int .i64 0, .int .i64 0, .int .i64 0, .int .i64 0, .int .i64 0, .int .i64 0, .int .i64 0, .int .i64 0, .int .i64 0]
theorem newBid_ok {w : World} {b : Nat} {r n : Int} (h : w.heap[b]? = some (.cells (newBid r n) 77 (0, 0))) : BidW w b (Bid.new (r, n)) := by
  refine ⟨⟨_, h, rfl⟩, cellAt h 0 rfl, cellAt h 1 rfl, fun a ha => ?_, fun a l ha hl => (by cases hl), fun s hs => ?_, fun s c hs hc => (by cases hc)⟩
  · have h5 : a = 0 ∨ a = 1 ∨ a = 2 ∨ a = 3 ∨ a = 4 := by omega
    rcases h5 with rfl | rfl | rfl | rfl | rfl <;> exact cellAt h _ rfl
  · have h5 : s = 0 ∨ s = 1 ∨ s = 2 := by omega
    rcases h5 with rfl | rfl | rfl <;> exact cellAt h _ rfl
theorem begin_mat {base : Nat} {w wA : World} {g : Nat} {M : Mat} {ad : Nat → Option Addr} {c pb : Nat → Nat} {k n : Nat} (h : MatW wA g M ad c pb) (hk : k < 3) (hB : Below base w wA) (hg : base ≤ g) (hs : base ≤ wA.heap.size) {wB wC : World} (hb : wA.setCells g 18 [.int .i64 ((M.rounds : Int) + 1)] = wB)
    (hc : ((wB.setCell ⟨g, 15 + k, none⟩ (.pointer (some ⟨wB.heap.size, 0, none⟩))).alloc (.cells (newBid ((M.rounds : Int) + 1) n) 77)).drew = wC) :
    MatW wC g (M.begin n k) ad c (put1 pb k wB.heap.size) ∧ Below base w wC ∧ base ≤ wB.heap.size := by
  have hgl := h.blk.lt
  have hsz : wB.heap.size = wA.heap.size := by rw [← hb]; exact setCells_size _ _ _ _
  obtain ⟨wD, hd⟩ : ∃ wD, wD = wB.setCells g (15 + k) [.pointer (some ⟨wB.heap.size, 0, none⟩)] := ⟨_, rfl⟩
  have hc : (wD.alloc (.cells (newBid ((M.rounds : Int) + 1) n) 77)).drew = wC := by rw [hd]; exact hc
  have hsd : wD.heap.size = wB.heap.size := by rw [hd]; exact setCells_size _ _ _ _
  have hold : ∀ q, q < wD.heap.size → wC.heap[q]? = wD.heap[q]? := fun q hq => by rw [← hc]; exact heapOld _ _ _ hq
  have hbB : Blk wB g 62 38 := by rw [← hb]; exact h.blk.set _ _ _
  have hbD : Blk wD g 62 38 := by rw [hd]; exact hbB.set _ _ _
  have hcg : ∀ o, wC.cell? ⟨g, o, none⟩ = wD.cell? ⟨g, o, none⟩ := fun o => World.cell?_of_block (w := wD) (hold g (by omega))
  have hnew : wC.heap[wB.heap.size]? = some (.cells (newBid ((M.rounds : Int) + 1) n) 77 (0, 0)) := by rw [← hc, ← hsd]; exact heapNew _ _
  have hbd := newBid_ok hnew
  refine ⟨h.setBegin hk n (b := wB.heap.size) (by rw [Int.natCast_add]; exact hbd) (by omega) (hbD.stay (hold g (by omega))) (fun q hq hqg => ?_) (fun j h1 h2 => ?_) ?_ ?_, ?_, by omega⟩
  · rw [hold q (by omega), hd, setCells_heap_ne hqg, ← hb, setCells_heap_ne hqg]
  · rw [hcg, hd, setCells_out (.inr (by simp; omega)), ← hb, setCells_out (.inr (by simp; omega))]
  · rw [hcg, hd, setCells_out (.inr (by simp; omega)), ← hb]
    exact h.blk.in (o := 18) (vs := [.int .i64 ((M.rounds : Int) + 1)]) (by simp) 0 (by simp) rfl
  · rw [hcg, hd]
    exact hbB.in (o := 15 + k) (vs := [.pointer (some ⟨wB.heap.size, 0, none⟩)]) (by simp; omega) 0 (by simp) rfl
  · rw [← hc, hd, ← hb]
    exact ((Below.setCellsM hg _ _ (Below.setCellsM hg _ _ hB)).alloc (by rw [setCells_size, setCells_size]; exact hs) _).drew
theorem Bid.newR (M : Mat) (k : Nat) (n : Int) {P : Nat → Nat} {base b : Nat} (hb : base ≤ b) (hp : ∀ j B, j < 3 → M.bid j = some B → base ≤ P j) : ∀ j B, j < 3 → (M.begin n k).bid j = some B → base ≤ put1 P k b j := fun j B hj hB => by
  have hB : put1 M.bid k (some (Bid.new (((M.rounds + 1 : Nat) : Int), n))) j = some B := hB
  by_cases e : j = k
  · rw [e, put1_same]; exact hb
  · rw [put1_ne _ _ e] at hB
    rw [put1_ne _ _ e]; exact hp j B hj hB
set_option maxRecDepth 100000 in
set_option maxHeartbeats 4000000 in
theorem play_begin (base : Nat) {w : World} {g : Nat} {M : Mat} {ad : Nat → Option Addr} {c pb : Nat → Nat} {nd : Nat → Int} {S : Nat → PxS Cmd} (h : MatW w g M ad c pb) (hi : MInv M nd S) (hg : base ≤ g) (hR : M.rounds ≤ 1000) (hpb : ∀ k B, k < 3 → M.bid k = some B → base ≤ pb k)
    (pk pn pp ps pv : Int) (hw : WishOk ⟨pk, pn, pp, ps, pv⟩) (n k : Nat) (hn : Hid (pick pn 5 = n)) (hk : Hid (pick pp 3 = k)) (hc : pick pk 12 = 0 ∨ M.bid k = none) :
    Calls Try.prog 19 #[.pointer (some ⟨g, 0, none⟩), .agg #[.int .i64 pk, .int .i64 pn, .int .i64 pp, .int .i64 ps, .int .i64 pv]] w fun e w' => e = .returned (.tuple #[]) ∧ PlS base w w' g (M.rounds + 1) := by
  obtain ⟨⟨k1, k2⟩, ⟨n1, n2⟩, ⟨p1, p2⟩, ⟨s1, s2⟩, ⟨v1, v2⟩⟩ := hw
  dsimp only at k1 k2 n1 n2 p1 p2 s1 s2 v1 v2
  have hn5 : n < 5 := by have h1 := pick_lt pn 5 (by omega); rw [hn.out] at h1; omega
  have hk3 : k < 3 := by have h1 := pick_lt pp 3 (by omega); rw [hk.out] at h1; omega
  obtain ⟨kd, hkd⟩ : ∃ x, x = pick pk 12 := ⟨_, rfl⟩
  have HKD := Lib.hid hkd.symm
  rw [← hkd] at hc
  have hkd0 : 0 ≤ kd := by rw [hkd]; exact pick_nonneg pk 12 (by omega)
  clear hkd
  have HM := Lib.hid h
  have HI := Lib.hid hi
  have HPB := Lib.hid hpb
  have hgl := h.blk.lt
  clear h hi hpb
  go_enter Try.func19, Try.ntmps19
  go_upto_region 1 with fail
  generalize hW : World.alloc _ _ = wA
  have T3 := Lib.hid (show wA.heap[w.heap.size]? = some (.cells #[.int .i64 pk, .int .i64 pn, .int .i64 pp, .int .i64 ps, .int .i64 pv] 26 (0, 0)) by rw [← hW]; exact heapNew _ _)
  have BA := Lib.hid (show Below w.heap.size w wA by rw [← hW]; exact (Below.refl _ _).alloc (Nat.le_refl _) _)
  clear hW
  have x0 := cellAt T3.out 0 rfl
  have x1 := cellAt T3.out 1 rfl
  have x2 := cellAt T3.out 2 rfl
  have MA := Lib.hid (HM.out.stay BA.out)
  have hrd := MA.out.rnd
  have hf := MA.out.blk.free
  have hne : ¬ (g = w.heap.size) := by omega
  have hne' : ¬ (w.heap.size = g) := by omega
  have hw1 : IntKind.i64.wrap ((M.rounds : Int) + 1) = (M.rounds : Int) + 1 := IntWalk.i64_in _ (by omega)
  obtain ⟨P, hpt, hcs⟩ : ∃ P, wA.cell? ⟨g, 15 + k, none⟩ = some P ∧ ((kd = 0) ∨ ((kd == 0) = false ∧ P = .pointer none)) := by
    refine ⟨_, MA.out.ptr k hk3, ?_⟩
    rcases hc with h | h
    · exact .inl h
    · rw [h]
      by_cases h0 : kd = 0
      · exact .inl h0
      · exact .inr ⟨by rw [beq_eq_false_iff_ne]; exact h0, rfl⟩
  clear hc
  go_upto_region 17 with (go_at_call 10; refine (picked_toP _ _ _ _ (by assumption) (by assumption) (by decide) (by assumption)).mono ?_; rintro e _ ⟨rfl, rfl⟩)
  rcases hcs with rfl | ⟨hkp, rfl⟩
  all_goals
    go_upto_region 18 with (go_at_call 10; refine (picked_toP _ _ _ _ (by assumption) (by assumption) (by decide) (by assumption)).mono ?_; rintro e _ ⟨rfl, rfl⟩)
    go_upto_region 19 with fail
    generalize hW : World.setCell _ _ _ = wB
    have HWB := Lib.hid (show wA.setCells g 18 [.int .i64 ((M.rounds : Int) + 1)] = wB from hW)
    have hbB : Blk wB g 62 38 := by rw [← hW]; exact MA.out.blk.set [.int .i64 ((M.rounds : Int) + 1)] 18 wA
    have hrB : wB.cell? ⟨g, 18, none⟩ = some (.int .i64 ((M.rounds : Int) + 1)) := by rw [← HWB.out]; exact MA.out.blk.in (o := 18) (vs := [.int .i64 ((M.rounds : Int) + 1)]) (by simp) 0 (by simp) rfl
    clear hW x0 x1 x2 hpt hrd hf
    have hf := hbB.free
    obtain ⟨u0, q0⟩ := hbB.cell (j := 15 + k) (by omega)
    have HBB := Lib.hid hbB
    have HRB := Lib.hid hrB
    have hgB := hbB.lt
    clear hbB
    have hne2 : ¬ (g = wB.heap.size) := by omega
    have hne3 : ¬ (wB.heap.size = g) := by omega
    have hn18 : ¬ (15 + k = 18) := by omega
    have hn18' : ¬ (18 = 15 + k) := by omega
    have hk4 : (k : Int) < 3 := by omega
    have hk5 : (0 : Int) ≤ k := by omega
    refine' cutTo (fun key => _) _
    rotate_left 1
    · skip
      go_region_held3 (fun w' => w'.cell? ⟨g, 18, none⟩ = some (.int .i64 ((M.rounds : Int) + 1))) (first | exact keep18 (by omega) HRB.out hgB | go_keep) (fail)
      all_goals exact key.out
    · skip
      generalize hW : World.drew _ = wC
      have HBM := Lib.hid (begin_mat (base := base) (n := n) MA.out hk3 (BA.out.mono (show base ≤ w.heap.size by omega)) hg (by have := BA.out.size; omega) HWB.out hW)
      have HNV := Lib.hid (HI.out.begin (n : Int) (by omega) (by omega) k hk3)
      clear hW
      go_wp2_with (go_at_call 30; refine (look_any base HBM.out.1 HNV.out hg).mono ?_; rintro e w5 ⟨rfl, hlk⟩; have FIN : Hid (PlS base w w5 g (M.rounds + 1)) := Lib.hid (by obtain ⟨M', hl⟩ := hlk; exact hl.pls HBM.out.2.1 (Nat.le_refl _) (Bid.newR M k n HBM.out.2.2 HPB.out)); clear hlk)
      exact bodyPost_end (v := .tuple #[]) (by simp [results, Try.results19, go_sem]) rfl ⟨rfl, FIN.out⟩
end Go.Proofs.Ytdkbajdnckmckaa

set_option linter.unusedVariables false
set_option linter.unusedSimpArgs false
namespace Go.Proofs.Ytdkbajdnckmckaa
open Go.RowKit Go.Con
theorem MatW.drewN {w : World} {g : Nat} {M : Mat} {ad : Nat → Option Addr} {c pb : Nat → Nat} (h : MatW w g M ad c pb) (n : Nat) : MatW (w.drewN n) g M ad c pb := h.heap (fun _ _ => rfl)
theorem PlS.same {base : Nat} {w wr : World} {g R : Nat} {M : Mat} {ad : Nat → Option Addr} {c pb : Nat → Nat} {nd : Nat → Int} {S : Nat → PxS Cmd} (h : MatW wr g M ad c pb) (hi : MInv M nd S) (hR : M.rounds ≤ R) (hp : ∀ k B, k < 3 → M.bid k = some B → base ≤ pb k) (hb : Below base w wr) : PlS base w wr g R :=
  ⟨M, nd, S, ad, c, pb, h, hi, hR, hp, hb⟩
theorem Bid.keepR (M : Mat) {k : Nat} {B B' : Bid} (hB : M.bid k = some B) (hk : k < 3) {P : Nat → Nat} {base : Nat} (hp : ∀ j B, j < 3 → M.bid j = some B → base ≤ P j) : ∀ j C, j < 3 → put1 M.bid k (some B') j = some C → base ≤ P j := fun j C hj hC => by
  by_cases e : j = k
  · rw [e]; exact hp k B hk hB
  · rw [put1_ne _ _ e] at hC
    exact hp j C hj hC
/-- the facts of a round, for a bidder that is there -/
structure Ply0 (wA : World) (g b n : Nat) (pr pn br bn : Int) (na : Option Addr) (m nc : Nat) : Prop where
  y0 : wA.cell? ⟨g, n * 3, none⟩ = some (.int .i64 pr)
  y1 : wA.cell? ⟨g, n * 3 + 1, none⟩ = some (.int .i64 pn)
  y2 : wA.cell? ⟨g, n * 3 + 2, none⟩ = some (.slice na m nc)
  z0 : wA.cell? ⟨b, 0, none⟩ = some (.int .i64 br)
  z1 : wA.cell? ⟨b, 1, none⟩ = some (.int .i64 bn)
theorem MatW.ply {w : World} {g : Nat} {M : Mat} {ad : Nat → Option Addr} {c pb : Nat → Nat} (h : MatW w g M ad c pb) {n k : Nat} (hn : n < 5) (hk : k < 3) {pr pn br bn : Int} {L : List Vot} {bt : Nat → Option (List Vot)} {bw : Nat → Option Cmd} (hX : M.node n = ⟨(pr, pn), L⟩) (hB : M.bid k = some ⟨(br, bn), bt, bw⟩) :
    Ply0 w g (pb k) n pr pn br bn (ad n) L.length (c n) := by
  have h0 := h.n0 n hn
  have h1 := h.n1 n hn
  have h2 := h.n2 n hn
  rw [hX] at h0 h1 h2
  have hb := h.bid k _ hk hB
  exact ⟨h0, h1, h2, hb.b0, hb.b1⟩
theorem Ply0.stay {wA w' : World} {g b n : Nat} {pr pn br bn : Int} {na : Option Addr} {m nc : Nat} (h : Ply0 wA g b n pr pn br bn na m nc) (hb : Below wA.heap.size wA w') (hg : g < wA.heap.size) (hbb : b < wA.heap.size) : Ply0 w' g b n pr pn br bn na m nc := by
  have e1 : ∀ o, w'.cell? ⟨g, o, none⟩ = wA.cell? ⟨g, o, none⟩ := fun o => World.cell?_of_block (w := wA) (hb.block g hg)
  have e2 : ∀ o, w'.cell? ⟨b, o, none⟩ = wA.cell? ⟨b, o, none⟩ := fun o => World.cell?_of_block (w := wA) (hb.block b hbb)
  exact ⟨(e1 _).trans h.y0, (e1 _).trans h.y1, (e1 _).trans h.y2, (e2 _).trans h.z0, (e2 _).trans h.z1⟩
theorem Ply0.cells {w' : World} {g b n : Nat} {pr pn br bn : Int} {na : Option Addr} {m nc : Nat} (h : Ply0 w' g b n pr pn br bn na m nc) : w'.cell? ⟨g, n * 3, none⟩ = some (.int .i64 pr) ∧ w'.cell? ⟨g, n * 3 + 1, none⟩ = some (.int .i64 pn) ∧ w'.cell? ⟨g, n * 3 + 2, none⟩ = some (.slice na m nc) ∧ w'.cell? ⟨b, 0, none⟩ = some (.int .i64 br) ∧ w'.cell? ⟨b, 1, none⟩ = some (.int .i64 bn) := ⟨h.y0, h.y1, h.y2, h.z0, h.z1⟩
theorem typ_acc : (39 : TypeId) ≠ 32 := by decide
theorem typ_acc2 : (39 : TypeId) ≠ 62 ∧ (39 : TypeId) ≠ 77 := by decide
theorem MInv.len {M : Mat} {nd : Nat → Int} {S : Nat → PxS Cmd} (h : MInv M nd S) {n : Nat} (hn : n < 5) : (M.node n).l.length ≤ 1000 :=
  okA_len (p := (M.node n).p) (l := (M.node n).l) (h.fit n hn)
theorem MInv.okb {M : Mat} {nd : Nat → Int} {S : Nat → PxS Cmd} (h : MInv M nd S) (hR : M.rounds ≤ 1000) {k : Nat} {B : Bid} (hk : k < 3) (hB : M.bid k = some B) : okB B.bal = true := by
  obtain ⟨r, r1, r2, hb⟩ := h.bid k B hk hB
  rw [hb.bal]
  exact okB_bl (h.ndr r) r1 r2 (by omega)
set_option maxRecDepth 100000 in
set_option maxHeartbeats 4000000 in
theorem play_promise (base : Nat) {w : World} {g : Nat} {M : Mat} {ad : Nat → Option Addr} {c pb : Nat → Nat} {nd : Nat → Int} {S : Nat → PxS Cmd} (h : MatW w g M ad c pb) (hi : MInv M nd S) (hg : base ≤ g) (hR : M.rounds ≤ 1000) (hpb : ∀ k B, k < 3 → M.bid k = some B → base ≤ pb k)
    (pk pn pp ps pv : Int) (hw : WishOk ⟨pk, pn, pp, ps, pv⟩) (n k : Nat) (hn : Hid (pick pn 5 = n)) (hk : Hid (pick pp 3 = k)) (hc0 : pick pk 12 ≠ 0) (hc6 : pick pk 12 < 6) {B : Bid} (hB : M.bid k = some B) :
    Calls Try.prog 19 #[.pointer (some ⟨g, 0, none⟩), .agg #[.int .i64 pk, .int .i64 pn, .int .i64 pp, .int .i64 ps, .int .i64 pv]] w fun e w' => e = .returned (.tuple #[]) ∧ PlS base w w' g (M.rounds + 1) := by
  obtain ⟨⟨k1, k2⟩, ⟨n1, n2⟩, ⟨p1, p2⟩, ⟨s1, s2⟩, ⟨v1, v2⟩⟩ := hw
  dsimp only at k1 k2 n1 n2 p1 p2 s1 s2 v1 v2
  have hn5 : n < 5 := by have h1 := pick_lt pn 5 (by omega); rw [hn.out] at h1; omega
  have hk3 : k < 3 := by have h1 := pick_lt pp 3 (by omega); rw [hk.out] at h1; omega
  obtain ⟨kd, hkd⟩ : ∃ x, x = pick pk 12 := ⟨_, rfl⟩
  have HKD := Lib.hid hkd.symm
  rw [← hkd] at hc0 hc6
  have hkd0 : 0 ≤ kd := by rw [hkd]; exact pick_nonneg pk 12 (by omega)
  clear hkd
  have HPB := Lib.hid hpb
  have HIN := Lib.hid hi
  have hgl := h.blk.lt
  have hpn := h.ne hk3 hB
  have hbl := (h.bid k B hk3 hB).blk.lt
  have OKB := MInv.okb hi hR hk3 hB
  have OKA := hi.fit n hn5
  have LEN := MInv.len hi hn5
  have HM := Lib.hid h
  have HB := Lib.hid hB
  obtain ⟨⟨br, bn⟩, bt, bw⟩ := B
  obtain ⟨⟨⟨pr, pm⟩, L⟩, hX⟩ : ∃ x, M.node n = x := ⟨_, rfl⟩
  have HX := Lib.hid hX
  have OWN := h.own n hn5
  rw [hX] at OKA LEN OWN
  dsimp only at OKB LEN OWN
  have OKA : okA (pr, pm) L = true := OKA
  have HOKB := Lib.hid OKB
  have HOKA := Lib.hid OKA
  have HLEN := Lib.hid LEN
  have HPL := Lib.hid (h.ply hn5 hk3 hX hB)
  obtain ⟨b, hb⟩ : ∃ b, b = pb k := ⟨_, rfl⟩
  rw [← hb] at HPL hpn hbl
  obtain ⟨na, hna⟩ : ∃ x, x = ad n := ⟨_, rfl⟩
  obtain ⟨nc, hnc⟩ : ∃ x, x = c n := ⟨_, rfl⟩
  obtain ⟨m, hm⟩ : ∃ x, x = L.length := ⟨_, rfl⟩
  rw [← hna, ← hnc, ← hm] at HPL OWN
  have HML := Lib.hid hm
  have HVT := Lib.hid OWN.votes
  have HBK := Lib.hid hb
  clear h hi hpb hX hB OKB OKA LEN OWN hna hnc hb hm
  go_enter Try.func19, Try.ntmps19
  go_upto_region 1 with fail
  generalize hW : World.alloc _ _ = wA
  have T3 := Lib.hid (show wA.heap[w.heap.size]? = some (.cells #[.int .i64 pk, .int .i64 pn, .int .i64 pp, .int .i64 ps, .int .i64 pv] 26 (0, 0)) by rw [← hW]; exact heapNew _ _)
  have BA := Lib.hid (show Below w.heap.size w wA by rw [← hW]; exact (Below.refl _ _).alloc (Nat.le_refl _) _)
  clear hW
  have x0 := cellAt T3.out 0 rfl
  have x1 := cellAt T3.out 1 rfl
  have x2 := cellAt T3.out 2 rfl
  have MA := Lib.hid (HM.out.stay BA.out)
  have hpt : wA.cell? ⟨g, 15 + k, none⟩ = some (.pointer (some ⟨b, 0, none⟩)) := by
    have h1 := MA.out.ptr k hk3
    rw [HB.out, ← HBK.out] at h1
    exact h1
  have e0 : (kd == 0) = false := by rw [beq_eq_false_iff_ne]; exact hc0
  have e6 : decide (kd < 6) = true := by rw [decide_eq_true_eq]; exact hc6
  go_upto_region 21 with (go_at_call 10; refine (picked_toP _ _ _ _ (by assumption) (by assumption) (by decide) (by assumption)).mono ?_; rintro e _ ⟨rfl, rfl⟩)
  have HPA := Lib.hid (show Ply0 wA g b n pr pm br bn na m nc from HPL.out.stay BA.out hgl hbl)
  have y0 := HPA.out.y0
  have y1 := HPA.out.y1
  have y2 := HPA.out.y2
  have z0 := HPA.out.z0
  have z1 := HPA.out.z1
  have hsA := BA.out.size
  have hglA : g < wA.heap.size := by omega
  have hblA : b < wA.heap.size := by omega
  have hnA : ¬ (wA.heap.size = g) := by omega
  have hnA' : ¬ (g = wA.heap.size) := by omega
  have hnB : ¬ (wA.heap.size = b) := by omega
  have hnB' : ¬ (b = wA.heap.size) := by omega
  have hn50 : (0 : Int) ≤ n := by omega
  have hn51 : (n : Int) < 5 := by omega
  have VT := Lib.hid (HVT.out.stay BA.out)
  clear x0 x1 x2 hpt e0 e6 T3
  by_cases hlow : cmpB (br, bn) (pr, pm) < 0
  · have LOW := Lib.hid hlow
    clear hlow
    have HC : Hid (∀ W, Below wA.heap.size wA W → Calls Try.prog 14 #[.agg #[.int .i64 pr, .int .i64 pm, .slice na m nc], .agg #[.int .i64 br, .int .i64 bn]] W fun e w' => e = .returned (.tuple #[.agg #[.int .i64 0, .int .i64 0, .slice none 0 0], .slice none 0 0, .int .i64 7]) ∧ Below W.heap.size W w') := Lib.hid fun W hW => Promise_low pr pm br bn _ L W (VT.out.stay hW) HOKA.out HOKB.out HLEN.out LOW
    refine' cutTo (fun key => _) _
    rotate_left 1
    · skip
      go_region_held3 (fun w' => w'.cell? ⟨g, n * 3, none⟩ = some (.int .i64 pr) ∧ w'.cell? ⟨g, n * 3 + 1, none⟩ = some (.int .i64 pm) ∧ w'.cell? ⟨g, n * 3 + 2, none⟩ = some (.slice na m nc) ∧ w'.cell? ⟨b, 0, none⟩ = some (.int .i64 br) ∧ w'.cell? ⟨b, 1, none⟩ = some (.int .i64 bn)) (first | exact SS | go_keep)
        (first | (go_at_call 14; refine (HC.out _ (by first | exact (Below.refl _ _).drew | exact ((Below.refl _ _).alloc (Nat.le_refl _) _).drew)).mono ?_; rintro e w3 ⟨rfl, hb3⟩; have B3 := Lib.hid (show Below wA.heap.size wA w3 by first | exact (Below.refl wA.heap.size wA).drew.trans hb3 | exact ((Below.refl wA.heap.size wA).alloc (Nat.le_refl _) _).drew.trans (hb3.mono (by simp))); (first | (have nz : w3.heap[wA.heap.size]? = some (.cells #[.int .i64 0, .int .i64 0, .slice none 0 0] 39 (0, 0)) := (hb3.block wA.heap.size (by simp)).trans (heapNew wA _); have NZ := Lib.hid nz; have n0 := cellAt nz 0 rfl; have n1 := cellAt nz 1 rfl; have n2 := cellAt nz 2 rfl; have nf := freeAt nz; clear nz) | skip); have SS := (HPA.out.stay B3.out hglA hblA).cells; clear hb3))
      all_goals
        first
        | (have hnz := NZ
           generalize hW : World.setCell _ _ _ = w7
           have hb7 : Below wA.heap.size wA w7 := by rw [← hW]; exact ((B3.out.setCell (Nat.le_refl _) _).setCell (Nat.le_refl _) _).setCell (Nat.le_refl _) _
           obtain ⟨tb, htb⟩ : ∃ t, t = wA.heap.size := ⟨_, rfl⟩
           rw [← htb]
           clear hW htb
           revert hb7
           revert w7 tb
           exact key.out)
        | (generalize hW : World.alloc _ _ = w7
           have hb7 : Below wA.heap.size wA w7 := by rw [← hW]; exact B3.out.alloc B3.out.size _
           obtain ⟨tb, htb⟩ : ∃ t, t = w3.heap.size := ⟨_, rfl⟩
           rw [← htb]
           clear hW htb
           revert hb7
           revert w7 tb
           exact key.out)
    · intro w7 tb hb7
      have FIN := Lib.hid (PlS.same (base := base) (w := w) (R := M.rounds + 1) (MA.out.stay hb7) HIN.out (Nat.le_succ _) HPB.out ((BA.out.mono (by omega)).trans (hb7.mono (by omega))))
      clear hb7
      go_wp2_with fail
      exact bodyPost_ret (v := .tuple #[]) (by simp [results, Try.results19, go_sem]) rfl ⟨rfl, FIN.out⟩
  · have LOW := Lib.hid (Int.not_lt.1 hlow)
    clear hlow
    have HC : Hid (∀ W, Below wA.heap.size wA W → Calls Try.prog 14 #[.agg #[.int .i64 pr, .int .i64 pm, .slice na m nc], .agg #[.int .i64 br, .int .i64 bn]] W fun e w' => ∃ a1 c1 a2 c2, e = .returned (.tuple #[.agg #[.int .i64 br, .int .i64 bn, .slice a1 m c1], .slice a2 m c2, .int .i64 0]) ∧ OwnV w' W.heap.size (.slice a1 m c1) L ∧ OwnV w' W.heap.size (.slice a2 m c2) L ∧ Below W.heap.size W w') := Lib.hid fun W hW => by
      have h1 := Promise_high pr pm br bn _ L W (VT.out.stay hW) HOKA.out HOKB.out HLEN.out LOW
      rw [← HML.out] at h1
      exact h1
    refine' cutTo (fun key => _) _
    rotate_left 1
    · skip
      go_region_held3 (fun w' => w'.cell? ⟨g, n * 3, none⟩ = some (.int .i64 pr) ∧ w'.cell? ⟨g, n * 3 + 1, none⟩ = some (.int .i64 pm) ∧ w'.cell? ⟨g, n * 3 + 2, none⟩ = some (.slice na m nc) ∧ w'.cell? ⟨b, 0, none⟩ = some (.int .i64 br) ∧ w'.cell? ⟨b, 1, none⟩ = some (.int .i64 bn)) (first | exact SS | go_keep)
        (first | (go_at_call 14; refine (HC.out _ (by first | exact (Below.refl _ _).drew | exact ((Below.refl _ _).alloc (Nat.le_refl _) _).drew)).mono ?_; rintro e w3 ⟨a1, c1, a2, c2, rfl, ho1, ho2, hb3⟩; have O1 := Lib.hid (row_mono (base' := 0) ho1 (Nat.zero_le _)); have O2 := Lib.hid (row_mono (base' := 0) ho2 (Nat.zero_le _)); have B3 := Lib.hid (show Below wA.heap.size wA w3 by first | exact (Below.refl wA.heap.size wA).drew.trans hb3 | exact ((Below.refl wA.heap.size wA).alloc (Nat.le_refl _) _).drew.trans (hb3.mono (by simp))); (first | (have nz : w3.heap[wA.heap.size]? = some (.cells #[.int .i64 0, .int .i64 0, .slice none 0 0] 39 (0, 0)) := (hb3.block wA.heap.size (by simp)).trans (heapNew wA _); have NZ := Lib.hid nz; have n0 := cellAt nz 0 rfl; have n1 := cellAt nz 1 rfl; have n2 := cellAt nz 2 rfl; have nf := freeAt nz; clear nz) | skip); have SS := (HPA.out.stay B3.out hglA hblA).cells; clear hb3 ho1 ho2))
      · skip
        have o1 := ownV_move (base' := 0) (w' := w3.alloc (.cells #[.int .i64 br, .int .i64 bn, .slice a1 m c1] 39)) O1.out (Nat.le_refl _) (fun q _ hq => heapOld _ _ _ hq)
        have o2 := ownV_move (base' := 0) (w' := w3.alloc (.cells #[.int .i64 br, .int .i64 bn, .slice a1 m c1] 39)) O2.out (Nat.le_refl _) (fun q _ hq => heapOld _ _ _ hq)
        have T7 := heapNew w3 (.cells #[.int .i64 br, .int .i64 bn, .slice a1 m c1] 39)
        have hb7 := B3.out.alloc B3.out.size (.cells #[.int .i64 br, .int .i64 bn, .slice a1 m c1] 39)
        generalize w3.alloc (.cells #[.int .i64 br, .int .i64 bn, .slice a1 m c1] 39) = w7 at T7 o1 o2 hb7 ⊢
        generalize w3.heap.size = tb at T7 ⊢
        clear O1 O2
        try clear SS
        try (rename_i hS; clear hS)
        have HH := And.intro o1 (And.intro o2 (And.intro hb7 T7))
        clear o1 o2 hb7 T7
        revert HH
        revert w7 tb a1 c1 a2 c2
        exact key.out
      · skip
        have hnz := NZ
        have T7 : (((w3.setCell ⟨wA.heap.size, 0, none⟩ (.int .i64 br)).setCell ⟨wA.heap.size, 1, none⟩ (.int .i64 bn)).setCell ⟨wA.heap.size, 2, none⟩ (.slice a1 m c1)).heap[wA.heap.size]? = some (.cells #[.int .i64 br, .int .i64 bn, .slice a1 m c1] 39 (0, 0)) := heapSet (o := 2) (heapSet (o := 1) (heapSet (o := 0) NZ.out _) _) _
        have o1 := OwnV.setCells (show OwnV w3 0 (.slice a1 m c1) L from O1.out) (t := 39) ⟨_, NZ.out, rfl⟩ typ_acc 0 [.int .i64 br, .int .i64 bn, .slice a1 m c1]
        have o2 := OwnV.setCells (show OwnV w3 0 (.slice a2 m c2) L from O2.out) (t := 39) ⟨_, NZ.out, rfl⟩ typ_acc 0 [.int .i64 br, .int .i64 bn, .slice a1 m c1]
        have hb7 := ((B3.out.setCell (p := ⟨wA.heap.size, 0, none⟩) (Nat.le_refl _) (.int .i64 br)).setCell (p := ⟨wA.heap.size, 1, none⟩) (Nat.le_refl _) (.int .i64 bn)).setCell (p := ⟨wA.heap.size, 2, none⟩) (Nat.le_refl _) (.slice a1 m c1)
        obtain ⟨w7, hW⟩ : ∃ w7, w7 = ((w3.setCell ⟨wA.heap.size, 0, none⟩ (.int .i64 br)).setCell ⟨wA.heap.size, 1, none⟩ (.int .i64 bn)).setCell ⟨wA.heap.size, 2, none⟩ (.slice a1 m c1) := ⟨_, rfl⟩
        change OwnV (((w3.setCell ⟨wA.heap.size, 0, none⟩ (.int .i64 br)).setCell ⟨wA.heap.size, 1, none⟩ (.int .i64 bn)).setCell ⟨wA.heap.size, 2, none⟩ (.slice a1 m c1)) 0 _ _ at o1
        change OwnV (((w3.setCell ⟨wA.heap.size, 0, none⟩ (.int .i64 br)).setCell ⟨wA.heap.size, 1, none⟩ (.int .i64 bn)).setCell ⟨wA.heap.size, 2, none⟩ (.slice a1 m c1)) 0 _ _ at o2
        rw [← hW] at T7 o1 o2 hb7 ⊢
        generalize wA.heap.size = tb at T7 ⊢
        clear hW hnz NZ O1 O2
        try clear SS
        try (rename_i hS; clear hS)
        have HH := And.intro o1 (And.intro o2 (And.intro hb7 T7))
        clear o1 o2 hb7 T7
        revert HH
        revert w7 tb a1 c1 a2 c2
        exact key.out
    · rintro a1 c1 a2 c2 w7 tb ⟨o1, o2, hb7, T7⟩
      have MW := Lib.hid (MA.out.stay hb7)
      have HT7 := Lib.hid T7
      have HO1 := Lib.hid o1
      have HO2 := Lib.hid o2
      have HB7 := Lib.hid hb7
      have HP7 := Lib.hid (HPA.out.stay hb7 hglA hblA)
      have hntg : ¬ (tb = g) := fun e => by
        obtain ⟨cs, q1, q2⟩ := MW.out.blk
        rw [← e, HT7.out] at q1
        injection (Option.some.inj q1) with q3 q4
        exact typ_acc2.1 q4
      have hntb : ¬ (tb = b) := fun e => by
        obtain ⟨cs, q1, q2⟩ := (MW.out.bid k _ hk3 HB.out).blk
        rw [← HBK.out, ← e, HT7.out] at q1
        injection (Option.some.inj q1) with q3 q4
        exact typ_acc2.2 q4
      have hntg' : ¬ (g = tb) := fun e => hntg e.symm
      have hntb' : ¬ (b = tb) := fun e => hntb e.symm
      clear y0 y1 y2 z0 z1 T7 o1 o2 hb7
      have z0 := HP7.out.z0
      have z1 := HP7.out.z1
      have t0 := cellAt HT7.out 0 rfl
      have t1 := cellAt HT7.out 1 rfl
      have hfi := MW.out.fine
      have hf := MW.out.blk.free
      go_upto_region 23 with fail
      refine region_quiet_tail 20 (by kernel_rfl) (by kernel_rfl) ?_
      simp only [List.take_succ_cons, List.take_zero, List.drop_succ_cons, List.drop_zero]
      repeat (go_big_quiet_step (fail))
      refine wpQuiet_nil ?_
      intro w9 hw9
      obtain ⟨nq, rfl⟩ := hw9
      go_upto_region 24 with fail
      obtain ⟨w8, hW⟩ : ∃ w8, w8 = (w7.drewN nq).setCell ⟨g, 37, none⟩ (.bool true) := ⟨_, rfl⟩
      rw [← hW]
      have M8 := Lib.hid (show MatW w8 g M ad c pb by rw [hW]; exact (MW.out.drewN nq).setFine)
      have T8 := Lib.hid (show w8.heap[tb]? = some (.cells #[.int .i64 br, .int .i64 bn, .slice a1 m c1] 39 (0, 0)) by rw [hW]; exact (heapSet_ne _ _ hntg).trans HT7.out)
      have O81 := Lib.hid (show OwnV w8 0 (.slice a1 m c1) L by rw [hW]; exact OwnV.setCells (w := w7.drewN nq) HO1.out MW.out.blk typ_ne.2.1 37 [.bool true])
      have O82 := Lib.hid (show OwnV w8 0 (.slice a2 m c2) L by rw [hW]; exact OwnV.setCells (w := w7.drewN nq) HO2.out MW.out.blk typ_ne.2.1 37 [.bool true])
      have B8 := Lib.hid (show Below base w w8 by rw [hW]; exact (below_drewN ((BA.out.mono (by omega)).trans (HB7.out.mono (by omega))) nq).setCell hg _)
      clear hW z0 z1 t0 t1 hfi hf
      have t0 := cellAt T8.out 0 rfl
      have t1 := cellAt T8.out 1 rfl
      have t2 := cellAt T8.out 2 rfl
      have hf := M8.out.blk.free
      obtain ⟨u0, q0⟩ := M8.out.blk.cell (j := n * 3) (by omega)
      obtain ⟨u1, q1⟩ := M8.out.blk.cell (j := n * 3 + 1) (by omega)
      obtain ⟨u2, q2⟩ := M8.out.blk.cell (j := n * 3 + 2) (by omega)
      refine region_quiet_tail 6 (by kernel_rfl) (by kernel_rfl) ?_
      simp only [List.take_succ_cons, List.take_zero, List.drop_succ_cons, List.drop_zero]
      repeat (go_big_quiet_step (fail))
      refine wpQuiet_nil ?_
      intro w9 hw9
      obtain ⟨nq9, rfl⟩ := hw9
      go_upto_region 25 with fail
      obtain ⟨w9, hW⟩ : ∃ w9, w9 = (((w8.drewN nq9).setCell ⟨g, n * 3, none⟩ (.int .i64 br)).setCell ⟨g, n * 3 + 1, none⟩ (.int .i64 bn)).setCell ⟨g, n * 3 + 2, none⟩ (.slice a1 m c1) := ⟨_, rfl⟩
      rw [← hW]
      have hW2 : w9 = (w8.drewN nq9).setCells g (n * 3) [.int .i64 br, .int .i64 bn, .slice a1 m c1] := hW
      have M9 := Lib.hid (show MatW w9 g { M with node := put1 M.node n ⟨(br, bn), L⟩ } (put1 ad n a1) (put1 c n c1) pb by
        rw [hW2, HML.out]
        exact (M8.out.drewN nq9).setNode hn5 ⟨(br, bn), L⟩ a1 c1 (by
          have h1 := O81.out
          rw [HML.out] at h1
          exact ownV_move h1 (Nat.le_refl _) (fun _ _ _ => rfl)))
      have O92 := Lib.hid (show OwnV w9 0 (.slice a2 m c2) L by rw [hW2]; exact OwnV.setCells (w := w8.drewN nq9) (ownV_move O82.out (Nat.le_refl _) (fun _ _ _ => rfl)) M8.out.blk typ_ne.2.1 _ _)
      have B9 := Lib.hid (show Below base w w9 by rw [hW2]; exact Below.setCellsM hg _ _ (below_drewN B8.out nq9))
      clear hW hW2 t0 t1 t2 hf q0 q1 q2
      have hbk : Blk w9 b 77 30 := by rw [HBK.out]; exact (M9.out.bid k _ hk3 HB.out).blk
      have hf := hbk.free
      obtain ⟨u3, q3⟩ := hbk.cell (j := 7 + n) (by omega)
      obtain ⟨u4, q4⟩ := hbk.cell (j := 2 + n) (by omega)
      have hn72 : ¬ (7 + n = 2 + n) := by omega
      clear hbk
      go_upto_region 27 with fail
      obtain ⟨w10, hW⟩ : ∃ w10, w10 = (w9.setCell ⟨b, 7 + n, none⟩ (.bool true)).setCell ⟨b, 2 + n, none⟩ (.slice a2 m c2) := ⟨_, rfl⟩
      rw [← hW]
      have hW2 : w10 = (w9.setCells (pb k) (7 + n) [.bool true]).setCells (pb k) (2 + n) [.slice a2 m c2] := by rw [hW, HBK.out]; rfl
      have M10 := Lib.hid (show MatW w10 g (M.promise n k ⟨(br, bn), bt, bw⟩) (put1 ad n a1) (put1 c n c1) pb by
        have hbd := M9.out.bid k _ hk3 HB.out
        have h1 := M9.out.setBid (w' := w10) hk3 HB.out (B' := { bal := (br, bn), told := put1 bt n (some L), what := bw }) (fun q hq => by rw [hW2, setCells_heap_ne hq, setCells_heap_ne hq])
          (by rw [hW2]; exact hbd.setTold hn5 O92.out) (fun v l h2 => by rw [hW2]; exact (h2.setCells hbd.blk typ_ne.1 _ _).setCells (hbd.blk.set _ _ _) typ_ne.1 _ _)
        unfold Mat.promise
        rw [HX.out]
        exact h1)
      have B10 := Lib.hid (show Below base w w10 by
        have hpk : base ≤ pb k := HPB.out k _ hk3 HB.out
        rw [hW2]; exact Below.setCellsM hpk _ _ (Below.setCellsM hpk _ _ B9.out))
      have I10 : Hid (∃ S', MInv (M.promise n k ⟨(br, bn), bt, bw⟩) nd S') := Lib.hid (HIN.out.promise (by omega) hn5 hk3 HB.out (by rw [HX.out]; exact Int.not_lt.2 LOW.out))
      clear hW hW2 hf q3 q4
      obtain ⟨S10, hI10⟩ := I10.out
      have J10 := Lib.hid hI10
      clear hI10
      go_wp2_with (go_at_call 30; refine (look_any base M10.out J10.out hg).mono ?_; rintro e w5 ⟨rfl, hlk⟩; have FIN : Hid (PlS base w w5 g (M.rounds + 1)) := Lib.hid (by obtain ⟨M', hl⟩ := hlk; exact hl.pls B10.out (Nat.le_succ _) (Bid.keepR M HB.out hk3 HPB.out)); clear hlk)
      exact bodyPost_end (v := .tuple #[]) (by simp [results, Try.results19, go_sem]) rfl ⟨rfl, FIN.out⟩
end Go.Proofs.Ytdkbajdnckmckaa

set_option linter.unusedVariables false
set_option linter.unusedSimpArgs false
namespace Go.Proofs.Ytdkbajdnckmckaa
open Go.RowKit Go.Con
/-- the facts of a vote: the node's cells, the ballot's, and the command's -/
structure Ply1 (wA : World) (g b n s : Nat) (pr pn br bn : Int) (na : Option Addr) (m nc : Nat) (c0 c1 c2 c3 c4 : Int) : Prop where
  ply : Ply0 wA g b n pr pn br bn na m nc
  w0 : wA.cell? ⟨b, 15 + s * 5, none⟩ = some (.int .i64 c0)
  w1 : wA.cell? ⟨b, 15 + s * 5 + 1, none⟩ = some (.int .i64 c1)
  w2 : wA.cell? ⟨b, 15 + s * 5 + 2, none⟩ = some (.int .i64 c2)
  w3 : wA.cell? ⟨b, 15 + s * 5 + 3, none⟩ = some (.int .i64 c3)
  w4 : wA.cell? ⟨b, 15 + s * 5 + 4, none⟩ = some (.int .i64 c4)
theorem Ply1.stay {wA w' : World} {g b n s : Nat} {pr pn br bn : Int} {na : Option Addr} {m nc : Nat} {c0 c1 c2 c3 c4 : Int} (h : Ply1 wA g b n s pr pn br bn na m nc c0 c1 c2 c3 c4) (hb : Below wA.heap.size wA w') (hg : g < wA.heap.size) (hbb : b < wA.heap.size) : Ply1 w' g b n s pr pn br bn na m nc c0 c1 c2 c3 c4 := by
  have e2 : ∀ o, w'.cell? ⟨b, o, none⟩ = wA.cell? ⟨b, o, none⟩ := fun o => World.cell?_of_block (w := wA) (hb.block b hbb)
  exact ⟨h.ply.stay hb hg hbb, (e2 _).trans h.w0, (e2 _).trans h.w1, (e2 _).trans h.w2, (e2 _).trans h.w3, (e2 _).trans h.w4⟩
theorem Ply1.cells {w' : World} {g b n s : Nat} {pr pn br bn : Int} {na : Option Addr} {m nc : Nat} {c0 c1 c2 c3 c4 : Int} (h : Ply1 w' g b n s pr pn br bn na m nc c0 c1 c2 c3 c4) : w'.cell? ⟨g, n * 3, none⟩ = some (.int .i64 pr) ∧ w'.cell? ⟨g, n * 3 + 1, none⟩ = some (.int .i64 pn) ∧ w'.cell? ⟨g, n * 3 + 2, none⟩ = some (.slice na m nc) ∧ w'.cell? ⟨b, 0, none⟩ = some (.int .i64 br) ∧ w'.cell? ⟨b, 1, none⟩ = some (.int .i64 bn) ∧
    w'.cell? ⟨b, 15 + s * 5, none⟩ = some (.int .i64 c0) ∧ w'.cell? ⟨b, 15 + s * 5 + 1, none⟩ = some (.int .i64 c1) ∧ w'.cell? ⟨b, 15 + s * 5 + 2, none⟩ = some (.int .i64 c2) ∧ w'.cell? ⟨b, 15 + s * 5 + 3, none⟩ = some (.int .i64 c3) ∧ w'.cell? ⟨b, 15 + s * 5 + 4, none⟩ = some (.int .i64 c4) :=
  ⟨h.ply.y0, h.ply.y1, h.ply.y2, h.ply.z0, h.ply.z1, h.w0, h.w1, h.w2, h.w3, h.w4⟩
theorem MInv.okv {M : Mat} {nd : Nat → Int} {S : Nat → PxS Cmd} (h : MInv M nd S) (hR : M.rounds ≤ 1000) {k s : Nat} {B : Bid} {x : Cmd} (hk : k < 3) (hs : s < 3) (hB : M.bid k = some B) (hx : B.what s = some x) : okV ⟨(s : Int), B.bal, x⟩ = true := by
  have h1 := MInv.okb h hR hk hB
  obtain ⟨r, r1, r2, hb⟩ := h.bid k B hk hB
  unfold okV
  dsimp only
  rw [h1, hb.fit s x hs hx]
  simp
  omega
theorem quiet_P {f : FuncId} {args : Array Value} {w W : World} {v : Value} (h : Calls Try.prog f args W fun e w' => e = .returned v ∧ W = w') (hW : ∃ n, W = w.drewN n) :
    Calls Try.prog f args W fun e w'' => e = .returned v ∧ ∃ n, w'' = w.drewN n :=
  h.mono fun _ _ ⟨he, hm⟩ => ⟨he, by rw [← hm]; exact hW⟩
theorem checkC_new {r a : Int} (h0 : 0 ≤ r) (h1 : r ≤ 1048576) (h2 : 0 ≤ a) (h3 : a ≤ 1073741824) : checkC ⟨1, 0, r, 0, a⟩ = 0 := by
  unfold checkC
  rw [if_neg (show ¬ ((1 : Int) = 0) by decide), if_pos (show (1 : Int) ≤ 1 ∧ (1 : Int) ≤ 3 by decide)]
  have hr : inRange ⟨1, 0, r, 0, a⟩ = true := by unfold inRange; rw [decide_eq_true_eq]; simp; omega
  rw [if_neg (by rw [hr]; decide), if_neg (show ¬ ((1 : Int) ≠ 1 ∧ a ≠ 0) by simp)]
/-- the match is where a node is to vote, for what is asked -/
structure VoteAt (base : Nat) (w wT : World) (g b n k s : Nat) (M MT : Mat) (ad : Nat → Option Addr) (c pb : Nat → Nat) (nd : Nat → Int) (S : Nat → PxS Cmd) (pr pm br bn : Int) (L : List Vot) (na : Option Addr) (m nc : Nat) (bt : Nat → Option (List Vot)) (bw : Nat → Option Cmd) (c0 c1 c2 c3 c4 : Int) : Prop where
  mat : MatW wT g MT ad c pb
  inv : MInv MT nd S
  node : MT.node n = ⟨(pr, pm), L⟩
  bid : MT.bid k = some ⟨(br, bn), bt, bw⟩
  what : bw s = some ⟨c0, c1, c2, c3, c4⟩
  rounds : MT.rounds = M.rounds
  ptr : ∀ j C, j < 3 → MT.bid j = some C → base ≤ pb j
  below : Below base w wT
  na : na = ad n
  nc : nc = c n
  m : m = L.length
  b : b = pb k
section
variable {base : Nat} {w wT : World} {g b n k s : Nat} {M MT : Mat} {ad : Nat → Option Addr} {c pb : Nat → Nat} {nd : Nat → Int} {S : Nat → PxS Cmd} {pr pm br bn : Int} {L : List Vot} {na : Option Addr} {m nc : Nat} {bt : Nat → Option (List Vot)} {bw : Nat → Option Cmd} {c0 c1 c2 c3 c4 : Int}
theorem VoteAt.ply (h : VoteAt base w wT g b n k s M MT ad c pb nd S pr pm br bn L na m nc bt bw c0 c1 c2 c3 c4) (hn : n < 5) (hk : k < 3) (hs : s < 3) : Ply1 wT g b n s pr pm br bn na m nc c0 c1 c2 c3 c4 := by
  have h1 := h.mat.ply hn hk h.node h.bid
  rw [← h.b, ← h.na, ← h.nc, ← h.m] at h1
  have h2 := (h.mat.bid k _ hk h.bid).what s _ hs h.what
  rw [← h.b] at h2
  exact ⟨h1, h2 0 (by decide), h2 1 (by decide), h2 2 (by decide), h2 3 (by decide), h2 4 (by decide)⟩
theorem VoteAt.votes (h : VoteAt base w wT g b n k s M MT ad c pb nd S pr pm br bn L na m nc bt bw c0 c1 c2 c3 c4) (hn : n < 5) : Votes wT (.slice na m nc) L := by
  have h1 := h.mat.own n hn
  rw [h.node, ← h.na, ← h.nc] at h1
  dsimp only at h1
  rw [← h.m] at h1
  exact h1.votes
theorem VoteAt.low (h : VoteAt base w wT g b n k s M MT ad c pb nd S pr pm br bn L na m nc bt bw c0 c1 c2 c3 c4) (hR : M.rounds ≤ 1000) (hn : n < 5) (hk : k < 3) (hs : s < 3) (hlow : cmpB (br, bn) (pr, pm) < 0) :
    ∀ W, Below wT.heap.size wT W → Calls Try.prog 15 #[.agg #[.int .i64 pr, .int .i64 pm, .slice na m nc], .agg #[.int .i64 s, .int .i64 br, .int .i64 bn, .int .i64 c0, .int .i64 c1, .int .i64 c2, .int .i64 c3, .int .i64 c4]] W fun e w' => e = .returned (.tuple #[.agg #[.int .i64 0, .int .i64 0, .slice none 0 0], .int .i64 7]) ∧ Below W.heap.size W w' := fun W hW => by
  have h1 := h.inv.fit n hn
  have h2 := MInv.len h.inv hn
  rw [h.node] at h1 h2
  exact Accept_low pr pm s br bn c0 c1 c2 c3 c4 _ L W ((h.votes hn).stay hW) h1 (MInv.okv h.inv (by rw [h.rounds]; exact hR) hk hs h.bid h.what) h2 (Lib.hid hlow)
theorem VoteAt.high (h : VoteAt base w wT g b n k s M MT ad c pb nd S pr pm br bn L na m nc bt bw c0 c1 c2 c3 c4) (hR : M.rounds ≤ 1000) (hn : n < 5) (hk : k < 3) (hs : s < 3) (hlow : 0 ≤ cmpB (br, bn) (pr, pm)) :
    ∀ W, Below wT.heap.size wT W → Calls Try.prog 15 #[.agg #[.int .i64 pr, .int .i64 pm, .slice na m nc], .agg #[.int .i64 s, .int .i64 br, .int .i64 bn, .int .i64 c0, .int .i64 c1, .int .i64 c2, .int .i64 c3, .int .i64 c4]] W fun e w' => ∃ a1 q1 m1, Hid (m1 = (putV ⟨(s : Int), (br, bn), ⟨c0, c1, c2, c3, c4⟩⟩ L).length) ∧ e = .returned (.tuple #[.agg #[.int .i64 br, .int .i64 bn, .slice a1 m1 q1], .int .i64 0]) ∧ OwnV w' 0 (.slice a1 m1 q1) (putV ⟨(s : Int), (br, bn), ⟨c0, c1, c2, c3, c4⟩⟩ L) ∧ Below W.heap.size W w' := fun W hW => by
  have h1 := h.inv.fit n hn
  have h2 := MInv.len h.inv hn
  rw [h.node] at h1 h2
  refine (Accept_high pr pm s br bn c0 c1 c2 c3 c4 _ L W ((h.votes hn).stay hW) h1 (MInv.okv h.inv (by rw [h.rounds]; exact hR) hk hs h.bid h.what) h2 (Lib.hid hlow)).mono ?_
  rintro e w' ⟨a1, q1, m1, g1, g2, g3, g4⟩
  exact ⟨a1, q1, m1, Lib.hid g1, g2, row_mono g3 (Nat.zero_le _), g4⟩
theorem VoteAt.same (h : VoteAt base w wT g b n k s M MT ad c pb nd S pr pm br bn L na m nc bt bw c0 c1 c2 c3 c4) {w7 : World} (hb : Below wT.heap.size wT w7) (hg : base ≤ wT.heap.size) : PlS base w w7 g (M.rounds + 1) :=
  ⟨MT, nd, S, ad, c, pb, h.mat.stay hb, h.inv, by rw [h.rounds]; omega, h.ptr, h.below.trans (hb.mono hg)⟩
/-- the node has voted -/
theorem VoteAt.done (h : VoteAt base w wT g b n k s M MT ad c pb nd S pr pm br bn L na m nc bt bw c0 c1 c2 c3 c4) (hR : M.rounds ≤ 1000) (hg : base ≤ g) (hn : n < 5) (hk : k < 3) (hs : s < 3) (hlow : 0 ≤ cmpB (br, bn) (pr, pm)) {w8 : World} {a1 : Option Addr} {m1 q1 : Nat} (h8 : MatW w8 g MT ad c pb) (hb8 : Below base w w8)
    (hm : m1 = (putV ⟨(s : Int), (br, bn), ⟨c0, c1, c2, c3, c4⟩⟩ L).length) (ho : OwnV w8 0 (.slice a1 m1 q1) (putV ⟨(s : Int), (br, bn), ⟨c0, c1, c2, c3, c4⟩⟩ L)) (q : Nat) :
    MatW ((w8.drewN q).setCells g (n * 3) [.int .i64 br, .int .i64 bn, .slice a1 m1 q1]) g (MT.vote n s ⟨(br, bn), bt, bw⟩ ⟨c0, c1, c2, c3, c4⟩) (put1 ad n a1) (put1 c n q1) pb ∧ (∃ S', MInv (MT.vote n s ⟨(br, bn), bt, bw⟩ ⟨c0, c1, c2, c3, c4⟩) nd S') ∧ Below base w ((w8.drewN q).setCells g (n * 3) [.int .i64 br, .int .i64 bn, .slice a1 m1 q1]) := by
  refine ⟨?_, h.inv.vote (by rw [h.rounds]; omega) hn hk hs h.bid h.what (by rw [h.node]; exact Int.not_lt.2 hlow), Below.setCellsM hg _ _ (below_drewN hb8 q)⟩
  unfold Mat.vote
  rw [h.node]
  dsimp only
  subst hm
  exact (h8.drewN q).setNode hn ⟨(br, bn), putV ⟨(s : Int), (br, bn), ⟨c0, c1, c2, c3, c4⟩⟩ L⟩ a1 q1 (ownV_move ho (Nat.le_refl _) (fun _ _ _ => rfl))
end
end Go.Proofs.Ytdkbajdnckmckaa

set_option linter.unusedVariables false
set_option linter.unusedSimpArgs false
namespace Go.Proofs.Ytdkbajdnckmckaa
open Go.RowKit Go.Con
set_option maxRecDepth 100000 in
set_option maxHeartbeats 8000000 in
theorem play_few (base : Nat) {w : World} {g : Nat} {M : Mat} {ad : Nat → Option Addr} {c pb : Nat → Nat} {nd : Nat → Int} {S : Nat → PxS Cmd} (h : MatW w g M ad c pb) (hi : MInv M nd S) (hg : base ≤ g) (hR : M.rounds ≤ 1000) (hpb : ∀ k B, k < 3 → M.bid k = some B → base ≤ pb k)
    (pk pn pp ps pv : Int) (hw : WishOk ⟨pk, pn, pp, ps, pv⟩) (n k s : Nat) (hn : Hid (pick pn 5 = n)) (hk : Hid (pick pp 3 = k)) (hs : Hid (pick ps 3 = s)) (hc6 : 6 ≤ pick pk 12) {B : Bid} (hB : M.bid k = some B) (hm : 2 * (B.lists 5).length ≤ 5) :
    Calls Try.prog 19 #[.pointer (some ⟨g, 0, none⟩), .agg #[.int .i64 pk, .int .i64 pn, .int .i64 pp, .int .i64 ps, .int .i64 pv]] w fun e w' => e = .returned (.tuple #[]) ∧ PlS base w w' g (M.rounds + 1) := by
  obtain ⟨⟨k1, k2⟩, ⟨n1, n2⟩, ⟨p1, p2⟩, ⟨s1, s2⟩, ⟨v1, v2⟩⟩ := hw
  dsimp only at k1 k2 n1 n2 p1 p2 s1 s2 v1 v2
  have hn5 : n < 5 := by have h1 := pick_lt pn 5 (by omega); rw [hn.out] at h1; omega
  have hk3 : k < 3 := by have h1 := pick_lt pp 3 (by omega); rw [hk.out] at h1; omega
  have hs3 : s < 3 := by have h1 := pick_lt ps 3 (by omega); rw [hs.out] at h1; omega
  obtain ⟨kd, hkd⟩ : ∃ x, x = pick pk 12 := ⟨_, rfl⟩
  have HKD := Lib.hid hkd.symm
  rw [← hkd] at hc6
  clear hkd
  have HPB := Lib.hid hpb
  have HIN := Lib.hid hi
  have hgl := h.blk.lt
  have hpn := h.ne hk3 hB
  have hbl := (h.bid k B hk3 hB).blk.lt
  have OKB := MInv.okb hi hR hk3 hB
  have OKA := hi.fit n hn5
  have LEN := MInv.len hi hn5
  have HM := Lib.hid h
  have HB := Lib.hid hB
  have HCN := Lib.hid (h.bid k B hk3 hB)
  obtain ⟨t, ht⟩ : ∃ t, t = (B.lists 5).length := ⟨_, rfl⟩
  have ht5 : t ≤ 5 := by rw [ht]; unfold Bid.lists; exact Nat.le_trans (List.length_filterMap_le ..) (by simp)
  have HT := Lib.hid ht
  obtain ⟨⟨br, bn⟩, bt, bw⟩ := B
  obtain ⟨⟨⟨pr, pm⟩, L⟩, hX⟩ : ∃ x, M.node n = x := ⟨_, rfl⟩
  have HX := Lib.hid hX
  have OWN := h.own n hn5
  rw [hX] at OKA LEN OWN
  dsimp only at OKB LEN OWN
  have OKA : okA (pr, pm) L = true := OKA
  have HOKB := Lib.hid OKB
  have HOKA := Lib.hid OKA
  have HLEN := Lib.hid LEN
  have HPL := Lib.hid (h.ply hn5 hk3 hX hB)
  obtain ⟨b, hb⟩ : ∃ b, b = pb k := ⟨_, rfl⟩
  rw [← hb] at HPL hpn hbl HCN
  obtain ⟨na, hna⟩ : ∃ x, x = ad n := ⟨_, rfl⟩
  obtain ⟨nc, hnc⟩ : ∃ x, x = c n := ⟨_, rfl⟩
  obtain ⟨m, hm0⟩ : ∃ x, x = L.length := ⟨_, rfl⟩
  rw [← hna, ← hnc, ← hm0] at HPL OWN
  have HML := Lib.hid hm0
  have HVT := Lib.hid OWN.votes
  have HBK := Lib.hid hb
  have HNA := Lib.hid hna
  have HNC := Lib.hid hnc
  clear h hi hpb hX hB OKB OKA LEN OWN hna hnc hb hm0 ht
  go_enter Try.func19, Try.ntmps19
  go_upto_region 1 with fail
  generalize hW : World.alloc _ _ = wA
  have T3 := Lib.hid (show wA.heap[w.heap.size]? = some (.cells #[.int .i64 pk, .int .i64 pn, .int .i64 pp, .int .i64 ps, .int .i64 pv] 26 (0, 0)) by rw [← hW]; exact heapNew _ _)
  have BA := Lib.hid (show Below w.heap.size w wA by rw [← hW]; exact (Below.refl _ _).alloc (Nat.le_refl _) _)
  clear hW
  have x0 := cellAt T3.out 0 rfl
  have x1 := cellAt T3.out 1 rfl
  have x2 := cellAt T3.out 2 rfl
  have x3 := cellAt T3.out 3 rfl
  have x4 := cellAt T3.out 4 rfl
  have MA := Lib.hid (HM.out.stay BA.out)
  have hpt : wA.cell? ⟨g, 15 + k, none⟩ = some (.pointer (some ⟨b, 0, none⟩)) := by
    have h1 := MA.out.ptr k hk3
    rw [HB.out, ← HBK.out] at h1
    exact h1
  have e0 : (kd == 0) = false := by rw [beq_eq_false_iff_ne]; omega
  have e6 : decide (kd < 6) = false := by rw [decide_eq_false_iff_not]; omega
  have hw2 : IntKind.i64.wrap (2 * (t : Int)) = 2 * (t : Int) := IntWalk.i64_in _ (by omega)
  have hbA := BA.out.size
  have hglA : g < wA.heap.size := by omega
  have hblA : b < wA.heap.size := by omega
  have hn50 : (0 : Int) ≤ n := by omega
  have hn51 : (n : Int) < 5 := by omega
  have hs30 : (0 : Int) ≤ s := by omega
  have hs31 : (s : Int) < 3 := by omega
  have HCA := Lib.hid (show BidW wA b ⟨(br, bn), bt, bw⟩ by rw [HBK.out]; exact MA.out.bid k _ hk3 HB.out)
  have HCNT : Hid (Calls Try.prog 28 #[.pointer (some ⟨b, 0, none⟩)] wA fun e w' => e = .returned (.int .i64 t) ∧ wA = w') := Lib.hid (by
    have h1 := count_any b _ wA HCA.out
    rw [← HT.out] at h1
    exact h1.mono fun e w' h2 => ⟨h2.1, h2.2.symm⟩)
  have VT := Lib.hid (HVT.out.stay BA.out)
  have hm' := HT.out
  have e2 : decide (2 * (t : Int) ≤ 5) = true := by rw [decide_eq_true_eq]; omega
  clear hm' hm HT
  go_wp2_with (first | (go_at_call 10; refine (picked_toP _ _ _ _ (by assumption) (by assumption) (by decide) (by assumption)).mono ?_; rintro e _ ⟨rfl, rfl⟩) | (go_at_call 28; refine HCNT.out.mono ?_; rintro e _ ⟨rfl, rfl⟩))
  exact bodyPost_ret (v := .tuple #[]) (by simp [results, Try.results19, go_sem]) rfl ⟨rfl, PlS.same (base := base) (w := w) (R := M.rounds + 1) MA.out HIN.out (Nat.le_succ _) HPB.out (BA.out.mono (by omega))⟩
end Go.Proofs.Ytdkbajdnckmckaa
