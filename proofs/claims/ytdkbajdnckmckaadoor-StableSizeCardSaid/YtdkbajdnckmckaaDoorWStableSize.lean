/-
  The walk of conclavekeep.StableSize.
-/
import Derived.Test.YtdkbajdnckmckaaDoorStX
import Derived.Test.YtdkbajdnckmckaaDoorPick
import Derived.Test.YtdkbajdnckmckaaDoorTail
import Derived.Test.YtdkbajdnckmckaaDoorSameK
import Derived.Test.YtdkbajdnckmckaaDoorKnF
set_option linter.unusedVariables false
set_option linter.unusedSimpArgs false
namespace Go.Proofs.YtdkbajdnckmckaaDoor
open Go.RowKit Go.Con

set_option maxRecDepth 100000 in
set_option maxHeartbeats 4000000 in
theorem walk_StableSize (vround : Value) (round : Int) (vnode : Value) (node : Int) (vslot : Value) (slot : Int) (w : World) (hround : IsInt vround round) (hnode : IsInt vnode node) (hslot : IsInt vslot slot) (hk : Kn w) :
    Calls Tryd.prog 3 #[vround, vnode, vslot] w fun e w' => e = .returned (.bool true) ∧ Below w.heap.size w w' := by
  obtain ⟨rfl, hround1, hround2⟩ := hround
  obtain ⟨rfl, hnode1, hnode2⟩ := hnode
  obtain ⟨rfl, hslot1, hslot2⟩ := hslot
  have HK := Lib.hid hk
  clear hk
  have HB0 := Lib.hid (Below.refl w.heap.size w)
  have s0 : w.heap.size ≤ w.heap.size := Nat.le_refl _
  obtain ⟨mr, hmr⟩ : ∃ x, x = pick round 65536 := ⟨_, rfl⟩
  have hpmr := fun w => picked_any round 65536 w hround1 hround2 (by decide)
  have hmrl : 0 ≤ mr := by rw [hmr]; exact pick_nonneg _ _ (by decide)
  have hmru : mr < 65536 := by rw [hmr]; exact pick_lt _ _ (by decide)
  rw [← hmr] at hpmr
  have HPmr := Lib.hid hpmr
  clear hmr hpmr
  obtain ⟨mq, hmq⟩ : ∃ x, x = pick node 5 := ⟨_, rfl⟩
  have hpmq := fun w => picked_any node 5 w hnode1 hnode2 (by decide)
  have hmql : 0 ≤ mq := by rw [hmq]; exact pick_nonneg _ _ (by decide)
  have hmqu : mq < 5 := by rw [hmq]; exact pick_lt _ _ (by decide)
  rw [← hmq] at hpmq
  have HPmq := Lib.hid hpmq
  clear hmq hpmq
  obtain ⟨ms, hms⟩ : ∃ x, x = pick slot 40 := ⟨_, rfl⟩
  have hpms := fun w => picked_any slot 40 w hslot1 hslot2 (by decide)
  have hmsl : 0 ≤ ms := by rw [hms]; exact pick_nonneg _ _ (by decide)
  have hmsu : ms < 40 := by rw [hms]; exact pick_lt _ _ (by decide)
  rw [← hms] at hpms
  have HPms := Lib.hid hpms
  clear hms hpms
  have hb : okB (1 + mr, mq) = true := by simp [okB]; omega
  have hv : okV ⟨ms, (1 + mr, mq), ⟨0, 0, 0, 0, 0⟩⟩ = true := by unfold okV; rw [hb]; simp [hmsl, hmsu]; decide
  have hv40 : okV ⟨40, (1 + mr, mq), ⟨0, 0, 0, 0, 0⟩⟩ = false := by unfold okV; simp
  obtain ⟨P, hP⟩ : ∃ P, P = ([] : List UInt8) ++ Tp.frame (Tp.proB (1 + mr) mq) := ⟨_, rfl⟩
  have hPl : P.length = 14 := by rw [hP, List.nil_append, Tp.frame, List.length_append, Tp.head, List.length_cons, proB_len, List.length_take, Sha.sum_length]; rfl
  obtain ⟨U, hU⟩ : ∃ U, U = P ++ Tp.frame (Tp.voB ms (1 + mr) mq 0 0 0 0 0) := ⟨_, rfl⟩
  have hUl : U.length = 52 := by rw [hU, List.length_append, hPl, Tp.frame, List.length_append, Tp.head, List.length_cons, voB_len, List.length_take, Sha.sum_length]; rfl
  have hUP : U.take 14 = P := by rw [hU, ← hPl]; exact List.take_left ..
  have hp1 := fun w k => sPromise_ok (.slice none 0 0) [] 0 (1 + mr) mq w (Rd.nil _) (Int.le_refl _) (by simp) (by simp) hb k
  rw [← hP] at hp1
  have HPRO := Lib.hid hp1
  have hp2 := fun v w h k => sVote_ok v P 0 ms (1 + mr) mq 0 0 0 0 0 w h (Int.le_refl _) (by rw [hPl]; decide) (by rw [hPl]; decide) hv k
  rw [← hU] at hp2
  have HVOTE := Lib.hid hp2
  have HPB := Lib.hid (fun v w h => sPromise_bad v P 0 0 0 w h (Int.le_refl _) (by rw [hPl]; decide) (by rw [hPl]; decide) (by decide))
  have HVB := Lib.hid (fun v w h => sVote_bad v P 0 40 (1 + mr) mq 0 0 0 0 0 w h (Int.le_refl _) (by rw [hPl]; decide) (by rw [hPl]; decide) hv40)
  have HSO := Lib.hid (fun w => sSync_over 1 w (by decide) (by decide))
  have HPL := Lib.hid hPl
  have HUL := Lib.hid hUl
  have HUP := Lib.hid hUP
  clear hb hv hv40 hP hPl hU hUl hUP hp1 hp2
  go_enter Tryd.func3, Tryd.ntmps3
  go_upto_region 2 with (first | (go_at_call 8; with_reducible refine (HPmr.out _).mono ?_; rintro e _ ⟨rfl, rfl⟩) | (go_at_call 8; with_reducible refine (HPmq.out _).mono ?_; rintro e _ ⟨rfl, rfl⟩))
  have hb1 : Below w.heap.size w (w.alloc (.cells #[.int .i64 (1 + mr), .int .i64 mq] 24)) := (Below.refl _ _).alloc (Nat.le_refl _) _
  have hx1 : (w.alloc (.cells #[.int .i64 (1 + mr), .int .i64 mq] 24)).heap[w.heap.size]? = some (.cells #[.int .i64 (1 + mr), .int .i64 mq] 24 (0, 0)) := heapNew w _
  generalize hW1 : w.alloc (.cells #[.int .i64 (1 + mr), .int .i64 mq] 24) = w1 at hb1 hx1 ⊢
  clear hW1
  have T1 := Lib.hid hb1
  have HB1 := Lib.hid (HB0.out.trans (T1.out.mono s0))
  have s1 := HB1.out.size
  have X_b := Lib.hid hx1
  clear hb1 hx1
  have c_b_0 := cellAt X_b.out 0 rfl
  have d_b_0 : ∀ o, (w1.alloc o).cell? ⟨w.heap.size, 0, none⟩ = some (.int .i64 (1 + mr)) := fun o => (((Below.refl w1.heap.size w1).alloc (Nat.le_refl _) o).cell (p := ⟨w.heap.size, 0, none⟩) (lt_of_heap X_b.out)).trans (cellAt X_b.out 0 rfl)
  have c_b_1 := cellAt X_b.out 1 rfl
  have d_b_1 : ∀ o, (w1.alloc o).cell? ⟨w.heap.size, 1, none⟩ = some (.int .i64 mq) := fun o => (((Below.refl w1.heap.size w1).alloc (Nat.le_refl _) o).cell (p := ⟨w.heap.size, 1, none⟩) (lt_of_heap X_b.out)).trans (cellAt X_b.out 1 rfl)
  go_wp2_with fail
  refine (HPRO.out _ (HK.out.stay HB1.out)).mono ?_
  rintro e w2 ⟨vtp, rfl, hotp, hb2⟩
  have T2 := Lib.hid hb2
  replace X_b := Lib.hid ((T2.out.block _ (lt_of_heap X_b.out)).trans X_b.out)
  clear c_b_0 d_b_0 c_b_1 d_b_1
  have HB2 := Lib.hid (HB1.out.trans (T2.out.mono s1))
  have s2 := HB2.out.size
  have R_tp := Lib.hid hotp.rd
  clear hb2 hotp
  obtain ⟨atp, ctp, rfl, hlctp, hcmtp⟩ := R_tp.out.sliceN 14 (HPL.out)
  go_upto_region 3 with fail
  have hb3 : Below w2.heap.size w2 (w2.alloc (.cells #[.slice atp 14 ctp, .int .i64 0] 27)) := (Below.refl _ _).alloc (Nat.le_refl _) _
  have hx3 : (w2.alloc (.cells #[.slice atp 14 ctp, .int .i64 0] 27)).heap[w2.heap.size]? = some (.cells #[.slice atp 14 ctp, .int .i64 0] 27 (0, 0)) := heapNew w2 _
  generalize hW3 : w2.alloc (.cells #[.slice atp 14 ctp, .int .i64 0] 27) = w3 at hb3 hx3 ⊢
  clear hW3
  have T3 := Lib.hid hb3
  replace R_tp := Lib.hid (R_tp.out.stay T3.out)
  replace X_b := Lib.hid ((T3.out.block _ (lt_of_heap X_b.out)).trans X_b.out)
  have HB3 := Lib.hid (HB2.out.trans (T3.out.mono s2))
  have s3 := HB3.out.size
  have X_t := Lib.hid hx3
  clear hb3 hx3
  have XB := X_b
  have XT := X_t
  have hlb := lt_of_heap X_b.out
  have hlt := lt_of_heap X_t.out
  have S0 : SP w3 w2.heap.size w.heap.size (.slice atp 14 ctp) 0 (1 + mr) mq := ⟨cellAt X_t.out 0 rfl, cellAt X_t.out 1 rfl, cellAt X_b.out 0 rfl, cellAt X_b.out 1 rfl⟩
  obtain ⟨k0, k1, k2, k3⟩ := id S0
  have SX : SP w3.drew w2.heap.size w.heap.size (.slice atp 14 ctp) 0 (1 + mr) mq := S0
  have BA : Below w3.heap.size w3 (w3.alloc (.cells #[.slice none 0 0, .int .i64 0] 27)).drew := below_drewN ((Below.refl _ _).alloc (Nat.le_refl _) _) 1
  have HA := Lib.hid BA
  have HB := Lib.hid (show Below w3.heap.size w3 w3.drew from below_drewN (Below.refl _ _) 1)
  have HXA := Lib.hid (show (w3.alloc (.cells #[.slice none 0 0, .int .i64 0] 27)).drew.heap[w3.heap.size]? = some (.cells #[.slice none 0 0, .int .i64 0] 27 (0, 0)) from heapNew _ _)
  have NE1 : w2.heap.size ≠ w3.heap.size := by omega
  have NE2 : w.heap.size ≠ w3.heap.size := by omega
  clear BA
  go_region_held3 (fun w' => w'.cell? ⟨w2.heap.size, 0, none⟩ = some (.slice atp 14 ctp) ∧ w'.cell? ⟨w2.heap.size, 1, none⟩ = some (.int .i64 0) ∧ w'.cell? ⟨w.heap.size, 0, none⟩ = some (.int .i64 (1 + mr)) ∧ w'.cell? ⟨w.heap.size, 1, none⟩ = some (.int .i64 mq)) (first | with_reducible exact SX | with_reducible exact SP.drew (S0.alloc hlt hlb _) | with_reducible exact S2 | with_reducible exact S2.alloc hv1 hv2 _ | with_reducible exact S2.set NE1 NE2) (first
    | (go_at_call 8; with_reducible refine (HPms.out _).mono ?_; rintro e _ ⟨rfl, rfl⟩)
    | (go_at_call 10; (with_reducible refine (HVOTE.out _ _ (R_tp.out.stay HA.out) ((HK.out.stay HB3.out).stay HA.out)).mono ?_); rintro e v2 ⟨vu, rfl, hou, hb2⟩; obtain ⟨ua, uc, rfl, _, _⟩ := hou.rd.sliceN 52 HUL.out; have hb6 : Below w3.heap.size w3 v2 := HA.out.trans (hb2.mono HA.out.size); have S2 := S0.stay hlt hlb hb6; have hv1 := Nat.lt_of_lt_of_le hlt hb6.size; have hv2 := Nat.lt_of_lt_of_le hlb hb6.size; have OU := Lib.hid hou; have B6 := Lib.hid hb6; have hza := (hb2.block _ (lt_of_heap HXA.out)).trans HXA.out; have za0 := cellAt hza 0 rfl; have za1 := cellAt hza 1 rfl; have zaf := freeAt hza; have ZA := Lib.hid hza; clear hou hb2 hb6 hza)
    | (go_at_call 10; (with_reducible refine (HVOTE.out _ _ (R_tp.out.stay HB.out) ((HK.out.stay HB3.out).stay HB.out)).mono ?_); rintro e v2 ⟨vu, rfl, hou, hb2⟩; obtain ⟨ua, uc, rfl, _, _⟩ := hou.rd.sliceN 52 HUL.out; have hb6 : Below w3.heap.size w3 v2 := HB.out.trans (hb2.mono HB.out.size); have S2 := S0.stay hlt hlb hb6; have hv1 := Nat.lt_of_lt_of_le hlt hb6.size; have hv2 := Nat.lt_of_lt_of_le hlb hb6.size; have OU := Lib.hid hou; have B6 := Lib.hid hb6; clear hou hb2 hb6))
  all_goals
    first
    | (have zz := ZA.out; have hx : ((v2.setCell ⟨w3.heap.size, 0, none⟩ (.slice ua 52 uc)).setCell ⟨w3.heap.size, 1, none⟩ (.int .i64 0)).heap[w3.heap.size]? = some (.cells #[.slice ua 52 uc, .int .i64 0] 27 (0, 0)) := heapSet (o := 1) (heapSet (o := 0) zz _) _; have hbn : Below w3.heap.size w3 ((v2.setCell ⟨w3.heap.size, 0, none⟩ (.slice ua 52 uc)).setCell ⟨w3.heap.size, 1, none⟩ (.int .i64 0)) := (B6.out.setCell (Nat.le_refl _) _).setCell (Nat.le_refl _) _; have hu : Rd ((v2.setCell ⟨w3.heap.size, 0, none⟩ (.slice ua 52 uc)).setCell ⟨w3.heap.size, 1, none⟩ (.int .i64 0)) (.slice ua 52 uc) U := OU.out.rd.ofHeapS (fun k hk hne => by have h1 := (OU.out.lt k hk).1; have h2 := HA.out.size; have h3 : (w3.alloc (.cells #[.slice none 0 0, .int .i64 0] 27)).drew.heap.size = w3.heap.size + 1 := (by show (w3.alloc _).heap.size = _; simp); exact (heapSet_ne 1 _ (by omega)).trans (heapSet_ne 0 _ (by omega))); generalize hW : World.setCell _ _ _ = w4 at hx hbn hu ⊢; obtain ⟨q, hq⟩ : ∃ b, b = w3.heap.size := ⟨_, rfl⟩; rw [← hq] at hx ⊢; clear zz hW hq ZA za0 za1 zaf S2 hv1 hv2 OU B6)
    | (have hx : (v2.alloc (.cells #[.slice ua 52 uc, .int .i64 0] 27)).heap[v2.heap.size]? = some (.cells #[.slice ua 52 uc, .int .i64 0] 27 (0, 0)) := heapNew _ _; have hbn : Below w3.heap.size w3 (v2.alloc (.cells #[.slice ua 52 uc, .int .i64 0] 27)) := B6.out.alloc B6.out.size _; have hu : Rd (v2.alloc (.cells #[.slice ua 52 uc, .int .i64 0] 27)) (.slice ua 52 uc) U := (OU.out.alloc _).rd; generalize hW : World.alloc _ _ = w4 at hx hbn hu ⊢; obtain ⟨q, hq⟩ : ∃ b, b = v2.heap.size := ⟨_, rfl⟩; rw [← hq] at hx ⊢; clear hW hq S2 hv1 hv2 OU B6)
    clear k0 k1 k2 k3 XB XT S0 SX HA HB HXA hlb hlt NE1 NE2
    have T4 := Lib.hid hbn
    replace R_tp := Lib.hid (R_tp.out.stay T4.out)
    replace X_b := Lib.hid ((T4.out.block _ (lt_of_heap X_b.out)).trans X_b.out)
    replace X_t := Lib.hid ((T4.out.block _ (lt_of_heap X_t.out)).trans X_t.out)
    have HB4 := Lib.hid (HB3.out.trans (T4.out.mono s3))
    have s4 := HB4.out.size
    have X_u := Lib.hid hx
    have R_u := Lib.hid hu
    clear hbn hx hu
    have c_t_0 := cellAt X_t.out 0 rfl
    have d_t_0 : ∀ o, (w4.alloc o).cell? ⟨w2.heap.size, 0, none⟩ = some (.slice atp 14 ctp) := fun o => (((Below.refl w4.heap.size w4).alloc (Nat.le_refl _) o).cell (p := ⟨w2.heap.size, 0, none⟩) (lt_of_heap X_t.out)).trans (cellAt X_t.out 0 rfl)
    have c_t_1 := cellAt X_t.out 1 rfl
    have d_t_1 : ∀ o, (w4.alloc o).cell? ⟨w2.heap.size, 1, none⟩ = some (.int .i64 0) := fun o => (((Below.refl w4.heap.size w4).alloc (Nat.le_refl _) o).cell (p := ⟨w2.heap.size, 1, none⟩) (lt_of_heap X_t.out)).trans (cellAt X_t.out 1 rfl)
    have c_b_0 := cellAt X_b.out 0 rfl
    have d_b_0 : ∀ o, (w4.alloc o).cell? ⟨w.heap.size, 0, none⟩ = some (.int .i64 (1 + mr)) := fun o => (((Below.refl w4.heap.size w4).alloc (Nat.le_refl _) o).cell (p := ⟨w.heap.size, 0, none⟩) (lt_of_heap X_b.out)).trans (cellAt X_b.out 0 rfl)
    have c_b_1 := cellAt X_b.out 1 rfl
    have d_b_1 : ∀ o, (w4.alloc o).cell? ⟨w.heap.size, 1, none⟩ = some (.int .i64 mq) := fun o => (((Below.refl w4.heap.size w4).alloc (Nat.le_refl _) o).cell (p := ⟨w.heap.size, 1, none⟩) (lt_of_heap X_b.out)).trans (cellAt X_b.out 1 rfl)
    go_upto_region 5 with (go_at_call 9; refine (HPB.out _ _ R_tp.out).mono ?_; rintro e w5 ⟨vp3, rfl, hop3, hb5⟩; obtain ⟨ap3, cp3, rfl, _, _⟩ := hop3.rd.sliceN 0 rfl; have hbz := hb5; clear hb5)
    have T5 := Lib.hid hbz
    replace R_tp := Lib.hid (R_tp.out.stay T5.out)
    replace R_u := Lib.hid (R_u.out.stay T5.out)
    replace X_b := Lib.hid ((T5.out.block _ (lt_of_heap X_b.out)).trans X_b.out)
    replace X_t := Lib.hid ((T5.out.block _ (lt_of_heap X_t.out)).trans X_t.out)
    replace X_u := Lib.hid ((T5.out.block _ (lt_of_heap X_u.out)).trans X_u.out)
    clear c_t_0 d_t_0 c_t_1 d_t_1 c_b_0 d_b_0 c_b_1 d_b_1
    have HB5 := Lib.hid (HB4.out.trans (T5.out.mono s4))
    have s5 := HB5.out.size
    clear hbz hop3
    have hb6 : Below w5.heap.size w5 (w5.alloc (.cells #[.slice ap3 0 cp3, .int .i64 0] 27)) := (Below.refl _ _).alloc (Nat.le_refl _) _
    have hx6 : (w5.alloc (.cells #[.slice ap3 0 cp3, .int .i64 0] 27)).heap[w5.heap.size]? = some (.cells #[.slice ap3 0 cp3, .int .i64 0] 27 (0, 0)) := heapNew w5 _
    generalize hW6 : w5.alloc (.cells #[.slice ap3 0 cp3, .int .i64 0] 27) = w6 at hb6 hx6 ⊢
    clear hW6
    have T6 := Lib.hid hb6
    replace R_tp := Lib.hid (R_tp.out.stay T6.out)
    replace R_u := Lib.hid (R_u.out.stay T6.out)
    replace X_b := Lib.hid ((T6.out.block _ (lt_of_heap X_b.out)).trans X_b.out)
    replace X_t := Lib.hid ((T6.out.block _ (lt_of_heap X_t.out)).trans X_t.out)
    replace X_u := Lib.hid ((T6.out.block _ (lt_of_heap X_u.out)).trans X_u.out)
    have HB6 := Lib.hid (HB5.out.trans (T6.out.mono s5))
    have s6 := HB6.out.size
    have X_p3 := Lib.hid hx6
    clear hb6 hx6
    clear X_p3
    have c_t_0 := cellAt X_t.out 0 rfl
    have d_t_0 : ∀ o, (w6.alloc o).cell? ⟨w2.heap.size, 0, none⟩ = some (.slice atp 14 ctp) := fun o => (((Below.refl w6.heap.size w6).alloc (Nat.le_refl _) o).cell (p := ⟨w2.heap.size, 0, none⟩) (lt_of_heap X_t.out)).trans (cellAt X_t.out 0 rfl)
    have c_t_1 := cellAt X_t.out 1 rfl
    have d_t_1 : ∀ o, (w6.alloc o).cell? ⟨w2.heap.size, 1, none⟩ = some (.int .i64 0) := fun o => (((Below.refl w6.heap.size w6).alloc (Nat.le_refl _) o).cell (p := ⟨w2.heap.size, 1, none⟩) (lt_of_heap X_t.out)).trans (cellAt X_t.out 1 rfl)
    have c_b_0 := cellAt X_b.out 0 rfl
    have d_b_0 : ∀ o, (w6.alloc o).cell? ⟨w.heap.size, 0, none⟩ = some (.int .i64 (1 + mr)) := fun o => (((Below.refl w6.heap.size w6).alloc (Nat.le_refl _) o).cell (p := ⟨w.heap.size, 0, none⟩) (lt_of_heap X_b.out)).trans (cellAt X_b.out 0 rfl)
    have c_b_1 := cellAt X_b.out 1 rfl
    have d_b_1 : ∀ o, (w6.alloc o).cell? ⟨w.heap.size, 1, none⟩ = some (.int .i64 mq) := fun o => (((Below.refl w6.heap.size w6).alloc (Nat.le_refl _) o).cell (p := ⟨w.heap.size, 1, none⟩) (lt_of_heap X_b.out)).trans (cellAt X_b.out 1 rfl)
    go_upto_region 6 with (go_at_call 10; refine (HVB.out _ _ R_tp.out).mono ?_; rintro e w7 ⟨vp4, rfl, hop4, hb7⟩; obtain ⟨ap4, cp4, rfl, _, _⟩ := hop4.rd.sliceN 0 rfl; have hbz := hb7; clear hb7)
    have T7 := Lib.hid hbz
    replace R_tp := Lib.hid (R_tp.out.stay T7.out)
    replace R_u := Lib.hid (R_u.out.stay T7.out)
    replace X_b := Lib.hid ((T7.out.block _ (lt_of_heap X_b.out)).trans X_b.out)
    replace X_t := Lib.hid ((T7.out.block _ (lt_of_heap X_t.out)).trans X_t.out)
    replace X_u := Lib.hid ((T7.out.block _ (lt_of_heap X_u.out)).trans X_u.out)
    clear c_t_0 d_t_0 c_t_1 d_t_1 c_b_0 d_b_0 c_b_1 d_b_1
    have HB7 := Lib.hid (HB6.out.trans (T7.out.mono s6))
    have s7 := HB7.out.size
    clear hbz hop4
    have hb8 : Below w7.heap.size w7 (w7.alloc (.cells #[.slice ap4 0 cp4, .int .i64 0] 27)) := (Below.refl _ _).alloc (Nat.le_refl _) _
    have hx8 : (w7.alloc (.cells #[.slice ap4 0 cp4, .int .i64 0] 27)).heap[w7.heap.size]? = some (.cells #[.slice ap4 0 cp4, .int .i64 0] 27 (0, 0)) := heapNew w7 _
    generalize hW8 : w7.alloc (.cells #[.slice ap4 0 cp4, .int .i64 0] 27) = w8 at hb8 hx8 ⊢
    clear hW8
    have T8 := Lib.hid hb8
    replace R_tp := Lib.hid (R_tp.out.stay T8.out)
    replace R_u := Lib.hid (R_u.out.stay T8.out)
    replace X_b := Lib.hid ((T8.out.block _ (lt_of_heap X_b.out)).trans X_b.out)
    replace X_t := Lib.hid ((T8.out.block _ (lt_of_heap X_t.out)).trans X_t.out)
    replace X_u := Lib.hid ((T8.out.block _ (lt_of_heap X_u.out)).trans X_u.out)
    have HB8 := Lib.hid (HB7.out.trans (T8.out.mono s7))
    have s8 := HB8.out.size
    have X_p4 := Lib.hid hx8
    clear hb8 hx8
    clear X_p4
    have c_t_0 := cellAt X_t.out 0 rfl
    have d_t_0 : ∀ o, (w8.alloc o).cell? ⟨w2.heap.size, 0, none⟩ = some (.slice atp 14 ctp) := fun o => (((Below.refl w8.heap.size w8).alloc (Nat.le_refl _) o).cell (p := ⟨w2.heap.size, 0, none⟩) (lt_of_heap X_t.out)).trans (cellAt X_t.out 0 rfl)
    have c_t_1 := cellAt X_t.out 1 rfl
    have d_t_1 : ∀ o, (w8.alloc o).cell? ⟨w2.heap.size, 1, none⟩ = some (.int .i64 0) := fun o => (((Below.refl w8.heap.size w8).alloc (Nat.le_refl _) o).cell (p := ⟨w2.heap.size, 1, none⟩) (lt_of_heap X_t.out)).trans (cellAt X_t.out 1 rfl)
    have c_b_0 := cellAt X_b.out 0 rfl
    have d_b_0 : ∀ o, (w8.alloc o).cell? ⟨w.heap.size, 0, none⟩ = some (.int .i64 (1 + mr)) := fun o => (((Below.refl w8.heap.size w8).alloc (Nat.le_refl _) o).cell (p := ⟨w.heap.size, 0, none⟩) (lt_of_heap X_b.out)).trans (cellAt X_b.out 0 rfl)
    have c_b_1 := cellAt X_b.out 1 rfl
    have d_b_1 : ∀ o, (w8.alloc o).cell? ⟨w.heap.size, 1, none⟩ = some (.int .i64 mq) := fun o => (((Below.refl w8.heap.size w8).alloc (Nat.le_refl _) o).cell (p := ⟨w.heap.size, 1, none⟩) (lt_of_heap X_b.out)).trans (cellAt X_b.out 1 rfl)
    go_upto_region 7 with (go_at_call 11; refine (HSO.out _).mono ?_; rintro e w9 ⟨vp5, rfl, hop5, hb9⟩; obtain ⟨ap5, cp5, rfl, _, _⟩ := hop5.rd.sliceN 0 rfl; have hbz := hb9; clear hb9)
    have T9 := Lib.hid hbz
    replace R_tp := Lib.hid (R_tp.out.stay T9.out)
    replace R_u := Lib.hid (R_u.out.stay T9.out)
    replace X_b := Lib.hid ((T9.out.block _ (lt_of_heap X_b.out)).trans X_b.out)
    replace X_t := Lib.hid ((T9.out.block _ (lt_of_heap X_t.out)).trans X_t.out)
    replace X_u := Lib.hid ((T9.out.block _ (lt_of_heap X_u.out)).trans X_u.out)
    clear c_t_0 d_t_0 c_t_1 d_t_1 c_b_0 d_b_0 c_b_1 d_b_1
    have HB9 := Lib.hid (HB8.out.trans (T9.out.mono s8))
    have s9 := HB9.out.size
    clear hbz hop5
    have hb10 : Below w9.heap.size w9 (w9.alloc (.cells #[.slice ap5 0 cp5, .int .i64 0] 27)) := (Below.refl _ _).alloc (Nat.le_refl _) _
    have hx10 : (w9.alloc (.cells #[.slice ap5 0 cp5, .int .i64 0] 27)).heap[w9.heap.size]? = some (.cells #[.slice ap5 0 cp5, .int .i64 0] 27 (0, 0)) := heapNew w9 _
    generalize hW10 : w9.alloc (.cells #[.slice ap5 0 cp5, .int .i64 0] 27) = w10 at hb10 hx10 ⊢
    clear hW10
    have T10 := Lib.hid hb10
    replace R_tp := Lib.hid (R_tp.out.stay T10.out)
    replace R_u := Lib.hid (R_u.out.stay T10.out)
    replace X_b := Lib.hid ((T10.out.block _ (lt_of_heap X_b.out)).trans X_b.out)
    replace X_t := Lib.hid ((T10.out.block _ (lt_of_heap X_t.out)).trans X_t.out)
    replace X_u := Lib.hid ((T10.out.block _ (lt_of_heap X_u.out)).trans X_u.out)
    have HB10 := Lib.hid (HB9.out.trans (T10.out.mono s9))
    have s10 := HB10.out.size
    have X_p5 := Lib.hid hx10
    clear hb10 hx10
    clear X_p5
    have c_t_0 := cellAt X_t.out 0 rfl
    have d_t_0 : ∀ o, (w10.alloc o).cell? ⟨w2.heap.size, 0, none⟩ = some (.slice atp 14 ctp) := fun o => (((Below.refl w10.heap.size w10).alloc (Nat.le_refl _) o).cell (p := ⟨w2.heap.size, 0, none⟩) (lt_of_heap X_t.out)).trans (cellAt X_t.out 0 rfl)
    have c_t_1 := cellAt X_t.out 1 rfl
    have d_t_1 : ∀ o, (w10.alloc o).cell? ⟨w2.heap.size, 1, none⟩ = some (.int .i64 0) := fun o => (((Below.refl w10.heap.size w10).alloc (Nat.le_refl _) o).cell (p := ⟨w2.heap.size, 1, none⟩) (lt_of_heap X_t.out)).trans (cellAt X_t.out 1 rfl)
    have c_u_0 := cellAt X_u.out 0 rfl
    have d_u_0 : ∀ o, (w10.alloc o).cell? ⟨q, 0, none⟩ = some (.slice ua 52 uc) := fun o => (((Below.refl w10.heap.size w10).alloc (Nat.le_refl _) o).cell (p := ⟨q, 0, none⟩) (lt_of_heap X_u.out)).trans (cellAt X_u.out 0 rfl)
    have c_u_1 := cellAt X_u.out 1 rfl
    have d_u_1 : ∀ o, (w10.alloc o).cell? ⟨q, 1, none⟩ = some (.int .i64 0) := fun o => (((Below.refl w10.heap.size w10).alloc (Nat.le_refl _) o).cell (p := ⟨q, 1, none⟩) (lt_of_heap X_u.out)).trans (cellAt X_u.out 1 rfl)
    obtain ⟨hc1, hc2⟩ := R_u.out.capN 52 HUL.out
    have hc3 : uc ≤ 9223372036854775807 := hc2
    clear hc2
    have R_up := Lib.hid (R_u.out.pre 14 (by rw [HUL.out]; decide))
    have HPu := Lib.hid R_up.out
    have HPt := Lib.hid R_tp.out
    go_quiet ((go_at_call 12; exact Calls.quiet_of_same (same_trueR _ _ _ _ _ (HPu.out.drewN _) (HPt.out.drewN _) HUP.out)))
    go_wp2_with fail
    go_ret
    exact ⟨rfl, by first | exact HB10.out | exact below_drewN HB10.out _⟩

end Go.Proofs.YtdkbajdnckmckaaDoor
