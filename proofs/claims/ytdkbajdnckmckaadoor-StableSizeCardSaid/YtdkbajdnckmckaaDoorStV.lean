/-
  The walk of stable.Vote.
-/
import Derived.Test.YtdkbajdnckmckaaDoorStP
set_option linter.unusedVariables false
set_option linter.unusedSimpArgs false
namespace Go.Proofs.YtdkbajdnckmckaaDoor
open Go.RowKit Go.Con
/-- a vote's body -/
def Tp.voB (y0 y1 y2 y3 y4 y5 y6 y7 : Int) : List UInt8 := (2 :: flatB [y0, y1, y2]) ++ encC ⟨y3, y4, y5, y6, y7⟩
theorem encC_len (c : Cmd) : (encC c).length = 20 := encK_length c 5
theorem voB_len (y0 y1 y2 y3 y4 y5 y6 y7 : Int) : (Tp.voB y0 y1 y2 y3 y4 y5 y6 y7).length = 33 := by rw [Tp.voB, List.length_append, List.length_cons, flatB_len, encC_len]; rfl
theorem three_ge (x r q : Int) (hx : 0 ≤ x) (hr : 0 ≤ r) (hq : 0 ≤ q) : ∀ i, i < [x, r, q].length → 0 ≤ [x, r, q].getD i 0 := by
  intro i hi
  have hc : i = 0 ∨ i = 1 ∨ i = 2 := by simp at hi; omega
  rcases hc with rfl | rfl | rfl <;> simp <;> omega
theorem three_bd (x r q : Int) (hx : 0 ≤ x ∧ x ≤ 65536) (hr : 0 ≤ r ∧ r ≤ 65536) (hq : 0 ≤ q ∧ q ≤ 65536) : ∀ i, i < [x, r, q].length → -9223372036854775808 ≤ [x, r, q].getD i 0 ∧ [x, r, q].getD i 0 ≤ 9223372036854775807 := by
  intro i hi
  have hc : i = 0 ∨ i = 1 ∨ i = 2 := by simp at hi; omega
  rcases hc with rfl | rfl | rfl <;> simp <;> omega
abbrev SV (w : World) (tb bb : Nat) (v : Value) (s x r q : Int) : Prop := w.cell? ⟨tb, 0, none⟩ = some v ∧ w.cell? ⟨tb, 1, none⟩ = some (.int .i64 s) ∧ w.cell? ⟨bb, 0, none⟩ = some (.int .i64 x) ∧ w.cell? ⟨bb, 1, none⟩ = some (.int .i64 r) ∧ w.cell? ⟨bb, 2, none⟩ = some (.int .i64 q)
theorem SV.stay {w w' : World} {tb bb : Nat} {v : Value} {s x r q : Int} (h : SV w tb bb v s x r q) (h1 : tb < w.heap.size) (h2 : bb < w.heap.size) (hb : Below w.heap.size w w') : SV w' tb bb v s x r q :=
  ⟨(hb.cell (p := ⟨tb, 0, none⟩) h1).trans h.1, (hb.cell (p := ⟨tb, 1, none⟩) h1).trans h.2.1, (hb.cell (p := ⟨bb, 0, none⟩) h2).trans h.2.2.1, (hb.cell (p := ⟨bb, 1, none⟩) h2).trans h.2.2.2.1, (hb.cell (p := ⟨bb, 2, none⟩) h2).trans h.2.2.2.2⟩
theorem SV.set {w : World} {tb bb rb : Nat} {v v0 v1 : Value} {s x r q : Int} (h1 : tb ≠ rb) (h2 : bb ≠ rb) (h : SV w tb bb v s x r q) : SV ((w.setCell ⟨rb, 0, none⟩ v0).setCell ⟨rb, 1, none⟩ v1) tb bb v s x r q := by
  have e : ∀ b, b ≠ rb → ((w.setCell ⟨rb, 0, none⟩ v0).setCell ⟨rb, 1, none⟩ v1).heap[b]? = w.heap[b]? := fun b hne => (heapSet_ne 1 v1 hne).trans (heapSet_ne 0 v0 hne)
  exact ⟨(World.cell?_of_block (w := w) (e tb h1)).trans h.1, (World.cell?_of_block (w := w) (e tb h1)).trans h.2.1, (World.cell?_of_block (w := w) (e bb h2)).trans h.2.2.1, (World.cell?_of_block (w := w) (e bb h2)).trans h.2.2.2.1, (World.cell?_of_block (w := w) (e bb h2)).trans h.2.2.2.2⟩
theorem SV.alloc {w : World} {tb bb : Nat} {v : Value} {s x r q : Int} (h : SV w tb bb v s x r q) (h1 : tb < w.heap.size) (h2 : bb < w.heap.size) (o : Obj) : SV (w.alloc o) tb bb v s x r q := h.stay h1 h2 ((Below.refl _ _).alloc (Nat.le_refl _) o)
theorem SV.drew {w : World} {tb bb : Nat} {v : Value} {s x r q : Int} (h : SV w tb bb v s x r q) : SV w.drew tb bb v s x r q := h
set_option maxRecDepth 100000 in
set_option maxHeartbeats 4000000 in
theorem sVote_ok (v : Value) (l : List UInt8) (s y0 y1 y2 y3 y4 y5 y6 y7 : Int) (w : World) (hv : Rd w v l) (h0 : 0 ≤ s) (h1 : s ≤ l.length) (h2 : l.length + 38 ≤ 100000) (hq : okV ⟨y0, (y1, y2), ⟨y3, y4, y5, y6, y7⟩⟩ = true) (hk : Kn w) :
    Calls Tryd.prog 10 #[.agg #[v, .int .i64 s], .agg #[.int .i64 y0, .int .i64 y1, .int .i64 y2, .int .i64 y3, .int .i64 y4, .int .i64 y5, .int .i64 y6, .int .i64 y7]] w (TapePost w (l ++ Tp.frame (Tp.voB y0 y1 y2 y3 y4 y5 y6 y7)) s 0) := by
  obtain ⟨a, c, rfl, hc, hcm⟩ := id hv.slice
  obtain ⟨n, hn⟩ : ∃ n, n = l.length := ⟨_, rfl⟩
  obtain ⟨hs1, hs2, hob, hcc⟩ := okV_parts hq
  have hs1 : 0 ≤ y0 := hs1
  have hs2 : y0 < 40 := hs2
  have hcc : checkC ⟨y3, y4, y5, y6, y7⟩ = 0 := hcc
  have hrq : (1 ≤ y1 ∧ y1 ≤ 65536) ∧ (0 ≤ y2 ∧ y2 < 5) := by simp [okB] at hob; omega
  obtain ⟨⟨hr1, hr2⟩, hq1, hq2⟩ := hrq
  have HOPEN := Lib.hid (fun w h => open_ok (.slice a l.length c) l s w h h0 h1 (by omega))
  have HWRITE := Lib.hid (fun vb w h hb hk => write_ok (.slice a l.length c) vb l (Tp.voB y0 y1 y2 y3 y4 y5 y6 y7) s w h hb h0 h1 (by rw [voB_len]; decide) (by rw [voB_len]; omega) hk)
  have HACC := Lib.hid (fun w => Accept_high 0 0 y0 y1 y2 y3 y4 y5 y6 y7 (.slice none 0 0) [] w (votes_nil w) (by decide) hq (by decide) (Lib.hid (cmpB_zero hob)))
  have HENC := Lib.hid (fun w => Encode_ok ⟨y3, y4, y5, y6, y7⟩ w hcc)
  have HFOUR := Lib.hid (fun v w h => fours_any v [y0, y1, y2] w h (three_ge y0 y1 y2 hs1 (by omega) hq1) (by show 3 ≤ 100; decide))
  have HNI := Lib.hid (fun W => newInts W [y0, y1, y2] 3 rfl (by show 3 ≤ maxLen; decide) (three_bd y0 y1 y2 (by omega) (by omega) (by omega)))
  rw [← hn] at hv h1 h2 hc HOPEN HWRITE ⊢
  have HV := Lib.hid hv
  have HN := Lib.hid hn
  have HK := Lib.hid hk
  have B0 := Lib.hid ((((Below.refl w.heap.size w).alloc (Nat.le_refl _) (.cells #[.slice a n c, .int .i64 s] 27)).alloc (by simp) (.cells #[.int .i64 y0, .int .i64 y1, .int .i64 y2, .int .i64 y3, .int .i64 y4, .int .i64 y5, .int .i64 y6, .int .i64 y7] 35)).alloc (by simp; omega) (.cells #[.slice none 0 0, .int .i64 0] 27))
  clear hv hn hk hc hcm hq hob hcc
  go_enter Tryd.func10, Tryd.ntmps10
  go_upto_region 1 with fail
  generalize hW : World.alloc _ _ = w1 at B0 ⊢
  obtain ⟨X, Z, Y, _⟩ := alloc3T hW
  have hz1 : w1.heap.size = w.heap.size + 1 + 1 + 1 := by rw [← hW]; simp
  have HZ := Lib.hid hz1
  have c0 := cellAt X 0 rfl
  have c1 := cellAt X 1 rfl
  have HV1 := Lib.hid (HV.out.below B0.out HV.out.lt)
  have HX := Lib.hid X
  have HY := Lib.hid Y
  have HZB := Lib.hid Z
  clear hW hz1 X Y Z
  go_upto_region 2 with (go_at_call 20; refine (HOPEN.out _ HV1.out).mono ?_; rintro e w2 ⟨v2, rfl, ho2, hb2⟩; obtain ⟨sa, sc, rfl, _, _⟩ := ho2.rd.sliceN n HN.out.symm; have B2 := Lib.hid hb2; clear ho2 hb2)
  have hb3 : Below w1.heap.size w1 (w2.alloc (.cells #[.slice sa n sc, .int .i64 s] 27)) := B2.out.alloc B2.out.size _
  generalize hW : w2.alloc _ = w3 at hb3 ⊢
  have z3 := (hb3.block _ (lt_of_heap HZB.out)).trans HZB.out
  have e30 := cellAt z3 0 rfl
  have e31 := cellAt z3 1 rfl
  have e32 := cellAt z3 2 rfl
  have e33 := cellAt z3 3 rfl
  have e34 := cellAt z3 4 rfl
  have e35 := cellAt z3 5 rfl
  have e36 := cellAt z3 6 rfl
  have e37 := cellAt z3 7 rfl
  have B3 := Lib.hid hb3
  clear hW hb3 z3 B2 c0 c1
  go_upto_region 5 with (go_at_call 23; refine (HACC.out _).mono ?_; rintro e w4 ⟨a1, c1, n1, hn1, rfl, ho4, hb4⟩; have B4 := Lib.hid hb4; clear ho4 hb4 hn1)
  have hb5 : Below w1.heap.size w1 (w4.alloc (.cells #[.int .i64 y1, .int .i64 y2, .slice a1 n1 c1] 45)) := (B3.out.trans (B4.out.mono B3.out.size)).alloc (by have := B3.out.size; have := B4.out.size; omega) _
  obtain ⟨x5, hx5⟩ : ∃ b, b = w4.heap.size := ⟨_, rfl⟩
  rw [← hx5]
  generalize hW : w4.alloc _ = w5a at hb5 ⊢
  have z5 := (hb5.block _ (lt_of_heap HZB.out)).trans HZB.out
  have e53 := cellAt z5 3 rfl
  have e54 := cellAt z5 4 rfl
  have e55 := cellAt z5 5 rfl
  have e56 := cellAt z5 6 rfl
  have e57 := cellAt z5 7 rfl
  have B5a := Lib.hid hb5
  have Z5 := Lib.hid z5
  clear hW hb5 hx5 z5 B3 B4 e30 e31 e32 e33 e34 e35 e36 e37
  go_upto_region 8 with (go_at_call 24; refine (HENC.out _).mono ?_; rintro e w5 ⟨ve, rfl, hoe, hbe⟩; obtain ⟨ea, ec, rfl, _, _⟩ := hoe.rd.sliceN 20 (encC_len _); have OE := Lib.hid hoe; have BE := Lib.hid hbe; clear hoe hbe)
  have hb5 := B5a.out.trans (BE.out.mono B5a.out.size)
  have B5 := Lib.hid hb5
  have z5 := (hb5.block _ (lt_of_heap HZB.out)).trans HZB.out
  have x55 := (hb5.block _ (lt_of_heap HX.out)).trans HX.out
  have y5 := (hb5.block _ (lt_of_heap HY.out)).trans HY.out
  have SW : SV w5 w.heap.size (w.heap.size + 1) (.slice a n c) s y0 y1 y2 := ⟨cellAt x55 0 rfl, cellAt x55 1 rfl, cellAt z5 0 rfl, cellAt z5 1 rfl, cellAt z5 2 rfl⟩
  have hl1 := lt_of_heap x55
  have hl2 := lt_of_heap z5
  have hl3 := lt_of_heap y5
  have HV5 := Lib.hid (HV1.out.stay hb5)
  have HK5 := Lib.hid ((HK.out.stay B0.out).stay hb5)
  have HY5 := Lib.hid y5
  have OE5 := Lib.hid OE.out.rd
  clear hb5 z5 x55 y5 B5a BE Z5 e53 e54 e55 e56 e57
  have HLEN := Lib.hid (show (l ++ Tp.frame (Tp.voB y0 y1 y2 y3 y4 y5 y6 y7)).length = n + 38 by rw [List.length_append, ← HN.out, Tp.frame, List.length_append, Tp.head, List.length_cons, voB_len, List.length_take, Sha.sum_length]; rfl)
  have NE1 : w.heap.size ≠ w.heap.size + 1 + 1 := by omega
  have NE2 : w.heap.size + 1 ≠ w.heap.size + 1 + 1 := by omega
  have SX : SV w5.drew w.heap.size (w.heap.size + 1) (.slice a n c) s y0 y1 y2 := SW
  obtain ⟨k0, k1, k2, k3, k4⟩ := id SW
  have RA : RdInts ((w5.alloc (.cells #[.int .u8 2] 5)).alloc (.cells #[.int .i64 y0, .int .i64 y1, .int .i64 y2] 3)).drew (.slice (some ⟨w5.heap.size + 1, 0, none⟩) 3 3) [y0, y1, y2] := by
    have h := HNI.out (w5.alloc (.cells #[.int .u8 2] 5))
    rw [show (w5.alloc (.cells #[.int .u8 2] 5)).heap.size = w5.heap.size + 1 by simp] at h
    exact h
  have RB : RdInts ((w5.alloc (.cells #[.int .i64 y0, .int .i64 y1, .int .i64 y2] 3)).alloc (.cells #[.int .u8 2] 5)).drew (.slice (some ⟨w5.heap.size, 0, none⟩) 3 3) [y0, y1, y2] :=
    (show RdInts ((w5.alloc (.cells #[.int .i64 y0, .int .i64 y1, .int .i64 y2] 3)).alloc (.cells #[.int .u8 2] 5)) _ _ from (HNI.out w5).stay ((Below.refl _ _).alloc (Nat.le_refl _) _))
  have RC : RdInts (w5.alloc (.cells #[.int .i64 y0, .int .i64 y1, .int .i64 y2] 3)).drew (.slice (some ⟨w5.heap.size, 0, none⟩) 3 3) [y0, y1, y2] := HNI.out w5
  have OA : Own ((w5.alloc (.cells #[.int .u8 2] 5)).alloc (.cells #[.int .i64 y0, .int .i64 y1, .int .i64 y2] 3)).drew w5.heap.size (.slice (some ⟨w5.heap.size, 0, none⟩) 1 1) [2] := (ownNew1 w5 w5.heap.size 2 2 rfl (Nat.le_refl _)).alloc _
  have OB : Own ((w5.alloc (.cells #[.int .i64 y0, .int .i64 y1, .int .i64 y2] 3)).alloc (.cells #[.int .u8 2] 5)).drew w5.heap.size (.slice (some ⟨w5.heap.size + 1, 0, none⟩) 1 1) [2] := by
    have h := ownNew1 (w5.alloc (.cells #[.int .i64 y0, .int .i64 y1, .int .i64 y2] 3)) w5.heap.size 2 2 rfl (by simp)
    rw [show (w5.alloc (.cells #[.int .i64 y0, .int .i64 y1, .int .i64 y2] 3)).heap.size = w5.heap.size + 1 by simp] at h
    exact h
  have BA : Below w5.heap.size w5 ((w5.alloc (.cells #[.int .u8 2] 5)).alloc (.cells #[.int .i64 y0, .int .i64 y1, .int .i64 y2] 3)).drew := below_drewN (((Below.refl _ _).alloc (Nat.le_refl _) _).alloc (by simp) _) 1
  have BBB : Below w5.heap.size w5 ((w5.alloc (.cells #[.int .i64 y0, .int .i64 y1, .int .i64 y2] 3)).alloc (.cells #[.int .u8 2] 5)).drew := below_drewN (((Below.refl _ _).alloc (Nat.le_refl _) _).alloc (by simp) _) 1
  have BC : Below w5.heap.size w5 (w5.alloc (.cells #[.int .i64 y0, .int .i64 y1, .int .i64 y2] 3)).drew := below_drewN ((Below.refl _ _).alloc (Nat.le_refl _) _) 1
  have HFL := Lib.hid (show ([2] : List UInt8).length + (flatB [y0, y1, y2]).length ≤ 140737488355328 by rw [flatB_len]; simp)
  have HFL2 := Lib.hid (show ([2] ++ flatB [y0, y1, y2]).length + (encC ⟨y3, y4, y5, y6, y7⟩).length ≤ 140737488355328 by rw [List.length_append, flatB_len, encC_len]; simp)
  have HRA := Lib.hid RA
  have HRB := Lib.hid RB
  have HRC := Lib.hid RC
  have HOA := Lib.hid OA
  have HOB := Lib.hid OB
  have HBA := Lib.hid BA
  have HBB := Lib.hid BBB
  have HBC := Lib.hid BC
  clear RA RB RC OA OB BA BBB BC OE
  go_region_held3 (fun w' => w'.cell? ⟨w.heap.size, 0, none⟩ = some (.slice a n c) ∧ w'.cell? ⟨w.heap.size, 1, none⟩ = some (.int .i64 s) ∧ w'.cell? ⟨w.heap.size + 1, 0, none⟩ = some (.int .i64 y0) ∧ w'.cell? ⟨w.heap.size + 1, 1, none⟩ = some (.int .i64 y1) ∧ w'.cell? ⟨w.heap.size + 1, 2, none⟩ = some (.int .i64 y2)) (first | with_reducible exact SX | with_reducible exact SV.drew (SW.alloc hl1 hl2 _) | with_reducible exact SV.drew ((SW.alloc hl1 hl2 _).alloc (lt_alloc hl1) (lt_alloc hl2) _) | with_reducible exact S2 | with_reducible exact S2.alloc hv1 hv2 _ | with_reducible exact S3 | with_reducible exact S33 | with_reducible exact S4 | with_reducible exact S4.set NE1 NE2) (first
    | (go_at_call 22; (with_reducible refine (HFOUR.out _ _ HRA.out).mono ?_); rintro e v2 ⟨vf, rfl, hof, hb2⟩; have hb6 : Below w5.heap.size w5 v2 := HBA.out.trans (hb2.mono HBA.out.size); have S2 := SW.stay hl1 hl2 hb6; have hv1 := Nat.lt_of_lt_of_le hl1 hb6.size; have hv2 := Nat.lt_of_lt_of_le hl2 hb6.size; have O1 := Lib.hid (HOA.out.below hb2 (fun k hk => (HOA.out.lt k hk).2)); have OF := Lib.hid hof; have B6 := Lib.hid hb6; clear hof hb2 hb6)
    | (go_at_call 22; (with_reducible refine (HFOUR.out _ _ HRB.out).mono ?_); rintro e v2 ⟨vf, rfl, hof, hb2⟩; have hb6 : Below w5.heap.size w5 v2 := HBB.out.trans (hb2.mono HBB.out.size); have S2 := SW.stay hl1 hl2 hb6; have hv1 := Nat.lt_of_lt_of_le hl1 hb6.size; have hv2 := Nat.lt_of_lt_of_le hl2 hb6.size; have O1 := Lib.hid (HOB.out.below hb2 (fun k hk => (HOB.out.lt k hk).2)); have OF := Lib.hid hof; have B6 := Lib.hid hb6; clear hof hb2 hb6)
    | (go_at_call 22; (with_reducible refine (HFOUR.out _ _ HRC.out).mono ?_); rintro e v2 ⟨vf, rfl, hof, hb2⟩; have hb6 : Below w5.heap.size w5 v2 := HBC.out.trans (hb2.mono HBC.out.size); have S2 := SW.stay hl1 hl2 hb6; have hv1 := Nat.lt_of_lt_of_le hl1 hb6.size; have hv2 := Nat.lt_of_lt_of_le hl2 hb6.size; have OF := Lib.hid hof; have B6 := Lib.hid hb6; clear hof hb2 hb6)
    | (refine step_apB rfl (.tmp 37) (.tmp 47) rfl w5.heap.size _ _ [2] (flatB [y0, y1, y2]) rfl O1.out rfl OF.out.rd HFL.out B6.out.size ?_; intro v9 w9 ho9 hg9; have hk9 := Kept.of_grown (B := w5.heap.size) (S := fun _ => False) hg9 B6.out.size (fun k hk => .inl (O1.out.lt k hk).1); have hb9 : Below w5.heap.size w5 w9 := B6.out.trans (hk9.below (fun _ _ h => h)); have S3 := SW.stay hl1 hl2 hb9; obtain ⟨ga, gc, hv9, _, _, _, _⟩ := ho9.shape (by intro h; cases h); have O9 := Lib.hid ho9; have B9 := Lib.hid hb9; have hnl : ([2] ++ flatB [y0, y1, y2]).length = 13 := (by simp [flatB_len]); rw [hnl] at hv9; subst hv9; clear ho9 hg9 hk9 hb9 hnl)
    | (refine step_apB rfl (.tmp 37) (.tmp 47) rfl w5.heap.size _ _ [2] (flatB [y0, y1, y2]) rfl (ownNew1 v2 w5.heap.size 2 2 rfl B6.out.size) rfl (OF.out.rd.alloc _) HFL.out (B6.out.alloc B6.out.size _).size ?_; intro v9 w9 ho9 hg9; have hk9 := Kept.of_grown (B := w5.heap.size) (S := fun _ => False) hg9 (B6.out.alloc B6.out.size _).size (fun k hk => .inl ((ownNew1 v2 w5.heap.size 2 2 rfl B6.out.size).lt k hk).1); have hb9 : Below w5.heap.size w5 w9 := (B6.out.alloc B6.out.size _).trans (hk9.below (fun _ _ h => h)); have S3 := SW.stay hl1 hl2 hb9; obtain ⟨ga, gc, hv9, _, _, _, _⟩ := ho9.shape (by intro h; cases h); have O9 := Lib.hid ho9; have B9 := Lib.hid hb9; have hnl : ([2] ++ flatB [y0, y1, y2]).length = 13 := (by simp [flatB_len]); rw [hnl] at hv9; subst hv9; clear ho9 hg9 hk9 hb9 hnl)
    | (refine step_apB rfl (.tmp 48) (.tmp 49) rfl w5.heap.size _ _ ([2] ++ flatB [y0, y1, y2]) (encC ⟨y3, y4, y5, y6, y7⟩) rfl O9.out rfl (OE5.out.stay B9.out) HFL2.out B9.out.size ?_; intro v10 w10 ho10 hg10; have hk10 := Kept.of_grown (B := w5.heap.size) (S := fun _ => False) hg10 B9.out.size (fun k hk => .inl (O9.out.lt k hk).1); have hb10 : Below w5.heap.size w5 w10 := B9.out.trans (hk10.below (fun _ _ h => h)); have S33 := SW.stay hl1 hl2 hb10; obtain ⟨gb, gd, hv10, _, _, _, _⟩ := ho10.shape (by intro h; cases h); have O10 := Lib.hid ho10; have B10 := Lib.hid hb10; have hnl : ([2] ++ flatB [y0, y1, y2] ++ encC ⟨y3, y4, y5, y6, y7⟩).length = 33 := (by rw [List.length_append, encC_len]; simp [flatB_len]); rw [hnl] at hv10; subst hv10; clear ho10 hg10 hk10 hb10 hnl)
    | (go_at_call 21; refine (HWRITE.out _ _ (HV5.out.stay B10.out) O10.out.rd (HK5.out.stay B10.out)).mono ?_; rintro e wA ⟨vA, rfl, hoA, hbA⟩; obtain ⟨ta, tc, rfl, _, _⟩ := hoA.rd.sliceN (n + 38) HLEN.out; have hbB : Below w5.heap.size w5 wA := B10.out.trans (hbA.mono B10.out.size); have S4 := SW.stay hl1 hl2 hbB; have yA := (hbB.block (w.heap.size + 1 + 1) hl3).trans HY5.out; have cy0 := cellAt yA 0 rfl; have cy1 := cellAt yA 1 rfl; have fy := freeAt yA; have OA' := Lib.hid (hoA.mono (base' := w5.heap.size) B10.out.size); have YA := Lib.hid yA; have BA' := Lib.hid hbB; clear hoA hbA hbB yA))
  all_goals
    go_wp2_with fail
    have z4 := heapSet (o := 1) (heapSet (o := 0) YA.out (.slice ta (n + 38) tc)) (.int .i64 s)
    have B4 := Lib.hid (show Below w.heap.size w ((wA.setCell ⟨w.heap.size + 1 + 1, 0, none⟩ (.slice ta (n + 38) tc)).setCell ⟨w.heap.size + 1 + 1, 1, none⟩ (.int .i64 s)) from (((B0.out.trans (B5.out.mono B0.out.size)).trans (BA'.out.mono (B0.out.trans (B5.out.mono B0.out.size)).size)).setCell (by show w.heap.size ≤ w.heap.size + 1 + 1; omega) _).setCell (by show w.heap.size ≤ w.heap.size + 1 + 1; omega) _)
    have o4 := (OA'.out.mono (base' := w.heap.size) (B0.out.trans (B5.out.mono B0.out.size)).size).ofHeapK (w' := (wA.setCell ⟨w.heap.size + 1 + 1, 0, none⟩ (.slice ta (n + 38) tc)).setCell ⟨w.heap.size + 1 + 1, 1, none⟩ (.int .i64 s)) (fun k hk => by
      have h4 := (OA'.out.lt k hk).1
      exact (heapSet_ne 1 _ (by omega)).trans (heapSet_ne 0 _ (by omega)))
    generalize hW : World.setCell _ _ _ = wZ at z4 B4 o4 ⊢
    have hl := run_loadVar_mid (P := Tryd.prog) wZ (w.heap.size + 1 + 1) 0 27 [.slice ta (n + 38) tc, .int .i64 s] _ (range_of z4) Tryd.underlying27 rfl tapeSz
    exact bodyPost_ret (v := .tuple #[.agg #[.slice ta (n + 38) tc, .int .i64 s], .int .i64 0]) (results_ct Tryd.results10 rfl hl) rfl ⟨_, rfl, o4, B4.out⟩
end Go.Proofs.YtdkbajdnckmckaaDoor
