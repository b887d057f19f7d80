/-
  The walk of stable.Promise.
-/
import Derived.Test.YtdkbajdnckmckaaDoorStw
import Derived.Test.YtdkbajdnckmckaaDoorVod
set_option linter.unusedVariables false
set_option linter.unusedSimpArgs false
namespace Go.Proofs.YtdkbajdnckmckaaDoor
open Go.RowKit Go.Con
theorem alloc3T {w w0 : World} {A B C : Obj} (h : ((w.alloc A).alloc B).alloc C = w0) : w0.heap[w.heap.size]? = some A ∧ w0.heap[w.heap.size + 1]? = some B ∧ w0.heap[w.heap.size + 1 + 1]? = some C ∧ Below w.heap.size w w0 := by
  subst h
  have e : ((w.alloc A).alloc B).heap.size = w.heap.size + 1 + 1 := by simp
  refine ⟨(heapOld _ _ _ (by simp; omega)).trans (heapNew0 w A B), (heapOld _ _ _ (by simp)).trans (heapNew1 w A B), ?_, (((Below.refl _ _).alloc (Nat.le_refl _) _).alloc (by simp) _).alloc (by simp; omega) _⟩
  rw [← e]; exact heapNew _ _
/-- new integers -/
theorem newInts (W : World) (zs : List Int) (n : Nat) (hn : n = zs.length) (hm : n ≤ maxLen) (hb : ∀ i, i < zs.length → -9223372036854775808 ≤ zs.getD i 0 ∧ zs.getD i 0 ≤ 9223372036854775807) :
    RdInts (W.alloc (.cells (zs.map (Value.int .i64)).toArray 3)) (.slice (some ⟨W.heap.size, 0, none⟩) n n) zs := by
  subst hn
  refine ⟨_, _, rfl, Nat.le_refl _, hm, hb, fun _ => ⟨_, _, rfl, fun i hi => ?_⟩⟩
  rw [Nat.zero_add]
  refine cellAt (heapNew W _) i ?_
  simp [hi]
theorem two_ge (r q : Int) (hr : 0 ≤ r) (hq : 0 ≤ q) : ∀ i, i < [r, q].length → 0 ≤ [r, q].getD i 0 := by
  intro i hi
  have hc : i = 0 ∨ i = 1 := by simp at hi; omega
  rcases hc with rfl | rfl <;> simp <;> omega
theorem two_bd (r q : Int) (hr : 0 ≤ r ∧ r ≤ 65536) (hq : 0 ≤ q ∧ q ≤ 65536) : ∀ i, i < [r, q].length → -9223372036854775808 ≤ [r, q].getD i 0 ∧ [r, q].getD i 0 ≤ 9223372036854775807 := by
  intro i hi
  have hc : i = 0 ∨ i = 1 := by simp at hi; omega
  rcases hc with rfl | rfl <;> simp <;> omega
theorem lt_alloc {w : World} {o : Obj} {k : Nat} (h : k < w.heap.size) : k < (w.alloc o).heap.size := by simp; omega
/-- the cells that a promise reads -/
abbrev SP (w : World) (tb bb : Nat) (v : Value) (s r q : Int) : Prop := w.cell? ⟨tb, 0, none⟩ = some v ∧ w.cell? ⟨tb, 1, none⟩ = some (.int .i64 s) ∧ w.cell? ⟨bb, 0, none⟩ = some (.int .i64 r) ∧ w.cell? ⟨bb, 1, none⟩ = some (.int .i64 q)
theorem SP.stay {w w' : World} {tb bb : Nat} {v : Value} {s r q : Int} (h : SP w tb bb v s r q) (h1 : tb < w.heap.size) (h2 : bb < w.heap.size) (hb : Below w.heap.size w w') : SP w' tb bb v s r q :=
  ⟨(hb.cell (p := ⟨tb, 0, none⟩) h1).trans h.1, (hb.cell (p := ⟨tb, 1, none⟩) h1).trans h.2.1, (hb.cell (p := ⟨bb, 0, none⟩) h2).trans h.2.2.1, (hb.cell (p := ⟨bb, 1, none⟩) h2).trans h.2.2.2⟩
theorem SP.set {w : World} {tb bb rb : Nat} {v v0 v1 : Value} {s r q : Int} (h1 : tb ≠ rb) (h2 : bb ≠ rb) (h : SP w tb bb v s r q) : SP ((w.setCell ⟨rb, 0, none⟩ v0).setCell ⟨rb, 1, none⟩ v1) tb bb v s r q := by
  have e : ∀ b, b ≠ rb → ((w.setCell ⟨rb, 0, none⟩ v0).setCell ⟨rb, 1, none⟩ v1).heap[b]? = w.heap[b]? := fun b hne => (heapSet_ne 1 v1 hne).trans (heapSet_ne 0 v0 hne)
  exact ⟨(World.cell?_of_block (w := w) (e tb h1)).trans h.1, (World.cell?_of_block (w := w) (e tb h1)).trans h.2.1, (World.cell?_of_block (w := w) (e bb h2)).trans h.2.2.1, (World.cell?_of_block (w := w) (e bb h2)).trans h.2.2.2⟩
theorem SP.alloc {w : World} {tb bb : Nat} {v : Value} {s r q : Int} (h : SP w tb bb v s r q) (h1 : tb < w.heap.size) (h2 : bb < w.heap.size) (o : Obj) : SP (w.alloc o) tb bb v s r q := h.stay h1 h2 ((Below.refl _ _).alloc (Nat.le_refl _) o)
theorem SP.drew {w : World} {tb bb : Nat} {v : Value} {s r q : Int} (h : SP w tb bb v s r q) : SP w.drew tb bb v s r q := h
/-- a promise's body -/
def Tp.proB (r n : Int) : List UInt8 := 1 :: flatB [r, n]
theorem proB_len (r n : Int) : (Tp.proB r n).length = 9 := by rw [Tp.proB, List.length_cons, flatB_len]; rfl
theorem votes_nil (w : World) : Votes w (.slice none 0 0) [] := ⟨⟨none, 0, rfl, Nat.le_refl _, Nat.zero_le _, fun h => absurd rfl h⟩, .inl rfl⟩
theorem cmpB_zero {r n : Int} (h : okB (r, n) = true) : 0 ≤ cmpB (r, n) (0, 0) := by
  have : 1 ≤ r := by simp [okB] at h; omega
  have e : cmpI r 0 = 1 := by unfold cmpI; split <;> (try split) <;> omega
  unfold cmpB
  simp only [e]
  simp
set_option maxRecDepth 100000 in
set_option maxHeartbeats 2000000 in
theorem sPromise_ok (v : Value) (l : List UInt8) (s r q : Int) (w : World) (hv : Rd w v l) (h0 : 0 ≤ s) (h1 : s ≤ l.length) (h2 : l.length + 14 ≤ 100000) (hq : okB (r, q) = true) (hk : Kn w) :
    Calls Tryd.prog 9 #[.agg #[v, .int .i64 s], .agg #[.int .i64 r, .int .i64 q]] w (TapePost w (l ++ Tp.frame (Tp.proB r q)) s 0) := by
  obtain ⟨a, c, rfl, hc, hcm⟩ := id hv.slice
  obtain ⟨n, hn⟩ : ∃ n, n = l.length := ⟨_, rfl⟩
  have hrq : (1 ≤ r ∧ r ≤ 65536) ∧ (0 ≤ q ∧ q < 5) := by simp [okB] at hq; omega
  obtain ⟨⟨hr1, hr2⟩, hq1, hq2⟩ := hrq
  have HOPEN := Lib.hid (fun w h => open_ok (.slice a l.length c) l s w h h0 h1 (by omega))
  have HWRITE := Lib.hid (fun vb w h hb hk => write_ok (.slice a l.length c) vb l (Tp.proB r q) s w h hb h0 h1 (by rw [proB_len]; decide) (by rw [proB_len]; omega) hk)
  have HPRO := Lib.hid (fun w => Promise_high 0 0 r q (.slice none 0 0) [] w (votes_nil w) (by decide) hq (by decide) (Lib.hid (cmpB_zero hq)))
  have HFOUR := Lib.hid (fun v w h => fours_any v [r, q] w h (two_ge r q (by omega) hq1) (by show 2 ≤ 100; decide))
  have HNI := Lib.hid (fun W => newInts W [r, q] 2 rfl (by show 2 ≤ maxLen; decide) (two_bd r q (by omega) (by omega)))
  rw [← hn] at hv h1 h2 hc HOPEN HWRITE ⊢
  have HV := Lib.hid hv
  have HN := Lib.hid hn
  have HK := Lib.hid hk
  have B0 := Lib.hid ((((Below.refl w.heap.size w).alloc (Nat.le_refl _) (.cells #[.slice a n c, .int .i64 s] 27)).alloc (by simp) (.cells #[.int .i64 r, .int .i64 q] 24)).alloc (by simp; omega) (.cells #[.slice none 0 0, .int .i64 0] 27))
  clear hv hn hk hc hcm hq
  go_enter Tryd.func9, Tryd.ntmps9
  go_upto_region 1 with fail
  generalize hW : World.alloc _ _ = w1 at B0 ⊢
  obtain ⟨X, Z, Y, _⟩ := alloc3T hW
  have hz1 : w1.heap.size = w.heap.size + 1 + 1 + 1 := by rw [← hW]; simp
  have HZ := Lib.hid hz1
  have c0 := cellAt X 0 rfl
  have c1 := cellAt X 1 rfl
  have e0 := cellAt Z 0 rfl
  have e1 := cellAt Z 1 rfl
  have HV1 := Lib.hid (HV.out.below B0.out HV.out.lt)
  have HX := Lib.hid X
  have HY := Lib.hid Y
  have HZB := Lib.hid Z
  clear hW hz1 X Y Z
  go_upto_region 2 with (go_at_call 20; refine (HOPEN.out _ HV1.out).mono ?_; rintro e w2 ⟨v2, rfl, ho2, hb2⟩; obtain ⟨sa, sc, rfl, _, _⟩ := ho2.rd.sliceN n HN.out.symm; have B2 := Lib.hid hb2; clear ho2 hb2)
  have hb3 : Below w1.heap.size w1 (w2.alloc (.cells #[.slice sa n sc, .int .i64 s] 27)) := B2.out.alloc B2.out.size _
  generalize hW : w2.alloc _ = w3 at hb3 ⊢
  have z3 := (hb3.block _ (lt_of_heap HZB.out)).trans HZB.out
  have e30 := cellAt z3 0 rfl
  have e31 := cellAt z3 1 rfl
  have B3 := Lib.hid hb3
  have Z3 := Lib.hid z3
  clear hW hb3 z3 B2 e0 e1 c0 c1
  go_upto_region 5 with (go_at_call 16; refine (HPRO.out _).mono ?_; rintro e w4 ⟨a1, c1, a2, c2, rfl, ho4, ho5, hb4⟩; have B4 := Lib.hid hb4; clear ho4 ho5 hb4)
  have hb5 : Below w1.heap.size w1 (w4.alloc (.cells #[.int .i64 r, .int .i64 q, .slice a1 0 c1] 45)) := (B3.out.trans (B4.out.mono B3.out.size)).alloc (by have := B3.out.size; have := B4.out.size; omega) _
  obtain ⟨x5, hx5⟩ : ∃ b, b = w4.heap.size := ⟨_, rfl⟩
  rw [← hx5]
  generalize hW : w4.alloc _ = w5 at hb5 ⊢
  have B5 := Lib.hid hb5
  have z5 := (hb5.block _ (lt_of_heap HZB.out)).trans HZB.out
  have x55 := (hb5.block _ (lt_of_heap HX.out)).trans HX.out
  have y5 := (hb5.block _ (lt_of_heap HY.out)).trans HY.out
  have S0 : SP w5 w.heap.size (w.heap.size + 1) (.slice a n c) s r q := ⟨cellAt x55 0 rfl, cellAt x55 1 rfl, cellAt z5 0 rfl, cellAt z5 1 rfl⟩
  have hl1 := lt_of_heap x55
  have hl2 := lt_of_heap z5
  have hl3 := lt_of_heap y5
  have HV5 := Lib.hid (HV1.out.stay hb5)
  have HK5 := Lib.hid ((HK.out.stay B0.out).stay hb5)
  have HY5 := Lib.hid y5
  clear hW hb5 hx5 z5 x55 y5 B3 B4 e30 e31 Z3
  go_upto_region 7 with fail
  have HLEN := Lib.hid (show (l ++ Tp.frame (Tp.proB r q)).length = n + 14 by rw [List.length_append, ← HN.out, Tp.frame, List.length_append, Tp.head, List.length_cons, proB_len, List.length_take, Sha.sum_length]; rfl)
  have NE1 : w.heap.size ≠ w.heap.size + 1 + 1 := by omega
  have NE2 : w.heap.size + 1 ≠ w.heap.size + 1 + 1 := by omega
  have SW := S0
  have SX : SP w5.drew w.heap.size (w.heap.size + 1) (.slice a n c) s r q := S0
  have hd1 : w.heap.size < w5.drew.heap.size := hl1
  have hd2 : w.heap.size + 1 < w5.drew.heap.size := hl2
  unfold SP at S0
  obtain ⟨k0, k1, k2, k3⟩ := S0
  have RA : RdInts ((w5.alloc (.cells #[.int .u8 1] 5)).alloc (.cells #[.int .i64 r, .int .i64 q] 3)).drew (.slice (some ⟨w5.heap.size + 1, 0, none⟩) 2 2) [r, q] := by
    have h := HNI.out (w5.alloc (.cells #[.int .u8 1] 5))
    rw [show (w5.alloc (.cells #[.int .u8 1] 5)).heap.size = w5.heap.size + 1 by simp] at h
    exact h
  have RB : RdInts ((w5.alloc (.cells #[.int .i64 r, .int .i64 q] 3)).alloc (.cells #[.int .u8 1] 5)).drew (.slice (some ⟨w5.heap.size, 0, none⟩) 2 2) [r, q] :=
    (show RdInts ((w5.alloc (.cells #[.int .i64 r, .int .i64 q] 3)).alloc (.cells #[.int .u8 1] 5)) _ _ from (HNI.out w5).stay ((Below.refl _ _).alloc (Nat.le_refl _) _))
  have RC : RdInts (w5.alloc (.cells #[.int .i64 r, .int .i64 q] 3)).drew (.slice (some ⟨w5.heap.size, 0, none⟩) 2 2) [r, q] := HNI.out w5
  have OA : Own ((w5.alloc (.cells #[.int .u8 1] 5)).alloc (.cells #[.int .i64 r, .int .i64 q] 3)).drew w5.heap.size (.slice (some ⟨w5.heap.size, 0, none⟩) 1 1) [1] := (ownNew1 w5 w5.heap.size 1 1 rfl (Nat.le_refl _)).alloc _
  have OB : Own ((w5.alloc (.cells #[.int .i64 r, .int .i64 q] 3)).alloc (.cells #[.int .u8 1] 5)).drew w5.heap.size (.slice (some ⟨w5.heap.size + 1, 0, none⟩) 1 1) [1] := by
    have h := ownNew1 (w5.alloc (.cells #[.int .i64 r, .int .i64 q] 3)) w5.heap.size 1 1 rfl (by simp)
    rw [show (w5.alloc (.cells #[.int .i64 r, .int .i64 q] 3)).heap.size = w5.heap.size + 1 by simp] at h
    exact h
  have BA : Below w5.heap.size w5 ((w5.alloc (.cells #[.int .u8 1] 5)).alloc (.cells #[.int .i64 r, .int .i64 q] 3)).drew := below_drewN (((Below.refl _ _).alloc (Nat.le_refl _) _).alloc (by simp) _) 1
  have BBB : Below w5.heap.size w5 ((w5.alloc (.cells #[.int .i64 r, .int .i64 q] 3)).alloc (.cells #[.int .u8 1] 5)).drew := below_drewN (((Below.refl _ _).alloc (Nat.le_refl _) _).alloc (by simp) _) 1
  have BC : Below w5.heap.size w5 (w5.alloc (.cells #[.int .i64 r, .int .i64 q] 3)).drew := below_drewN ((Below.refl _ _).alloc (Nat.le_refl _) _) 1
  have HFL := Lib.hid (show ([1] : List UInt8).length + (flatB [r, q]).length ≤ 140737488355328 by rw [flatB_len]; simp)
  have HRA := Lib.hid RA
  have HRB := Lib.hid RB
  have HRC := Lib.hid RC
  have HOA := Lib.hid OA
  have HOB := Lib.hid OB
  have HBA := Lib.hid BA
  have HBB := Lib.hid BBB
  have HBC := Lib.hid BC
  clear RA RB RC OA OB BA BBB BC
  go_region_held3 (fun w' => w'.cell? ⟨w.heap.size, 0, none⟩ = some (.slice a n c) ∧ w'.cell? ⟨w.heap.size, 1, none⟩ = some (.int .i64 s) ∧ w'.cell? ⟨w.heap.size + 1, 0, none⟩ = some (.int .i64 r) ∧ w'.cell? ⟨w.heap.size + 1, 1, none⟩ = some (.int .i64 q)) (first | with_reducible exact SX | with_reducible exact SP.drew (SW.alloc hl1 hl2 _) | with_reducible exact SP.drew ((SW.alloc hl1 hl2 _).alloc (lt_alloc hl1) (lt_alloc hl2) _) | with_reducible exact S2 | with_reducible exact S2.alloc hv1 hv2 _ | with_reducible exact S3 | with_reducible exact S4 | with_reducible exact S4.set NE1 NE2) (first
    | (go_at_call 22; (with_reducible refine (HFOUR.out _ _ HRA.out).mono ?_); rintro e v2 ⟨vf, rfl, hof, hb2⟩; have hb6 : Below w5.heap.size w5 v2 := HBA.out.trans (hb2.mono HBA.out.size); have S2 := SW.stay hl1 hl2 hb6; have hv1 := Nat.lt_of_lt_of_le hl1 hb6.size; have hv2 := Nat.lt_of_lt_of_le hl2 hb6.size; have O1 := Lib.hid (HOA.out.below hb2 (fun k hk => (HOA.out.lt k hk).2)); have OF := Lib.hid hof; have B6 := Lib.hid hb6; clear hof hb2 hb6)
    | (go_at_call 22; (with_reducible refine (HFOUR.out _ _ HRB.out).mono ?_); rintro e v2 ⟨vf, rfl, hof, hb2⟩; have hb6 : Below w5.heap.size w5 v2 := HBB.out.trans (hb2.mono HBB.out.size); have S2 := SW.stay hl1 hl2 hb6; have hv1 := Nat.lt_of_lt_of_le hl1 hb6.size; have hv2 := Nat.lt_of_lt_of_le hl2 hb6.size; have O1 := Lib.hid (HOB.out.below hb2 (fun k hk => (HOB.out.lt k hk).2)); have OF := Lib.hid hof; have B6 := Lib.hid hb6; clear hof hb2 hb6)
    | (go_at_call 22; (with_reducible refine (HFOUR.out _ _ HRC.out).mono ?_); rintro e v2 ⟨vf, rfl, hof, hb2⟩; have hb6 : Below w5.heap.size w5 v2 := HBC.out.trans (hb2.mono HBC.out.size); have S2 := SW.stay hl1 hl2 hb6; have hv1 := Nat.lt_of_lt_of_le hl1 hb6.size; have hv2 := Nat.lt_of_lt_of_le hl2 hb6.size; have OF := Lib.hid hof; have B6 := Lib.hid hb6; clear hof hb2 hb6)
    | (refine step_apB rfl (.tmp 31) (.tmp 37) rfl w5.heap.size _ _ [1] (flatB [r, q]) rfl O1.out rfl OF.out.rd HFL.out B6.out.size ?_; intro v9 w9 ho9 hg9; have hk9 := Kept.of_grown (B := w5.heap.size) (S := fun _ => False) hg9 B6.out.size (fun k hk => .inl (O1.out.lt k hk).1); have hb9 : Below w5.heap.size w5 w9 := B6.out.trans (hk9.below (fun _ _ h => h)); have S3 := SW.stay hl1 hl2 hb9; obtain ⟨ga, gc, hv9, _, _, _, _⟩ := ho9.shape (by intro h; cases h); have O9 := Lib.hid ho9; have B9 := Lib.hid hb9; have hnl : ([1] ++ flatB [r, q]).length = 9 := (by simp [flatB_len]); rw [hnl] at hv9; subst hv9; clear ho9 hg9 hk9 hb9 hnl)
    | (refine step_apB rfl (.tmp 31) (.tmp 37) rfl w5.heap.size _ _ [1] (flatB [r, q]) rfl (ownNew1 v2 w5.heap.size 1 1 rfl B6.out.size) rfl (OF.out.rd.alloc _) HFL.out (B6.out.alloc B6.out.size _).size ?_; intro v9 w9 ho9 hg9; have hk9 := Kept.of_grown (B := w5.heap.size) (S := fun _ => False) hg9 (B6.out.alloc B6.out.size _).size (fun k hk => .inl ((ownNew1 v2 w5.heap.size 1 1 rfl B6.out.size).lt k hk).1); have hb9 : Below w5.heap.size w5 w9 := (B6.out.alloc B6.out.size _).trans (hk9.below (fun _ _ h => h)); have S3 := SW.stay hl1 hl2 hb9; obtain ⟨ga, gc, hv9, _, _, _, _⟩ := ho9.shape (by intro h; cases h); have O9 := Lib.hid ho9; have B9 := Lib.hid hb9; have hnl : ([1] ++ flatB [r, q]).length = 9 := (by simp [flatB_len]); rw [hnl] at hv9; subst hv9; clear ho9 hg9 hk9 hb9 hnl)
    | (go_at_call 21; refine (HWRITE.out _ _ (HV5.out.stay B9.out) O9.out.rd (HK5.out.stay B9.out)).mono ?_; rintro e wA ⟨vA, rfl, hoA, hbA⟩; obtain ⟨ta, tc, rfl, _, _⟩ := hoA.rd.sliceN (n + 14) HLEN.out; have hbB : Below w5.heap.size w5 wA := B9.out.trans (hbA.mono B9.out.size); have S4 := SW.stay hl1 hl2 hbB; have yA := (hbB.block (w.heap.size + 1 + 1) hl3).trans HY5.out; have cy0 := cellAt yA 0 rfl; have cy1 := cellAt yA 1 rfl; have fy := freeAt yA; have OA' := Lib.hid (hoA.mono (base' := w5.heap.size) B9.out.size); have YA := Lib.hid yA; have BA' := Lib.hid hbB; clear hoA hbA hbB yA))
  all_goals
    go_wp2_with fail
    have z4 := heapSet (o := 1) (heapSet (o := 0) YA.out (.slice ta (n + 14) tc)) (.int .i64 s)
    have B4 := Lib.hid (show Below w.heap.size w ((wA.setCell ⟨w.heap.size + 1 + 1, 0, none⟩ (.slice ta (n + 14) tc)).setCell ⟨w.heap.size + 1 + 1, 1, none⟩ (.int .i64 s)) from (((B0.out.trans (B5.out.mono B0.out.size)).trans (BA'.out.mono (B0.out.trans (B5.out.mono B0.out.size)).size)).setCell (by show w.heap.size ≤ w.heap.size + 1 + 1; omega) _).setCell (by show w.heap.size ≤ w.heap.size + 1 + 1; omega) _)
    have o4 := (OA'.out.mono (base' := w.heap.size) (B0.out.trans (B5.out.mono B0.out.size)).size).ofHeapK (w' := (wA.setCell ⟨w.heap.size + 1 + 1, 0, none⟩ (.slice ta (n + 14) tc)).setCell ⟨w.heap.size + 1 + 1, 1, none⟩ (.int .i64 s)) (fun k hk => by
      have h4 := (OA'.out.lt k hk).1
      exact (heapSet_ne 1 _ (by omega)).trans (heapSet_ne 0 _ (by omega)))
    generalize hW : World.setCell _ _ _ = wZ at z4 B4 o4 ⊢
    have hl := run_loadVar_mid (P := Tryd.prog) wZ (w.heap.size + 1 + 1) 0 27 [.slice ta (n + 14) tc, .int .i64 s] _ (range_of z4) Tryd.underlying27 rfl tapeSz
    exact bodyPost_ret (v := .tuple #[.agg #[.slice ta (n + 14) tc, .int .i64 s], .int .i64 0]) (results_ct Tryd.results9 rfl hl) rfl ⟨_, rfl, o4, B4.out⟩
end Go.Proofs.YtdkbajdnckmckaaDoor
