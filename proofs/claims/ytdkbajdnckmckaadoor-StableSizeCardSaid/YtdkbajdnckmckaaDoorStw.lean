/-
  The walk of stable.write.
-/
import Derived.Test.YtdkbajdnckmckaaDoorSt4
import Derived.Test.YtdkbajdnckmckaaDoorShaM
set_option linter.unusedVariables false
set_option linter.unusedSimpArgs false
namespace Go.Con.Tp
/-- a record on a tape -/
def head (b : List UInt8) : List UInt8 := UInt8.ofNat b.length :: b
def frame (b : List UInt8) : List UInt8 := head b ++ (Sha.sum (head b)).take 4
end Go.Con.Tp
namespace Go.Proofs.YtdkbajdnckmckaaDoor
open Go.RowKit Go.Con
/-- a tape, or why not -/
def TapePost (w : World) (l : List UInt8) (s c : Int) (e : Ending) (w' : World) : Prop :=
  ∃ v', e = .returned (.tuple #[.agg #[v', .int .i64 s], .int .i64 c]) ∧ Own w' w.heap.size v' l ∧ Below w.heap.size w w'
theorem newOne (W : World) (n : Nat) (hn : n < 256) : Rd (W.alloc (.cells #[.int .u8 (n : Int)] 5)) (.slice (some ⟨W.heap.size, 0, none⟩) 1 1) [UInt8.ofNat n] := by
  have h := Rd.newRow W [UInt8.ofNat n] 1 rfl (by show 1 ≤ maxLen; decide)
  have e : [UInt8.ofNat n].map u8v = [.int .u8 (n : Int)] := by simp [u8v, UInt8.toNat_ofNat']; omega
  rw [e] at h; exact h
theorem newOneOwn (W : World) (n : Nat) (hn : n < 256) : Own (W.alloc (.cells #[.int .u8 (n : Int)] 5)) W.heap.size (.slice (some ⟨W.heap.size, 0, none⟩) 1 1) [UInt8.ofNat n] := by
  have h := ownNew W W.heap.size [UInt8.ofNat n] 1 rfl (Nat.le_refl _) (by show 1 ≤ maxLen; decide)
  have e : [UInt8.ofNat n].map u8v = [.int .u8 (n : Int)] := by simp [u8v, UInt8.toNat_ofNat']; omega
  rw [e] at h; exact h
set_option maxRecDepth 100000 in
set_option maxHeartbeats 2000000 in
theorem write_ok (v vb : Value) (l b : List UInt8) (s : Int) (w : World) (hv : Rd w v l) (hb : Rd w vb b) (h0 : 0 ≤ s) (h1 : s ≤ l.length) (hbl : b.length ≤ 200) (h2 : l.length + b.length + 5 ≤ 100000) (hk : Kn w) :
    Calls Tryd.prog 21 #[.agg #[v, .int .i64 s], vb] w (TapePost w (l ++ Tp.frame b) s 0) := by
  obtain ⟨a, c, rfl, hc, hcm⟩ := id hv.slice
  obtain ⟨a2, c2, rfl, hc2, hcm2⟩ := id hb.slice
  obtain ⟨n, hn⟩ : ∃ n, n = l.length := ⟨_, rfl⟩
  obtain ⟨m, hm⟩ : ∃ m, m = b.length := ⟨_, rfl⟩
  have HOPEN := Lib.hid (fun w h => open_ok (.slice a l.length c) l s w h h0 h1 (by omega))
  rw [← hn] at hv h1 h2 hc HOPEN ⊢
  rw [← hm] at hb hbl h2 hc2 ⊢
  have HV := Lib.hid hv
  have HBB := Lib.hid hb
  have HN := Lib.hid hn
  have HM := Lib.hid hm
  have HK := Lib.hid hk
  have B0 := Lib.hid (((Below.refl w.heap.size w).alloc (Nat.le_refl _) (.cells #[.slice a n c, .int .i64 s] 27)).alloc (by simp) (.cells #[.slice none 0 0, .int .i64 0] 27))
  clear hv hb hn hm hk hc hcm hc2 hcm2
  go_enter Tryd.func21, Tryd.ntmps21
  go_upto_region 1 with fail
  generalize hW : World.alloc _ _ = w1 at B0 ⊢
  have X : w1.heap[w.heap.size]? = some (.cells #[.slice a n c, .int .i64 s] 27 (0, 0)) := by rw [← hW]; exact heapNew0 w _ _
  have Y : w1.heap[w.heap.size + 1]? = some (.cells #[.slice none 0 0, .int .i64 0] 27 (0, 0)) := by rw [← hW]; exact heapNew1 w _ _
  have hz1 : w1.heap.size = w.heap.size + 1 + 1 := by rw [← hW]; simp
  have HZ := Lib.hid hz1
  have c0 := cellAt X 0 rfl
  have c1 := cellAt X 1 rfl
  have HV1 := Lib.hid (HV.out.below B0.out HV.out.lt)
  have HY := Lib.hid Y
  clear hW hz1 X Y
  go_upto_region 2 with (go_at_call 20; refine (HOPEN.out _ HV1.out).mono ?_; rintro e w2 ⟨v2, rfl, ho2, hb2⟩; obtain ⟨sa, sc, rfl, _, _⟩ := ho2.rd.sliceN n HN.out.symm; have O2 := Lib.hid ho2; have B2 := Lib.hid hb2; clear ho2 hb2)
  have X6 := heapNew w2 (.cells #[.slice sa n sc, .int .i64 s] 27)
  have hb3 : Below w1.heap.size w1 (w2.alloc (.cells #[.slice sa n sc, .int .i64 s] 27)) := B2.out.alloc B2.out.size _
  have o3 := O2.out.alloc (.cells #[.slice sa n sc, .int .i64 s] 27)
  obtain ⟨xb, hxb⟩ : ∃ b, b = w2.heap.size := ⟨_, rfl⟩
  have hx1 : w1.heap.size ≤ xb := by have := B2.out.size; omega
  have hsa : ∀ k, (Value.slice sa n sc).ownBlock = some k → w1.heap.size ≤ k ∧ k < xb := fun k hk => by have := O2.out.lt k hk; omega
  rw [← hxb] at X6 ⊢
  generalize hW : w2.alloc _ = w3 at X6 hb3 o3 ⊢
  have HX6 := Lib.hid X6
  have B3 := Lib.hid hb3
  have O3 := Lib.hid o3
  have HSA := Lib.hid hsa
  have HBB3 := Lib.hid ((HBB.out.below B0.out HBB.out.lt).stay hb3)
  have HK3 := Lib.hid ((HK.out.stay B0.out).stay hb3)
  clear hW hxb X6 hb3 o3 hsa B2 O2 HBB HK
  have hone := newOneOwn w3 m (by omega)
  have HONE := Lib.hid hone
  clear hone
  go_upto_region 5 with (at_builtin; refine apB rfl (.tmp 22) (.tmp 23) rfl w3.heap.size _ _ [UInt8.ofNat m] b rfl HONE.out rfl (HBB3.out.alloc _) (by rw [← HM.out]; simp; omega) (by simp) ?_; intro v4 w4 ho4 hg4; have O4 := Lib.hid ho4; have G4 := Lib.hid hg4; clear ho4 hg4)
  have hb4 : Below w3.heap.size w3 w4 := ((Below.refl _ _).alloc (Nat.le_refl _) _).grown G4.out (by simp) (fun k hk => by injection hk with hk; subst hk; exact Nat.le_refl _)
  obtain ⟨H, hH⟩ : ∃ H, H = Tp.head b := ⟨_, rfl⟩
  have hHe : [UInt8.ofNat m] ++ b = H := by rw [hH, Tp.head, HM.out]; rfl
  have hHl : H.length = m + 1 := by rw [hH, Tp.head, List.length_cons, HM.out]
  have ho4 := O4.out
  rw [hHe] at ho4
  have HHL := Lib.hid hHl
  have HH := Lib.hid hH
  obtain ⟨g4, k4, hv4, hgb4, hgl4, hgc4, hgm4⟩ := ho4.shape (by intro h; rw [h] at hHl; cases hHl)
  rw [hHl] at hv4 hgc4
  subst hv4
  have O4h := Lib.hid ho4
  have B4 := Lib.hid hb4
  have HK4 := Lib.hid (HK3.out.stay hb4)
  clear hb4 hH hHe hHl ho4 O4 G4 HONE
  go_wp2_with fail
  refine (Sum_ok _ H w4 O4h.out.rd (by rw [HHL.out]; omega) HK4.out).mono ?_
  rintro e w5 ⟨v5, rfl, ho5, hb5⟩
  obtain ⟨S, hS⟩ : ∃ S, S = Sha.sum H := ⟨_, rfl⟩
  rw [← hS] at ho5
  have hSl : S.length = 32 := by rw [hS]; exact Sha.sum_length _
  obtain ⟨g5, k5, hv5, hgb5, hgl5, hgc5, hgm5⟩ := ho5.shape (by intro h; rw [h] at hSl; cases hSl)
  rw [hSl] at hv5 hgc5
  subst hv5
  have hk54 : (4 : Int) ≤ (k5 : Int) := by omega
  have hr5 := ho5.rd.pre 4 (by rw [hSl]; decide)
  have HR5 := Lib.hid hr5
  have O5h := Lib.hid (O4h.out.below hb5 (fun k hk => (O4h.out.lt k hk).2))
  have B5 := Lib.hid (B4.out.trans (hb5.mono B4.out.size))
  have HSS := Lib.hid hS
  have HSL := Lib.hid hSl
  clear ho5 hb5 hr5 hS hSl O4h
  go_upto_region 7 with (at_builtin; refine apB rfl (.tmp 30) (.tmp 32) rfl w3.heap.size _ _ H (S.take 4) rfl O5h.out rfl HR5.out (by rw [HHL.out, List.length_take, HSL.out]; omega) B5.out.size ?_; intro v6 w6 ho6 hg6; have O6 := Lib.hid ho6; have G6 := Lib.hid hg6; clear ho6 hg6)
  have hfe : H ++ S.take 4 = Tp.frame b := by rw [HH.out, HSS.out, HH.out]; rfl
  have ho6 := O6.out
  rw [hfe] at ho6
  have hfl : (Tp.frame b).length = m + 5 := by rw [← hfe, List.length_append, HHL.out, List.length_take, HSL.out]; omega
  have HFL := Lib.hid hfl
  obtain ⟨g6, k6, hv6, hgb6, hgl6, hgc6, hgm6⟩ := ho6.shape (by intro h; rw [h] at hfl; cases hfl)
  rw [hfl] at hv6 hgc6
  subst hv6
  have B6 := Lib.hid (B5.out.grown G6.out B5.out.size (fun k hk => (O5h.out.lt k hk).1))
  have hx6 := (B6.out.block xb (lt_of_heap HX6.out)).trans HX6.out
  have cx0 := cellAt hx6 0 rfl
  have cx1 := cellAt hx6 1 rfl
  have fx := freeAt hx6
  have O6h := Lib.hid ho6
  have hle : (n : Int) + ((m : Int) + 5) ≤ 100000 := by omega
  have hle2 : decide ((100000 : Int) < (n : Int) + ((m : Int) + 5)) = false := by rw [decide_eq_false_iff_not]; omega
  have o6 := O3.out.below B6.out (fun k hk => (O3.out.lt k hk).2)
  have O3h := Lib.hid o6
  have HX66 := Lib.hid hx6
  have hxl3 := lt_of_heap HX6.out
  have HNE := Lib.hid (show ∀ k, k < w3.heap.size → k ≠ g6 from fun k hk => by omega)
  clear hfe ho6 hfl hx6 o6 O6 G6 O5h HR5 HX6 O3
  go_upto_region 9 with fail
  have hlz : (l ++ Tp.frame b).length = n + (m + 5) := by rw [List.length_append, HFL.out, HN.out]
  have HLZ := Lib.hid hlz
  clear hlz
  go_upto_region 10 with (at_builtin; refine apBw rfl (.tmp 43) (.tmp 44) rfl w1.heap.size _ _ l (Tp.frame b) rfl O3h.out rfl O6h.out.rd (by rw [HFL.out, ← HN.out]; omega) (by have := B3.out.size; have := B6.out.size; omega) ?_; intro v7 w7 ho7 hg7 hw7; obtain ⟨g7, k7, hv7, hgb7, hgl7, hgc7, hgm7⟩ := ho7.shape (by intro h; have := HLZ.out; rw [h] at this; simp at this); rw [HLZ.out] at hv7; subst hv7; have hk7 := Kept.of_grown (B := w6.heap.size) (S := fun k => (Value.slice sa n sc).ownBlock = some k) hg7 (Nat.le_refl _) (fun k hk => .inr hk); have x7 := (hk7.block xb (lt_of_heap HX66.out) (fun e => by have := HSA.out xb e; omega)).trans HX66.out; have cy0 := cellAt x7 0 rfl; have cy1 := cellAt x7 1 rfl; have fy := freeAt x7; have O7 := Lib.hid ho7; have G7 := Lib.hid hg7; have W7 := Lib.hid hw7; have HX7 := Lib.hid x7; clear ho7 hg7 x7 hw7)
  have B7 := Lib.hid ((B3.out.trans (B6.out.mono B3.out.size)).grown G7.out (by have := B3.out.size; have := B6.out.size; omega) (fun k hk => (HSA.out k hk).1))
  have x8 := heapSet (o := 0) HX7.out (.slice (some ⟨g7, 0, none⟩) (n + (m + 5)) k7)
  have b8 := B7.out.setCell (p := ⟨xb, 0, none⟩) hx1 (.slice (some ⟨g7, 0, none⟩) (n + (m + 5)) k7)
  have hg7x : w1.heap.size ≤ g7 ∧ g7 ≠ xb := by
    have hx := lt_of_heap HX66.out
    rcases W7.out with h | h
    · have e : (Value.slice sa n sc).ownBlock = some g7 := h.symm
      have := HSA.out g7 e
      omega
    · have e : g7 = w6.heap.size := Option.some.inj h
      have := B6.out.size
      have := B3.out.size
      omega
  have o8 := O7.out.ofHeapK (w' := w7.setCell ⟨xb, 0, none⟩ (.slice (some ⟨g7, 0, none⟩) (n + (m + 5)) k7)) (fun k hk => heapSet_ne 0 _ (by have e : g7 = k := Option.some.inj hk; omega))
  generalize hW8 : w7.setCell ⟨xb, 0, none⟩ (.slice (some ⟨g7, 0, none⟩) (n + (m + 5)) k7) = w8 at x8 b8 o8 ⊢
  have x8' : w8.heap[xb]? = some (.cells #[.slice (some ⟨g7, 0, none⟩) (n + (m + 5)) k7, .int .i64 s] 27 (0, 0)) := x8
  have cz0 := cellAt x8' 0 rfl
  have cz1 := cellAt x8' 1 rfl
  have y8 := (b8.block (w.heap.size + 1) (lt_of_heap HY.out)).trans HY.out
  have cy0 := cellAt y8 0 rfl
  have cy1 := cellAt y8 1 rfl
  have fy := freeAt y8
  have HY8 := Lib.hid y8
  have B8 := Lib.hid b8
  have O8 := Lib.hid o8
  clear hW8 x8 x8' b8 o8 y8 O7 G7 W7 HX7 B7
  go_wp2_with fail
  have z9 := heapSet (o := 1) (heapSet (o := 0) HY8.out (.slice (some ⟨g7, 0, none⟩) (n + (m + 5)) k7)) (.int .i64 s)
  have B9 := Lib.hid (((B0.out.trans (B8.out.mono B0.out.size)).setCell (p := ⟨w.heap.size + 1, 0, none⟩) (by show w.heap.size ≤ w.heap.size + 1; omega) (.slice (some ⟨g7, 0, none⟩) (n + (m + 5)) k7)).setCell (p := ⟨w.heap.size + 1, 1, none⟩) (by show w.heap.size ≤ w.heap.size + 1; omega) (.int .i64 s))
  have o9 := (O8.out.mono (base' := w.heap.size) B0.out.size).ofHeapK (w' := (w8.setCell ⟨w.heap.size + 1, 0, none⟩ (.slice (some ⟨g7, 0, none⟩) (n + (m + 5)) k7)).setCell ⟨w.heap.size + 1, 1, none⟩ (.int .i64 s)) (fun k hk => by
    have e : g7 = k := Option.some.inj hk
    exact (heapSet_ne 1 _ (by have := HZ.out; omega)).trans (heapSet_ne 0 _ (by have := HZ.out; omega)))
  generalize hW : World.setCell _ _ _ = w9 at z9 B9 o9 ⊢
  have hl := run_loadVar_mid (P := Tryd.prog) w9 (w.heap.size + 1) 0 27 [.slice (some ⟨g7, 0, none⟩) (n + (m + 5)) k7, .int .i64 s] _ (range_of z9) Tryd.underlying27 rfl tapeSz
  exact bodyPost_ret (v := .tuple #[.agg #[.slice (some ⟨g7, 0, none⟩) (n + (m + 5)) k7, .int .i64 s], .int .i64 0]) (results_ct Tryd.results21 rfl hl) rfl ⟨_, rfl, o9, B9.out⟩
end Go.Proofs.YtdkbajdnckmckaaDoor
