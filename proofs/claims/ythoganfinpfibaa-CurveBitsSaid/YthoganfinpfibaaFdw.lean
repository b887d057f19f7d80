/-
  The walk of curve's write.
-/
import Derived.Test.YthoganfinpfibaaFde
import Derived.Test.YthoganfinpfibaaFilled
set_option linter.unusedVariables false
set_option linter.unusedSimpArgs false
namespace Go.Con.Cv
def lessN (v : Int) : Nat → Int
  | 0 => v
  | k + 1 => less (lessN v k)
theorem redB {s : List Int} (h : Red s) : ∀ j, -1000000000000000 ≤ at0 s j ∧ at0 s j ≤ 1000000000000000 := fun j => by have := h.2 j; omega
theorem normB {s : List Int} (h : Norm s) : ∀ j, -1000000000000000 ≤ at0 s j ∧ at0 s j ≤ 1000000000000000 := redB h.red
theorem normC {s : List Int} (h : Norm s) : ∀ j, -1000000000 ≤ at0 s j ∧ at0 s j ≤ 1000000000 := fun j => by have := h.red.2 j; omega
/-- what the three carries of 'write' make -/
theorem three (s : List Int) (h : Red s) : (ck s 16).length = 16 ∧ (∀ j, -1000000000000000 ≤ at0 (ck s 16) j ∧ at0 (ck s 16) j ≤ 1000000000000000) ∧ (ck (ck s 16) 16).length = 16 ∧ (∀ j, -1000000000000000 ≤ at0 (ck (ck s 16) 16) j ∧ at0 (ck (ck s 16) 16) j ≤ 1000000000000000) := by
  have b : ∀ t : List Int, t.length = 16 → (∀ j, -200000000000000 ≤ at0 t j ∧ at0 t j ≤ 200000000000000) → (ck t 16).length = 16 ∧ ∀ j, -200000000000000 ≤ at0 (ck t 16) j ∧ at0 (ck t 16) j ≤ 200000000000000 := fun s hs h => by
    obtain ⟨c, h1⟩ := carried s 200000000000000 hs (by decide) h
    have hv := val_le s (-200000000000000) 200000000000000 (by decide) (by decide) h 16
    rw [List.take_of_length_le (by omega)] at hv
    have h2 := h1.lo
    have h3 := h1.hi
    have h4 := h1.low
    rw [pw16] at hv h2 h3
    refine ⟨h1.len, fun j => ?_⟩
    by_cases hj : j = 0
    · subst hj; omega
    · by_cases hj2 : j < 16
      · have := h1.dig j (by omega) hj2; omega
      · rw [at_out _ _ (by rw [h1.len]; omega)]; omega
  obtain ⟨a1, a2⟩ := b s h.1 (fun j => by have := h.2 j; omega)
  obtain ⟨a3, a4⟩ := b _ a1 a2
  exact ⟨a1, fun j => by have := a2 j; omega, a3, fun j => by have := a4 j; omega⟩
theorem bytes_take (s : List Int) (k : Nat) (hk : k < s.length) : bytes (s.take (k + 1)) = bytes (s.take k) ++ two (at0 s k) := by
  have e : s.take (k + 1) = s.take k ++ [at0 s k] := by
    rw [List.take_succ_eq_append_getElem hk]; simp [at0, hk]
  rw [e, bytes_append]; simp [bytes]
end Go.Con.Cv
namespace Go.Proofs.Ythoganfinpfibaa
open Go.RowKit Go.Con
/-- a limb's two bytes, new -/
theorem newTwo (W : World) (n : Int) (h0 : 0 ≤ n) (h1 : n < 65536) : Rd (W.alloc (.cells #[.int .u8 (n % 256), .int .u8 (n / 256)] 5)) (.slice (some ⟨W.heap.size, 0, none⟩) 2 2) (Cv.two n) := by
  have e1 : n % 256 = ((UInt8.ofNat (n % 256).toNat).toNat : Int) := by rw [UInt8.toNat_ofNat']; omega
  have e2 : n / 256 = ((UInt8.ofNat (n / 256 % 256).toNat).toNat : Int) := by rw [UInt8.toNat_ofNat']; omega
  have h := Rd.newRow W (Cv.two n) 2 rfl (by simp [maxLen, Cv.two])
  unfold Cv.two at h ⊢
  simp only [List.map_cons, List.map_nil, u8v] at h
  rw [← e1, ← e2] at h
  exact h
set_option maxRecDepth 100000 in
set_option maxHeartbeats 4000000 in
theorem write_any (xs : List Int) (v : Int) (w : World) (hx : Cv.Red xs) (hv : Cv.Cg (Cv.val xs) v) :
    Calls Try.prog 24 #[.agg (xs.map i64v).toArray] w (FreshB w (Cv.out32 (v % Cv.P))) := by
  obtain ⟨X, hX⟩ : ∃ X, X = (xs.map i64v).toArray := ⟨_, rfl⟩
  rw [← hX]
  have L0 := Lib.hid (show Lim (w.alloc (.cells X 39)) w.heap.size 39 xs by rw [hX]; exact heapNew _ _)
  obtain ⟨n1, n2⟩ := Cv.thrice xs hx
  obtain ⟨b1, b2, b3, b4⟩ := Cv.three xs hx
  have N1 := Lib.hid n1
  have N2 := Lib.hid (n2.trans hv).eq
  have B1 := Lib.hid (And.intro hx.1 (Cv.redB hx))
  have B2 := Lib.hid (And.intro b1 b2)
  have B3 := Lib.hid (And.intro b3 b4)
  have W0 := Lib.hid ((Below.refl w.heap.size w).alloc (Nat.le_refl _) (.cells X 39))
  clear hX hx hv n1 n2 b1 b2 b3 b4
  go_enter Try.func24, Try.ntmps24
  go_wp2_with fail
  refine (carry_any _ _ xs _ B1.out.1 B1.out.2 L0.out).mono ?_
  rintro e w1 ⟨rfl, hw1, hk1⟩
  have L1 := Lib.hid hw1
  have W1 := Lib.hid (W0.out.trans ((hk1.mono (B' := w.heap.size) (S' := fun _ => False) W0.out.size (fun k hk e => by omega)).below (fun _ _ h => h)))
  clear hw1 hk1
  go_wp2_with fail
  refine (carry_any _ _ _ _ B2.out.1 B2.out.2 L1.out).mono ?_
  rintro e w2 ⟨rfl, hw2, hk2⟩
  have L2 := Lib.hid hw2
  have W2 := Lib.hid (W1.out.trans ((hk2.mono (B' := w.heap.size) (S' := fun _ => False) W1.out.size (fun k hk e => by omega)).below (fun _ _ h => h)))
  clear hw2 hk2
  go_wp2_with fail
  refine (carry_any _ _ _ _ B3.out.1 B3.out.2 L2.out).mono ?_
  rintro e w3 ⟨rfl, hw3, hk3⟩
  have W3 := Lib.hid (W2.out.trans ((hk3.mono (B' := w.heap.size) (S' := fun _ => False) W2.out.size (fun k hk e => by omega)).below (fun _ _ h => h)))
  obtain ⟨s, hs⟩ : ∃ s, s = Cv.ck (Cv.ck (Cv.ck xs 16) 16) 16 := ⟨_, rfl⟩
  rw [← hs] at hw3 N1 N2
  have L3 := Lib.hid hw3
  clear hw3 hk3 hs L0 L1 L2 W0 W1 W2 B1 B2 B3
  go_wp2_with fail
  go_loopw [12] (fun i wr => ∃ (k : Nat) (q : List Int), k ≤ 2 ∧ i = .int .i64 k ∧ Hid (Cv.Norm q ∧ Cv.val q = Cv.lessN (Cv.val s) k) ∧ Hid (Lim wr w.heap.size 39 q) ∧ Hid (Below w.heap.size w wr)) (fun i _ => 2 - (intOf i).toNat)
  case atStart => exact ⟨0, s, by omega, rfl, Lib.hid ⟨N1.out, rfl⟩, L3, W3⟩
  case round =>
    clear L3 W3
    obtain ⟨k, x, hk, rfl, HN, HL, HB⟩ := hrel
    by_cases hlt : k < 2
    · have hd0 : decide ((k : Int) < 2) = true := by rw [decide_eq_true_eq]; omega
      have hrg := range_of HL.out
      have SZ := Lib.hid (szOf HN.out.1.1)
      have hlw := lt_of_heap HL.out
      have x0 : 0 ≤ Cv.at0 x 0 ∧ Cv.at0 x 0 < 65536 := HN.out.1.2 0 (by omega)
      obtain ⟨z0, hz0⟩ : ∃ z, z = Cv.at0 x 0 := ⟨_, rfl⟩
      rw [← hz0] at x0
      have ST := Lib.hid (Cv.SubI.start HN.out.1)
      rw [← hz0] at ST
      have HZ0 := Lib.hid hz0
      clear hz0
      go_upto_region 7 with (first
        | (refine wpList_load_mid rfl 39 (.tmp 1) rfl w.heap.size 0 rfl (x.map i64v) _ hrg Try.underlying39 rfl SZ.out ?_)
        | (refine wpList_store_mid rfl 39 (.tmp 3) (.tmp 14) rfl wr.heap.size 0 (x.map i64v).toArray rfl rfl (thOf HN.out.1.1 ⟨_, heapNew _ _, rfl⟩) (szOf2 HN.out.1.1) (limOne x) ?_))
      generalize hW : World.setCells _ _ _ _ = w4
      obtain ⟨yb, hyb⟩ : ∃ b, b = wr.heap.size := ⟨_, rfl⟩
      have hy4 : Lim w4 yb 39 x := by rw [← hW, hyb]; exact Lim.stored (by rw [HN.out.1.1]; exact ⟨_, heapNew _ _, rfl⟩)
      have hx4 : Lim w4 w.heap.size 39 x := by rw [← hW]; exact Lim.sets (HL.out.stay ((Below.refl _ _).alloc (Nat.le_refl _) _)) (by omega)
      have hb4 : Below w.heap.size w w4 := by rw [← hW]; exact below_setCells (by omega) _ _ _ (HB.out.alloc (by omega) _)
      rw [← hyb]
      have hyw : w.heap.size < yb := by omega
      have hne : ¬ w.heap.size = yb := by omega
      have hne2 : ¬ yb = w.heap.size := by omega
      have c1 := hy4.cell 0 (by rw [HN.out.1.1]; omega)
      rw [← HZ0.out] at c1
      have f1 := freeAt hy4 0
      obtain ⟨x01, x02⟩ := x0
      have Y4 := Lib.hid hy4
      have X4 := Lib.hid hx4
      have B4 := Lib.hid hb4
      clear hW hyb hy4 hx4 hb4 hrg
      go_wp2_with fail
      generalize hW5 : World.setCell _ _ _ = w5
      have Y5 := Lib.hid (show Lim w5 yb 39 (x.set 0 (z0 - 65517)) by rw [← hW5]; exact Lim.set Y4.out 0 _)
      have X5 := Lib.hid (show Lim w5 w.heap.size 39 x by rw [← hW5]; exact Lim.other X4.out _ _ _ hne)
      have B5 := Lib.hid (show Below w.heap.size w w5 by rw [← hW5]; exact B4.out.setCell (by show w.heap.size ≤ yb; omega) _)
      clear hW5 c1 f1 Y4 X4 B4
      go_loopw [4] (fun i wr => ∃ (j : Nat) (q : List Int), 1 ≤ j ∧ j ≤ 16 ∧ i = .int .i64 j ∧ Hid (Cv.SubI x q j) ∧ Hid (Lim wr yb 39 q) ∧ Hid (Lim wr w.heap.size 39 x) ∧ Hid (Below w.heap.size w wr)) (fun i _ => 16 - (intOf i).toNat)
      case atStart => exact ⟨1, _, by omega, by omega, rfl, ST, Y5, X5, B5⟩
      case round =>
        clear Y5 X5 B5 ST HB HL
        obtain ⟨j, q, hj1, hj16, rfl, HS, HY, HX, HB⟩ := hrel
        by_cases hj : j < 16
        · have hdj : decide ((j : Int) < 16) = true := by rw [decide_eq_true_eq]; omega
          obtain ⟨p, hp⟩ : ∃ p : Nat, (j : Int) - 1 = p := ⟨j - 1, by omega⟩
          have hpj : j - 1 = p := by omega
          obtain ⟨xj, hxj⟩ : ∃ z, z = Cv.at0 x j := ⟨_, rfl⟩
          obtain ⟨z, hz⟩ : ∃ z, z = Cv.at0 q p := ⟨_, rfl⟩
          have hxb := HN.out.1.2 j hj
          have hzb := HS.out.last
          rw [← hxj] at hxb
          rw [hpj, ← hz] at hzb
          obtain ⟨hx1, hx2⟩ := hxb
          obtain ⟨hz1, hz2⟩ := hzb
          have c1 := HY.out.cell j (by rw [HS.out.len]; omega)
          rw [HS.out.rest j (Nat.le_refl _), ← hxj] at c1
          have f1 := freeAt HY.out j
          have hdd : (z / 65536) % 2 = (if Cv.at0 q (j - 1) < 0 then 1 else 0) := by
            rw [hpj, ← hz]; split <;> omega
          have hpjn : p ≠ j := by omega
          have hql := HS.out.len
          by_cases h15 : j = 15
          · have he15 : ((j : Int) == 15) = true := by rw [beq_iff_eq]; omega
            have st := HS.out.step HN.out.1 hj1 hj 32767 ((z / 65536) % 2) (by rw [h15]; rfl) hdd
            rw [hpj, ← hz, ← hxj, ← mask16, ← mask1] at st
            have STP := Lib.hid st
            have HP := Lib.hid hp
            clear hxj st hdd hpj h15
            go_wp2_with fail
            generalize hW6 : World.setCell _ _ _ = w6
            have hy6 : Lim w6 yb 39 (q.set j (xj - 32767)) := by
              have h := Lim.set (Lim.set HY.out j (xj - 65535)) j (xj - 32767)
              rw [List.set_set] at h
              rw [← hW6, show xj - 65535 + 32768 = xj - 32767 by omega]; exact h
            have X6 := Lib.hid (show Lim w6 w.heap.size 39 x by rw [← hW6]; exact Lim.other (Lim.other HX.out _ _ _ hne) _ _ _ hne)
            have B6 := Lib.hid (show Below w.heap.size w w6 by rw [← hW6]; exact (HB.out.setCell (by show w.heap.size ≤ yb; omega) _).setCell (by show w.heap.size ≤ yb; omega) _)
            have d1 := hy6.cell j (by rw [List.length_set]; omega)
            rw [Cv.at_set _ _ _ _ (by omega), if_pos rfl] at d1
            have d2 := hy6.cell p (by rw [List.length_set]; omega)
            rw [Cv.at_set _ _ _ _ (by omega), if_neg (fun e => hpjn e.symm), ← hz] at d2
            have g1 := freeAt hy6 j
            have Y6 := Lib.hid hy6
            have HZZ := Lib.hid hz
            have bb1 : 0 ≤ bits .and .i64 (z / 65536) 1 := by rw [mask1]; omega
            have bb2 : bits .and .i64 (z / 65536) 1 ≤ 1 := by rw [mask1]; omega
            clear hW6 c1 f1 hy6 hz
            refine region_quiet_tail 11 (by kernel_rfl) (by kernel_rfl) ?_
            simp only [List.take_succ_cons, List.take_zero, List.drop_succ_cons, List.drop_zero]
            repeat (go_big_quiet_step (fail))
            refine wpQuiet_nil ?_
            intro w9 hw9
            obtain ⟨nq, rfl⟩ := hw9
            go_upto_region 15 with fail
            generalize hW7 : World.setCell _ _ _ = w7
            have hy7 : Lim w7 yb 39 (q.set j (xj - 32767 - bits .and .i64 (z / 65536) 1)) := by
              have h := Lim.set (w := w6.drewN nq) Y6.out j (xj - 32767 - bits .and .i64 (z / 65536) 1)
              rw [List.set_set] at h
              rw [← hW7]; exact h
            have X7 := Lib.hid (show Lim w7 w.heap.size 39 x by rw [← hW7]; exact Lim.other (w := w6.drewN nq) X6.out _ _ _ hne)
            have B7 := Lib.hid (show Below w.heap.size w w7 by rw [← hW7]; exact (below_drewN B6.out nq).setCell (by show w.heap.size ≤ yb; omega) _)
            have d3 := hy7.cell p (by rw [List.length_set]; omega)
            rw [Cv.at_set _ _ _ _ (by omega), if_neg (fun e => hpjn e.symm), ← HZZ.out] at d3
            have g3 := freeAt hy7 p
            have Y7 := Lib.hid hy7
            clear hW7 d1 d2 g1 hy7 bb1 bb2
            have hpi := HP.out
            go_wp2_with fail
            go_roundw
            case rel => exact ⟨j + 1, _, by omega, by omega, by go_num, STP, Lib.hid (Lim.set Y7.out p _), Lib.hid (Lim.other X7.out _ _ _ hne), Lib.hid (B7.out.setCell (by show w.heap.size ≤ yb; omega) _)⟩
            case measure => simp [intOf]; omega
          · have he15 : ((j : Int) == 15) = false := by rw [beq_eq_false_iff_ne]; omega
            have st := HS.out.step HN.out.1 hj1 hj 65535 ((z / 65536) % 2) (by rw [Cv.PL_get j hj1 hj, if_neg h15]) hdd
            rw [hpj, ← hz, ← hxj, ← mask16, ← mask1] at st
            have STP := Lib.hid st
            have HP := Lib.hid hp
            clear hxj st hdd hpj h15
            go_wp2_with fail
            generalize hW6 : World.setCell _ _ _ = w6
            have hy6 : Lim w6 yb 39 (q.set j (xj - 65535)) := by rw [← hW6]; exact Lim.set HY.out j _
            have X6 := Lib.hid (show Lim w6 w.heap.size 39 x by rw [← hW6]; exact Lim.other HX.out _ _ _ hne)
            have B6 := Lib.hid (show Below w.heap.size w w6 by rw [← hW6]; exact HB.out.setCell (by show w.heap.size ≤ yb; omega) _)
            have d1 := hy6.cell j (by rw [List.length_set]; omega)
            rw [Cv.at_set _ _ _ _ (by omega), if_pos rfl] at d1
            have d2 := hy6.cell p (by rw [List.length_set]; omega)
            rw [Cv.at_set _ _ _ _ (by omega), if_neg (fun e => hpjn e.symm), ← hz] at d2
            have g1 := freeAt hy6 j
            have Y6 := Lib.hid hy6
            have HZZ := Lib.hid hz
            have bb1 : 0 ≤ bits .and .i64 (z / 65536) 1 := by rw [mask1]; omega
            have bb2 : bits .and .i64 (z / 65536) 1 ≤ 1 := by rw [mask1]; omega
            clear hW6 c1 f1 hy6 hz
            refine region_quiet_tail 11 (by kernel_rfl) (by kernel_rfl) ?_
            simp only [List.take_succ_cons, List.take_zero, List.drop_succ_cons, List.drop_zero]
            repeat (go_big_quiet_step (fail))
            refine wpQuiet_nil ?_
            intro w9 hw9
            obtain ⟨nq, rfl⟩ := hw9
            go_upto_region 15 with fail
            generalize hW7 : World.setCell _ _ _ = w7
            have hy7 : Lim w7 yb 39 (q.set j (xj - 65535 - bits .and .i64 (z / 65536) 1)) := by
              have h := Lim.set (w := w6.drewN nq) Y6.out j (xj - 65535 - bits .and .i64 (z / 65536) 1)
              rw [List.set_set] at h
              rw [← hW7]; exact h
            have X7 := Lib.hid (show Lim w7 w.heap.size 39 x by rw [← hW7]; exact Lim.other (w := w6.drewN nq) X6.out _ _ _ hne)
            have B7 := Lib.hid (show Below w.heap.size w w7 by rw [← hW7]; exact (below_drewN B6.out nq).setCell (by show w.heap.size ≤ yb; omega) _)
            have d3 := hy7.cell p (by rw [List.length_set]; omega)
            rw [Cv.at_set _ _ _ _ (by omega), if_neg (fun e => hpjn e.symm), ← HZZ.out] at d3
            have g3 := freeAt hy7 p
            have Y7 := Lib.hid hy7
            clear hW7 d1 d2 g1 hy7 bb1 bb2
            have hpi := HP.out
            go_wp2_with fail
            go_roundw
            case rel => exact ⟨j + 1, _, by omega, by omega, by go_num, STP, Lib.hid (Lim.set Y7.out p _), Lib.hid (Lim.other X7.out _ _ _ hne), Lib.hid (B7.out.setCell (by show w.heap.size ≤ yb; omega) _)⟩
            case measure => simp [intOf]; omega
        · have hdj : decide ((j : Int) < 16) = false := by rw [decide_eq_false_iff_not]; omega
          have hj16' : j = 16 := by omega
          rw [hj16'] at HS
          obtain ⟨z, hz⟩ : ∃ z, z = Cv.at0 q 15 := ⟨_, rfl⟩
          have hzb := HS.out.last
          rw [show 16 - 1 = 15 from rfl, ← hz] at hzb
          obtain ⟨hz1, hz2⟩ := hzb
          have hdn := HS.out.done ((z / 65536) % 2) (by rw [← hz]; split <;> omega)
          rw [← hz] at hdn
          have hdn2 := hdn.resolve_right (fun h => h HN.out.1.1)
          rw [← mask16, ← mask1] at hdn2
          have bb1 : 0 ≤ bits .and .i64 (z / 65536) 1 := by rw [mask1]; omega
          have bb2 : bits .and .i64 (z / 65536) 1 ≤ 1 := by rw [mask1]; omega
          have hrd := Cv.sub_round HN.out.1 hdn2.1 (by omega) hdn2.2
          obtain ⟨B, hBe⟩ : ∃ B, B = bits .and .i64 (z / 65536) 1 := ⟨_, rfl⟩
          obtain ⟨f, hf⟩ : ∃ f, f = q.set 15 (bits .and .i64 z 65535) := ⟨_, rfl⟩
          rw [← hBe] at hrd bb1 bb2
          rw [← hf] at hrd hdn2
          have HRD := Lib.hid hrd
          have HF := Lib.hid hdn2.1
          have HFE := Lib.hid hf
          have HBE := Lib.hid hBe
          have c1 := HY.out.cell 15 (by rw [HS.out.len]; omega)
          rw [← hz] at c1
          have f1 := freeAt HY.out 15
          have BB1 := Lib.hid (And.intro bb1 bb2)
          have bb1' : 0 ≤ bits .and .i64 (z / 65536) 1 := by rw [mask1]; omega
          have bb2' : bits .and .i64 (z / 65536) 1 ≤ 1 := by rw [mask1]; omega
          clear hj16' hz hdn hdn2 hrd hBe hf bb1 bb2
          go_wp2_with fail
          rw [← HBE.out]
          have hlf := Lim.set HY.out 15 (bits .and .i64 z 65535)
          rw [← HFE.out] at hlf
          refine (swap_any w.heap.size yb _ x f (1 - B) _ hne (by have := BB1.out; omega) HN.out.1.1 HF.out.1 (Cv.normC HN.out.1) (Cv.normC HF.out) (Lim.other HX.out _ _ _ hne) hlf).mono ?_
          rintro e w8 ⟨rfl, hx8, hy8, hk8⟩
          have key : Cv.Norm (sel (1 - B) f x) ∧ Cv.val (sel (1 - B) f x) = Cv.lessN (Cv.val s) (k + 1) := by
            rw [Cv.lessN, ← HN.out.2]
            unfold sel
            have hb := BB1.out
            by_cases h0 : B = 0
            · rw [if_pos (by omega)]; exact ⟨HF.out, (HRD.out.2 h0).symm⟩
            · rw [if_neg (by omega)]; exact ⟨HN.out.1, (HRD.out.1 (by omega)).2.symm⟩
          have KEY := Lib.hid key
          have X8 := Lib.hid hx8
          have B8 := Lib.hid ((HB.out.setCell (p := ⟨yb, 15, none⟩) (by show w.heap.size ≤ yb; omega) (.int .i64 (bits .and .i64 z 65535))).trans ((hk8.mono (B' := w.heap.size) (S' := fun _ => False) (by have := HB.out.size; simpa using this) (fun k hk e => by omega)).below (fun _ _ h => h)))
          clear hlf hx8 hy8 hk8 key c1 f1 bb1' bb2'
          go_wp2_with fail
          go_roundw
          case rel => exact ⟨k + 1, _, by omega, by go_num, KEY, X8, B8⟩
          case measure => simp [intOf]; omega
    · have hd0 : decide ((k : Int) < 2) = false := by rw [decide_eq_false_iff_not]; omega
      have hk2 : k = 2 := by omega
      rw [hk2] at HN
      have hvx : Cv.val x = v % Cv.P := by
        have h1 := N1.out.bd
        rw [HN.out.2]
        show Cv.less (Cv.less (Cv.val s)) = _
        rw [Cv.less_twice _ h1.1 h1.2, N2.out]
      have hfin : Cv.bytes (x.take 16) = Cv.out32 (v % Cv.P) := by
        rw [List.take_of_length_le (by rw [HN.out.1.1]; omega), Cv.out32, ← hvx, HN.out.1.limbs]
      have FIN := Lib.hid hfin
      have hrg := range_of HL.out
      have SZ := Lib.hid (szOf HN.out.1.1)
      have HIX := Lib.hid (fun k hk W => index16 x HN.out.1.1 k hk W)
      clear hk2 hvx hfin
      go_wp2_with (refine wpList_load_mid rfl 39 (.tmp 1) rfl w.heap.size 0 rfl (x.map i64v) _ hrg Try.underlying39 rfl SZ.out ?_)
      clear hrg
      go_loopw [65, 6] (fun i u wr => ∃ k : Nat, k ≤ 16 ∧ i = .int .i64 k ∧ Hid (Own wr w.heap.size u (Cv.bytes (x.take k))) ∧ Hid (Below w.heap.size w wr)) (fun i _ _ => 16 - (intOf i).toNat)
      case atStart => exact ⟨0, by omega, rfl, Lib.hid (Own.nil _ _), HB⟩
      case round =>
        clear HB
        obtain ⟨j, hj16, rfl, HO, HB⟩ := hrel
        by_cases hj : j < 16
        · have hdj : decide ((j : Int) < 16) = true := by rw [decide_eq_true_eq]; omega
          have hix := HIX.out j hj
          obtain ⟨n, hn⟩ : ∃ n, n = Cv.at0 x j := ⟨_, rfl⟩
          have hnb := HN.out.1.2 j hj
          rw [← hn] at hix hnb
          obtain ⟨hn1, hn2⟩ := hnb
          have hbt := Cv.bytes_take x j (by rw [HN.out.1.1]; exact hj)
          rw [← hn] at hbt
          have BT := Lib.hid hbt
          have N2' := Lib.hid (fun W => newTwo W n hn1 hn2)
          have hlen : (Cv.bytes (x.take j)).length ≤ 32 := by rw [Cv.bytes_length, List.length_take]; omega
          have HLEN := Lib.hid hlen
          clear hn hbt hlen
          go_wp2_with (at_builtin; refine apB rfl (.tmp 68) (.tmp 74) rfl w.heap.size _ _ _ (Cv.two n) rfl (HO.out.alloc _) rfl (N2'.out _) (by have := HLEN.out; simp [Cv.two]; omega) (by have := HB.out.size; simp; omega) ?_; intro v3 w3 hown3 hg3; have HO3 := Lib.hid hown3; have HG3 := Lib.hid hg3; clear hown3 hg3)
          go_roundw
          case rel => exact ⟨j + 1, by omega, by go_num, Lib.hid (by rw [BT.out]; exact HO3.out), Lib.hid ((HB.out.alloc HB.out.size _).grown HG3.out (by have := HB.out.size; simp; omega) (fun k hk => (HO.out.lt k hk).1))⟩
          case measure => simp [intOf]; omega
        · have hdj : decide ((j : Int) < 16) = false := by rw [decide_eq_false_iff_not]; omega
          have hj2 : j = 16 := by omega
          rw [hj2, FIN.out] at HO
          clear hj2
          go_wp2_with fail
          go_ret
          exact ⟨_, rfl, HO.out, HB.out⟩
end Go.Proofs.Ythoganfinpfibaa
