/-
  The walk of line.Take.
-/
import Derived.Test.YtoekopdogfnkhaaLiS
import Derived.Test.YtoekopdogfnkhaaSeaO
import Derived.Test.YtoekopdogfnkhaaB64
import Derived.Deep.RegionHeld3
set_option linter.unusedVariables false
set_option linter.unusedSimpArgs false
namespace Go.Con
/-- the number that four bytes tell -/
def beN (l : List UInt8) : Nat := (l.getD 0 0).toNat * 16777216 + (l.getD 1 0).toNat * 65536 + (l.getD 2 0).toNat * 256 + (l.getD 3 0).toNat
theorem beN_four (n : Nat) (hn : n ≤ 1073741824) : beN (Go.Proofs.Ytoekopdogfnkhaa.fourN n) = n := by
  simp only [beN, Go.Proofs.Ytoekopdogfnkhaa.fourN, List.getD_cons_zero, List.getD_cons_succ, UInt8.toNat_ofNat']
  omega
theorem beN_lt (l : List UInt8) : beN l < 4294967296 := by
  have h0 := (l.getD 0 0).toNat_lt
  have h1 := (l.getD 1 0).toNat_lt
  have h2 := (l.getD 2 0).toNat_lt
  have h3 := (l.getD 3 0).toNat_lt
  unfold beN; omega
theorem four_beN (l : List UInt8) (hl : l.length = 4) : Go.Proofs.Ytoekopdogfnkhaa.fourN (beN l) = l := by
  match l, hl with
  | [a, b, c, d], _ =>
    have h0 := a.toNat_lt
    have h1 := b.toNat_lt
    have h2 := c.toNat_lt
    have h3 := d.toNat_lt
    simp only [beN, Go.Proofs.Ytoekopdogfnkhaa.fourN, List.getD_cons_zero, List.getD_cons_succ]
    congr 1
    · apply UInt8.toNat_inj.1; rw [UInt8.toNat_ofNat']; omega
    · congr 1
      · apply UInt8.toNat_inj.1; rw [UInt8.toNat_ofNat']; omega
      · congr 1
        · apply UInt8.toNat_inj.1; rw [UInt8.toNat_ofNat']; omega
        · congr 1
          apply UInt8.toNat_inj.1; rw [UInt8.toNat_ofNat']; omega
end Go.Con
namespace Go.Proofs.Ytoekopdogfnkhaa
open Go.RowKit Go.Con
/-- what taking leaves -/
def TakePost (w : World) (key : List UInt8) (s : Nat) (T : Nat) (g : Nat → Bool) (p : List UInt8) (e : Ending) (w' : World) : Prop :=
  ∃ kv pv, e = .returned (.tuple #[.agg (chanC kv (s : Nat) T g).toArray, pv, .int .i64 0]) ∧ Own w' w.heap.size kv key ∧ Own w' w.heap.size pv p ∧ Below w.heap.size w w'
set_option maxRecDepth 100000 in
set_option maxHeartbeats 4000000 in
theorem Take_range (a : Addr) (c : Nat) (rv : Value) (key r : List UInt8) (s t q : Nat) (f : Nat → Bool) (w : World) (hv : Rd w (.slice (some a) 32 c) key) (hr : Rd w rv r) (hkl : key.length = 32) (hrl : r.length = q + 20) (hq : q ≤ 2000) (hs : s ≤ 1073741824) (ht : t ≤ 1073741824) (hf : SeenOk t f) (hnn : 1073741824 ≤ beN (r.take 4)) :
    Calls Try.prog 10 #[.agg #[.slice (some a) 32 c, .int .i64 s, .int .i64 t, .bool (f 0), .bool (f 1), .bool (f 2), .bool (f 3), .bool (f 4), .bool (f 5), .bool (f 6), .bool (f 7)], rv] w fun e w' => e = .returned (.tuple #[.agg #[.slice none 0 0, .int .i64 0, .int .i64 0, .bool false, .bool false, .bool false, .bool false, .bool false, .bool false, .bool false, .bool false], .slice none 0 0, .int .i64 2]) ∧ Below w.heap.size w w' := by
  obtain ⟨m, hm⟩ : ∃ m, q + 20 = m := ⟨_, rfl⟩
  obtain ⟨H, hH⟩ : ∃ H, H = r.take 4 := ⟨_, rfl⟩
  obtain ⟨N, hN⟩ : ∃ N, N = nonceN H := ⟨_, rfl⟩
  obtain ⟨D, hD⟩ : ∃ D, D = r.drop 4 := ⟨_, rfl⟩
  have hHl : H.length = 4 := by rw [hH, List.length_take, hrl]; omega
  have hNl : N.length = 12 := by rw [hN, nonceN, List.length_append, hHl]; rfl
  have hDl : D.length = q + 16 := by rw [hD, List.length_drop, hrl]; omega
  obtain ⟨rb, ro, rc, rfl, hrc, hrcm⟩ := hr.shapeN m (by omega) (by omega)
  have hrh := hr.pre 4 (by omega)
  rw [← hH] at hrh
  have hrh4 : Rd w (.slice (some ⟨rb, ro, none⟩) 4 4) H := by
    obtain ⟨a', c', e, h1, h2, h3, h4⟩ := hrh
    injection e with e1 e2 e3
    subst e1
    exact ⟨_, 4, by rw [hHl], by omega, by decide, (fun h => by cases h), h4⟩
  have hrd := hr.tail 4 (q + 16) (by omega) (by omega)
  rw [← hD] at hrd
  obtain ⟨n, hn⟩ : ∃ n, n = beN H := ⟨_, rfl⟩
  have hnb : n < 4294967296 := by rw [hn]; exact beN_lt _
  have hnr : decide ((1073741824 : Int) ≤ (n : Int)) = true := by rw [← hH, ← hn] at hnn; rw [decide_eq_true_eq]; omega
  have hck := fun w => lineCheck_ok (some a) c s t f w hs ht hf
  have HCK := Lib.hid hck
  have hnon := fun v w h => lineNonce_any v H w h hHl
  rw [← hN] at hnon
  have x0 := cellOf hrh4 0 (by rw [hHl]; decide)
  have x1 := cellOf hrh4 1 (by rw [hHl]; decide)
  have x2 := cellOf hrh4 2 (by rw [hHl]; decide)
  have x3 := cellOf hrh4 3 (by rw [hHl]; decide)
  obtain ⟨h0, hh0⟩ : ∃ h, h = H.getD 0 0 := ⟨_, rfl⟩
  obtain ⟨h1, hh1⟩ : ∃ h, h = H.getD 1 0 := ⟨_, rfl⟩
  obtain ⟨h2, hh2⟩ : ∃ h, h = H.getD 2 0 := ⟨_, rfl⟩
  obtain ⟨h3, hh3⟩ : ∃ h, h = H.getD 3 0 := ⟨_, rfl⟩
  have hnv : n = h0.toNat * 16777216 + h1.toNat * 65536 + h2.toNat * 256 + h3.toNat := by rw [hn, beN, hh0, hh1, hh2, hh3]
  rw [← hh0] at x0
  rw [← hh1] at x1
  rw [← hh2] at x2
  rw [← hh3] at x3
  have HXS := Lib.hid (And.intro x0 (And.intro x1 (And.intro x2 x3)))
  obtain ⟨f0, hf0⟩ : ∃ b, b = f 0 := ⟨_, rfl⟩
  obtain ⟨f1, hf1⟩ : ∃ b, b = f 1 := ⟨_, rfl⟩
  obtain ⟨f2, hf2⟩ : ∃ b, b = f 2 := ⟨_, rfl⟩
  obtain ⟨f3, hf3⟩ : ∃ b, b = f 3 := ⟨_, rfl⟩
  obtain ⟨f4, hf4⟩ : ∃ b, b = f 4 := ⟨_, rfl⟩
  obtain ⟨f5, hf5⟩ : ∃ b, b = f 5 := ⟨_, rfl⟩
  obtain ⟨f6, hf6⟩ : ∃ b, b = f 6 := ⟨_, rfl⟩
  obtain ⟨f7, hf7⟩ : ∃ b, b = f 7 := ⟨_, rfl⟩
  rw [← hf0, ← hf1, ← hf2, ← hf3, ← hf4, ← hf5, ← hf6, ← hf7] at HCK ⊢
  have HV := Lib.hid hv
  have HKL := Lib.hid hkl
  have HRH := Lib.hid hrh4
  have HRD := Lib.hid hrd
  have HNON := Lib.hid hnon
  have HHL := Lib.hid hHl
  have HDL := Lib.hid hDl
  have HNV := Lib.hid hnv
  have d2020 : decide ((2020 : Int) < (m : Int)) = false := by rw [decide_eq_false_iff_not]; omega
  have d20 : decide ((m : Int) < 20) = false := by rw [decide_eq_false_iff_not]; omega
  have hrc4 : (4 : Int) ≤ (rc : Int) := by omega
  have hrcm4 : (m : Int) ≤ (rc : Int) := by omega
  have hrc5 : ¬ (rc = 4) := by omega
  have hm4 : m - 4 = q + 16 := by omega
  have hm4' : (4 : Int) ≤ (m : Int) := by omega
  clear hv hr hkl hrl hck hH hN hD hHl hNl hDl hrh hrh4 hrd hnon hn hnv hm hf hf0 hf1 hf2 hf3 hf4 hf5 hf6 hf7 hh0 hh1 hh2 hh3 x0 x1 x2 x3 hnn
  go_enter Try.func10, Try.ntmps10
  go_wp2_with fail
  refine (HCK.out _).mono ?_
  rintro e w1 ⟨rfl, hb1⟩
  have x1 := (hb1.block w.heap.size (by simp; omega)).trans (heapNew0 w (.cells #[.slice (some a) 32 c, .int .i64 s, .int .i64 t, .bool f0, .bool f1, .bool f2, .bool f3, .bool f4, .bool f5, .bool f6, .bool f7] 28) _)
  have y1 := (hb1.block (w.heap.size + 1) (by simp)).trans (heapNew1 w _ (.cells #[.slice none 0 0, .int .i64 0, .int .i64 0, .bool false, .bool false, .bool false, .bool false, .bool false, .bool false, .bool false, .bool false] 28))
  have b1 := (((Below.refl w.heap.size w).alloc (Nat.le_refl _) _).alloc (by simp) _).trans (hb1.mono (by simp; omega))
  have z1 := lt_of_heap y1
  have X1 := Lib.hid x1
  have Y1 := Lib.hid y1
  have B1 := Lib.hid b1
  have u0 := (b1.cell (p := ⟨rb, ro + 0, none⟩) (World.block_lt_of_cell? w _ HXS.out.1)).trans HXS.out.1
  have u1 := (b1.cell (p := ⟨rb, ro + 1, none⟩) (World.block_lt_of_cell? w _ HXS.out.2.1)).trans HXS.out.2.1
  have u2 := (b1.cell (p := ⟨rb, ro + 2, none⟩) (World.block_lt_of_cell? w _ HXS.out.2.2.1)).trans HXS.out.2.2.1
  have u3 := (b1.cell (p := ⟨rb, ro + 3, none⟩) (World.block_lt_of_cell? w _ HXS.out.2.2.2)).trans HXS.out.2.2.2
  rw [Nat.add_zero] at u0
  clear hb1 x1 y1 b1
  go_wp2_with fail
  go_quiet (fail)
  clear u0 u1 u2 u3
  rw [four64, ← HNV.out]
  have x2 : (w1.drewN nq).heap[w.heap.size]? = some (.cells #[.slice (some a) 32 c, .int .i64 s, .int .i64 t, .bool f0, .bool f1, .bool f2, .bool f3, .bool f4, .bool f5, .bool f6, .bool f7] 28 (0, 0)) := X1.out
  have y2 : (w1.drewN nq).heap[w.heap.size + 1]? = some (.cells #[.slice none 0 0, .int .i64 0, .int .i64 0, .bool false, .bool false, .bool false, .bool false, .bool false, .bool false, .bool false, .bool false] 28 (0, 0)) := Y1.out
  have b2 : Below w.heap.size w (w1.drewN nq) := below_drewN B1.out nq
  generalize hW2 : w1.drewN nq = w2 at x2 y2 b2 ⊢
  have X2 := Lib.hid x2
  have Y2 := Lib.hid y2
  have B2 := Lib.hid b2
  have hrg2 := range_of (cs := [.slice (some a) 32 c, .int .i64 s, .int .i64 t, .bool f0, .bool f1, .bool f2, .bool f3, .bool f4, .bool f5, .bool f6, .bool f7]) x2
  clear x2 y2 b2 hW2
  go_wp2_with (refine wpList_store_mid rfl 28 (.tmp 4) (.tmp 56) rfl (w.heap.size + 1) 0 #[.slice none 0 0, .int .i64 0, .int .i64 0, .bool false, .bool false, .bool false, .bool false, .bool false, .bool false, .bool false, .bool false] rfl rfl (there_of Y2.out rfl) chanSz (chanOne' _ _ _ _ _ _ _ _ _ _ _ rfl) ?_)
  have hst := storedRow (vs := [.slice none 0 0, .int .i64 0, .int .i64 0, .bool false, .bool false, .bool false, .bool false, .bool false, .bool false, .bool false, .bool false]) Y2.out rfl
  have hl := run_loadVar_mid (P := Try.prog) _ (w.heap.size + 1) 0 28 _ _ (range_of hst) Try.underlying28 rfl chanSz
  exact bodyPost_ret (v := .tuple #[.agg #[.slice none 0 0, .int .i64 0, .int .i64 0, .bool false, .bool false, .bool false, .bool false, .bool false, .bool false, .bool false, .bool false], .slice none 0 0, .int .i64 2]) (results_ctt Try.results10 rfl hl) rfl ⟨rfl, below_setCells (by omega) _ _ _ B2.out⟩
set_option maxRecDepth 100000 in
set_option maxHeartbeats 4000000 in
theorem Take_old (a : Addr) (c : Nat) (rv : Value) (key r : List UInt8) (s t q : Nat) (f : Nat → Bool) (w : World) (hv : Rd w (.slice (some a) 32 c) key) (hr : Rd w rv r) (hkl : key.length = 32) (hrl : r.length = q + 20) (hq : q ≤ 2000) (hs : s ≤ 1073741824) (ht : t ≤ 1073741824) (hf : SeenOk t f) (hnn : beN (r.take 4) < 1073741824) (hmt : metB t (beN (r.take 4)) f = true) :
    Calls Try.prog 10 #[.agg #[.slice (some a) 32 c, .int .i64 s, .int .i64 t, .bool (f 0), .bool (f 1), .bool (f 2), .bool (f 3), .bool (f 4), .bool (f 5), .bool (f 6), .bool (f 7)], rv] w fun e w' => e = .returned (.tuple #[.agg #[.slice none 0 0, .int .i64 0, .int .i64 0, .bool false, .bool false, .bool false, .bool false, .bool false, .bool false, .bool false, .bool false], .slice none 0 0, .int .i64 7]) ∧ Below w.heap.size w w' := by
  obtain ⟨m, hm⟩ : ∃ m, q + 20 = m := ⟨_, rfl⟩
  obtain ⟨H, hH⟩ : ∃ H, H = r.take 4 := ⟨_, rfl⟩
  obtain ⟨N, hN⟩ : ∃ N, N = nonceN H := ⟨_, rfl⟩
  obtain ⟨D, hD⟩ : ∃ D, D = r.drop 4 := ⟨_, rfl⟩
  have hHl : H.length = 4 := by rw [hH, List.length_take, hrl]; omega
  have hNl : N.length = 12 := by rw [hN, nonceN, List.length_append, hHl]; rfl
  have hDl : D.length = q + 16 := by rw [hD, List.length_drop, hrl]; omega
  obtain ⟨rb, ro, rc, rfl, hrc, hrcm⟩ := hr.shapeN m (by omega) (by omega)
  have hrh := hr.pre 4 (by omega)
  rw [← hH] at hrh
  have hrh4 : Rd w (.slice (some ⟨rb, ro, none⟩) 4 4) H := by
    obtain ⟨a', c', e, h1, h2, h3, h4⟩ := hrh
    injection e with e1 e2 e3
    subst e1
    exact ⟨_, 4, by rw [hHl], by omega, by decide, (fun h => by cases h), h4⟩
  have hrd := hr.tail 4 (q + 16) (by omega) (by omega)
  rw [← hD] at hrd
  obtain ⟨n, hn⟩ : ∃ n, n = beN H := ⟨_, rfl⟩
  have hnb : n < 4294967296 := by rw [hn]; exact beN_lt _
  have hnr : decide ((1073741824 : Int) ≤ (n : Int)) = false := by rw [← hH, ← hn] at hnn; rw [decide_eq_false_iff_not]; omega
  have hnn2 : n < 1073741824 := by rw [← hH, ← hn] at hnn; exact hnn
  have hmet := fun w => lineMet_any (.slice (some a) 32 c) s t n f w rfl ht (by omega)
  rw [show metB t n f = true by rw [hn, hH]; exact hmt] at hmet
  have HMET := Lib.hid hmet
  have hck := fun w => lineCheck_ok (some a) c s t f w hs ht hf
  have HCK := Lib.hid hck
  have hnon := fun v w h => lineNonce_any v H w h hHl
  rw [← hN] at hnon
  have x0 := cellOf hrh4 0 (by rw [hHl]; decide)
  have x1 := cellOf hrh4 1 (by rw [hHl]; decide)
  have x2 := cellOf hrh4 2 (by rw [hHl]; decide)
  have x3 := cellOf hrh4 3 (by rw [hHl]; decide)
  obtain ⟨h0, hh0⟩ : ∃ h, h = H.getD 0 0 := ⟨_, rfl⟩
  obtain ⟨h1, hh1⟩ : ∃ h, h = H.getD 1 0 := ⟨_, rfl⟩
  obtain ⟨h2, hh2⟩ : ∃ h, h = H.getD 2 0 := ⟨_, rfl⟩
  obtain ⟨h3, hh3⟩ : ∃ h, h = H.getD 3 0 := ⟨_, rfl⟩
  have hnv : n = h0.toNat * 16777216 + h1.toNat * 65536 + h2.toNat * 256 + h3.toNat := by rw [hn, beN, hh0, hh1, hh2, hh3]
  rw [← hh0] at x0
  rw [← hh1] at x1
  rw [← hh2] at x2
  rw [← hh3] at x3
  have HXS := Lib.hid (And.intro x0 (And.intro x1 (And.intro x2 x3)))
  obtain ⟨f0, hf0⟩ : ∃ b, b = f 0 := ⟨_, rfl⟩
  obtain ⟨f1, hf1⟩ : ∃ b, b = f 1 := ⟨_, rfl⟩
  obtain ⟨f2, hf2⟩ : ∃ b, b = f 2 := ⟨_, rfl⟩
  obtain ⟨f3, hf3⟩ : ∃ b, b = f 3 := ⟨_, rfl⟩
  obtain ⟨f4, hf4⟩ : ∃ b, b = f 4 := ⟨_, rfl⟩
  obtain ⟨f5, hf5⟩ : ∃ b, b = f 5 := ⟨_, rfl⟩
  obtain ⟨f6, hf6⟩ : ∃ b, b = f 6 := ⟨_, rfl⟩
  obtain ⟨f7, hf7⟩ : ∃ b, b = f 7 := ⟨_, rfl⟩
  rw [← hf0, ← hf1, ← hf2, ← hf3, ← hf4, ← hf5, ← hf6, ← hf7] at HCK HMET ⊢
  have HV := Lib.hid hv
  have HKL := Lib.hid hkl
  have HRH := Lib.hid hrh4
  have HRD := Lib.hid hrd
  have HNON := Lib.hid hnon
  have HHL := Lib.hid hHl
  have HDL := Lib.hid hDl
  have HNV := Lib.hid hnv
  have d2020 : decide ((2020 : Int) < (m : Int)) = false := by rw [decide_eq_false_iff_not]; omega
  have d20 : decide ((m : Int) < 20) = false := by rw [decide_eq_false_iff_not]; omega
  have hrc4 : (4 : Int) ≤ (rc : Int) := by omega
  have hrcm4 : (m : Int) ≤ (rc : Int) := by omega
  have hrc5 : ¬ (rc = 4) := by omega
  have hm4 : m - 4 = q + 16 := by omega
  have hm4' : (4 : Int) ≤ (m : Int) := by omega
  clear hv hr hkl hrl hck hH hN hD hHl hNl hDl hrh hrh4 hrd hnon hn hnv hm hf hf0 hf1 hf2 hf3 hf4 hf5 hf6 hf7 hh0 hh1 hh2 hh3 x0 x1 x2 x3 hnn hmt hmet
  go_enter Try.func10, Try.ntmps10
  go_wp2_with fail
  refine (HCK.out _).mono ?_
  rintro e w1 ⟨rfl, hb1⟩
  have x1 := (hb1.block w.heap.size (by simp; omega)).trans (heapNew0 w (.cells #[.slice (some a) 32 c, .int .i64 s, .int .i64 t, .bool f0, .bool f1, .bool f2, .bool f3, .bool f4, .bool f5, .bool f6, .bool f7] 28) _)
  have y1 := (hb1.block (w.heap.size + 1) (by simp)).trans (heapNew1 w _ (.cells #[.slice none 0 0, .int .i64 0, .int .i64 0, .bool false, .bool false, .bool false, .bool false, .bool false, .bool false, .bool false, .bool false] 28))
  have b1 := (((Below.refl w.heap.size w).alloc (Nat.le_refl _) _).alloc (by simp) _).trans (hb1.mono (by simp; omega))
  have z1 := lt_of_heap y1
  have X1 := Lib.hid x1
  have Y1 := Lib.hid y1
  have B1 := Lib.hid b1
  have u0 := (b1.cell (p := ⟨rb, ro + 0, none⟩) (World.block_lt_of_cell? w _ HXS.out.1)).trans HXS.out.1
  have u1 := (b1.cell (p := ⟨rb, ro + 1, none⟩) (World.block_lt_of_cell? w _ HXS.out.2.1)).trans HXS.out.2.1
  have u2 := (b1.cell (p := ⟨rb, ro + 2, none⟩) (World.block_lt_of_cell? w _ HXS.out.2.2.1)).trans HXS.out.2.2.1
  have u3 := (b1.cell (p := ⟨rb, ro + 3, none⟩) (World.block_lt_of_cell? w _ HXS.out.2.2.2)).trans HXS.out.2.2.2
  rw [Nat.add_zero] at u0
  clear hb1 x1 y1 b1
  go_wp2_with fail
  go_quiet (fail)
  clear u0 u1 u2 u3
  rw [four64, ← HNV.out]
  have x2 : (w1.drewN nq).heap[w.heap.size]? = some (.cells #[.slice (some a) 32 c, .int .i64 s, .int .i64 t, .bool f0, .bool f1, .bool f2, .bool f3, .bool f4, .bool f5, .bool f6, .bool f7] 28 (0, 0)) := X1.out
  have y2 : (w1.drewN nq).heap[w.heap.size + 1]? = some (.cells #[.slice none 0 0, .int .i64 0, .int .i64 0, .bool false, .bool false, .bool false, .bool false, .bool false, .bool false, .bool false, .bool false] 28 (0, 0)) := Y1.out
  have b2 : Below w.heap.size w (w1.drewN nq) := below_drewN B1.out nq
  generalize hW2 : w1.drewN nq = w2 at x2 y2 b2 ⊢
  have X2 := Lib.hid x2
  have Y2 := Lib.hid y2
  have B2 := Lib.hid b2
  have hrg2 := range_of (cs := [.slice (some a) 32 c, .int .i64 s, .int .i64 t, .bool f0, .bool f1, .bool f2, .bool f3, .bool f4, .bool f5, .bool f6, .bool f7]) x2
  clear x2 y2 b2 hW2
  go_wp2_with (refine wpList_load_mid rfl 28 (.tmp 2) rfl w.heap.size 0 rfl [.slice (some a) 32 c, .int .i64 s, .int .i64 t, .bool f0, .bool f1, .bool f2, .bool f3, .bool f4, .bool f5, .bool f6, .bool f7] _ hrg2 Try.underlying28 rfl chanSz ?_)
  refine (HMET.out _).mono ?_
  rintro e w3 ⟨rfl, hb3⟩
  have X3 := Lib.hid ((hb3.block w.heap.size (lt_of_heap X2.out)).trans X2.out)
  have Y3 := Lib.hid ((hb3.block (w.heap.size + 1) (lt_of_heap Y2.out)).trans Y2.out)
  have B3 := Lib.hid (B2.out.trans (hb3.mono B2.out.size))
  clear hb3 hrg2
  go_wp2_with (refine wpList_store_mid rfl 28 (.tmp 4) (.tmp 61) rfl (w.heap.size + 1) 0 #[.slice none 0 0, .int .i64 0, .int .i64 0, .bool false, .bool false, .bool false, .bool false, .bool false, .bool false, .bool false, .bool false] rfl rfl (there_of Y3.out rfl) chanSz (chanOne' _ _ _ _ _ _ _ _ _ _ _ rfl) ?_)
  have hst := storedRow (vs := [.slice none 0 0, .int .i64 0, .int .i64 0, .bool false, .bool false, .bool false, .bool false, .bool false, .bool false, .bool false, .bool false]) Y3.out rfl
  have hl := run_loadVar_mid (P := Try.prog) _ (w.heap.size + 1) 0 28 _ _ (range_of hst) Try.underlying28 rfl chanSz
  exact bodyPost_ret (v := .tuple #[.agg #[.slice none 0 0, .int .i64 0, .int .i64 0, .bool false, .bool false, .bool false, .bool false, .bool false, .bool false, .bool false, .bool false], .slice none 0 0, .int .i64 7]) (results_ctt Try.results10 rfl hl) rfl ⟨rfl, below_setCells (by omega) _ _ _ B3.out⟩
set_option maxRecDepth 100000 in
set_option maxHeartbeats 4000000 in
theorem Take_tag (a : Addr) (c : Nat) (rv : Value) (key r : List UInt8) (s t q : Nat) (f : Nat → Bool) (w : World) (hv : Rd w (.slice (some a) 32 c) key) (hr : Rd w rv r) (hkl : key.length = 32) (hrl : r.length = q + 20) (hq : q ≤ 2000) (hs : s ≤ 1073741824) (ht : t ≤ 1073741824) (hf : SeenOk t f) (hnn : beN (r.take 4) < 1073741824) (hmt : metB t (beN (r.take 4)) f = false) (htg : Sea.tag key (nonceN (r.take 4)) (r.take 4) ((r.drop 4).take q) ≠ (r.drop 4).drop q) :
    Calls Try.prog 10 #[.agg #[.slice (some a) 32 c, .int .i64 s, .int .i64 t, .bool (f 0), .bool (f 1), .bool (f 2), .bool (f 3), .bool (f 4), .bool (f 5), .bool (f 6), .bool (f 7)], rv] w fun e w' => e = .returned (.tuple #[.agg #[.slice none 0 0, .int .i64 0, .int .i64 0, .bool false, .bool false, .bool false, .bool false, .bool false, .bool false, .bool false, .bool false], .slice none 0 0, .int .i64 6]) ∧ Below w.heap.size w w' := by
  obtain ⟨m, hm⟩ : ∃ m, q + 20 = m := ⟨_, rfl⟩
  obtain ⟨H, hH⟩ : ∃ H, H = r.take 4 := ⟨_, rfl⟩
  obtain ⟨N, hN⟩ : ∃ N, N = nonceN H := ⟨_, rfl⟩
  obtain ⟨D, hD⟩ : ∃ D, D = r.drop 4 := ⟨_, rfl⟩
  have hHl : H.length = 4 := by rw [hH, List.length_take, hrl]; omega
  have hNl : N.length = 12 := by rw [hN, nonceN, List.length_append, hHl]; rfl
  have hDl : D.length = q + 16 := by rw [hD, List.length_drop, hrl]; omega
  obtain ⟨rb, ro, rc, rfl, hrc, hrcm⟩ := hr.shapeN m (by omega) (by omega)
  have hrh := hr.pre 4 (by omega)
  rw [← hH] at hrh
  have hrh4 : Rd w (.slice (some ⟨rb, ro, none⟩) 4 4) H := by
    obtain ⟨a', c', e, h1, h2, h3, h4⟩ := hrh
    injection e with e1 e2 e3
    subst e1
    exact ⟨_, 4, by rw [hHl], by omega, by decide, (fun h => by cases h), h4⟩
  have hrd := hr.tail 4 (q + 16) (by omega) (by omega)
  rw [← hD] at hrd
  obtain ⟨n, hn⟩ : ∃ n, n = beN H := ⟨_, rfl⟩
  have hnb : n < 4294967296 := by rw [hn]; exact beN_lt _
  have hnr : decide ((1073741824 : Int) ≤ (n : Int)) = false := by rw [← hH, ← hn] at hnn; rw [decide_eq_false_iff_not]; omega
  have hnn2 : n < 1073741824 := by rw [← hH, ← hn] at hnn; exact hnn
  have hmet := fun w => lineMet_any (.slice (some a) 32 c) s t n f w rfl ht (by omega)
  rw [show metB t n f = false by rw [hn, hH]; exact hmt] at hmet
  have HMET := Lib.hid hmet
  have hop := fun kv nv av dv w h1 h2 h3 h4 => Open_any kv nv av dv key N H D q w h1 h2 h3 h4 hkl hNl (by omega) hDl hq
  have hop2 := fun kv nv av dv w h1 h2 h3 h4 => (hop kv nv av dv w h1 h2 h3 h4).mono (R' := fun e w' => e = .returned (.tuple #[.slice none 0 0, .int .i64 6]) ∧ Below w.heap.size w w') (fun e w' h => by
    rcases h with ⟨ha, h⟩ | ⟨ha, h⟩
    · rw [hN, hH, hD] at ha; exact absurd ha htg
    · exact h)
  have HOPEN := Lib.hid hop2
  have hck := fun w => lineCheck_ok (some a) c s t f w hs ht hf
  have HCK := Lib.hid hck
  have hnon := fun v w h => lineNonce_any v H w h hHl
  rw [← hN] at hnon
  have x0 := cellOf hrh4 0 (by rw [hHl]; decide)
  have x1 := cellOf hrh4 1 (by rw [hHl]; decide)
  have x2 := cellOf hrh4 2 (by rw [hHl]; decide)
  have x3 := cellOf hrh4 3 (by rw [hHl]; decide)
  obtain ⟨h0, hh0⟩ : ∃ h, h = H.getD 0 0 := ⟨_, rfl⟩
  obtain ⟨h1, hh1⟩ : ∃ h, h = H.getD 1 0 := ⟨_, rfl⟩
  obtain ⟨h2, hh2⟩ : ∃ h, h = H.getD 2 0 := ⟨_, rfl⟩
  obtain ⟨h3, hh3⟩ : ∃ h, h = H.getD 3 0 := ⟨_, rfl⟩
  have hnv : n = h0.toNat * 16777216 + h1.toNat * 65536 + h2.toNat * 256 + h3.toNat := by rw [hn, beN, hh0, hh1, hh2, hh3]
  rw [← hh0] at x0
  rw [← hh1] at x1
  rw [← hh2] at x2
  rw [← hh3] at x3
  have HXS := Lib.hid (And.intro x0 (And.intro x1 (And.intro x2 x3)))
  obtain ⟨f0, hf0⟩ : ∃ b, b = f 0 := ⟨_, rfl⟩
  obtain ⟨f1, hf1⟩ : ∃ b, b = f 1 := ⟨_, rfl⟩
  obtain ⟨f2, hf2⟩ : ∃ b, b = f 2 := ⟨_, rfl⟩
  obtain ⟨f3, hf3⟩ : ∃ b, b = f 3 := ⟨_, rfl⟩
  obtain ⟨f4, hf4⟩ : ∃ b, b = f 4 := ⟨_, rfl⟩
  obtain ⟨f5, hf5⟩ : ∃ b, b = f 5 := ⟨_, rfl⟩
  obtain ⟨f6, hf6⟩ : ∃ b, b = f 6 := ⟨_, rfl⟩
  obtain ⟨f7, hf7⟩ : ∃ b, b = f 7 := ⟨_, rfl⟩
  rw [← hf0, ← hf1, ← hf2, ← hf3, ← hf4, ← hf5, ← hf6, ← hf7] at HCK HMET ⊢
  have HV := Lib.hid hv
  have HKL := Lib.hid hkl
  have HRH := Lib.hid hrh4
  have HRD := Lib.hid hrd
  have HNON := Lib.hid hnon
  have HHL := Lib.hid hHl
  have HDL := Lib.hid hDl
  have HNV := Lib.hid hnv
  have d2020 : decide ((2020 : Int) < (m : Int)) = false := by rw [decide_eq_false_iff_not]; omega
  have d20 : decide ((m : Int) < 20) = false := by rw [decide_eq_false_iff_not]; omega
  have hrc4 : (4 : Int) ≤ (rc : Int) := by omega
  have hrcm4 : (m : Int) ≤ (rc : Int) := by omega
  have hrc5 : ¬ (rc = 4) := by omega
  have hm4 : m - 4 = q + 16 := by omega
  have hm4' : (4 : Int) ≤ (m : Int) := by omega
  clear hv hr hkl hrl hck hH hN hD hHl hNl hDl hrh hrh4 hrd hnon hn hnv hm hf hf0 hf1 hf2 hf3 hf4 hf5 hf6 hf7 hh0 hh1 hh2 hh3 x0 x1 x2 x3 hnn hmt hmet htg hop hop2
  go_enter Try.func10, Try.ntmps10
  go_wp2_with fail
  refine (HCK.out _).mono ?_
  rintro e w1 ⟨rfl, hb1⟩
  have x1 := (hb1.block w.heap.size (by simp; omega)).trans (heapNew0 w (.cells #[.slice (some a) 32 c, .int .i64 s, .int .i64 t, .bool f0, .bool f1, .bool f2, .bool f3, .bool f4, .bool f5, .bool f6, .bool f7] 28) _)
  have y1 := (hb1.block (w.heap.size + 1) (by simp)).trans (heapNew1 w _ (.cells #[.slice none 0 0, .int .i64 0, .int .i64 0, .bool false, .bool false, .bool false, .bool false, .bool false, .bool false, .bool false, .bool false] 28))
  have b1 := (((Below.refl w.heap.size w).alloc (Nat.le_refl _) _).alloc (by simp) _).trans (hb1.mono (by simp; omega))
  have z1 := lt_of_heap y1
  have X1 := Lib.hid x1
  have Y1 := Lib.hid y1
  have B1 := Lib.hid b1
  have u0 := (b1.cell (p := ⟨rb, ro + 0, none⟩) (World.block_lt_of_cell? w _ HXS.out.1)).trans HXS.out.1
  have u1 := (b1.cell (p := ⟨rb, ro + 1, none⟩) (World.block_lt_of_cell? w _ HXS.out.2.1)).trans HXS.out.2.1
  have u2 := (b1.cell (p := ⟨rb, ro + 2, none⟩) (World.block_lt_of_cell? w _ HXS.out.2.2.1)).trans HXS.out.2.2.1
  have u3 := (b1.cell (p := ⟨rb, ro + 3, none⟩) (World.block_lt_of_cell? w _ HXS.out.2.2.2)).trans HXS.out.2.2.2
  rw [Nat.add_zero] at u0
  clear hb1 x1 y1 b1
  go_wp2_with fail
  go_quiet (fail)
  clear u0 u1 u2 u3
  rw [four64, ← HNV.out]
  have x2 : (w1.drewN nq).heap[w.heap.size]? = some (.cells #[.slice (some a) 32 c, .int .i64 s, .int .i64 t, .bool f0, .bool f1, .bool f2, .bool f3, .bool f4, .bool f5, .bool f6, .bool f7] 28 (0, 0)) := X1.out
  have y2 : (w1.drewN nq).heap[w.heap.size + 1]? = some (.cells #[.slice none 0 0, .int .i64 0, .int .i64 0, .bool false, .bool false, .bool false, .bool false, .bool false, .bool false, .bool false, .bool false] 28 (0, 0)) := Y1.out
  have b2 : Below w.heap.size w (w1.drewN nq) := below_drewN B1.out nq
  generalize hW2 : w1.drewN nq = w2 at x2 y2 b2 ⊢
  have X2 := Lib.hid x2
  have Y2 := Lib.hid y2
  have B2 := Lib.hid b2
  have hrg2 := range_of (cs := [.slice (some a) 32 c, .int .i64 s, .int .i64 t, .bool f0, .bool f1, .bool f2, .bool f3, .bool f4, .bool f5, .bool f6, .bool f7]) x2
  clear x2 y2 b2 hW2
  go_wp2_with (refine wpList_load_mid rfl 28 (.tmp 2) rfl w.heap.size 0 rfl [.slice (some a) 32 c, .int .i64 s, .int .i64 t, .bool f0, .bool f1, .bool f2, .bool f3, .bool f4, .bool f5, .bool f6, .bool f7] _ hrg2 Try.underlying28 rfl chanSz ?_)
  refine (HMET.out _).mono ?_
  rintro e w3 ⟨rfl, hb3⟩
  have X3 := Lib.hid ((hb3.block w.heap.size (lt_of_heap X2.out)).trans X2.out)
  have Y3 := Lib.hid ((hb3.block (w.heap.size + 1) (lt_of_heap Y2.out)).trans Y2.out)
  have B3 := Lib.hid (B2.out.trans (hb3.mono B2.out.size))
  clear hb3 hrg2
  go_wp2_with fail
  have k0 : w3.cell? ⟨w.heap.size, 0, none⟩ = some (.slice (some a) 32 c) := cellAt X3.out 0 rfl
  have RH3 := Lib.hid (HRH.out.stay B3.out)
  have RD3 := Lib.hid (HRD.out.stay B3.out)
  have RV3 := Lib.hid (HV.out.stay B3.out)
  have L3 := Lib.hid (lt_of_heap X3.out)
  go_region_held3 (fun w' => w'.cell? ⟨w.heap.size, 0, none⟩ = some (.slice (some a) 32 c)) (first | exact k0 | assumption) (first
    | (go_at_call 19; refine (HNON.out _ _ (RH3.out.drewN 1)).mono ?_; rintro e w4 ⟨vn, rfl, hon, hb4⟩; have RN4 := Lib.hid hon.rd; have B4 := Lib.hid hb4; have k4 : w4.cell? ⟨w.heap.size, 0, none⟩ = some (.slice (some a) 32 c) := (hb4.cell (p := ⟨w.heap.size, 0, none⟩) L3.out).trans k0; clear hon hb4)
    | (go_at_call 18; refine (HOPEN.out _ _ _ _ _ ((RV3.out.drewN 1).stay B4.out) RN4.out ((RH3.out.drewN 1).stay B4.out) ((RD3.out.drewN 1).stay B4.out)).mono ?_; rintro e w5 ⟨rfl, hb5⟩; have B5 := Lib.hid hb5; have k5 : w5.cell? ⟨w.heap.size, 0, none⟩ = some (.slice (some a) 32 c) := (hb5.cell (p := ⟨w.heap.size, 0, none⟩) (Nat.lt_of_lt_of_le L3.out B4.out.size)).trans k4; clear hb5))
  have B35 := Lib.hid (show Below w3.heap.size w3 w5 from (below_drewN (Below.refl w3.heap.size w3) 1).trans (B4.out.trans (B5.out.mono B4.out.size)))
  have X5 := Lib.hid ((B35.out.block w.heap.size L3.out).trans X3.out)
  have Y5 := Lib.hid ((B35.out.block (w.heap.size + 1) (lt_of_heap Y3.out)).trans Y3.out)
  have B05 := Lib.hid (B3.out.trans (B35.out.mono B3.out.size))
  have hrg5 := range_of (cs := [.slice (some a) 32 c, .int .i64 s, .int .i64 t, .bool f0, .bool f1, .bool f2, .bool f3, .bool f4, .bool f5, .bool f6, .bool f7]) X5.out
  clear k0 k4 k5
  go_wp2_with (refine wpList_store_mid rfl 28 (.tmp 4) (.tmp 75) rfl (w.heap.size + 1) 0 #[.slice none 0 0, .int .i64 0, .int .i64 0, .bool false, .bool false, .bool false, .bool false, .bool false, .bool false, .bool false, .bool false] rfl rfl (there_of Y5.out rfl) chanSz (chanOne' _ _ _ _ _ _ _ _ _ _ _ rfl) ?_)
  have hst := storedRow (vs := [.slice none 0 0, .int .i64 0, .int .i64 0, .bool false, .bool false, .bool false, .bool false, .bool false, .bool false, .bool false, .bool false]) Y5.out rfl
  have hl := run_loadVar_mid (P := Try.prog) _ (w.heap.size + 1) 0 28 _ _ (range_of hst) Try.underlying28 rfl chanSz
  exact bodyPost_ret (v := .tuple #[.agg #[.slice none 0 0, .int .i64 0, .int .i64 0, .bool false, .bool false, .bool false, .bool false, .bool false, .bool false, .bool false, .bool false], .slice none 0 0, .int .i64 6]) (results_ctt Try.results10 rfl hl) rfl ⟨rfl, below_setCells (by omega) _ _ _ B05.out⟩
set_option maxRecDepth 100000 in
set_option maxHeartbeats 4000000 in
theorem Take_ok (a : Addr) (c : Nat) (rv : Value) (key r : List UInt8) (s t q : Nat) (f : Nat → Bool) (w : World) (hv : Rd w (.slice (some a) 32 c) key) (hr : Rd w rv r) (hkl : key.length = 32) (hrl : r.length = q + 20) (hq : q ≤ 2000) (hs : s ≤ 1073741824) (ht : t ≤ 1073741824) (hf : SeenOk t f) (hnn : beN (r.take 4) < 1073741824) (hmt : metB t (beN (r.take 4)) f = false) (htg : Sea.tag key (nonceN (r.take 4)) (r.take 4) ((r.drop 4).take q) = (r.drop 4).drop q) :
    Calls Try.prog 10 #[.agg #[.slice (some a) 32 c, .int .i64 s, .int .i64 t, .bool (f 0), .bool (f 1), .bool (f 2), .bool (f 3), .bool (f 4), .bool (f 5), .bool (f 6), .bool (f 7)], rv] w (TakePost w key s (max t (beN (r.take 4) + 1)) (withF t (beN (r.take 4)) f) (Cha.mix key 1 (nonceN (r.take 4)) ((r.drop 4).take q))) := by
  obtain ⟨m, hm⟩ : ∃ m, q + 20 = m := ⟨_, rfl⟩
  obtain ⟨H, hH⟩ : ∃ H, H = r.take 4 := ⟨_, rfl⟩
  obtain ⟨N, hN⟩ : ∃ N, N = nonceN H := ⟨_, rfl⟩
  obtain ⟨D, hD⟩ : ∃ D, D = r.drop 4 := ⟨_, rfl⟩
  have hHl : H.length = 4 := by rw [hH, List.length_take, hrl]; omega
  have hNl : N.length = 12 := by rw [hN, nonceN, List.length_append, hHl]; rfl
  have hDl : D.length = q + 16 := by rw [hD, List.length_drop, hrl]; omega
  obtain ⟨rb, ro, rc, rfl, hrc, hrcm⟩ := hr.shapeN m (by omega) (by omega)
  have hrh := hr.pre 4 (by omega)
  rw [← hH] at hrh
  have hrh4 : Rd w (.slice (some ⟨rb, ro, none⟩) 4 4) H := by
    obtain ⟨a', c', e, h1, h2, h3, h4⟩ := hrh
    injection e with e1 e2 e3
    subst e1
    exact ⟨_, 4, by rw [hHl], by omega, by decide, (fun h => by cases h), h4⟩
  have hrd := hr.tail 4 (q + 16) (by omega) (by omega)
  rw [← hD] at hrd
  obtain ⟨n, hn⟩ : ∃ n, n = beN H := ⟨_, rfl⟩
  have hnb : n < 4294967296 := by rw [hn]; exact beN_lt _
  have hnr : decide ((1073741824 : Int) ≤ (n : Int)) = false := by rw [← hH, ← hn] at hnn; rw [decide_eq_false_iff_not]; omega
  have hnn2 : n < 1073741824 := by rw [← hH, ← hn] at hnn; exact hnn
  have hmet := fun w => lineMet_any (.slice (some a) 32 c) s t n f w rfl ht (by omega)
  rw [show metB t n f = false by rw [hn, hH]; exact hmt] at hmet
  have HMET := Lib.hid hmet
  rw [← hH, ← hN, ← hD, ← hn]
  obtain ⟨P, hP⟩ : ∃ P, P = Cha.mix key 1 N (D.take q) := ⟨_, rfl⟩
  rw [← hP]
  have hop := fun kv nv av dv w h1 h2 h3 h4 => Open_any kv nv av dv key N H D q w h1 h2 h3 h4 hkl hNl (by omega) hDl hq
  have hop2 := fun kv nv av dv w h1 h2 h3 h4 => (hop kv nv av dv w h1 h2 h3 h4).mono (R' := fun e w' => FreshBE w P 0 e w') (fun e w' h => by
    rcases h with ⟨ha, h⟩ | ⟨ha, h⟩
    · rw [hP]; exact h
    · rw [hN, hH, hD] at ha; exact absurd htg ha)
  have HOPEN := Lib.hid hop2
  have hmtn : ¬ n + 8 < t := by
    have h := hmt
    rw [← hH, ← hn] at h
    simp [metB] at h
    omega
  have hwith := fun w h => lineWith_any a c key s t n f w h hkl ht (by omega) hmtn
  have HWITH := Lib.hid hwith
  have hck := fun w => lineCheck_ok (some a) c s t f w hs ht hf
  have HCK := Lib.hid hck
  have hnon := fun v w h => lineNonce_any v H w h hHl
  rw [← hN] at hnon
  have x0 := cellOf hrh4 0 (by rw [hHl]; decide)
  have x1 := cellOf hrh4 1 (by rw [hHl]; decide)
  have x2 := cellOf hrh4 2 (by rw [hHl]; decide)
  have x3 := cellOf hrh4 3 (by rw [hHl]; decide)
  obtain ⟨h0, hh0⟩ : ∃ h, h = H.getD 0 0 := ⟨_, rfl⟩
  obtain ⟨h1, hh1⟩ : ∃ h, h = H.getD 1 0 := ⟨_, rfl⟩
  obtain ⟨h2, hh2⟩ : ∃ h, h = H.getD 2 0 := ⟨_, rfl⟩
  obtain ⟨h3, hh3⟩ : ∃ h, h = H.getD 3 0 := ⟨_, rfl⟩
  have hnv : n = h0.toNat * 16777216 + h1.toNat * 65536 + h2.toNat * 256 + h3.toNat := by rw [hn, beN, hh0, hh1, hh2, hh3]
  rw [← hh0] at x0
  rw [← hh1] at x1
  rw [← hh2] at x2
  rw [← hh3] at x3
  have HXS := Lib.hid (And.intro x0 (And.intro x1 (And.intro x2 x3)))
  obtain ⟨f0, hf0⟩ : ∃ b, b = f 0 := ⟨_, rfl⟩
  obtain ⟨f1, hf1⟩ : ∃ b, b = f 1 := ⟨_, rfl⟩
  obtain ⟨f2, hf2⟩ : ∃ b, b = f 2 := ⟨_, rfl⟩
  obtain ⟨f3, hf3⟩ : ∃ b, b = f 3 := ⟨_, rfl⟩
  obtain ⟨f4, hf4⟩ : ∃ b, b = f 4 := ⟨_, rfl⟩
  obtain ⟨f5, hf5⟩ : ∃ b, b = f 5 := ⟨_, rfl⟩
  obtain ⟨f6, hf6⟩ : ∃ b, b = f 6 := ⟨_, rfl⟩
  obtain ⟨f7, hf7⟩ : ∃ b, b = f 7 := ⟨_, rfl⟩
  rw [← hf0, ← hf1, ← hf2, ← hf3, ← hf4, ← hf5, ← hf6, ← hf7] at HCK HMET HWITH ⊢
  have HV := Lib.hid hv
  have HKL := Lib.hid hkl
  have HRH := Lib.hid hrh4
  have HRD := Lib.hid hrd
  have HNON := Lib.hid hnon
  have HHL := Lib.hid hHl
  have HDL := Lib.hid hDl
  have HNV := Lib.hid hnv
  have d2020 : decide ((2020 : Int) < (m : Int)) = false := by rw [decide_eq_false_iff_not]; omega
  have d20 : decide ((m : Int) < 20) = false := by rw [decide_eq_false_iff_not]; omega
  have hrc4 : (4 : Int) ≤ (rc : Int) := by omega
  have hrcm4 : (m : Int) ≤ (rc : Int) := by omega
  have hrc5 : ¬ (rc = 4) := by omega
  have hm4 : m - 4 = q + 16 := by omega
  have hm4' : (4 : Int) ≤ (m : Int) := by omega
  clear hv hr hkl hrl hck hH hN hD hHl hNl hDl hrh hrh4 hrd hnon hn hnv hm hf hf0 hf1 hf2 hf3 hf4 hf5 hf6 hf7 hh0 hh1 hh2 hh3 x0 x1 x2 x3 hnn hmt hmet htg hop hop2 hmtn hwith hP
  go_enter Try.func10, Try.ntmps10
  go_wp2_with fail
  refine (HCK.out _).mono ?_
  rintro e w1 ⟨rfl, hb1⟩
  have x1 := (hb1.block w.heap.size (by simp; omega)).trans (heapNew0 w (.cells #[.slice (some a) 32 c, .int .i64 s, .int .i64 t, .bool f0, .bool f1, .bool f2, .bool f3, .bool f4, .bool f5, .bool f6, .bool f7] 28) _)
  have y1 := (hb1.block (w.heap.size + 1) (by simp)).trans (heapNew1 w _ (.cells #[.slice none 0 0, .int .i64 0, .int .i64 0, .bool false, .bool false, .bool false, .bool false, .bool false, .bool false, .bool false, .bool false] 28))
  have b1 := (((Below.refl w.heap.size w).alloc (Nat.le_refl _) _).alloc (by simp) _).trans (hb1.mono (by simp; omega))
  have z1 := lt_of_heap y1
  have X1 := Lib.hid x1
  have Y1 := Lib.hid y1
  have B1 := Lib.hid b1
  have u0 := (b1.cell (p := ⟨rb, ro + 0, none⟩) (World.block_lt_of_cell? w _ HXS.out.1)).trans HXS.out.1
  have u1 := (b1.cell (p := ⟨rb, ro + 1, none⟩) (World.block_lt_of_cell? w _ HXS.out.2.1)).trans HXS.out.2.1
  have u2 := (b1.cell (p := ⟨rb, ro + 2, none⟩) (World.block_lt_of_cell? w _ HXS.out.2.2.1)).trans HXS.out.2.2.1
  have u3 := (b1.cell (p := ⟨rb, ro + 3, none⟩) (World.block_lt_of_cell? w _ HXS.out.2.2.2)).trans HXS.out.2.2.2
  rw [Nat.add_zero] at u0
  clear hb1 x1 y1 b1
  go_wp2_with fail
  go_quiet (fail)
  clear u0 u1 u2 u3
  rw [four64, ← HNV.out]
  have x2 : (w1.drewN nq).heap[w.heap.size]? = some (.cells #[.slice (some a) 32 c, .int .i64 s, .int .i64 t, .bool f0, .bool f1, .bool f2, .bool f3, .bool f4, .bool f5, .bool f6, .bool f7] 28 (0, 0)) := X1.out
  have y2 : (w1.drewN nq).heap[w.heap.size + 1]? = some (.cells #[.slice none 0 0, .int .i64 0, .int .i64 0, .bool false, .bool false, .bool false, .bool false, .bool false, .bool false, .bool false, .bool false] 28 (0, 0)) := Y1.out
  have b2 : Below w.heap.size w (w1.drewN nq) := below_drewN B1.out nq
  generalize hW2 : w1.drewN nq = w2 at x2 y2 b2 ⊢
  have X2 := Lib.hid x2
  have Y2 := Lib.hid y2
  have B2 := Lib.hid b2
  have hrg2 := range_of (cs := [.slice (some a) 32 c, .int .i64 s, .int .i64 t, .bool f0, .bool f1, .bool f2, .bool f3, .bool f4, .bool f5, .bool f6, .bool f7]) x2
  clear x2 y2 b2 hW2
  go_wp2_with (refine wpList_load_mid rfl 28 (.tmp 2) rfl w.heap.size 0 rfl [.slice (some a) 32 c, .int .i64 s, .int .i64 t, .bool f0, .bool f1, .bool f2, .bool f3, .bool f4, .bool f5, .bool f6, .bool f7] _ hrg2 Try.underlying28 rfl chanSz ?_)
  refine (HMET.out _).mono ?_
  rintro e w3 ⟨rfl, hb3⟩
  have X3 := Lib.hid ((hb3.block w.heap.size (lt_of_heap X2.out)).trans X2.out)
  have Y3 := Lib.hid ((hb3.block (w.heap.size + 1) (lt_of_heap Y2.out)).trans Y2.out)
  have B3 := Lib.hid (B2.out.trans (hb3.mono B2.out.size))
  clear hb3 hrg2
  go_wp2_with fail
  have k0 : w3.cell? ⟨w.heap.size, 0, none⟩ = some (.slice (some a) 32 c) := cellAt X3.out 0 rfl
  have RH3 := Lib.hid (HRH.out.stay B3.out)
  have RD3 := Lib.hid (HRD.out.stay B3.out)
  have RV3 := Lib.hid (HV.out.stay B3.out)
  have L3 := Lib.hid (lt_of_heap X3.out)
  go_region_held3 (fun w' => w'.cell? ⟨w.heap.size, 0, none⟩ = some (.slice (some a) 32 c)) (first | exact k0 | assumption) (first
    | (go_at_call 19; refine (HNON.out _ _ (RH3.out.drewN 1)).mono ?_; rintro e w4 ⟨vn, rfl, hon, hb4⟩; have RN4 := Lib.hid hon.rd; have B4 := Lib.hid hb4; have k4 : w4.cell? ⟨w.heap.size, 0, none⟩ = some (.slice (some a) 32 c) := (hb4.cell (p := ⟨w.heap.size, 0, none⟩) L3.out).trans k0; clear hon hb4)
    | (go_at_call 18; refine (HOPEN.out _ _ _ _ _ ((RV3.out.drewN 1).stay B4.out) RN4.out ((RH3.out.drewN 1).stay B4.out) ((RD3.out.drewN 1).stay B4.out)).mono ?_; rintro e w5 ⟨vx, rfl, hox, hb5⟩; have B5 := Lib.hid hb5; have k5 : w5.cell? ⟨w.heap.size, 0, none⟩ = some (.slice (some a) 32 c) := (hb5.cell (p := ⟨w.heap.size, 0, none⟩) (Nat.lt_of_lt_of_le L3.out B4.out.size)).trans k4; have OX5 := Lib.hid hox; clear hox; clear hb5))
  have B35 := Lib.hid (show Below w3.heap.size w3 w5 from (below_drewN (Below.refl w3.heap.size w3) 1).trans (B4.out.trans (B5.out.mono B4.out.size)))
  have X5 := Lib.hid ((B35.out.block w.heap.size L3.out).trans X3.out)
  have Y5 := Lib.hid ((B35.out.block (w.heap.size + 1) (lt_of_heap Y3.out)).trans Y3.out)
  have B05 := Lib.hid (B3.out.trans (B35.out.mono B3.out.size))
  have hrg5 := range_of (cs := [.slice (some a) 32 c, .int .i64 s, .int .i64 t, .bool f0, .bool f1, .bool f2, .bool f3, .bool f4, .bool f5, .bool f6, .bool f7]) X5.out
  clear k0 k4 k5
  go_wp2_with (refine wpList_load_mid rfl 28 (.tmp 2) rfl w.heap.size 0 rfl [.slice (some a) 32 c, .int .i64 s, .int .i64 t, .bool f0, .bool f1, .bool f2, .bool f3, .bool f4, .bool f5, .bool f6, .bool f7] _ hrg5 Try.underlying28 rfl chanSz ?_)
  refine (HWITH.out _ ((HV.out.stay B05.out))).mono ?_
  rintro e w6 ⟨kv, rfl, hok, hb6⟩
  obtain ⟨kg, kcap, hkv, _, _, _, _⟩ := hok.shape (by intro h; have := HKL.out; rw [h] at this; cases this)
  rw [HKL.out] at hkv
  subst hkv
  have O6 := Lib.hid hok
  have Y6 := Lib.hid ((hb6.block (w.heap.size + 1) (lt_of_heap Y5.out)).trans Y5.out)
  have B6 := Lib.hid (B05.out.trans (hb6.mono B05.out.size))
  have OX6 := Lib.hid (OX5.out.below hb6 (fun k hk => (OX5.out.lt k hk).2))
  have z15 := B35.out.size
  have z14 : w3.heap.size ≤ w4.heap.size := B4.out.size
  have z5 := B05.out.size
  have zy5 := lt_of_heap Y5.out
  have zy3 := lt_of_heap Y3.out
  clear hok hb6 hrg5
  go_wp2_with (refine wpList_store_mid rfl 28 (.tmp 4) (.tmp 79) rfl (w.heap.size + 1) 0 (chanC (.slice (some ⟨kg, 0, none⟩) 32 kcap) s (max t (n + 1) : Nat) (withF t n f)).toArray rfl rfl (there_of Y6.out rfl) chanSz (chanOne _ _ _ _ rfl) ?_)
  have hst := storedRow (vs := chanC (.slice (some ⟨kg, 0, none⟩) 32 kcap) s (max t (n + 1) : Nat) (withF t n f)) Y6.out rfl
  have hl := run_loadVar_mid (P := Try.prog) _ (w.heap.size + 1) 0 28 _ _ (range_of hst) Try.underlying28 rfl chanSz
  refine bodyPost_ret (v := .tuple #[.agg (chanC (.slice (some ⟨kg, 0, none⟩) 32 kcap) s (max t (n + 1) : Nat) (withF t n f)).toArray, vx, .int .i64 0]) (results_ctt Try.results10 rfl hl) rfl ⟨_, _, rfl, ?_, ?_, below_setCells (by omega) _ _ _ B6.out⟩
  · refine (O6.out.ofHeap (fun k hk => heap_setCells_ne ?_ _ _ _)).mono z5
    have := (O6.out.lt k hk).1
    omega
  · refine (OX6.out.ofHeap (fun k hk => heap_setCells_ne ?_ _ _ _)).mono (by omega)
    have := (OX6.out.lt k hk).1
    omega
end Go.Proofs.Ytoekopdogfnkhaa
