/-
  Texts put together: LiT, LiU, LiV, Reg, Pck.
-/
import Derived.Test.YtpkfbmafbkgcmaaDoorMg12
import Derived.Test.YtpkfbmafbkgcmaaDoorMg11
import Derived.Test.YtpkfbmafbkgcmaaDoorMg5
import Derived.Deep.RegionHeld3
import Derived.Deep.CutRange
import Derived.Test.YtpkfbmafbkgcmaaDoorMg3
set_option linter.unusedVariables false
set_option linter.unusedSimpArgs false
namespace Go.Con
/-- the number that four bytes tell -/
def beN (l : List UInt8) : Nat := (l.getD 0 0).toNat * 16777216 + (l.getD 1 0).toNat * 65536 + (l.getD 2 0).toNat * 256 + (l.getD 3 0).toNat
theorem beN_four (n : Nat) (hn : n ≤ 1073741824) : beN (Go.Proofs.YtpkfbmafbkgcmaaDoor.fourN n) = n := by
  simp only [beN, Go.Proofs.YtpkfbmafbkgcmaaDoor.fourN, List.getD_cons_zero, List.getD_cons_succ, UInt8.toNat_ofNat']
  omega
theorem beN_lt (l : List UInt8) : beN l < 4294967296 := by
  have h0 := (l.getD 0 0).toNat_lt
  have h1 := (l.getD 1 0).toNat_lt
  have h2 := (l.getD 2 0).toNat_lt
  have h3 := (l.getD 3 0).toNat_lt
  unfold beN; omega
theorem four_beN (l : List UInt8) (hl : l.length = 4) : Go.Proofs.YtpkfbmafbkgcmaaDoor.fourN (beN l) = l := by
  match l, hl with
  | [a, b, c, d], _ =>
    have h0 := a.toNat_lt
    have h1 := b.toNat_lt
    have h2 := c.toNat_lt
    have h3 := d.toNat_lt
    simp only [beN, Go.Proofs.YtpkfbmafbkgcmaaDoor.fourN, List.getD_cons_zero, List.getD_cons_succ]
    congr 1
    · apply UInt8.toNat_inj.1; rw [UInt8.toNat_ofNat']; omega
    · congr 1
      · apply UInt8.toNat_inj.1; rw [UInt8.toNat_ofNat']; omega
      · congr 1
        · apply UInt8.toNat_inj.1; rw [UInt8.toNat_ofNat']; omega
        · congr 1
          apply UInt8.toNat_inj.1; rw [UInt8.toNat_ofNat']; omega
end Go.Con
namespace Go.Proofs.YtpkfbmafbkgcmaaDoor
open Go.RowKit Go.Con
/-- what taking leaves -/
def TakePost (w : World) (key : List UInt8) (s : Nat) (T : Nat) (g : Nat → Bool) (p : List UInt8) (e : Ending) (w' : World) : Prop :=
  ∃ kv pv, e = .returned (.tuple #[.agg (chanC kv (s : Nat) T g).toArray, pv, .int .i64 0]) ∧ Own w' w.heap.size kv key ∧ Own w' w.heap.size pv p ∧ Below w.heap.size w w'
set_option maxRecDepth 100000 in
set_option maxHeartbeats 4000000 in
theorem Take_range (a : Addr) (c : Nat) (rv : Value) (key r : List UInt8) (s t q : Nat) (f : Nat → Bool) (w : World) (hv : Rd w (.slice (some a) 32 c) key) (hr : Rd w rv r) (hkl : key.length = 32) (hrl : r.length = q + 20) (hq : q ≤ 2000) (hs : s ≤ 1073741824) (ht : t ≤ 1073741824) (hf : SeenOk t f) (hnn : 1073741824 ≤ beN (r.take 4)) :
    Calls Tryd.prog 31 #[.agg #[.slice (some a) 32 c, .int .i64 s, .int .i64 t, .bool (f 0), .bool (f 1), .bool (f 2), .bool (f 3), .bool (f 4), .bool (f 5), .bool (f 6), .bool (f 7)], rv] w fun e w' => e = .returned (.tuple #[.agg #[.slice none 0 0, .int .i64 0, .int .i64 0, .bool false, .bool false, .bool false, .bool false, .bool false, .bool false, .bool false, .bool false], .slice none 0 0, .int .i64 2]) ∧ Below w.heap.size w w' := by
  obtain ⟨m, hm⟩ : ∃ m, q + 20 = m := ⟨_, rfl⟩
  obtain ⟨H, hH⟩ : ∃ H, H = r.take 4 := ⟨_, rfl⟩
  obtain ⟨N, hN⟩ : ∃ N, N = nonceN H := ⟨_, rfl⟩
  obtain ⟨D, hD⟩ : ∃ D, D = r.drop 4 := ⟨_, rfl⟩
  have hHl : H.length = 4 := by rw [hH, List.length_take, hrl]; omega
  have hNl : N.length = 12 := by rw [hN, nonceN, List.length_append, hHl]; rfl
  have hDl : D.length = q + 16 := by rw [hD, List.length_drop, hrl]; omega
  obtain ⟨rb, ro, rc, rfl, hrc, hrcm⟩ := hr.shapeN m (by omega) (by omega)
  have hrh := hr.pre 4 (by omega)
  rw [← hH] at hrh
  have hrh4 : Rd w (.slice (some ⟨rb, ro, none⟩) 4 4) H := by
    obtain ⟨a', c', e, h1, h2, h3, h4⟩ := hrh
    injection e with e1 e2 e3
    subst e1
    exact ⟨_, 4, by rw [hHl], by omega, by decide, (fun h => by cases h), h4⟩
  have hrd := hr.tail 4 (q + 16) (by omega) (by omega)
  rw [← hD] at hrd
  obtain ⟨n, hn⟩ : ∃ n, n = beN H := ⟨_, rfl⟩
  have hnb : n < 4294967296 := by rw [hn]; exact beN_lt _
  have hnr : decide ((1073741824 : Int) ≤ (n : Int)) = true := by rw [← hH, ← hn] at hnn; rw [decide_eq_true_eq]; omega
  have hck := fun w => lineCheck_ok (some a) c s t f w hs ht hf
  have HCK := Lib.hid hck
  have hnon := fun v w h => lineNonce_any v H w h hHl
  rw [← hN] at hnon
  have x0 := cellOf hrh4 0 (by rw [hHl]; decide)
  have x1 := cellOf hrh4 1 (by rw [hHl]; decide)
  have x2 := cellOf hrh4 2 (by rw [hHl]; decide)
  have x3 := cellOf hrh4 3 (by rw [hHl]; decide)
  obtain ⟨h0, hh0⟩ : ∃ h, h = H.getD 0 0 := ⟨_, rfl⟩
  obtain ⟨h1, hh1⟩ : ∃ h, h = H.getD 1 0 := ⟨_, rfl⟩
  obtain ⟨h2, hh2⟩ : ∃ h, h = H.getD 2 0 := ⟨_, rfl⟩
  obtain ⟨h3, hh3⟩ : ∃ h, h = H.getD 3 0 := ⟨_, rfl⟩
  have hnv : n = h0.toNat * 16777216 + h1.toNat * 65536 + h2.toNat * 256 + h3.toNat := by rw [hn, beN, hh0, hh1, hh2, hh3]
  rw [← hh0] at x0
  rw [← hh1] at x1
  rw [← hh2] at x2
  rw [← hh3] at x3
  have HXS := Lib.hid (And.intro x0 (And.intro x1 (And.intro x2 x3)))
  obtain ⟨f0, hf0⟩ : ∃ b, b = f 0 := ⟨_, rfl⟩
  obtain ⟨f1, hf1⟩ : ∃ b, b = f 1 := ⟨_, rfl⟩
  obtain ⟨f2, hf2⟩ : ∃ b, b = f 2 := ⟨_, rfl⟩
  obtain ⟨f3, hf3⟩ : ∃ b, b = f 3 := ⟨_, rfl⟩
  obtain ⟨f4, hf4⟩ : ∃ b, b = f 4 := ⟨_, rfl⟩
  obtain ⟨f5, hf5⟩ : ∃ b, b = f 5 := ⟨_, rfl⟩
  obtain ⟨f6, hf6⟩ : ∃ b, b = f 6 := ⟨_, rfl⟩
  obtain ⟨f7, hf7⟩ : ∃ b, b = f 7 := ⟨_, rfl⟩
  rw [← hf0, ← hf1, ← hf2, ← hf3, ← hf4, ← hf5, ← hf6, ← hf7] at HCK ⊢
  have HV := Lib.hid hv
  have HKL := Lib.hid hkl
  have HRH := Lib.hid hrh4
  have HRD := Lib.hid hrd
  have HNON := Lib.hid hnon
  have HHL := Lib.hid hHl
  have HDL := Lib.hid hDl
  have HNV := Lib.hid hnv
  have d2020 : decide ((2020 : Int) < (m : Int)) = false := by rw [decide_eq_false_iff_not]; omega
  have d20 : decide ((m : Int) < 20) = false := by rw [decide_eq_false_iff_not]; omega
  have hrc4 : (4 : Int) ≤ (rc : Int) := by omega
  have hrcm4 : (m : Int) ≤ (rc : Int) := by omega
  have hrc5 : ¬ (rc = 4) := by omega
  have hm4 : m - 4 = q + 16 := by omega
  have hm4' : (4 : Int) ≤ (m : Int) := by omega
  clear hv hr hkl hrl hck hH hN hD hHl hNl hDl hrh hrh4 hrd hnon hn hnv hm hf hf0 hf1 hf2 hf3 hf4 hf5 hf6 hf7 hh0 hh1 hh2 hh3 x0 x1 x2 x3 hnn
  go_enter Tryd.func31, Tryd.ntmps31
  go_wp2_with fail
  refine (HCK.out _).mono ?_
  rintro e w1 ⟨rfl, hb1⟩
  have x1 := (hb1.block w.heap.size (by simp; omega)).trans (heapNew0 w (.cells #[.slice (some a) 32 c, .int .i64 s, .int .i64 t, .bool f0, .bool f1, .bool f2, .bool f3, .bool f4, .bool f5, .bool f6, .bool f7] 42) _)
  have y1 := (hb1.block (w.heap.size + 1) (by simp)).trans (heapNew1 w _ (.cells #[.slice none 0 0, .int .i64 0, .int .i64 0, .bool false, .bool false, .bool false, .bool false, .bool false, .bool false, .bool false, .bool false] 42))
  have b1 := (((Below.refl w.heap.size w).alloc (Nat.le_refl _) _).alloc (by simp) _).trans (hb1.mono (by simp; omega))
  have z1 := lt_of_heap y1
  have X1 := Lib.hid x1
  have Y1 := Lib.hid y1
  have B1 := Lib.hid b1
  have u0 := (b1.cell (p := ⟨rb, ro + 0, none⟩) (World.block_lt_of_cell? w _ HXS.out.1)).trans HXS.out.1
  have u1 := (b1.cell (p := ⟨rb, ro + 1, none⟩) (World.block_lt_of_cell? w _ HXS.out.2.1)).trans HXS.out.2.1
  have u2 := (b1.cell (p := ⟨rb, ro + 2, none⟩) (World.block_lt_of_cell? w _ HXS.out.2.2.1)).trans HXS.out.2.2.1
  have u3 := (b1.cell (p := ⟨rb, ro + 3, none⟩) (World.block_lt_of_cell? w _ HXS.out.2.2.2)).trans HXS.out.2.2.2
  rw [Nat.add_zero] at u0
  clear hb1 x1 y1 b1
  go_wp2_with fail
  go_quiet (fail)
  clear u0 u1 u2 u3
  rw [four64, ← HNV.out]
  have x2 : (w1.drewN nq).heap[w.heap.size]? = some (.cells #[.slice (some a) 32 c, .int .i64 s, .int .i64 t, .bool f0, .bool f1, .bool f2, .bool f3, .bool f4, .bool f5, .bool f6, .bool f7] 42 (0, 0)) := X1.out
  have y2 : (w1.drewN nq).heap[w.heap.size + 1]? = some (.cells #[.slice none 0 0, .int .i64 0, .int .i64 0, .bool false, .bool false, .bool false, .bool false, .bool false, .bool false, .bool false, .bool false] 42 (0, 0)) := Y1.out
  have b2 : Below w.heap.size w (w1.drewN nq) := below_drewN B1.out nq
  generalize hW2 : w1.drewN nq = w2 at x2 y2 b2 ⊢
  have X2 := Lib.hid x2
  have Y2 := Lib.hid y2
  have B2 := Lib.hid b2
  have hrg2 := range_of (cs := [.slice (some a) 32 c, .int .i64 s, .int .i64 t, .bool f0, .bool f1, .bool f2, .bool f3, .bool f4, .bool f5, .bool f6, .bool f7]) x2
  clear x2 y2 b2 hW2
  go_wp2_with (refine wpList_store_mid rfl 42 (.tmp 4) (.tmp 56) rfl (w.heap.size + 1) 0 #[.slice none 0 0, .int .i64 0, .int .i64 0, .bool false, .bool false, .bool false, .bool false, .bool false, .bool false, .bool false, .bool false] rfl rfl (there_of Y2.out rfl) chanSz (chanOne' _ _ _ _ _ _ _ _ _ _ _ rfl) ?_)
  have hst := storedRow (vs := [.slice none 0 0, .int .i64 0, .int .i64 0, .bool false, .bool false, .bool false, .bool false, .bool false, .bool false, .bool false, .bool false]) Y2.out rfl
  have hl := run_loadVar_mid (P := Tryd.prog) _ (w.heap.size + 1) 0 42 _ _ (range_of hst) Tryd.underlying42 rfl chanSz
  exact bodyPost_ret (v := .tuple #[.agg #[.slice none 0 0, .int .i64 0, .int .i64 0, .bool false, .bool false, .bool false, .bool false, .bool false, .bool false, .bool false, .bool false], .slice none 0 0, .int .i64 2]) (results_ctt Tryd.results31 rfl hl) rfl ⟨rfl, below_setCells (by omega) _ _ _ B2.out⟩
set_option maxRecDepth 100000 in
set_option maxHeartbeats 4000000 in
theorem Take_old (a : Addr) (c : Nat) (rv : Value) (key r : List UInt8) (s t q : Nat) (f : Nat → Bool) (w : World) (hv : Rd w (.slice (some a) 32 c) key) (hr : Rd w rv r) (hkl : key.length = 32) (hrl : r.length = q + 20) (hq : q ≤ 2000) (hs : s ≤ 1073741824) (ht : t ≤ 1073741824) (hf : SeenOk t f) (hnn : beN (r.take 4) < 1073741824) (hmt : metB t (beN (r.take 4)) f = true) :
    Calls Tryd.prog 31 #[.agg #[.slice (some a) 32 c, .int .i64 s, .int .i64 t, .bool (f 0), .bool (f 1), .bool (f 2), .bool (f 3), .bool (f 4), .bool (f 5), .bool (f 6), .bool (f 7)], rv] w fun e w' => e = .returned (.tuple #[.agg #[.slice none 0 0, .int .i64 0, .int .i64 0, .bool false, .bool false, .bool false, .bool false, .bool false, .bool false, .bool false, .bool false], .slice none 0 0, .int .i64 7]) ∧ Below w.heap.size w w' := by
  obtain ⟨m, hm⟩ : ∃ m, q + 20 = m := ⟨_, rfl⟩
  obtain ⟨H, hH⟩ : ∃ H, H = r.take 4 := ⟨_, rfl⟩
  obtain ⟨N, hN⟩ : ∃ N, N = nonceN H := ⟨_, rfl⟩
  obtain ⟨D, hD⟩ : ∃ D, D = r.drop 4 := ⟨_, rfl⟩
  have hHl : H.length = 4 := by rw [hH, List.length_take, hrl]; omega
  have hNl : N.length = 12 := by rw [hN, nonceN, List.length_append, hHl]; rfl
  have hDl : D.length = q + 16 := by rw [hD, List.length_drop, hrl]; omega
  obtain ⟨rb, ro, rc, rfl, hrc, hrcm⟩ := hr.shapeN m (by omega) (by omega)
  have hrh := hr.pre 4 (by omega)
  rw [← hH] at hrh
  have hrh4 : Rd w (.slice (some ⟨rb, ro, none⟩) 4 4) H := by
    obtain ⟨a', c', e, h1, h2, h3, h4⟩ := hrh
    injection e with e1 e2 e3
    subst e1
    exact ⟨_, 4, by rw [hHl], by omega, by decide, (fun h => by cases h), h4⟩
  have hrd := hr.tail 4 (q + 16) (by omega) (by omega)
  rw [← hD] at hrd
  obtain ⟨n, hn⟩ : ∃ n, n = beN H := ⟨_, rfl⟩
  have hnb : n < 4294967296 := by rw [hn]; exact beN_lt _
  have hnr : decide ((1073741824 : Int) ≤ (n : Int)) = false := by rw [← hH, ← hn] at hnn; rw [decide_eq_false_iff_not]; omega
  have hnn2 : n < 1073741824 := by rw [← hH, ← hn] at hnn; exact hnn
  have hmet := fun w => lineMet_any (.slice (some a) 32 c) s t n f w rfl ht (by omega)
  rw [show metB t n f = true by rw [hn, hH]; exact hmt] at hmet
  have HMET := Lib.hid hmet
  have hck := fun w => lineCheck_ok (some a) c s t f w hs ht hf
  have HCK := Lib.hid hck
  have hnon := fun v w h => lineNonce_any v H w h hHl
  rw [← hN] at hnon
  have x0 := cellOf hrh4 0 (by rw [hHl]; decide)
  have x1 := cellOf hrh4 1 (by rw [hHl]; decide)
  have x2 := cellOf hrh4 2 (by rw [hHl]; decide)
  have x3 := cellOf hrh4 3 (by rw [hHl]; decide)
  obtain ⟨h0, hh0⟩ : ∃ h, h = H.getD 0 0 := ⟨_, rfl⟩
  obtain ⟨h1, hh1⟩ : ∃ h, h = H.getD 1 0 := ⟨_, rfl⟩
  obtain ⟨h2, hh2⟩ : ∃ h, h = H.getD 2 0 := ⟨_, rfl⟩
  obtain ⟨h3, hh3⟩ : ∃ h, h = H.getD 3 0 := ⟨_, rfl⟩
  have hnv : n = h0.toNat * 16777216 + h1.toNat * 65536 + h2.toNat * 256 + h3.toNat := by rw [hn, beN, hh0, hh1, hh2, hh3]
  rw [← hh0] at x0
  rw [← hh1] at x1
  rw [← hh2] at x2
  rw [← hh3] at x3
  have HXS := Lib.hid (And.intro x0 (And.intro x1 (And.intro x2 x3)))
  obtain ⟨f0, hf0⟩ : ∃ b, b = f 0 := ⟨_, rfl⟩
  obtain ⟨f1, hf1⟩ : ∃ b, b = f 1 := ⟨_, rfl⟩
  obtain ⟨f2, hf2⟩ : ∃ b, b = f 2 := ⟨_, rfl⟩
  obtain ⟨f3, hf3⟩ : ∃ b, b = f 3 := ⟨_, rfl⟩
  obtain ⟨f4, hf4⟩ : ∃ b, b = f 4 := ⟨_, rfl⟩
  obtain ⟨f5, hf5⟩ : ∃ b, b = f 5 := ⟨_, rfl⟩
  obtain ⟨f6, hf6⟩ : ∃ b, b = f 6 := ⟨_, rfl⟩
  obtain ⟨f7, hf7⟩ : ∃ b, b = f 7 := ⟨_, rfl⟩
  rw [← hf0, ← hf1, ← hf2, ← hf3, ← hf4, ← hf5, ← hf6, ← hf7] at HCK HMET ⊢
  have HV := Lib.hid hv
  have HKL := Lib.hid hkl
  have HRH := Lib.hid hrh4
  have HRD := Lib.hid hrd
  have HNON := Lib.hid hnon
  have HHL := Lib.hid hHl
  have HDL := Lib.hid hDl
  have HNV := Lib.hid hnv
  have d2020 : decide ((2020 : Int) < (m : Int)) = false := by rw [decide_eq_false_iff_not]; omega
  have d20 : decide ((m : Int) < 20) = false := by rw [decide_eq_false_iff_not]; omega
  have hrc4 : (4 : Int) ≤ (rc : Int) := by omega
  have hrcm4 : (m : Int) ≤ (rc : Int) := by omega
  have hrc5 : ¬ (rc = 4) := by omega
  have hm4 : m - 4 = q + 16 := by omega
  have hm4' : (4 : Int) ≤ (m : Int) := by omega
  clear hv hr hkl hrl hck hH hN hD hHl hNl hDl hrh hrh4 hrd hnon hn hnv hm hf hf0 hf1 hf2 hf3 hf4 hf5 hf6 hf7 hh0 hh1 hh2 hh3 x0 x1 x2 x3 hnn hmt hmet
  go_enter Tryd.func31, Tryd.ntmps31
  go_wp2_with fail
  refine (HCK.out _).mono ?_
  rintro e w1 ⟨rfl, hb1⟩
  have x1 := (hb1.block w.heap.size (by simp; omega)).trans (heapNew0 w (.cells #[.slice (some a) 32 c, .int .i64 s, .int .i64 t, .bool f0, .bool f1, .bool f2, .bool f3, .bool f4, .bool f5, .bool f6, .bool f7] 42) _)
  have y1 := (hb1.block (w.heap.size + 1) (by simp)).trans (heapNew1 w _ (.cells #[.slice none 0 0, .int .i64 0, .int .i64 0, .bool false, .bool false, .bool false, .bool false, .bool false, .bool false, .bool false, .bool false] 42))
  have b1 := (((Below.refl w.heap.size w).alloc (Nat.le_refl _) _).alloc (by simp) _).trans (hb1.mono (by simp; omega))
  have z1 := lt_of_heap y1
  have X1 := Lib.hid x1
  have Y1 := Lib.hid y1
  have B1 := Lib.hid b1
  have u0 := (b1.cell (p := ⟨rb, ro + 0, none⟩) (World.block_lt_of_cell? w _ HXS.out.1)).trans HXS.out.1
  have u1 := (b1.cell (p := ⟨rb, ro + 1, none⟩) (World.block_lt_of_cell? w _ HXS.out.2.1)).trans HXS.out.2.1
  have u2 := (b1.cell (p := ⟨rb, ro + 2, none⟩) (World.block_lt_of_cell? w _ HXS.out.2.2.1)).trans HXS.out.2.2.1
  have u3 := (b1.cell (p := ⟨rb, ro + 3, none⟩) (World.block_lt_of_cell? w _ HXS.out.2.2.2)).trans HXS.out.2.2.2
  rw [Nat.add_zero] at u0
  clear hb1 x1 y1 b1
  go_wp2_with fail
  go_quiet (fail)
  clear u0 u1 u2 u3
  rw [four64, ← HNV.out]
  have x2 : (w1.drewN nq).heap[w.heap.size]? = some (.cells #[.slice (some a) 32 c, .int .i64 s, .int .i64 t, .bool f0, .bool f1, .bool f2, .bool f3, .bool f4, .bool f5, .bool f6, .bool f7] 42 (0, 0)) := X1.out
  have y2 : (w1.drewN nq).heap[w.heap.size + 1]? = some (.cells #[.slice none 0 0, .int .i64 0, .int .i64 0, .bool false, .bool false, .bool false, .bool false, .bool false, .bool false, .bool false, .bool false] 42 (0, 0)) := Y1.out
  have b2 : Below w.heap.size w (w1.drewN nq) := below_drewN B1.out nq
  generalize hW2 : w1.drewN nq = w2 at x2 y2 b2 ⊢
  have X2 := Lib.hid x2
  have Y2 := Lib.hid y2
  have B2 := Lib.hid b2
  have hrg2 := range_of (cs := [.slice (some a) 32 c, .int .i64 s, .int .i64 t, .bool f0, .bool f1, .bool f2, .bool f3, .bool f4, .bool f5, .bool f6, .bool f7]) x2
  clear x2 y2 b2 hW2
  go_wp2_with (refine wpList_load_mid rfl 42 (.tmp 2) rfl w.heap.size 0 rfl [.slice (some a) 32 c, .int .i64 s, .int .i64 t, .bool f0, .bool f1, .bool f2, .bool f3, .bool f4, .bool f5, .bool f6, .bool f7] _ hrg2 Tryd.underlying42 rfl chanSz ?_)
  refine (HMET.out _).mono ?_
  rintro e w3 ⟨rfl, hb3⟩
  have X3 := Lib.hid ((hb3.block w.heap.size (lt_of_heap X2.out)).trans X2.out)
  have Y3 := Lib.hid ((hb3.block (w.heap.size + 1) (lt_of_heap Y2.out)).trans Y2.out)
  have B3 := Lib.hid (B2.out.trans (hb3.mono B2.out.size))
  clear hb3 hrg2
  go_wp2_with (refine wpList_store_mid rfl 42 (.tmp 4) (.tmp 61) rfl (w.heap.size + 1) 0 #[.slice none 0 0, .int .i64 0, .int .i64 0, .bool false, .bool false, .bool false, .bool false, .bool false, .bool false, .bool false, .bool false] rfl rfl (there_of Y3.out rfl) chanSz (chanOne' _ _ _ _ _ _ _ _ _ _ _ rfl) ?_)
  have hst := storedRow (vs := [.slice none 0 0, .int .i64 0, .int .i64 0, .bool false, .bool false, .bool false, .bool false, .bool false, .bool false, .bool false, .bool false]) Y3.out rfl
  have hl := run_loadVar_mid (P := Tryd.prog) _ (w.heap.size + 1) 0 42 _ _ (range_of hst) Tryd.underlying42 rfl chanSz
  exact bodyPost_ret (v := .tuple #[.agg #[.slice none 0 0, .int .i64 0, .int .i64 0, .bool false, .bool false, .bool false, .bool false, .bool false, .bool false, .bool false, .bool false], .slice none 0 0, .int .i64 7]) (results_ctt Tryd.results31 rfl hl) rfl ⟨rfl, below_setCells (by omega) _ _ _ B3.out⟩
set_option maxRecDepth 100000 in
set_option maxHeartbeats 4000000 in
theorem Take_tag (a : Addr) (c : Nat) (rv : Value) (key r : List UInt8) (s t q : Nat) (f : Nat → Bool) (w : World) (hv : Rd w (.slice (some a) 32 c) key) (hr : Rd w rv r) (hkl : key.length = 32) (hrl : r.length = q + 20) (hq : q ≤ 2000) (hs : s ≤ 1073741824) (ht : t ≤ 1073741824) (hf : SeenOk t f) (hnn : beN (r.take 4) < 1073741824) (hmt : metB t (beN (r.take 4)) f = false) (htg : Sea.tag key (nonceN (r.take 4)) (r.take 4) ((r.drop 4).take q) ≠ (r.drop 4).drop q) :
    Calls Tryd.prog 31 #[.agg #[.slice (some a) 32 c, .int .i64 s, .int .i64 t, .bool (f 0), .bool (f 1), .bool (f 2), .bool (f 3), .bool (f 4), .bool (f 5), .bool (f 6), .bool (f 7)], rv] w fun e w' => e = .returned (.tuple #[.agg #[.slice none 0 0, .int .i64 0, .int .i64 0, .bool false, .bool false, .bool false, .bool false, .bool false, .bool false, .bool false, .bool false], .slice none 0 0, .int .i64 6]) ∧ Below w.heap.size w w' := by
  obtain ⟨m, hm⟩ : ∃ m, q + 20 = m := ⟨_, rfl⟩
  obtain ⟨H, hH⟩ : ∃ H, H = r.take 4 := ⟨_, rfl⟩
  obtain ⟨N, hN⟩ : ∃ N, N = nonceN H := ⟨_, rfl⟩
  obtain ⟨D, hD⟩ : ∃ D, D = r.drop 4 := ⟨_, rfl⟩
  have hHl : H.length = 4 := by rw [hH, List.length_take, hrl]; omega
  have hNl : N.length = 12 := by rw [hN, nonceN, List.length_append, hHl]; rfl
  have hDl : D.length = q + 16 := by rw [hD, List.length_drop, hrl]; omega
  obtain ⟨rb, ro, rc, rfl, hrc, hrcm⟩ := hr.shapeN m (by omega) (by omega)
  have hrh := hr.pre 4 (by omega)
  rw [← hH] at hrh
  have hrh4 : Rd w (.slice (some ⟨rb, ro, none⟩) 4 4) H := by
    obtain ⟨a', c', e, h1, h2, h3, h4⟩ := hrh
    injection e with e1 e2 e3
    subst e1
    exact ⟨_, 4, by rw [hHl], by omega, by decide, (fun h => by cases h), h4⟩
  have hrd := hr.tail 4 (q + 16) (by omega) (by omega)
  rw [← hD] at hrd
  obtain ⟨n, hn⟩ : ∃ n, n = beN H := ⟨_, rfl⟩
  have hnb : n < 4294967296 := by rw [hn]; exact beN_lt _
  have hnr : decide ((1073741824 : Int) ≤ (n : Int)) = false := by rw [← hH, ← hn] at hnn; rw [decide_eq_false_iff_not]; omega
  have hnn2 : n < 1073741824 := by rw [← hH, ← hn] at hnn; exact hnn
  have hmet := fun w => lineMet_any (.slice (some a) 32 c) s t n f w rfl ht (by omega)
  rw [show metB t n f = false by rw [hn, hH]; exact hmt] at hmet
  have HMET := Lib.hid hmet
  have hop := fun kv nv av dv w h1 h2 h3 h4 => Open_any kv nv av dv key N H D q w h1 h2 h3 h4 hkl hNl (by omega) hDl hq
  have hop2 := fun kv nv av dv w h1 h2 h3 h4 => (hop kv nv av dv w h1 h2 h3 h4).mono (R' := fun e w' => e = .returned (.tuple #[.slice none 0 0, .int .i64 6]) ∧ Below w.heap.size w w') (fun e w' h => by
    rcases h with ⟨ha, h⟩ | ⟨ha, h⟩
    · rw [hN, hH, hD] at ha; exact absurd ha htg
    · exact h)
  have HOPEN := Lib.hid hop2
  have hck := fun w => lineCheck_ok (some a) c s t f w hs ht hf
  have HCK := Lib.hid hck
  have hnon := fun v w h => lineNonce_any v H w h hHl
  rw [← hN] at hnon
  have x0 := cellOf hrh4 0 (by rw [hHl]; decide)
  have x1 := cellOf hrh4 1 (by rw [hHl]; decide)
  have x2 := cellOf hrh4 2 (by rw [hHl]; decide)
  have x3 := cellOf hrh4 3 (by rw [hHl]; decide)
  obtain ⟨h0, hh0⟩ : ∃ h, h = H.getD 0 0 := ⟨_, rfl⟩
  obtain ⟨h1, hh1⟩ : ∃ h, h = H.getD 1 0 := ⟨_, rfl⟩
  obtain ⟨h2, hh2⟩ : ∃ h, h = H.getD 2 0 := ⟨_, rfl⟩
  obtain ⟨h3, hh3⟩ : ∃ h, h = H.getD 3 0 := ⟨_, rfl⟩
  have hnv : n = h0.toNat * 16777216 + h1.toNat * 65536 + h2.toNat * 256 + h3.toNat := by rw [hn, beN, hh0, hh1, hh2, hh3]
  rw [← hh0] at x0
  rw [← hh1] at x1
  rw [← hh2] at x2
  rw [← hh3] at x3
  have HXS := Lib.hid (And.intro x0 (And.intro x1 (And.intro x2 x3)))
  obtain ⟨f0, hf0⟩ : ∃ b, b = f 0 := ⟨_, rfl⟩
  obtain ⟨f1, hf1⟩ : ∃ b, b = f 1 := ⟨_, rfl⟩
  obtain ⟨f2, hf2⟩ : ∃ b, b = f 2 := ⟨_, rfl⟩
  obtain ⟨f3, hf3⟩ : ∃ b, b = f 3 := ⟨_, rfl⟩
  obtain ⟨f4, hf4⟩ : ∃ b, b = f 4 := ⟨_, rfl⟩
  obtain ⟨f5, hf5⟩ : ∃ b, b = f 5 := ⟨_, rfl⟩
  obtain ⟨f6, hf6⟩ : ∃ b, b = f 6 := ⟨_, rfl⟩
  obtain ⟨f7, hf7⟩ : ∃ b, b = f 7 := ⟨_, rfl⟩
  rw [← hf0, ← hf1, ← hf2, ← hf3, ← hf4, ← hf5, ← hf6, ← hf7] at HCK HMET ⊢
  have HV := Lib.hid hv
  have HKL := Lib.hid hkl
  have HRH := Lib.hid hrh4
  have HRD := Lib.hid hrd
  have HNON := Lib.hid hnon
  have HHL := Lib.hid hHl
  have HDL := Lib.hid hDl
  have HNV := Lib.hid hnv
  have d2020 : decide ((2020 : Int) < (m : Int)) = false := by rw [decide_eq_false_iff_not]; omega
  have d20 : decide ((m : Int) < 20) = false := by rw [decide_eq_false_iff_not]; omega
  have hrc4 : (4 : Int) ≤ (rc : Int) := by omega
  have hrcm4 : (m : Int) ≤ (rc : Int) := by omega
  have hrc5 : ¬ (rc = 4) := by omega
  have hm4 : m - 4 = q + 16 := by omega
  have hm4' : (4 : Int) ≤ (m : Int) := by omega
  clear hv hr hkl hrl hck hH hN hD hHl hNl hDl hrh hrh4 hrd hnon hn hnv hm hf hf0 hf1 hf2 hf3 hf4 hf5 hf6 hf7 hh0 hh1 hh2 hh3 x0 x1 x2 x3 hnn hmt hmet htg hop hop2
  go_enter Tryd.func31, Tryd.ntmps31
  go_wp2_with fail
  refine (HCK.out _).mono ?_
  rintro e w1 ⟨rfl, hb1⟩
  have x1 := (hb1.block w.heap.size (by simp; omega)).trans (heapNew0 w (.cells #[.slice (some a) 32 c, .int .i64 s, .int .i64 t, .bool f0, .bool f1, .bool f2, .bool f3, .bool f4, .bool f5, .bool f6, .bool f7] 42) _)
  have y1 := (hb1.block (w.heap.size + 1) (by simp)).trans (heapNew1 w _ (.cells #[.slice none 0 0, .int .i64 0, .int .i64 0, .bool false, .bool false, .bool false, .bool false, .bool false, .bool false, .bool false, .bool false] 42))
  have b1 := (((Below.refl w.heap.size w).alloc (Nat.le_refl _) _).alloc (by simp) _).trans (hb1.mono (by simp; omega))
  have z1 := lt_of_heap y1
  have X1 := Lib.hid x1
  have Y1 := Lib.hid y1
  have B1 := Lib.hid b1
  have u0 := (b1.cell (p := ⟨rb, ro + 0, none⟩) (World.block_lt_of_cell? w _ HXS.out.1)).trans HXS.out.1
  have u1 := (b1.cell (p := ⟨rb, ro + 1, none⟩) (World.block_lt_of_cell? w _ HXS.out.2.1)).trans HXS.out.2.1
  have u2 := (b1.cell (p := ⟨rb, ro + 2, none⟩) (World.block_lt_of_cell? w _ HXS.out.2.2.1)).trans HXS.out.2.2.1
  have u3 := (b1.cell (p := ⟨rb, ro + 3, none⟩) (World.block_lt_of_cell? w _ HXS.out.2.2.2)).trans HXS.out.2.2.2
  rw [Nat.add_zero] at u0
  clear hb1 x1 y1 b1
  go_wp2_with fail
  go_quiet (fail)
  clear u0 u1 u2 u3
  rw [four64, ← HNV.out]
  have x2 : (w1.drewN nq).heap[w.heap.size]? = some (.cells #[.slice (some a) 32 c, .int .i64 s, .int .i64 t, .bool f0, .bool f1, .bool f2, .bool f3, .bool f4, .bool f5, .bool f6, .bool f7] 42 (0, 0)) := X1.out
  have y2 : (w1.drewN nq).heap[w.heap.size + 1]? = some (.cells #[.slice none 0 0, .int .i64 0, .int .i64 0, .bool false, .bool false, .bool false, .bool false, .bool false, .bool false, .bool false, .bool false] 42 (0, 0)) := Y1.out
  have b2 : Below w.heap.size w (w1.drewN nq) := below_drewN B1.out nq
  generalize hW2 : w1.drewN nq = w2 at x2 y2 b2 ⊢
  have X2 := Lib.hid x2
  have Y2 := Lib.hid y2
  have B2 := Lib.hid b2
  have hrg2 := range_of (cs := [.slice (some a) 32 c, .int .i64 s, .int .i64 t, .bool f0, .bool f1, .bool f2, .bool f3, .bool f4, .bool f5, .bool f6, .bool f7]) x2
  clear x2 y2 b2 hW2
  go_wp2_with (refine wpList_load_mid rfl 42 (.tmp 2) rfl w.heap.size 0 rfl [.slice (some a) 32 c, .int .i64 s, .int .i64 t, .bool f0, .bool f1, .bool f2, .bool f3, .bool f4, .bool f5, .bool f6, .bool f7] _ hrg2 Tryd.underlying42 rfl chanSz ?_)
  refine (HMET.out _).mono ?_
  rintro e w3 ⟨rfl, hb3⟩
  have X3 := Lib.hid ((hb3.block w.heap.size (lt_of_heap X2.out)).trans X2.out)
  have Y3 := Lib.hid ((hb3.block (w.heap.size + 1) (lt_of_heap Y2.out)).trans Y2.out)
  have B3 := Lib.hid (B2.out.trans (hb3.mono B2.out.size))
  clear hb3 hrg2
  go_wp2_with fail
  have k0 : w3.cell? ⟨w.heap.size, 0, none⟩ = some (.slice (some a) 32 c) := cellAt X3.out 0 rfl
  have RH3 := Lib.hid (HRH.out.stay B3.out)
  have RD3 := Lib.hid (HRD.out.stay B3.out)
  have RV3 := Lib.hid (HV.out.stay B3.out)
  have L3 := Lib.hid (lt_of_heap X3.out)
  go_region_held3 (fun w' => w'.cell? ⟨w.heap.size, 0, none⟩ = some (.slice (some a) 32 c)) (first | exact k0 | assumption) (first
    | (go_at_call 29; refine (HNON.out _ _ (RH3.out.drewN 1)).mono ?_; rintro e w4 ⟨vn, rfl, hon, hb4⟩; have RN4 := Lib.hid hon.rd; have B4 := Lib.hid hb4; have k4 : w4.cell? ⟨w.heap.size, 0, none⟩ = some (.slice (some a) 32 c) := (hb4.cell (p := ⟨w.heap.size, 0, none⟩) L3.out).trans k0; clear hon hb4)
    | (go_at_call 43; refine (HOPEN.out _ _ _ _ _ ((RV3.out.drewN 1).stay B4.out) RN4.out ((RH3.out.drewN 1).stay B4.out) ((RD3.out.drewN 1).stay B4.out)).mono ?_; rintro e w5 ⟨rfl, hb5⟩; have B5 := Lib.hid hb5; have k5 : w5.cell? ⟨w.heap.size, 0, none⟩ = some (.slice (some a) 32 c) := (hb5.cell (p := ⟨w.heap.size, 0, none⟩) (Nat.lt_of_lt_of_le L3.out B4.out.size)).trans k4; clear hb5))
  have B35 := Lib.hid (show Below w3.heap.size w3 w5 from (below_drewN (Below.refl w3.heap.size w3) 1).trans (B4.out.trans (B5.out.mono B4.out.size)))
  have X5 := Lib.hid ((B35.out.block w.heap.size L3.out).trans X3.out)
  have Y5 := Lib.hid ((B35.out.block (w.heap.size + 1) (lt_of_heap Y3.out)).trans Y3.out)
  have B05 := Lib.hid (B3.out.trans (B35.out.mono B3.out.size))
  have hrg5 := range_of (cs := [.slice (some a) 32 c, .int .i64 s, .int .i64 t, .bool f0, .bool f1, .bool f2, .bool f3, .bool f4, .bool f5, .bool f6, .bool f7]) X5.out
  clear k0 k4 k5
  go_wp2_with (refine wpList_store_mid rfl 42 (.tmp 4) (.tmp 75) rfl (w.heap.size + 1) 0 #[.slice none 0 0, .int .i64 0, .int .i64 0, .bool false, .bool false, .bool false, .bool false, .bool false, .bool false, .bool false, .bool false] rfl rfl (there_of Y5.out rfl) chanSz (chanOne' _ _ _ _ _ _ _ _ _ _ _ rfl) ?_)
  have hst := storedRow (vs := [.slice none 0 0, .int .i64 0, .int .i64 0, .bool false, .bool false, .bool false, .bool false, .bool false, .bool false, .bool false, .bool false]) Y5.out rfl
  have hl := run_loadVar_mid (P := Tryd.prog) _ (w.heap.size + 1) 0 42 _ _ (range_of hst) Tryd.underlying42 rfl chanSz
  exact bodyPost_ret (v := .tuple #[.agg #[.slice none 0 0, .int .i64 0, .int .i64 0, .bool false, .bool false, .bool false, .bool false, .bool false, .bool false, .bool false, .bool false], .slice none 0 0, .int .i64 6]) (results_ctt Tryd.results31 rfl hl) rfl ⟨rfl, below_setCells (by omega) _ _ _ B05.out⟩
set_option maxRecDepth 100000 in
set_option maxHeartbeats 4000000 in
theorem Take_ok (a : Addr) (c : Nat) (rv : Value) (key r : List UInt8) (s t q : Nat) (f : Nat → Bool) (w : World) (hv : Rd w (.slice (some a) 32 c) key) (hr : Rd w rv r) (hkl : key.length = 32) (hrl : r.length = q + 20) (hq : q ≤ 2000) (hs : s ≤ 1073741824) (ht : t ≤ 1073741824) (hf : SeenOk t f) (hnn : beN (r.take 4) < 1073741824) (hmt : metB t (beN (r.take 4)) f = false) (htg : Sea.tag key (nonceN (r.take 4)) (r.take 4) ((r.drop 4).take q) = (r.drop 4).drop q) :
    Calls Tryd.prog 31 #[.agg #[.slice (some a) 32 c, .int .i64 s, .int .i64 t, .bool (f 0), .bool (f 1), .bool (f 2), .bool (f 3), .bool (f 4), .bool (f 5), .bool (f 6), .bool (f 7)], rv] w (TakePost w key s (max t (beN (r.take 4) + 1)) (withF t (beN (r.take 4)) f) (Cha.mix key 1 (nonceN (r.take 4)) ((r.drop 4).take q))) := by
  obtain ⟨m, hm⟩ : ∃ m, q + 20 = m := ⟨_, rfl⟩
  obtain ⟨H, hH⟩ : ∃ H, H = r.take 4 := ⟨_, rfl⟩
  obtain ⟨N, hN⟩ : ∃ N, N = nonceN H := ⟨_, rfl⟩
  obtain ⟨D, hD⟩ : ∃ D, D = r.drop 4 := ⟨_, rfl⟩
  have hHl : H.length = 4 := by rw [hH, List.length_take, hrl]; omega
  have hNl : N.length = 12 := by rw [hN, nonceN, List.length_append, hHl]; rfl
  have hDl : D.length = q + 16 := by rw [hD, List.length_drop, hrl]; omega
  obtain ⟨rb, ro, rc, rfl, hrc, hrcm⟩ := hr.shapeN m (by omega) (by omega)
  have hrh := hr.pre 4 (by omega)
  rw [← hH] at hrh
  have hrh4 : Rd w (.slice (some ⟨rb, ro, none⟩) 4 4) H := by
    obtain ⟨a', c', e, h1, h2, h3, h4⟩ := hrh
    injection e with e1 e2 e3
    subst e1
    exact ⟨_, 4, by rw [hHl], by omega, by decide, (fun h => by cases h), h4⟩
  have hrd := hr.tail 4 (q + 16) (by omega) (by omega)
  rw [← hD] at hrd
  obtain ⟨n, hn⟩ : ∃ n, n = beN H := ⟨_, rfl⟩
  have hnb : n < 4294967296 := by rw [hn]; exact beN_lt _
  have hnr : decide ((1073741824 : Int) ≤ (n : Int)) = false := by rw [← hH, ← hn] at hnn; rw [decide_eq_false_iff_not]; omega
  have hnn2 : n < 1073741824 := by rw [← hH, ← hn] at hnn; exact hnn
  have hmet := fun w => lineMet_any (.slice (some a) 32 c) s t n f w rfl ht (by omega)
  rw [show metB t n f = false by rw [hn, hH]; exact hmt] at hmet
  have HMET := Lib.hid hmet
  rw [← hH, ← hN, ← hD, ← hn]
  obtain ⟨P, hP⟩ : ∃ P, P = Cha.mix key 1 N (D.take q) := ⟨_, rfl⟩
  rw [← hP]
  have hop := fun kv nv av dv w h1 h2 h3 h4 => Open_any kv nv av dv key N H D q w h1 h2 h3 h4 hkl hNl (by omega) hDl hq
  have hop2 := fun kv nv av dv w h1 h2 h3 h4 => (hop kv nv av dv w h1 h2 h3 h4).mono (R' := fun e w' => FreshBE w P 0 e w') (fun e w' h => by
    rcases h with ⟨ha, h⟩ | ⟨ha, h⟩
    · rw [hP]; exact h
    · rw [hN, hH, hD] at ha; exact absurd htg ha)
  have HOPEN := Lib.hid hop2
  have hmtn : ¬ n + 8 < t := by
    have h := hmt
    rw [← hH, ← hn] at h
    simp [metB] at h
    omega
  have hwith := fun w h => lineWith_any a c key s t n f w h hkl ht (by omega) hmtn
  have HWITH := Lib.hid hwith
  have hck := fun w => lineCheck_ok (some a) c s t f w hs ht hf
  have HCK := Lib.hid hck
  have hnon := fun v w h => lineNonce_any v H w h hHl
  rw [← hN] at hnon
  have x0 := cellOf hrh4 0 (by rw [hHl]; decide)
  have x1 := cellOf hrh4 1 (by rw [hHl]; decide)
  have x2 := cellOf hrh4 2 (by rw [hHl]; decide)
  have x3 := cellOf hrh4 3 (by rw [hHl]; decide)
  obtain ⟨h0, hh0⟩ : ∃ h, h = H.getD 0 0 := ⟨_, rfl⟩
  obtain ⟨h1, hh1⟩ : ∃ h, h = H.getD 1 0 := ⟨_, rfl⟩
  obtain ⟨h2, hh2⟩ : ∃ h, h = H.getD 2 0 := ⟨_, rfl⟩
  obtain ⟨h3, hh3⟩ : ∃ h, h = H.getD 3 0 := ⟨_, rfl⟩
  have hnv : n = h0.toNat * 16777216 + h1.toNat * 65536 + h2.toNat * 256 + h3.toNat := by rw [hn, beN, hh0, hh1, hh2, hh3]
  rw [← hh0] at x0
  rw [← hh1] at x1
  rw [← hh2] at x2
  rw [← hh3] at x3
  have HXS := Lib.hid (And.intro x0 (And.intro x1 (And.intro x2 x3)))
  obtain ⟨f0, hf0⟩ : ∃ b, b = f 0 := ⟨_, rfl⟩
  obtain ⟨f1, hf1⟩ : ∃ b, b = f 1 := ⟨_, rfl⟩
  obtain ⟨f2, hf2⟩ : ∃ b, b = f 2 := ⟨_, rfl⟩
  obtain ⟨f3, hf3⟩ : ∃ b, b = f 3 := ⟨_, rfl⟩
  obtain ⟨f4, hf4⟩ : ∃ b, b = f 4 := ⟨_, rfl⟩
  obtain ⟨f5, hf5⟩ : ∃ b, b = f 5 := ⟨_, rfl⟩
  obtain ⟨f6, hf6⟩ : ∃ b, b = f 6 := ⟨_, rfl⟩
  obtain ⟨f7, hf7⟩ : ∃ b, b = f 7 := ⟨_, rfl⟩
  rw [← hf0, ← hf1, ← hf2, ← hf3, ← hf4, ← hf5, ← hf6, ← hf7] at HCK HMET HWITH ⊢
  have HV := Lib.hid hv
  have HKL := Lib.hid hkl
  have HRH := Lib.hid hrh4
  have HRD := Lib.hid hrd
  have HNON := Lib.hid hnon
  have HHL := Lib.hid hHl
  have HDL := Lib.hid hDl
  have HNV := Lib.hid hnv
  have d2020 : decide ((2020 : Int) < (m : Int)) = false := by rw [decide_eq_false_iff_not]; omega
  have d20 : decide ((m : Int) < 20) = false := by rw [decide_eq_false_iff_not]; omega
  have hrc4 : (4 : Int) ≤ (rc : Int) := by omega
  have hrcm4 : (m : Int) ≤ (rc : Int) := by omega
  have hrc5 : ¬ (rc = 4) := by omega
  have hm4 : m - 4 = q + 16 := by omega
  have hm4' : (4 : Int) ≤ (m : Int) := by omega
  clear hv hr hkl hrl hck hH hN hD hHl hNl hDl hrh hrh4 hrd hnon hn hnv hm hf hf0 hf1 hf2 hf3 hf4 hf5 hf6 hf7 hh0 hh1 hh2 hh3 x0 x1 x2 x3 hnn hmt hmet htg hop hop2 hmtn hwith hP
  go_enter Tryd.func31, Tryd.ntmps31
  go_wp2_with fail
  refine (HCK.out _).mono ?_
  rintro e w1 ⟨rfl, hb1⟩
  have x1 := (hb1.block w.heap.size (by simp; omega)).trans (heapNew0 w (.cells #[.slice (some a) 32 c, .int .i64 s, .int .i64 t, .bool f0, .bool f1, .bool f2, .bool f3, .bool f4, .bool f5, .bool f6, .bool f7] 42) _)
  have y1 := (hb1.block (w.heap.size + 1) (by simp)).trans (heapNew1 w _ (.cells #[.slice none 0 0, .int .i64 0, .int .i64 0, .bool false, .bool false, .bool false, .bool false, .bool false, .bool false, .bool false, .bool false] 42))
  have b1 := (((Below.refl w.heap.size w).alloc (Nat.le_refl _) _).alloc (by simp) _).trans (hb1.mono (by simp; omega))
  have z1 := lt_of_heap y1
  have X1 := Lib.hid x1
  have Y1 := Lib.hid y1
  have B1 := Lib.hid b1
  have u0 := (b1.cell (p := ⟨rb, ro + 0, none⟩) (World.block_lt_of_cell? w _ HXS.out.1)).trans HXS.out.1
  have u1 := (b1.cell (p := ⟨rb, ro + 1, none⟩) (World.block_lt_of_cell? w _ HXS.out.2.1)).trans HXS.out.2.1
  have u2 := (b1.cell (p := ⟨rb, ro + 2, none⟩) (World.block_lt_of_cell? w _ HXS.out.2.2.1)).trans HXS.out.2.2.1
  have u3 := (b1.cell (p := ⟨rb, ro + 3, none⟩) (World.block_lt_of_cell? w _ HXS.out.2.2.2)).trans HXS.out.2.2.2
  rw [Nat.add_zero] at u0
  clear hb1 x1 y1 b1
  go_wp2_with fail
  go_quiet (fail)
  clear u0 u1 u2 u3
  rw [four64, ← HNV.out]
  have x2 : (w1.drewN nq).heap[w.heap.size]? = some (.cells #[.slice (some a) 32 c, .int .i64 s, .int .i64 t, .bool f0, .bool f1, .bool f2, .bool f3, .bool f4, .bool f5, .bool f6, .bool f7] 42 (0, 0)) := X1.out
  have y2 : (w1.drewN nq).heap[w.heap.size + 1]? = some (.cells #[.slice none 0 0, .int .i64 0, .int .i64 0, .bool false, .bool false, .bool false, .bool false, .bool false, .bool false, .bool false, .bool false] 42 (0, 0)) := Y1.out
  have b2 : Below w.heap.size w (w1.drewN nq) := below_drewN B1.out nq
  generalize hW2 : w1.drewN nq = w2 at x2 y2 b2 ⊢
  have X2 := Lib.hid x2
  have Y2 := Lib.hid y2
  have B2 := Lib.hid b2
  have hrg2 := range_of (cs := [.slice (some a) 32 c, .int .i64 s, .int .i64 t, .bool f0, .bool f1, .bool f2, .bool f3, .bool f4, .bool f5, .bool f6, .bool f7]) x2
  clear x2 y2 b2 hW2
  go_wp2_with (refine wpList_load_mid rfl 42 (.tmp 2) rfl w.heap.size 0 rfl [.slice (some a) 32 c, .int .i64 s, .int .i64 t, .bool f0, .bool f1, .bool f2, .bool f3, .bool f4, .bool f5, .bool f6, .bool f7] _ hrg2 Tryd.underlying42 rfl chanSz ?_)
  refine (HMET.out _).mono ?_
  rintro e w3 ⟨rfl, hb3⟩
  have X3 := Lib.hid ((hb3.block w.heap.size (lt_of_heap X2.out)).trans X2.out)
  have Y3 := Lib.hid ((hb3.block (w.heap.size + 1) (lt_of_heap Y2.out)).trans Y2.out)
  have B3 := Lib.hid (B2.out.trans (hb3.mono B2.out.size))
  clear hb3 hrg2
  go_wp2_with fail
  have k0 : w3.cell? ⟨w.heap.size, 0, none⟩ = some (.slice (some a) 32 c) := cellAt X3.out 0 rfl
  have RH3 := Lib.hid (HRH.out.stay B3.out)
  have RD3 := Lib.hid (HRD.out.stay B3.out)
  have RV3 := Lib.hid (HV.out.stay B3.out)
  have L3 := Lib.hid (lt_of_heap X3.out)
  go_region_held3 (fun w' => w'.cell? ⟨w.heap.size, 0, none⟩ = some (.slice (some a) 32 c)) (first | exact k0 | assumption) (first
    | (go_at_call 29; refine (HNON.out _ _ (RH3.out.drewN 1)).mono ?_; rintro e w4 ⟨vn, rfl, hon, hb4⟩; have RN4 := Lib.hid hon.rd; have B4 := Lib.hid hb4; have k4 : w4.cell? ⟨w.heap.size, 0, none⟩ = some (.slice (some a) 32 c) := (hb4.cell (p := ⟨w.heap.size, 0, none⟩) L3.out).trans k0; clear hon hb4)
    | (go_at_call 43; refine (HOPEN.out _ _ _ _ _ ((RV3.out.drewN 1).stay B4.out) RN4.out ((RH3.out.drewN 1).stay B4.out) ((RD3.out.drewN 1).stay B4.out)).mono ?_; rintro e w5 ⟨vx, rfl, hox, hb5⟩; have B5 := Lib.hid hb5; have k5 : w5.cell? ⟨w.heap.size, 0, none⟩ = some (.slice (some a) 32 c) := (hb5.cell (p := ⟨w.heap.size, 0, none⟩) (Nat.lt_of_lt_of_le L3.out B4.out.size)).trans k4; have OX5 := Lib.hid hox; clear hox; clear hb5))
  have B35 := Lib.hid (show Below w3.heap.size w3 w5 from (below_drewN (Below.refl w3.heap.size w3) 1).trans (B4.out.trans (B5.out.mono B4.out.size)))
  have X5 := Lib.hid ((B35.out.block w.heap.size L3.out).trans X3.out)
  have Y5 := Lib.hid ((B35.out.block (w.heap.size + 1) (lt_of_heap Y3.out)).trans Y3.out)
  have B05 := Lib.hid (B3.out.trans (B35.out.mono B3.out.size))
  have hrg5 := range_of (cs := [.slice (some a) 32 c, .int .i64 s, .int .i64 t, .bool f0, .bool f1, .bool f2, .bool f3, .bool f4, .bool f5, .bool f6, .bool f7]) X5.out
  clear k0 k4 k5
  go_wp2_with (refine wpList_load_mid rfl 42 (.tmp 2) rfl w.heap.size 0 rfl [.slice (some a) 32 c, .int .i64 s, .int .i64 t, .bool f0, .bool f1, .bool f2, .bool f3, .bool f4, .bool f5, .bool f6, .bool f7] _ hrg5 Tryd.underlying42 rfl chanSz ?_)
  refine (HWITH.out _ ((HV.out.stay B05.out))).mono ?_
  rintro e w6 ⟨kv, rfl, hok, hb6⟩
  obtain ⟨kg, kcap, hkv, _, _, _, _⟩ := hok.shape (by intro h; have := HKL.out; rw [h] at this; cases this)
  rw [HKL.out] at hkv
  subst hkv
  have O6 := Lib.hid hok
  have Y6 := Lib.hid ((hb6.block (w.heap.size + 1) (lt_of_heap Y5.out)).trans Y5.out)
  have B6 := Lib.hid (B05.out.trans (hb6.mono B05.out.size))
  have OX6 := Lib.hid (OX5.out.below hb6 (fun k hk => (OX5.out.lt k hk).2))
  have z15 := B35.out.size
  have z14 : w3.heap.size ≤ w4.heap.size := B4.out.size
  have z5 := B05.out.size
  have zy5 := lt_of_heap Y5.out
  have zy3 := lt_of_heap Y3.out
  clear hok hb6 hrg5
  go_wp2_with (refine wpList_store_mid rfl 42 (.tmp 4) (.tmp 79) rfl (w.heap.size + 1) 0 (chanC (.slice (some ⟨kg, 0, none⟩) 32 kcap) s (max t (n + 1) : Nat) (withF t n f)).toArray rfl rfl (there_of Y6.out rfl) chanSz (chanOne _ _ _ _ rfl) ?_)
  have hst := storedRow (vs := chanC (.slice (some ⟨kg, 0, none⟩) 32 kcap) s (max t (n + 1) : Nat) (withF t n f)) Y6.out rfl
  have hl := run_loadVar_mid (P := Tryd.prog) _ (w.heap.size + 1) 0 42 _ _ (range_of hst) Tryd.underlying42 rfl chanSz
  refine bodyPost_ret (v := .tuple #[.agg (chanC (.slice (some ⟨kg, 0, none⟩) 32 kcap) s (max t (n + 1) : Nat) (withF t n f)).toArray, vx, .int .i64 0]) (results_ctt Tryd.results31 rfl hl) rfl ⟨_, _, rfl, ?_, ?_, below_setCells (by omega) _ _ _ B6.out⟩
  · refine (O6.out.ofHeap (fun k hk => heap_setCells_ne ?_ _ _ _)).mono z5
    have := (O6.out.lt k hk).1
    omega
  · refine (OX6.out.ofHeap (fun k hk => heap_setCells_ne ?_ _ _ _)).mono (by omega)
    have := (OX6.out.lt k hk).1
    omega
end Go.Proofs.YtpkfbmafbkgcmaaDoor

set_option linter.unusedVariables false
set_option linter.unusedSimpArgs false
namespace Go.Proofs.YtpkfbmafbkgcmaaDoor
open Go.RowKit Go.Con
set_option maxRecDepth 100000 in
set_option maxHeartbeats 2000000 in
theorem Take_short (a ra : Addr) (c m rc s t : Nat) (ro : Option Addr) (f : Nat → Bool) (w : World) (hm : m < 20) (hs : s ≤ 1073741824) (ht : t ≤ 1073741824) (hf : SeenOk t f) :
    Calls Tryd.prog 31 #[.agg #[.slice (some a) 32 c, .int .i64 s, .int .i64 t, .bool (f 0), .bool (f 1), .bool (f 2), .bool (f 3), .bool (f 4), .bool (f 5), .bool (f 6), .bool (f 7)], .slice ro m rc] w fun e w' => e = .returned (.tuple #[.agg #[.slice none 0 0, .int .i64 0, .int .i64 0, .bool false, .bool false, .bool false, .bool false, .bool false, .bool false, .bool false, .bool false], .slice none 0 0, .int .i64 13]) ∧ Below w.heap.size w w' := by
  have d20 : decide ((m : Int) < 20) = true := by rw [decide_eq_true_eq]; omega
  have d2020 : decide ((2020 : Int) < (m : Int)) = false := by rw [decide_eq_false_iff_not]; omega
  have hck := fun w => lineCheck_ok (some a) c s t f w hs ht hf
  have HCK := Lib.hid hck
  obtain ⟨f0, hf0⟩ : ∃ b, b = f 0 := ⟨_, rfl⟩
  obtain ⟨f1, hf1⟩ : ∃ b, b = f 1 := ⟨_, rfl⟩
  obtain ⟨f2, hf2⟩ : ∃ b, b = f 2 := ⟨_, rfl⟩
  obtain ⟨f3, hf3⟩ : ∃ b, b = f 3 := ⟨_, rfl⟩
  obtain ⟨f4, hf4⟩ : ∃ b, b = f 4 := ⟨_, rfl⟩
  obtain ⟨f5, hf5⟩ : ∃ b, b = f 5 := ⟨_, rfl⟩
  obtain ⟨f6, hf6⟩ : ∃ b, b = f 6 := ⟨_, rfl⟩
  obtain ⟨f7, hf7⟩ : ∃ b, b = f 7 := ⟨_, rfl⟩
  rw [← hf0, ← hf1, ← hf2, ← hf3, ← hf4, ← hf5, ← hf6, ← hf7] at HCK ⊢
  clear hck hf hf0 hf1 hf2 hf3 hf4 hf5 hf6 hf7
  go_enter Tryd.func31, Tryd.ntmps31
  go_wp2_with fail
  refine (HCK.out _).mono ?_
  rintro e w1 ⟨rfl, hb1⟩
  have y1 := (hb1.block (w.heap.size + 1) (by simp)).trans (heapNew1 w _ (.cells #[.slice none 0 0, .int .i64 0, .int .i64 0, .bool false, .bool false, .bool false, .bool false, .bool false, .bool false, .bool false, .bool false] 42))
  have b1 := (((Below.refl w.heap.size w).alloc (Nat.le_refl _) _).alloc (by simp) _).trans (hb1.mono (by simp; omega))
  skip
  have Y1 := Lib.hid y1
  have B1 := Lib.hid b1
  clear hb1 y1 b1
  go_wp2_with (refine wpList_store_mid rfl 42 (.tmp 4) (.tmp 28) rfl (w.heap.size + 1) 0 #[.slice none 0 0, .int .i64 0, .int .i64 0, .bool false, .bool false, .bool false, .bool false, .bool false, .bool false, .bool false, .bool false] rfl rfl (there_of Y1.out rfl) chanSz (chanOne' _ _ _ _ _ _ _ _ _ _ _ rfl) ?_)
  have hst := storedRow (vs := [.slice none 0 0, .int .i64 0, .int .i64 0, .bool false, .bool false, .bool false, .bool false, .bool false, .bool false, .bool false, .bool false]) Y1.out rfl
  have hl := run_loadVar_mid (P := Tryd.prog) _ (w.heap.size + 1) 0 42 _ _ (range_of hst) Tryd.underlying42 rfl chanSz
  exact bodyPost_ret (v := .tuple #[.agg #[.slice none 0 0, .int .i64 0, .int .i64 0, .bool false, .bool false, .bool false, .bool false, .bool false, .bool false, .bool false, .bool false], .slice none 0 0, .int .i64 13]) (results_ctt Tryd.results31 rfl hl) rfl ⟨rfl, below_setCells (by omega) _ _ _ B1.out⟩
set_option maxRecDepth 100000 in
set_option maxHeartbeats 2000000 in
theorem Take_key (a : Option Addr) (n c m rc : Nat) (ro : Option Addr) (w : World) (hn : n ≠ 32) :
    Calls Tryd.prog 31 #[.agg #[.slice a n c, .int .i64 0, .int .i64 0, .bool false, .bool false, .bool false, .bool false, .bool false, .bool false, .bool false, .bool false], .slice ro m rc] w fun e w' => e = .returned (.tuple #[.agg #[.slice none 0 0, .int .i64 0, .int .i64 0, .bool false, .bool false, .bool false, .bool false, .bool false, .bool false, .bool false, .bool false], .slice none 0 0, .int .i64 5]) ∧ Below w.heap.size w w' := by
  go_enter Tryd.func31, Tryd.ntmps31
  go_wp2_with fail
  refine (lineCheck_key a n c 0 0 false false false false false false false false _ hn).mono ?_
  rintro e w1 ⟨rfl, hb1⟩
  have y1 := (hb1.block (w.heap.size + 1) (by simp)).trans (heapNew1 w _ (.cells #[.slice none 0 0, .int .i64 0, .int .i64 0, .bool false, .bool false, .bool false, .bool false, .bool false, .bool false, .bool false, .bool false] 42))
  have b1 := (((Below.refl w.heap.size w).alloc (Nat.le_refl _) _).alloc (by simp) _).trans (hb1.mono (by simp; omega))
  skip
  have Y1 := Lib.hid y1
  have B1 := Lib.hid b1
  clear hb1 y1 b1
  go_wp2_with (refine wpList_store_mid rfl 42 (.tmp 4) (.tmp 17) rfl (w.heap.size + 1) 0 #[.slice none 0 0, .int .i64 0, .int .i64 0, .bool false, .bool false, .bool false, .bool false, .bool false, .bool false, .bool false, .bool false] rfl rfl (there_of Y1.out rfl) chanSz (chanOne' _ _ _ _ _ _ _ _ _ _ _ rfl) ?_)
  have hst := storedRow (vs := [.slice none 0 0, .int .i64 0, .int .i64 0, .bool false, .bool false, .bool false, .bool false, .bool false, .bool false, .bool false, .bool false]) Y1.out rfl
  have hl := run_loadVar_mid (P := Tryd.prog) _ (w.heap.size + 1) 0 42 _ _ (range_of hst) Tryd.underlying42 rfl chanSz
  exact bodyPost_ret (v := .tuple #[.agg #[.slice none 0 0, .int .i64 0, .int .i64 0, .bool false, .bool false, .bool false, .bool false, .bool false, .bool false, .bool false, .bool false], .slice none 0 0, .int .i64 5]) (results_ctt Tryd.results31 rfl hl) rfl ⟨rfl, below_setCells (by omega) _ _ _ B1.out⟩
set_option maxRecDepth 100000 in
set_option maxHeartbeats 2000000 in
theorem Send_top (a : Option Addr) (c : Nat) (pv : Value) (w : World) :
    Calls Tryd.prog 15 #[.agg #[.slice a 32 c, .int .i64 0, .int .i64 1, .bool false, .bool false, .bool false, .bool false, .bool false, .bool false, .bool false, .bool false], pv] w fun e w' => e = .returned (.tuple #[.agg #[.slice none 0 0, .int .i64 0, .int .i64 0, .bool false, .bool false, .bool false, .bool false, .bool false, .bool false, .bool false, .bool false], .slice none 0 0, .int .i64 5]) ∧ Below w.heap.size w w' := by
  go_enter Tryd.func15, Tryd.ntmps15
  go_wp2_with fail
  refine (lineCheck_top a c _).mono ?_
  rintro e w1 ⟨rfl, hb1⟩
  have y1 := (hb1.block (w.heap.size + 1) (by simp)).trans (heapNew1 w _ (.cells #[.slice none 0 0, .int .i64 0, .int .i64 0, .bool false, .bool false, .bool false, .bool false, .bool false, .bool false, .bool false, .bool false] 42))
  have b1 := (((Below.refl w.heap.size w).alloc (Nat.le_refl _) _).alloc (by simp) _).trans (hb1.mono (by simp; omega))
  skip
  have Y1 := Lib.hid y1
  have B1 := Lib.hid b1
  clear hb1 y1 b1
  go_wp2_with (refine wpList_store_mid rfl 42 (.tmp 4) (.tmp 17) rfl (w.heap.size + 1) 0 #[.slice none 0 0, .int .i64 0, .int .i64 0, .bool false, .bool false, .bool false, .bool false, .bool false, .bool false, .bool false, .bool false] rfl rfl (there_of Y1.out rfl) chanSz (chanOne' _ _ _ _ _ _ _ _ _ _ _ rfl) ?_)
  have hst := storedRow (vs := [.slice none 0 0, .int .i64 0, .int .i64 0, .bool false, .bool false, .bool false, .bool false, .bool false, .bool false, .bool false, .bool false]) Y1.out rfl
  have hl := run_loadVar_mid (P := Tryd.prog) _ (w.heap.size + 1) 0 42 _ _ (range_of hst) Tryd.underlying42 rfl chanSz
  exact bodyPost_ret (v := .tuple #[.agg #[.slice none 0 0, .int .i64 0, .int .i64 0, .bool false, .bool false, .bool false, .bool false, .bool false, .bool false, .bool false, .bool false], .slice none 0 0, .int .i64 5]) (results_ctt Tryd.results15 rfl hl) rfl ⟨rfl, below_setCells (by omega) _ _ _ B1.out⟩
set_option maxRecDepth 100000 in
set_option maxHeartbeats 2000000 in
theorem Send_full (a : Addr) (c m pc s t : Nat) (pa : Option Addr) (f : Nat → Bool) (w : World) (hm : m ≤ 2000) (hsf : s = 1073741824) (ht : t ≤ 1073741824) (hf : SeenOk t f) :
    Calls Tryd.prog 15 #[.agg #[.slice (some a) 32 c, .int .i64 s, .int .i64 t, .bool (f 0), .bool (f 1), .bool (f 2), .bool (f 3), .bool (f 4), .bool (f 5), .bool (f 6), .bool (f 7)], .slice pa m pc] w fun e w' => e = .returned (.tuple #[.agg #[.slice none 0 0, .int .i64 0, .int .i64 0, .bool false, .bool false, .bool false, .bool false, .bool false, .bool false, .bool false, .bool false], .slice none 0 0, .int .i64 8]) ∧ Below w.heap.size w w' := by
  have d2000 : decide ((2000 : Int) < (m : Int)) = false := by rw [decide_eq_false_iff_not]; omega
  have hsn : ((s : Int) == 1073741824) = true := by rw [beq_iff_eq]; omega
  have hck := fun w => lineCheck_ok (some a) c s t f w (by omega) ht hf
  have HCK := Lib.hid hck
  obtain ⟨f0, hf0⟩ : ∃ b, b = f 0 := ⟨_, rfl⟩
  obtain ⟨f1, hf1⟩ : ∃ b, b = f 1 := ⟨_, rfl⟩
  obtain ⟨f2, hf2⟩ : ∃ b, b = f 2 := ⟨_, rfl⟩
  obtain ⟨f3, hf3⟩ : ∃ b, b = f 3 := ⟨_, rfl⟩
  obtain ⟨f4, hf4⟩ : ∃ b, b = f 4 := ⟨_, rfl⟩
  obtain ⟨f5, hf5⟩ : ∃ b, b = f 5 := ⟨_, rfl⟩
  obtain ⟨f6, hf6⟩ : ∃ b, b = f 6 := ⟨_, rfl⟩
  obtain ⟨f7, hf7⟩ : ∃ b, b = f 7 := ⟨_, rfl⟩
  rw [← hf0, ← hf1, ← hf2, ← hf3, ← hf4, ← hf5, ← hf6, ← hf7] at HCK ⊢
  clear hsf hck hf hf0 hf1 hf2 hf3 hf4 hf5 hf6 hf7
  go_enter Tryd.func15, Tryd.ntmps15
  go_wp2_with fail
  refine (HCK.out _).mono ?_
  rintro e w1 ⟨rfl, hb1⟩
  have y1 := (hb1.block (w.heap.size + 1) (by simp)).trans (heapNew1 w _ (.cells #[.slice none 0 0, .int .i64 0, .int .i64 0, .bool false, .bool false, .bool false, .bool false, .bool false, .bool false, .bool false, .bool false] 42))
  have b1 := (((Below.refl w.heap.size w).alloc (Nat.le_refl _) _).alloc (by simp) _).trans (hb1.mono (by simp; omega))
  have c1 := cellAt ((hb1.block w.heap.size (by simp; omega)).trans (heapNew0 w (.cells #[.slice (some a) 32 c, .int .i64 s, .int .i64 t, .bool f0, .bool f1, .bool f2, .bool f3, .bool f4, .bool f5, .bool f6, .bool f7] 42) _)) 1 rfl
  have Y1 := Lib.hid y1
  have B1 := Lib.hid b1
  clear hb1 y1 b1
  go_wp2_with (refine wpList_store_mid rfl 42 (.tmp 4) (.tmp 28) rfl (w.heap.size + 1) 0 #[.slice none 0 0, .int .i64 0, .int .i64 0, .bool false, .bool false, .bool false, .bool false, .bool false, .bool false, .bool false, .bool false] rfl rfl (there_of Y1.out rfl) chanSz (chanOne' _ _ _ _ _ _ _ _ _ _ _ rfl) ?_)
  have hst := storedRow (vs := [.slice none 0 0, .int .i64 0, .int .i64 0, .bool false, .bool false, .bool false, .bool false, .bool false, .bool false, .bool false, .bool false]) Y1.out rfl
  have hl := run_loadVar_mid (P := Tryd.prog) _ (w.heap.size + 1) 0 42 _ _ (range_of hst) Tryd.underlying42 rfl chanSz
  exact bodyPost_ret (v := .tuple #[.agg #[.slice none 0 0, .int .i64 0, .int .i64 0, .bool false, .bool false, .bool false, .bool false, .bool false, .bool false, .bool false, .bool false], .slice none 0 0, .int .i64 8]) (results_ctt Tryd.results15 rfl hl) rfl ⟨rfl, below_setCells (by omega) _ _ _ B1.out⟩
end Go.Proofs.YtpkfbmafbkgcmaaDoor

set_option linter.unusedVariables false
set_option linter.unusedSimpArgs false
namespace Go.Con
open Go.Proofs.YtpkfbmafbkgcmaaDoor
theorem rec_take (key : List UInt8) (n : Nat) (p : List UInt8) : (recB key n p).take 4 = fourN n := List.take_left' rfl
theorem rec_drop (key : List UInt8) (n : Nat) (p : List UInt8) : (recB key n p).drop 4 = Sea.boxed key (nonceN (fourN n)) (fourN n) p := List.drop_left' rfl
end Go.Con
namespace Go.Proofs.YtpkfbmafbkgcmaaDoor
open Go.RowKit Go.Con
theorem Take_rec (a : Addr) (c : Nat) (rv : Value) (key r p : List UInt8) (s t n : Nat) (f : Nat → Bool) (w : World) (hv : Rd w (.slice (some a) 32 c) key) (hr : Rd w rv r) (hkl : key.length = 32) (hrp : r = recB key n p) (hpl : p.length ≤ 2000) (hn : n < 1073741824) (hs : s ≤ 1073741824) (ht : t ≤ 1073741824) (hf : SeenOk t f) (hm : metB t n f = false) :
    Calls Tryd.prog 31 #[.agg #[.slice (some a) 32 c, .int .i64 s, .int .i64 t, .bool (f 0), .bool (f 1), .bool (f 2), .bool (f 3), .bool (f 4), .bool (f 5), .bool (f 6), .bool (f 7)], rv] w (TakePost w key s (max t (n + 1)) (withF t n f) p) := by
  have h1 : r.take 4 = fourN n := by rw [hrp]; exact rec_take _ _ _
  have h2 : r.drop 4 = Sea.boxed key (nonceN (fourN n)) (fourN n) p := by rw [hrp]; exact rec_drop _ _ _
  have h3 : beN (fourN n) = n := beN_four n (by omega)
  have h := Take_ok a c rv key r s t p.length f w hv hr hkl (by rw [hrp]; exact recB_length _ _ _) hpl hs ht hf (by rw [h1, h3]; exact hn) (by rw [h1, h3]; exact hm) (by rw [h1, h2, Sea.boxed_take, Sea.boxed_drop])
  rw [h1, h2, h3, Sea.boxed_take, Cha.mix_twice] at h
  exact h
theorem Take_recOld (a : Addr) (c : Nat) (rv : Value) (key r p : List UInt8) (s t n : Nat) (f : Nat → Bool) (w : World) (hv : Rd w (.slice (some a) 32 c) key) (hr : Rd w rv r) (hkl : key.length = 32) (hrp : r = recB key n p) (hpl : p.length ≤ 2000) (hn : n < 1073741824) (hs : s ≤ 1073741824) (ht : t ≤ 1073741824) (hf : SeenOk t f) (hm : metB t n f = true) :
    Calls Tryd.prog 31 #[.agg #[.slice (some a) 32 c, .int .i64 s, .int .i64 t, .bool (f 0), .bool (f 1), .bool (f 2), .bool (f 3), .bool (f 4), .bool (f 5), .bool (f 6), .bool (f 7)], rv] w fun e w' => e = .returned (.tuple #[.agg #[.slice none 0 0, .int .i64 0, .int .i64 0, .bool false, .bool false, .bool false, .bool false, .bool false, .bool false, .bool false, .bool false], .slice none 0 0, .int .i64 7]) ∧ Below w.heap.size w w' := by
  have h1 : r.take 4 = fourN n := by rw [hrp]; exact rec_take _ _ _
  have h3 : beN (fourN n) = n := beN_four n (by omega)
  exact Take_old a c rv key r s t p.length f w hv hr hkl (by rw [hrp]; exact recB_length _ _ _) hpl hs ht hf (by rw [h1, h3]; exact hn) (by rw [h1, h3]; exact hm)
end Go.Proofs.YtpkfbmafbkgcmaaDoor

set_option linter.unusedVariables false
set_option linter.unusedSimpArgs false
namespace Go.Proofs.YtpkfbmafbkgcmaaDoor
open Go.RowKit Go.Con
/-- a channel's eleven cells in a block -/
abbrev Cells (w : World) (b : Nat) (x0 x1 x2 x3 x4 x5 x6 x7 x8 x9 x10 : Value) : Prop :=
  w.cell? ⟨b, 0, none⟩ = some x0 ∧ w.cell? ⟨b, 1, none⟩ = some x1 ∧ w.cell? ⟨b, 2, none⟩ = some x2 ∧ w.cell? ⟨b, 3, none⟩ = some x3 ∧ w.cell? ⟨b, 4, none⟩ = some x4 ∧ w.cell? ⟨b, 5, none⟩ = some x5 ∧ w.cell? ⟨b, 6, none⟩ = some x6 ∧ w.cell? ⟨b, 7, none⟩ = some x7 ∧ w.cell? ⟨b, 8, none⟩ = some x8 ∧ w.cell? ⟨b, 9, none⟩ = some x9 ∧ w.cell? ⟨b, 10, none⟩ = some x10
theorem cells_of {w : World} {b : Nat} {x0 x1 x2 x3 x4 x5 x6 x7 x8 x9 x10 : Value} {t : TypeId} {f : Nat × Nat} (h : w.heap[b]? = some (.cells #[x0, x1, x2, x3, x4, x5, x6, x7, x8, x9, x10] t f)) : Cells w b x0 x1 x2 x3 x4 x5 x6 x7 x8 x9 x10 :=
  ⟨cellAt h 0 rfl, cellAt h 1 rfl, cellAt h 2 rfl, cellAt h 3 rfl, cellAt h 4 rfl, cellAt h 5 rfl, cellAt h 6 rfl, cellAt h 7 rfl, cellAt h 8 rfl, cellAt h 9 rfl, cellAt h 10 rfl⟩
theorem Cells.drew {w : World} {b : Nat} {x0 x1 x2 x3 x4 x5 x6 x7 x8 x9 x10 : Value} (h : Cells w b x0 x1 x2 x3 x4 x5 x6 x7 x8 x9 x10) : Cells w.drew b x0 x1 x2 x3 x4 x5 x6 x7 x8 x9 x10 := h
theorem Cells.alloc {w : World} {b : Nat} {x0 x1 x2 x3 x4 x5 x6 x7 x8 x9 x10 : Value} (h : Cells w b x0 x1 x2 x3 x4 x5 x6 x7 x8 x9 x10) (o : Obj) : Cells (w.alloc o) b x0 x1 x2 x3 x4 x5 x6 x7 x8 x9 x10 := by
  have hb := World.block_lt_of_cell? w _ h.1
  have e : ∀ k, (w.alloc o).cell? ⟨b, k, none⟩ = w.cell? ⟨b, k, none⟩ := fun k => ((Below.refl w.heap.size w).alloc (Nat.le_refl _) o).cell (p := ⟨b, k, none⟩) hb
  unfold Cells
  simp only [e]
  exact h
theorem Cells.set {w : World} {b c : Nat} {x0 x1 x2 x3 x4 x5 x6 x7 x8 x9 x10 v0 v1 v2 v3 v4 v5 v6 v7 v8 v9 v10 : Value} (hne : c ≠ b) (h : Cells w b x0 x1 x2 x3 x4 x5 x6 x7 x8 x9 x10) :
    Cells (((((((((((w.setCell ⟨c, 0, none⟩ v0).setCell ⟨c, 1, none⟩ v1).setCell ⟨c, 2, none⟩ v2).setCell ⟨c, 3, none⟩ v3).setCell ⟨c, 4, none⟩ v4).setCell ⟨c, 5, none⟩ v5).setCell ⟨c, 6, none⟩ v6).setCell ⟨c, 7, none⟩ v7).setCell ⟨c, 8, none⟩ v8).setCell ⟨c, 9, none⟩ v9).setCell ⟨c, 10, none⟩ v10) b x0 x1 x2 x3 x4 x5 x6 x7 x8 x9 x10 :=
  keep11 hne h
theorem below_set11 {B b : Nat} {a w : World} {v0 v1 v2 v3 v4 v5 v6 v7 v8 v9 v10 : Value} (hB : B ≤ b) (h : Below B a w) : Below B a (((((((((((w.setCell ⟨b, 0, none⟩ v0).setCell ⟨b, 1, none⟩ v1).setCell ⟨b, 2, none⟩ v2).setCell ⟨b, 3, none⟩ v3).setCell ⟨b, 4, none⟩ v4).setCell ⟨b, 5, none⟩ v5).setCell ⟨b, 6, none⟩ v6).setCell ⟨b, 7, none⟩ v7).setCell ⟨b, 8, none⟩ v8).setCell ⟨b, 9, none⟩ v9).setCell ⟨b, 10, none⟩ v10) := (((((((((((h.setCell hB v0).setCell hB v1).setCell hB v2).setCell hB v3).setCell hB v4).setCell hB v5).setCell hB v6).setCell hB v7).setCell hB v8).setCell hB v9).setCell hB v10)
/-- where the channel that came back lies, and what else came -/
def ResRel (w : World) (K : List UInt8) (s t : Int) (f : Nat → Bool) (r : List UInt8) (vp vr : Value) (wc : World) : Prop :=
  ∃ b kg kcap, vp = .pointer (some ⟨b, 0, none⟩) ∧ wc.heap[b]? = some (.cells #[.slice (some ⟨kg, 0, none⟩) 32 kcap, .int .i64 s, .int .i64 t, .bool (f 0), .bool (f 1), .bool (f 2), .bool (f 3), .bool (f 4), .bool (f 5), .bool (f 6), .bool (f 7)] 42 (0, 0)) ∧ w.heap.size ≤ b ∧ Rd wc (.slice (some ⟨kg, 0, none⟩) 32 kcap) K ∧ w.heap.size ≤ kg ∧ kg ≠ b ∧ Rd wc vr r ∧ (∀ k, vr.ownBlock = some k → w.heap.size ≤ k ∧ k ≠ b) ∧ Below w.heap.size w wc
theorem Rd.setsNe {w : World} {c : Nat} {vs : List Value} {v : Value} {l : List UInt8} (h : Rd w v l) (hne : ∀ k, v.ownBlock = some k → k ≠ c) : Rd (w.setCells c 0 vs) v l := by
  obtain ⟨a, c', rfl, h1, h2, h0, h3⟩ := h
  refine ⟨a, c', rfl, h1, h2, h0, fun hl => ?_⟩
  obtain ⟨b, off, rfl, hc⟩ := h3 hl
  have hb := hne b rfl
  exact ⟨b, off, rfl, fun i hi => (World.cell?_of_block (w := w) (heap_setCells_ne hb _ _ _)).trans (hc i hi)⟩
/-- the block was laid last -/
theorem res_last {w w2 : World} {K r : List UInt8} {s t : Int} {f : Nat → Bool} {kg kcap base : Nat} {vr : Value} (hb : Below w.heap.size w w2) (hok : Own w2 base (.slice (some ⟨kg, 0, none⟩) 32 kcap) K) (hor : Own w2 base vr r) (hbase : w.heap.size ≤ base) :
    ResRel w K s t f r (.pointer (some ⟨w2.heap.size, 0, none⟩)) vr (w2.alloc (.cells #[.slice (some ⟨kg, 0, none⟩) 32 kcap, .int .i64 s, .int .i64 t, .bool (f 0), .bool (f 1), .bool (f 2), .bool (f 3), .bool (f 4), .bool (f 5), .bool (f 6), .bool (f 7)] 42)) :=
  ⟨_, _, _, rfl, heapNew w2 _, hb.size, hok.rd.alloc _, Nat.le_trans hbase (hok.lt kg rfl).1, Nat.ne_of_lt (hok.lt kg rfl).2, hor.rd.alloc _, fun k hk => ⟨Nat.le_trans hbase (hor.lt k hk).1, Nat.ne_of_lt (hor.lt k hk).2⟩, hb.alloc hb.size _⟩
/-- it was laid before -/
theorem res_first {w w2 : World} {K r : List UInt8} {s t : Int} {f : Nat → Bool} {b kg kcap base : Nat} {vr : Value} (hb : Below w.heap.size w w2) (hok : Own w2 base (.slice (some ⟨kg, 0, none⟩) 32 kcap) K) (hor : Own w2 base vr r) (hwb : w.heap.size ≤ b) (hbase : b < base)
    (hz : w2.heap[b]? = some (.cells #[.slice none 0 0, .int .i64 0, .int .i64 0, .bool false, .bool false, .bool false, .bool false, .bool false, .bool false, .bool false, .bool false] 42 (0, 0))) :
    ResRel w K s t f r (.pointer (some ⟨b, 0, none⟩)) vr (((((((((((w2.setCell ⟨b, 0, none⟩ (.slice (some ⟨kg, 0, none⟩) 32 kcap)).setCell ⟨b, 1, none⟩ (.int .i64 s)).setCell ⟨b, 2, none⟩ (.int .i64 t)).setCell ⟨b, 3, none⟩ (.bool (f 0))).setCell ⟨b, 4, none⟩ (.bool (f 1))).setCell ⟨b, 5, none⟩ (.bool (f 2))).setCell ⟨b, 6, none⟩ (.bool (f 3))).setCell ⟨b, 7, none⟩ (.bool (f 4))).setCell ⟨b, 8, none⟩ (.bool (f 5))).setCell ⟨b, 9, none⟩ (.bool (f 6))).setCell ⟨b, 10, none⟩ (.bool (f 7))) := by
  have e : (((((((((((w2.setCell ⟨b, 0, none⟩ (.slice (some ⟨kg, 0, none⟩) 32 kcap)).setCell ⟨b, 1, none⟩ (.int .i64 s)).setCell ⟨b, 2, none⟩ (.int .i64 t)).setCell ⟨b, 3, none⟩ (.bool (f 0))).setCell ⟨b, 4, none⟩ (.bool (f 1))).setCell ⟨b, 5, none⟩ (.bool (f 2))).setCell ⟨b, 6, none⟩ (.bool (f 3))).setCell ⟨b, 7, none⟩ (.bool (f 4))).setCell ⟨b, 8, none⟩ (.bool (f 5))).setCell ⟨b, 9, none⟩ (.bool (f 6))).setCell ⟨b, 10, none⟩ (.bool (f 7))) = w2.setCells b 0 [.slice (some ⟨kg, 0, none⟩) 32 kcap, .int .i64 s, .int .i64 t, .bool (f 0), .bool (f 1), .bool (f 2), .bool (f 3), .bool (f 4), .bool (f 5), .bool (f 6), .bool (f 7)] := rfl
  rw [e]
  have hkg := (hok.lt kg rfl).1
  refine ⟨b, kg, kcap, rfl, storedRow hz rfl, hwb, hok.rd.setsNe (fun k hk => ?_), by omega, by omega, hor.rd.setsNe (fun k hk => ?_), fun k hk => ?_, below_setCells hwb _ _ _ hb⟩
  · have e : kg = k := Option.some.inj hk
    omega
  · have := (hor.lt k hk).1; omega
  · have := (hor.lt k hk).1; exact ⟨by omega, by omega⟩
theorem Send_lit (a : Addr) (c : Nat) (pv : Value) (key plain r : List UInt8) (s t : Nat) (f : Nat → Bool) (w : World) (hv : Rd w (.slice (some a) 32 c) key) (hp : Rd w pv plain) (hkl : key.length = 32) (hpl : plain.length ≤ 2000) (hs : s < 1073741824) (ht : t ≤ 1073741824) (hf : SeenOk t f) (hr : recB key s plain = r) :
    Calls Tryd.prog 15 #[.agg #[.slice (some a) 32 c, .int .i64 s, .int .i64 t, .bool (f 0), .bool (f 1), .bool (f 2), .bool (f 3), .bool (f 4), .bool (f 5), .bool (f 6), .bool (f 7)], pv] w fun e w' => ∃ kg kcap rv, e = .returned (.tuple #[.agg #[.slice (some ⟨kg, 0, none⟩) 32 kcap, .int .i64 ((s : Int) + 1), .int .i64 t, .bool (f 0), .bool (f 1), .bool (f 2), .bool (f 3), .bool (f 4), .bool (f 5), .bool (f 6), .bool (f 7)], rv, .int .i64 0]) ∧ Own w' w.heap.size (.slice (some ⟨kg, 0, none⟩) 32 kcap) key ∧ Own w' w.heap.size rv r ∧ Below w.heap.size w w' := by
  refine (Send_ok a c pv key plain s t f w hv hp hkl hpl hs ht hf).mono ?_
  rintro e w' ⟨kv, rv, rfl, hok, hor, hb⟩
  obtain ⟨kg, kcap, hkv, _, _, _, _⟩ := hok.shape (by intro h; rw [h] at hkl; cases hkl)
  rw [hkl] at hkv
  subst hkv
  rw [hr] at hor
  exact ⟨kg, kcap, rv, rfl, hok, hor, hb⟩
theorem Take_lit (a : Addr) (c : Nat) (rv : Value) (key r p : List UInt8) (s t n T : Nat) (f g : Nat → Bool) (w : World) (hv : Rd w (.slice (some a) 32 c) key) (hr : Rd w rv r) (hkl : key.length = 32) (hrp : r = recB key n p) (hpl : p.length ≤ 2000) (hn : n < 1073741824) (hs : s ≤ 1073741824) (ht : t ≤ 1073741824) (hf : SeenOk t f) (hm : metB t n f = false) (hT : max t (n + 1) = T) (hg : withF t n f = g) :
    Calls Tryd.prog 31 #[.agg #[.slice (some a) 32 c, .int .i64 s, .int .i64 t, .bool (f 0), .bool (f 1), .bool (f 2), .bool (f 3), .bool (f 4), .bool (f 5), .bool (f 6), .bool (f 7)], rv] w fun e w' => ∃ kg kcap pv, e = .returned (.tuple #[.agg #[.slice (some ⟨kg, 0, none⟩) 32 kcap, .int .i64 s, .int .i64 T, .bool (g 0), .bool (g 1), .bool (g 2), .bool (g 3), .bool (g 4), .bool (g 5), .bool (g 6), .bool (g 7)], pv, .int .i64 0]) ∧ Own w' w.heap.size (.slice (some ⟨kg, 0, none⟩) 32 kcap) key ∧ Own w' w.heap.size pv p ∧ Below w.heap.size w w' := by
  subst hT hg
  refine (Take_rec a c rv key r p s t n f w hv hr hkl hrp hpl hn hs ht hf hm).mono ?_
  rintro e w' ⟨kv, pv, rfl, hok, hor, hb⟩
  obtain ⟨kg, kcap, hkv, _, _, _, _⟩ := hok.shape (by intro h; rw [h] at hkl; cases hkl)
  rw [hkl] at hkv
  subst hkv
  exact ⟨kg, kcap, pv, rfl, hok, hor, hb⟩
end Go.Proofs.YtpkfbmafbkgcmaaDoor

set_option linter.unusedVariables false
set_option linter.unusedSimpArgs false
namespace Go.Con
open Go.Proofs.YtpkfbmafbkgcmaaDoor
/-- what a client packs -/
def packB (b : UInt8) (n : Nat) (t : Con.Tok) (c : Cmd) : List UInt8 := [b] ++ recB (keyC b) n (tokenB keyI t ++ encC c)
end Go.Con
namespace Go.Proofs.YtpkfbmafbkgcmaaDoor
open Go.RowKit Go.Con
theorem Kn.allocs {w : World} (h : Kn w) (A B : Obj) : Kn ((w.alloc A).alloc B) :=
  h.stay (((Below.refl w.heap.size w).alloc (Nat.le_refl _) A).alloc (by simp) B)
theorem Rd.grownBy {w w' : World} {b off n c : Nat} {l : List UInt8} {row : Option Nat} (h : Rd w (.slice (some ⟨b, off, none⟩) n c) l) (hg : w.grownBy w' row) (hne : row ≠ some b) : Rd w' (.slice (some ⟨b, off, none⟩) n c) l := by
  obtain ⟨a', c', he, h1, h2, h0, h3⟩ := h
  refine ⟨a', c', he, h1, h2, h0, fun hl => ?_⟩
  obtain ⟨b', off', ha, hc⟩ := h3 hl
  refine ⟨b', off', ha, fun i hi => ?_⟩
  injection he with e1 e2 e3
  rw [ha] at e1
  injection e1 with e4
  injection e4 with e5 e6
  subst e5
  have h4 := hc i hi
  rw [← h4]
  have hlt := World.block_lt_of_cell? w _ h4
  exact World.cell?_of_block (w := w) (hg.block _ hlt (fun e => hne e.symm))
set_option maxRecDepth 100000 in
set_option maxHeartbeats 1000000 in
theorem Pack_ok (n : Nat) (t : Con.Tok) (c : Cmd) (b : UInt8) (w : World) (hn : n < 1073741824) (ht : t.Ok) (hc : checkC c = 0) (hb : c.client = b.toNat) (hb7 : b.toNat ≤ 7) (hk : Kn w) :
    Calls Tryd.prog 9 #[.int .i64 n, tokV t, cmdV c] w (FreshBC w (packB b n t c) 0) := by
  obtain ⟨R, hR⟩ : ∃ R, R = packB b n t c := ⟨_, rfl⟩
  rw [← hR]
  obtain ⟨P, hP⟩ : ∃ P, P = tokenB keyI t ++ encC c := ⟨_, rfl⟩
  obtain ⟨Q, hQ⟩ : ∃ Q, Q = recB (keyC b) n P := ⟨_, rfl⟩
  have hRQ : R = [b] ++ Q := by rw [hR, packB, ← hP, ← hQ]
  obtain ⟨TB, hTB⟩ : ∃ TB, TB = tokenB keyI t := ⟨_, rfl⟩
  obtain ⟨EC, hEC⟩ : ∃ EC, EC = encC c := ⟨_, rfl⟩
  obtain ⟨KC, hKC⟩ : ∃ KC, KC = keyC b := ⟨_, rfl⟩
  have hPE : P = TB ++ EC := by rw [hP, hTB, hEC]
  have hTl : TB.length = 22 := by rw [hTB]; exact tokenB_length _ _
  have hEl : EC.length = 20 := by rw [hEC]; rfl
  have hKl : KC.length = 32 := by rw [hKC]; exact keyC_length _
  have hPl : P.length = 42 := by rw [hPE, List.length_append, hTl, hEl]
  have hgr := fun v w h1 h2 => Grant_ok v keyI t w h1 keyI_length ht h2
  have hen := fun w => Encode_ok c w hc
  have hky := fun w hk => Key_ok b w hb7 hk
  rw [← hTB] at hgr
  rw [← hEC] at hen
  rw [← hKC] at hky hQ
  have hsd : ∀ (a : Addr) (c : Nat) (pv : Value) (w : World), Rd w (.slice (some a) 32 c) KC → Rd w pv P → Calls Tryd.prog 15 #[.agg #[.slice (some a) 32 c, .int .i64 n, .int .i64 0, .bool false, .bool false, .bool false, .bool false, .bool false, .bool false, .bool false, .bool false], pv] w fun e w' => ∃ kg kcap rv, e = .returned (.tuple #[.agg #[.slice (some ⟨kg, 0, none⟩) 32 kcap, .int .i64 ((n : Int) + 1), .int .i64 0, .bool false, .bool false, .bool false, .bool false, .bool false, .bool false, .bool false, .bool false], rv, .int .i64 0]) ∧ Own w' w.heap.size (.slice (some ⟨kg, 0, none⟩) 32 kcap) KC ∧ Own w' w.heap.size rv Q ∧ Below w.heap.size w w' := fun a c pv w h1 h2 => Send_lit a c pv KC P Q n 0 (fun _ => false) w h1 h2 hKl (by omega) hn (by decide) Rep.none.ok hQ.symm
  obtain ⟨k, cl, sq, nm, vl⟩ := c
  obtain ⟨tc, tr, tu⟩ := t
  dsimp only at hb
  subst hb
  unfold cmdV at hen ⊢
  unfold tokV at hgr ⊢
  dsimp only at hen hgr ⊢
  have hQl : Q.length = 62 := by rw [hQ, recB_length, hPl]
  have d1 : decide ((n : Int) < 0) = false := by rw [decide_eq_false_iff_not]; omega
  have d2 : decide ((1073741824 : Int) ≤ (n : Int)) = false := by rw [decide_eq_false_iff_not]; omega
  have HGR := Lib.hid hgr
  have HEN := Lib.hid hen
  have HKY := Lib.hid hky
  have HSD := Lib.hid hsd
  have HRQ := Lib.hid hRQ
  have HPE := Lib.hid hPE
  have HTL := Lib.hid hTl
  have HEL := Lib.hid hEl
  have HKL := Lib.hid hKl
  have HPL := Lib.hid hPl
  have HQL := Lib.hid hQl
  have HK := Lib.hid hk
  have HB7 := Lib.hid hb7
  clear hR hP hQ hRQ hTB hEC hKC hPE hTl hEl hKl hPl hgr hen hky hsd ht hc hk hQl hb7
  go_enter Tryd.func9, Tryd.ntmps9
  go_wp2_with fail
  generalize hW : World.alloc _ _ = z
  have x0 : z.heap[w.heap.size]? = some (.cells #[.int .i64 tc, .int .i64 tr, .int .i64 tu] 28 (0, 0)) := by rw [← hW]; exact heapNew0 _ _ _
  have x1 : z.heap[w.heap.size + 1]? = some (.cells #[.int .i64 k, .int .i64 b.toNat, .int .i64 sq, .int .i64 nm, .int .i64 vl] 26 (0, 0)) := by rw [← hW]; exact heapNew1 _ _ _
  have kz : Kn z := by rw [← hW]; exact HK.out.allocs _ _
  have yz : Below w.heap.size w z := by rw [← hW]; exact ((Below.refl _ _).alloc (Nat.le_refl _) _).alloc (by simp) _
  have X0 := Lib.hid x0
  have X1 := Lib.hid x1
  have KZ := Lib.hid kz
  have YZ := Lib.hid yz
  have S0 : z.cell? ⟨w.heap.size, 0, none⟩ = some (.int .i64 tc) ∧ z.cell? ⟨w.heap.size, 1, none⟩ = some (.int .i64 tr) ∧ z.cell? ⟨w.heap.size, 2, none⟩ = some (.int .i64 tu) := ⟨cellAt x0 0 rfl, cellAt x0 1 rfl, cellAt x0 2 rfl⟩
  have S0d : z.drew.cell? ⟨w.heap.size, 0, none⟩ = some (.int .i64 tc) ∧ z.drew.cell? ⟨w.heap.size, 1, none⟩ = some (.int .i64 tr) ∧ z.drew.cell? ⟨w.heap.size, 2, none⟩ = some (.int .i64 tu) := S0
  have KZd := Lib.hid (show Kn z.drew from kz)
  clear hW x0 x1 kz yz
  go_region_held3 (fun w' => w'.cell? ⟨w.heap.size, 0, none⟩ = some (.int .i64 tc) ∧ w'.cell? ⟨w.heap.size, 1, none⟩ = some (.int .i64 tr) ∧ w'.cell? ⟨w.heap.size, 2, none⟩ = some (.int .i64 tu)) (first | with_reducible exact S0d | with_reducible exact S1 | with_reducible exact S2) (first
    | (go_at_call 13; refine (Issuer_any _ KZd.out).mono ?_; rintro e v1 ⟨vi, rfl, hri, hoi, hb1⟩; have RI := Lib.hid hri; have B1 := Lib.hid (show Below z.heap.size z v1 from (Below.refl _ _).drew.trans hb1); have K1 := Lib.hid (KZ.out.stay B1.out); have y0 := (B1.out.block w.heap.size (lt_of_heap X0.out)).trans X0.out; have S1 : v1.cell? ⟨w.heap.size, 0, none⟩ = some (.int .i64 tc) ∧ v1.cell? ⟨w.heap.size, 1, none⟩ = some (.int .i64 tr) ∧ v1.cell? ⟨w.heap.size, 2, none⟩ = some (.int .i64 tu) := ⟨cellAt y0 0 rfl, cellAt y0 1 rfl, cellAt y0 2 rfl⟩; clear hri hoi hb1 y0)
    | (go_at_call 12; refine (HGR.out _ _ RI.out K1.out).mono ?_; rintro e v2 ⟨vg, rfl, hog, hb2⟩; have B2 := Lib.hid (show Below z.heap.size z v2 from B1.out.trans (hb2.mono B1.out.size)); have OG := Lib.hid (hog.mono B1.out.size); have y0 := (B2.out.block w.heap.size (lt_of_heap X0.out)).trans X0.out; have S2 : v2.cell? ⟨w.heap.size, 0, none⟩ = some (.int .i64 tc) ∧ v2.cell? ⟨w.heap.size, 1, none⟩ = some (.int .i64 tr) ∧ v2.cell? ⟨w.heap.size, 2, none⟩ = some (.int .i64 tu) := ⟨cellAt y0 0 rfl, cellAt y0 1 rfl, cellAt y0 2 rfl⟩; clear hog hb2 y0))
  have y1 := (B2.out.block (w.heap.size + 1) (lt_of_heap X1.out)).trans X1.out
  have g0 : v2.cell? ⟨w.heap.size + 1, 0, none⟩ = some (.int .i64 k) := cellAt y1 0 rfl
  have g1 : v2.cell? ⟨w.heap.size + 1, 1, none⟩ = some (.int .i64 b.toNat) := cellAt y1 1 rfl
  have g2 : v2.cell? ⟨w.heap.size + 1, 2, none⟩ = some (.int .i64 sq) := cellAt y1 2 rfl
  have g3 : v2.cell? ⟨w.heap.size + 1, 3, none⟩ = some (.int .i64 nm) := cellAt y1 3 rfl
  have g4 : v2.cell? ⟨w.heap.size + 1, 4, none⟩ = some (.int .i64 vl) := cellAt y1 4 rfl
  have Y1 := Lib.hid y1
  have K2 := Lib.hid (KZ.out.stay B2.out)
  have hb8 : (b.toNat : Int) ≤ 7 := by have := HB7.out; omega
  have hb0 : (0 : Int) ≤ (b.toNat : Int) := by omega
  clear S0 S0d S1 S2 y1
  go_wp2_with (first
    | (go_at_call 14; refine (HEN.out _).mono ?_; rintro e v3 ⟨ve, rfl, hoe, hb3⟩; have OE := Lib.hid hoe; have OG3 := Lib.hid (OG.out.below hb3 (fun k hk => (OG.out.lt k hk).2)); have B3 := Lib.hid (B2.out.trans (hb3.mono B2.out.size)); have K3 := Lib.hid (K2.out.stay hb3); have y3 := (hb3.block (w.heap.size + 1) (lt_of_heap Y1.out)).trans Y1.out; have h1 : v3.cell? ⟨w.heap.size + 1, 1, none⟩ = some (.int .i64 b.toNat) := cellAt y3 1 rfl; have Y3 := Lib.hid y3; have S3 := Lib.hid hb3.size; clear hoe hb3 y3)
    | (go_at_call 11; refine (HKY.out _ K3.out).mono ?_; rintro e v4 ⟨vk, rfl, hrk, hok, hb4⟩; obtain ⟨kb, koff, kcap, hvk, _, _⟩ := hrk.shapeN 32 HKL.out (by decide); subst hvk; have RK := Lib.hid hrk; have KB := Lib.hid (show v3.heap.size ≤ kb from hok kb rfl); have OG4 := Lib.hid (OG3.out.below hb4 (fun k hk => (OG3.out.lt k hk).2)); have OE4 := Lib.hid (OE.out.below hb4 (fun k hk => (OE.out.lt k hk).2)); have B4 := Lib.hid (B3.out.trans (hb4.mono B3.out.size)); have Y4 := Lib.hid ((hb4.block (w.heap.size + 1) (lt_of_heap Y3.out)).trans Y3.out); clear hrk hok hb4)
    | (at_builtin; refine apB rfl (.tmp 51) (.tmp 52) rfl z.heap.size vg ve TB EC rfl OG4.out rfl OE4.out.rd (by rw [HTL.out, HEL.out]; decide) B4.out.size ?_; intro v5 w5 ho5 hg5; rw [← HPE.out] at ho5; have O5 := Lib.hid ho5; have RK5 := Lib.hid (RK.out.grownBy hg5 (fun hk2 => absurd (OG3.out.lt kb hk2).2 (Nat.not_lt.2 KB.out))); have B5 := Lib.hid (B4.out.grown hg5 B4.out.size (fun k hk => (OG4.out.lt k hk).1)); have Y5 := Lib.hid ((hg5.block (w.heap.size + 1) (lt_of_heap Y4.out) (fun e => absurd (OG4.out.lt _ e.symm).1 (Nat.not_le.2 (lt_of_heap X1.out)))).trans Y4.out); clear ho5 hg5))
  refine (HSD.out _ kcap _ w5 RK5.out O5.out.rd).mono ?_
  rintro e v6 ⟨kg, kc2, rv, rfl, hok6, hor6, hb6⟩
  have OR := Lib.hid hor6
  have B6 := Lib.hid (B5.out.trans (hb6.mono B5.out.size))
  have Y6 := Lib.hid ((hb6.block (w.heap.size + 1) (lt_of_heap Y5.out)).trans Y5.out)
  have S6 := Lib.hid (Nat.le_trans B5.out.size hb6.size)
  clear hok6 hor6 hb6
  go_wp2_with (first
    | (refine wpList_store_mid rfl 42 (.tmp 12) (.tmp 55) rfl v6.heap.size 0 #[.slice (some ⟨kg, 0, none⟩) 32 kc2, .int .i64 ((n : Int) + 1), .int .i64 0, .bool false, .bool false, .bool false, .bool false, .bool false, .bool false, .bool false, .bool false] rfl rfl ?_ chanSz (chanOne' _ _ _ _ _ _ _ _ _ _ _ rfl) ?_; (exact there_of (heapNew v6 _) rfl); generalize hW : World.setCells _ _ _ _ = wy; have OY := Lib.hid (show Own wy w5.heap.size rv Q by rw [← hW]; exact OR.out.ofHeap (fun k hk => by have e1 := (OR.out.lt k hk).2; rw [heap_setCells_ne (by omega), heapOld _ _ _ e1])); have BY := Lib.hid (show Below z.heap.size z wy by rw [← hW]; exact below_setCells S6.out _ _ _ (B6.out.alloc S6.out _)); have h2 : wy.cell? ⟨w.heap.size + 1, 1, none⟩ = some (.int .i64 b.toNat) := (by rw [← hW]; exact cellAt ((heap_setCells_ne (by have e1 := lt_of_heap Y6.out; omega) _ _ _).trans ((heapOld _ _ _ (lt_of_heap Y6.out)).trans Y6.out)) 1 rfl); clear hW)
    | (at_builtin; refine apB rfl (.tmp 61) (.tmp 62) rfl z.heap.size (.slice (some ⟨wy.heap.size, 0, none⟩) 1 1) rv [b] Q rfl (ownNew1 wy _ _ b (by first | rfl | omega) BY.out.size) rfl (OY.out.rd.alloc _) (by rw [HQL.out]; simp) (Nat.le_trans BY.out.size (by simp)) ?_; intro v7 w7 ho7 hg7; have O7 := Lib.hid ho7; have B7 := Lib.hid ((BY.out.alloc BY.out.size _).grown hg7 (Nat.le_trans BY.out.size (by simp)) (fun k hk => (by have e1 : wy.heap.size = k := Option.some.inj hk; have e2 := BY.out.size; omega))); clear ho7 hg7))
  go_ret2
  refine ⟨_, rfl, ?_, ?_⟩
  · rw [HRQ.out]; exact O7.out.mono YZ.out.size
  · exact YZ.out.trans (B7.out.mono YZ.out.size)
end Go.Proofs.YtpkfbmafbkgcmaaDoor
