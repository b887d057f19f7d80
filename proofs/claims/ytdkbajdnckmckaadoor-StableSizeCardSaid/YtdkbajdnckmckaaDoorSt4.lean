/-
  The walks of stable.four and get.
-/
import Derived.Test.YtdkbajdnckmckaaDoorStb
import Derived.Test.YtdkbajdnckmckaaDoorOrdE
import Derived.Test.YtdkbajdnckmckaaDoorB64
import Derived.Test.YtdkbajdnckmckaaDoorFrI
set_option linter.unusedVariables false
set_option linter.unusedSimpArgs false
namespace Go.Proofs.YtdkbajdnckmckaaDoor
open Go.RowKit Go.Con
/-- numbers, four bytes each -/
def flatB (zs : List Int) : List UInt8 := zs.flatMap fun z => fourB z.toNat
theorem flatB_len (zs : List Int) : (flatB zs).length = 4 * zs.length := by
  induction zs with
  | nil => rfl
  | cons z r ih => rw [flatB, List.flatMap_cons, List.length_append, List.length_cons]; rw [flatB] at ih; rw [ih]; simp [fourB]; omega
theorem flatB_take (zs : List Int) (k : Nat) (hk : k < zs.length) : flatB (zs.take (k + 1)) = flatB (zs.take k) ++ fourB (zs.getD k 0).toNat := by
  have e : zs.take (k + 1) = zs.take k ++ [zs.getD k 0] := by
    rw [List.take_succ_eq_append_getElem hk]; simp [hk]
  rw [e, flatB, List.flatMap_append]; simp [flatB]
set_option maxHeartbeats 1000000 in
theorem fours_any (v : Value) (zs : List Int) (w : World) (hv : RdInts w v zs) (h0 : ∀ i, i < zs.length → 0 ≤ zs.getD i 0) (hl : zs.length ≤ 100) :
    Calls Tryd.prog 22 #[v] w (FreshB w (flatB zs)) := by
  obtain ⟨a, c, rfl, hlc, hcm, -, hcell⟩ := hv
  obtain ⟨n, hn⟩ : ∃ n, n = zs.length := ⟨_, rfl⟩
  rw [← hn] at hlc hl h0 hcell ⊢
  have hcm2 : c ≤ 9223372036854775807 := hcm
  have HN := Lib.hid hn
  have H0 := Lib.hid h0
  have HCL := Lib.hid hcell
  clear hn h0 hcell hcm
  go_enter Tryd.func22, Tryd.ntmps22
  go_wp2_with fail
  go_loopw [3, 8] (fun v i wr => ∃ k : Nat, k ≤ n ∧ i = .int .i64 k ∧ Hid (Own wr w.heap.size v (flatB (zs.take k))) ∧ Hid (Below w.heap.size w wr)) (fun _ i _ => n - (intOf i).toNat)
  case atStart => exact ⟨0, by omega, rfl, Lib.hid (Own.nil _ _), Lib.hid (Below.refl _ _)⟩
  case round =>
    obtain ⟨k, hk, rfl, HO, HB⟩ := hrel
    by_cases hlt : k < n
    · have hd : decide ((k : Int) < n) = true := by rw [decide_eq_true_eq]; omega
      have hdn : decide (k < n) = true := by rw [decide_eq_true_eq]; omega
      obtain ⟨b, off, rfl, hc⟩ := HCL.out (by intro h; have := HN.out; rw [h] at this; simp at this; omega)
      obtain ⟨q, hq⟩ : ∃ q, q = zs.getD k 0 := ⟨_, rfl⟩
      have c0 := hc k (by omega)
      have hq0 := H0.out k hlt
      rw [← hq] at c0 hq0
      have cw : wr.cell? ⟨b, off + k, none⟩ = some (.int .i64 q) := (World.cell?_of_block (w := w) (HB.out.block b (World.block_lt_of_cell? w _ c0))).trans c0
      have hflat := flatB_take zs k (by rw [← HN.out]; exact hlt)
      rw [← hq] at hflat
      have HF := Lib.hid hflat
      have hlen : (flatB (zs.take k)).length ≤ 400 := by rw [flatB_len, List.length_take]; omega
      have HLEN := Lib.hid hlen
      have hn4 : ∀ W : World, Rd (W.alloc (.cells #[.int .u8 (q / 16777216 % 256), .int .u8 (q / 65536 % 256), .int .u8 (q / 256 % 256), .int .u8 (q % 256)] 5)) (.slice (some ⟨W.heap.size, 0, none⟩) 4 4) (fourB q.toNat) := fun W =>
        newB4 W _ _ _ _ _ _ _ _ (raw24 q hq0) (raw16 q hq0) (raw8 q hq0) (raw0 q hq0)
      have HN4 := Lib.hid hn4
      clear hq hflat hlen hc c0 hn4
      go_wp2_with (at_builtin; refine apB rfl (.tmp 12) (.tmp 24) rfl w.heap.size _ _ _ (fourB q.toNat) rfl (HO.out.alloc _) rfl (HN4.out _) (by have := HLEN.out; simp [fourB]; omega) (by have := HB.out.size; simp; omega) ?_; intro v3 w3 hown3 hg3; have HO3 := Lib.hid hown3; have HG3 := Lib.hid hg3; clear hown3 hg3)
      go_roundw
      case rel => exact ⟨k + 1, by omega, by go_num, Lib.hid (by rw [HF.out]; exact HO3.out), Lib.hid ((HB.out.alloc HB.out.size _).grown HG3.out (by have := HB.out.size; simp; omega) (fun k hk => (HO.out.lt k hk).1))⟩
      case measure => simp [intOf]; omega
    · have hd : decide ((k : Int) < n) = false := by rw [decide_eq_false_iff_not]; omega
      have hdn : decide (k < n) = false := by rw [decide_eq_false_iff_not]; omega
      have hkn : k = n := by omega
      rw [hkn, List.take_of_length_le (by rw [← HN.out]; omega)] at HO
      clear hkn
      go_wp2
      go_ret
      exact ⟨_, rfl, HO.out, HB.out⟩
/-- a number of four bytes -/
def getN (l : List UInt8) : Nat := (l.getD 0 0).toNat * 16777216 + (l.getD 1 0).toNat * 65536 + (l.getD 2 0).toNat * 256 + (l.getD 3 0).toNat
set_option maxHeartbeats 1000000 in
theorem get_any (b off n c : Nat) (l : List UInt8) (w : World) (hv : Rd w (.slice (some ⟨b, off, none⟩) n c) l) (hn : l.length = n) (h4 : 4 ≤ n) :
    Calls Tryd.prog 43 #[.slice (some ⟨b, off, none⟩) n c] w fun e w' => e = .returned (.int .i64 (getN l : Int)) ∧ ∃ m, w' = w.drewN m := by
  obtain ⟨x0, h0⟩ : ∃ x, x = l.getD 0 0 := ⟨_, rfl⟩
  obtain ⟨x1, h1⟩ : ∃ x, x = l.getD 1 0 := ⟨_, rfl⟩
  obtain ⟨x2, h2'⟩ : ∃ x, x = l.getD 2 0 := ⟨_, rfl⟩
  obtain ⟨x3, h3⟩ : ∃ x, x = l.getD 3 0 := ⟨_, rfl⟩
  have c0 := hv.cellR 0 (by omega)
  have c1 := hv.cellR 1 (by omega)
  have c2 := hv.cellR 2 (by omega)
  have c3 := hv.cellR 3 (by omega)
  rw [← h0] at c0
  rw [← h1] at c1
  rw [← h2'] at c2
  rw [← h3] at c3
  have hg : getN l = x0.toNat * 16777216 + x1.toNat * 65536 + x2.toNat * 256 + x3.toNat := by rw [getN, h0, h1, h2', h3]
  have HG := Lib.hid hg
  have d0 : (0 : Int) < n := by omega
  have d1 : (1 : Int) < n := by omega
  have d2 : (2 : Int) < n := by omega
  have d3 : (3 : Int) < n := by omega
  rw [Nat.add_zero] at c0
  clear hv hg h0 h1 h2' h3 hn
  go_enter Tryd.func43, Tryd.ntmps43
  go_wp2_with fail
  go_quiet (fail)
  go_wp2
  go_ret
  refine ⟨?_, _, rfl⟩
  rw [HG.out, ← four64 x0 x1 x2 x3]
  rfl
end Go.Proofs.YtdkbajdnckmckaaDoor
