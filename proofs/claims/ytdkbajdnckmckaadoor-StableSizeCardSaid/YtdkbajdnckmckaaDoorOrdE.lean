/-
  The walks of order.four, numbers and Encode.
-/
import Derived.Test.YtdkbajdnckmckaaDoorOrd
set_option linter.unusedVariables false
set_option linter.unusedSimpArgs false
namespace Go.Con
/-- four bytes of a number -/
def fourB (n : Nat) : List UInt8 := [UInt8.ofNat (n / 16777216), UInt8.ofNat (n / 65536), UInt8.ofNat (n / 256), UInt8.ofNat n]
def Cmd.fld (c : Cmd) (k : Nat) : Int := match k with | 0 => c.kind | 1 => c.client | 2 => c.seq | 3 => c.name | _ => c.value
/-- the bytes of a command's first k numbers -/
def encK (c : Cmd) : Nat → List UInt8
  | 0 => []
  | k + 1 => encK c k ++ fourB (c.fld k).toNat
def encC (c : Cmd) : List UInt8 := encK c 5
theorem encK_length (c : Cmd) (k : Nat) : (encK c k).length = 4 * k := by
  induction k with
  | zero => rfl
  | succ k ih => rw [encK, List.length_append, ih]; simp [fourB]; omega
end Go.Con
namespace Go.Proofs.YtdkbajdnckmckaaDoor
open Go.RowKit Go.Con

theorem raw24 (q : Int) (h : 0 ≤ q) : q / 16777216 % 256 = ((UInt8.ofNat (q.toNat / 16777216)).toNat : Int) := by
  obtain ⟨n, rfl⟩ := Int.eq_ofNat_of_zero_le h
  rw [UInt8.toNat_ofNat']; simp
theorem raw16 (q : Int) (h : 0 ≤ q) : q / 65536 % 256 = ((UInt8.ofNat (q.toNat / 65536)).toNat : Int) := by
  obtain ⟨n, rfl⟩ := Int.eq_ofNat_of_zero_le h
  rw [UInt8.toNat_ofNat']; simp
theorem raw8 (q : Int) (h : 0 ≤ q) : q / 256 % 256 = ((UInt8.ofNat (q.toNat / 256)).toNat : Int) := by
  obtain ⟨n, rfl⟩ := Int.eq_ofNat_of_zero_le h
  rw [UInt8.toNat_ofNat']; simp
theorem raw0 (q : Int) (h : 0 ≤ q) : q % 256 = ((UInt8.ofNat q.toNat).toNat : Int) := by
  obtain ⟨n, rfl⟩ := Int.eq_ofNat_of_zero_le h
  rw [UInt8.toNat_ofNat']; simp

set_option maxHeartbeats 400000 in
theorem four_any (v : Value) (l : List UInt8) (q : Int) (base : Nat) (w : World) (hO : Own w base v l) (hb : base ≤ w.heap.size) (h0 : 0 ≤ q) (hl : l.length ≤ 1099511627776) :
    Calls Tryd.prog 41 #[v, .int .i64 q] w fun e w' => ∃ v', e = .returned v' ∧ Own w' base v' (l ++ fourB q.toNat) ∧ Kept w.heap.size (fun k => v.ownBlock = some k) w w' := by
  have HO := Lib.hid hO
  have hn4 : ∀ W : World, Rd (W.alloc (.cells #[.int .u8 (q / 16777216 % 256), .int .u8 (q / 65536 % 256), .int .u8 (q / 256 % 256), .int .u8 (q % 256)] 5)) (.slice (some ⟨W.heap.size, 0, none⟩) 4 4) (fourB q.toNat) := fun W =>
    newB4 W _ _ _ _ _ _ _ _ (raw24 q h0) (raw16 q h0) (raw8 q h0) (raw0 q h0)
  have HN4 := Lib.hid hn4
  clear hO hn4
  go_enter Tryd.func41, Tryd.ntmps41
  go_wp2_with (at_builtin; refine apB rfl (.tmp 5) (.tmp 17) rfl base _ _ l (fourB q.toNat) rfl (HO.out.alloc _) rfl (HN4.out _) (by simp [fourB]; omega) (by simp; omega) ?_; intro v1 w1 hown1 hg1; have HO1 := Lib.hid hown1; have HG1 := Lib.hid hg1; clear hown1 hg1)
  go_ret
  refine ⟨_, rfl, HO1.out, ?_⟩
  refine ((Kept.refl _ _ _).alloc (Nat.le_refl _) _).trans (Kept.of_grown HG1.out (by simp) fun k hk => .inr hk)

def ptrs (b off : Nat) : Array Value := #[.pointer (some ⟨b, off, none⟩), .pointer (some ⟨b, off + 1, none⟩), .pointer (some ⟨b, off + 2, none⟩), .pointer (some ⟨b, off + 3, none⟩), .pointer (some ⟨b, off + 4, none⟩)]

set_option maxHeartbeats 1000000 in
theorem numbers_any (b : Nat) (w : World) :
    Calls Tryd.prog 40 #[.pointer (some ⟨b, 0, none⟩)] w fun e w' => e = .returned (.agg #[.pointer (some ⟨b, 0, none⟩), .pointer (some ⟨b, 1, none⟩), .pointer (some ⟨b, 2, none⟩), .pointer (some ⟨b, 3, none⟩), .pointer (some ⟨b, 4, none⟩)]) ∧ Below w.heap.size w w' := by
  go_enter Tryd.func40, Tryd.ntmps40
  go_wp2
  refine region_quiet_tail 16 (by kernel_rfl) (by kernel_rfl) ?_
  simp only [List.take_succ_cons, List.take_zero, List.drop_succ_cons, List.drop_zero]
  repeat (go_big_quiet_step (fail))
  refine wpQuiet_nil ?_
  intro w9 hw9
  obtain ⟨nq, rfl⟩ := hw9
  go_wp2
  have hx : ∀ (W : World), W.heap[w.heap.size]? = some (.cells #[.pointer none, .pointer none, .pointer none, .pointer none, .pointer none] 85 (0, 0)) →
      (((((W.setCell ⟨w.heap.size, 0, none⟩ (.pointer (some ⟨b, 0, none⟩))).setCell ⟨w.heap.size, 1, none⟩ (.pointer (some ⟨b, 1, none⟩))).setCell ⟨w.heap.size, 2, none⟩ (.pointer (some ⟨b, 2, none⟩))).setCell ⟨w.heap.size, 3, none⟩ (.pointer (some ⟨b, 3, none⟩))).setCell ⟨w.heap.size, 4, none⟩ (.pointer (some ⟨b, 4, none⟩))).heap[w.heap.size]? =
        some (.cells #[.pointer (some ⟨b, 0, none⟩), .pointer (some ⟨b, 1, none⟩), .pointer (some ⟨b, 2, none⟩), .pointer (some ⟨b, 3, none⟩), .pointer (some ⟨b, 4, none⟩)] 85 (0, 0)) := by
    intro W h
    have h1 := heapSet (o := 0) h (.pointer (some ⟨b, 0, none⟩))
    have h2 := heapSet (o := 1) h1 (.pointer (some ⟨b, 1, none⟩))
    have h3 := heapSet (o := 2) h2 (.pointer (some ⟨b, 2, none⟩))
    have h4 := heapSet (o := 3) h3 (.pointer (some ⟨b, 3, none⟩))
    exact heapSet (o := 4) h4 (.pointer (some ⟨b, 4, none⟩))
  have hx := hx ((w.alloc (.cells #[.pointer none, .pointer none, .pointer none, .pointer none, .pointer none] 85)).drewN nq) (heapNew w _)
  have hb : Below w.heap.size w ((((((((w.alloc (.cells #[.pointer none, .pointer none, .pointer none, .pointer none, .pointer none] 85)).drewN nq).setCell ⟨w.heap.size, 0, none⟩ (.pointer (some ⟨b, 0, none⟩))).setCell ⟨w.heap.size, 1, none⟩ (.pointer (some ⟨b, 1, none⟩))).setCell ⟨w.heap.size, 2, none⟩ (.pointer (some ⟨b, 2, none⟩))).setCell ⟨w.heap.size, 3, none⟩ (.pointer (some ⟨b, 3, none⟩))).setCell ⟨w.heap.size, 4, none⟩ (.pointer (some ⟨b, 4, none⟩)))) := by
    refine Below.setCell (Below.setCell (Below.setCell (Below.setCell (Below.setCell (below_drewN (Below.alloc (Below.refl _ _) (Nat.le_refl _) _) nq) ?_ _) ?_ _) ?_ _) ?_ _) ?_ _ <;> exact Nat.le_refl _
  generalize hW : World.setCell _ _ _ = W
  rw [hW] at hb hx
  clear hW
  refine bodyPost_ret (v := .agg #[.pointer (some ⟨b, 0, none⟩), .pointer (some ⟨b, 1, none⟩), .pointer (some ⟨b, 2, none⟩), .pointer (some ⟨b, 3, none⟩), .pointer (some ⟨b, 4, none⟩)]) ?_ rfl ⟨rfl, hb⟩
  have c0 := cellAt hx 0 rfl
  have c1 := cellAt hx 1 rfl
  have c2 := cellAt hx 2 rfl
  have c3 := cellAt hx 3 rfl
  have c4 := cellAt hx 4 rfl
  clear hx hb
  simp [results, Tryd.results40, go_sem, c0, c1, c2, c3, c4]

theorem indexP (b k : Nat) (hk : k < 5) (W : World) :
    (Instr.index 85 (.agg #[.pointer (some ⟨b, 0, none⟩), .pointer (some ⟨b, 1, none⟩), .pointer (some ⟨b, 2, none⟩), .pointer (some ⟨b, 3, none⟩), .pointer (some ⟨b, 4, none⟩)]) (.int .i64 k)).run Tryd.prog W = .ok (.pointer (some ⟨b, k, none⟩)) W := by
  have h5 : k = 0 ∨ k = 1 ∨ k = 2 ∨ k = 3 ∨ k = 4 := by omega
  rcases h5 with rfl | rfl | rfl | rfl | rfl <;> (show _ = _; kernel_rfl)

/-- The cells of a command. -/
def cmdA (c : Cmd) : Array Value := #[.int .i64 c.kind, .int .i64 c.client, .int .i64 c.seq, .int .i64 c.name, .int .i64 c.value]
theorem cmdA_at (c : Cmd) (k : Nat) (hk : k < 5) : (cmdA c)[k]? = some (.int .i64 (c.fld k)) := by
  have h5 : k = 0 ∨ k = 1 ∨ k = 2 ∨ k = 3 ∨ k = 4 := by omega
  rcases h5 with rfl | rfl | rfl | rfl | rfl <;> rfl
theorem fld_nonneg (c : Cmd) (h : checkC c = 0) (k : Nat) : 0 ≤ c.fld k ∧ c.fld k ≤ 1073741824 := by
  unfold checkC at h
  split at h
  · split at h
    · rename_i h1 h2
      subst h2
      match k with
      | 0 => simp [Cmd.fld, Cmd.zero]
      | 1 => simp [Cmd.fld, Cmd.zero]
      | 2 => simp [Cmd.fld, Cmd.zero]
      | 3 => simp [Cmd.fld, Cmd.zero]
      | k + 4 => simp [Cmd.fld, Cmd.zero]
    · cases h
  · split at h
    · rename_i h1 h2
      split at h
      · cases h
      · rename_i h3
        have h4 : inRange c = true := by simpa using h3
        unfold inRange at h4
        have h4 := of_decide_eq_true h4
        match k with
        | 0 => simp only [Cmd.fld]; omega
        | 1 => simp only [Cmd.fld]; omega
        | 2 => simp only [Cmd.fld]; omega
        | 3 => simp only [Cmd.fld]; omega
        | k + 4 => simp only [Cmd.fld]; omega
    · cases h

/-- A call that gives a row of its own with these bytes and a number, and turns nothing that was there. -/
def FreshBC (w : World) (R : List UInt8) (c : Int) (e : Ending) (w' : World) : Prop := ∃ v', e = .returned (.tuple #[v', .int .i64 c]) ∧ Own w' w.heap.size v' R ∧ Below w.heap.size w w'

set_option maxHeartbeats 1000000 in
theorem Encode_ok (c : Cmd) (w : World) (hc : checkC c = 0) :
    Calls Tryd.prog 24 #[cmdV c] w (FreshBC w (encC c) 0) := by
  have HC := Lib.hid hc
  have hck := fun w' => Check_any c w'
  rw [hc] at hck
  have HCK := Lib.hid hck
  clear hc hck
  unfold cmdV at HCK ⊢
  go_enter Tryd.func24, Tryd.ntmps24
  go_wp2_with fail
  refine (HCK.out _).mono ?_
  rintro e w1 ⟨rfl, hb1⟩
  have hx1 : w1.heap[w.heap.size]? = some (.cells (cmdA c) 33 (0, 0)) := (hb1.block _ (by simp)).trans (heapNew w _)
  have hs1 : w.heap.size + 1 ≤ w1.heap.size := by have := hb1.size; simpa using this
  have HB1 := Lib.hid (((Below.refl w.heap.size w).alloc (Nat.le_refl _) (.cells (cmdA c) 33)).trans (hb1.mono (by simp)))
  have HX1 := Lib.hid hx1
  clear hb1 hx1
  go_wp2_with fail
  refine (numbers_any _ _).mono ?_
  rintro e w2 ⟨rfl, hb2⟩
  have hs2 : w.heap.size + 1 ≤ w2.heap.size := by have := hb2.size; omega
  have HX2 := Lib.hid ((hb2.block _ (by omega)).trans HX1.out)
  have HB2 := Lib.hid (HB1.out.trans (hb2.mono (by omega)))
  clear hb2
  go_wp2_with fail
  have hix := fun k hk W => indexP w.heap.size k hk W
  have HIX := Lib.hid hix
  clear hix
  go_loopw [5, 14] (fun v i wr => ∃ k g cap n : Nat, k ≤ 5 ∧ i = .int .i64 k ∧ Own wr (w.heap.size + 1) v (encK c k) ∧ wr.heap[w.heap.size]? = some (.cells (cmdA c) 33 (0, 0)) ∧ Below w.heap.size w wr ∧ w.heap.size + 1 ≤ wr.heap.size)
    (fun _ i _ => 5 - (intOf i).toNat)
  case atStart => exact ⟨0, 0, 0, 0, by omega, rfl, Own.nil _ _, HX2.out, HB2.out, hs2⟩
  case round =>
    obtain ⟨k, _, _, _, hk, rfl, hO, hX, hB, hS⟩ := hrel
    have HO := Lib.hid hO
    have HX := Lib.hid hX
    have HB := Lib.hid hB
    by_cases hlt : k < 5
    · have hc1 := cellAt hX k (cmdA_at c k hlt)
      have hik := HIX.out k hlt
      obtain ⟨q, hq⟩ : ∃ q, q = c.fld k := ⟨_, rfl⟩
      have hq0 : 0 ≤ q := by rw [hq]; exact (fld_nonneg c HC.out k).1
      rw [← hq] at hc1
      have HQ := Lib.hid hq
      have hel := encK_length c k
      clear hO hX hB hq
      go_wp2_with (go_at_call 41; refine (four_any _ (encK c k) q (w.heap.size + 1) _ HO.out hS hq0 (by omega)).mono ?_; rintro e w3 ⟨v3, rfl, ho3, hk3⟩; have HO3 := Lib.hid ho3; have HK3 := Lib.hid hk3; clear ho3 hk3)
      have hlt' := HO.out.lt
      go_roundw
      case rel =>
        refine ⟨k + 1, 0, 0, 0, by omega, by go_num, ?_, ?_, ?_, ?_⟩
        · rw [encK, ← HQ.out]; exact HO3.out
        · exact (HK3.out.block _ (by omega) (fun e => by have := (HO.out.lt _ e).1; omega)).trans HX.out
        · exact HB.out.trans ((HK3.out.mono (B' := w.heap.size) (S' := fun _ => False) (by omega) (fun k hk h => by have := (HO.out.lt _ h).1; omega)).below (fun _ _ h => h))
        · have := HK3.out.size; omega
      case measure => simp [intOf]; omega
    · clear hO hX hB
      go_wp2
      go_ret2
      have hk5 : k = 5 := by omega
      have h := HO.out
      rw [hk5] at h
      exact ⟨_, rfl, h.mono (by omega), HB.out⟩

set_option maxHeartbeats 1000000 in
theorem Encode_bad (c : Cmd) (w : World) (hc : checkC c ≠ 0) :
    Calls Tryd.prog 24 #[cmdV c] w (FreshBC w [] (checkC c)) := by
  have hck := fun w' => Check_any c w'
  have HCK := Lib.hid hck
  obtain ⟨q, hq⟩ : ∃ q, q = checkC c := ⟨_, rfl⟩
  rw [← hq] at hc HCK ⊢
  have hq0 : (q != 0) = true := by simpa using hc
  clear hck hq hc
  unfold cmdV at HCK ⊢
  go_enter Tryd.func24, Tryd.ntmps24
  go_wp2_with fail
  refine (HCK.out _).mono ?_
  rintro e w1 ⟨rfl, hb1⟩
  have HB1 := Lib.hid (((Below.refl w.heap.size w).alloc (Nat.le_refl _) (.cells (cmdA c) 33)).trans (hb1.mono (by simp)))
  clear hb1
  go_wp2
  go_ret2
  exact ⟨_, rfl, Own.nil _ _, HB1.out⟩
end Go.Proofs.YtdkbajdnckmckaaDoor
