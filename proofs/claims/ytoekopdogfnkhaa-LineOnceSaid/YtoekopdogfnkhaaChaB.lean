/-
  The walk of cha.block.
-/
import Derived.Test.YtoekopdogfnkhaaChaW
import Derived.Test.YtoekopdogfnkhaaMid
import Derived.Test.YtoekopdogfnkhaaRes
set_option linter.unusedVariables false
set_option linter.unusedSimpArgs false
namespace Go.Con.Cha
/-- the state while its words are read -/
def ld (key : List UInt8) : Nat → List UInt32
  | 0 => [1634760805, 857760878, 2036477234, 1797285236, 0, 0, 0, 0, 0, 0, 0, 0, 0, 0, 0, 0]
  | k + 1 => (ld key k).set (4 + k) (word key (4 * k))
def ln (key : List UInt8) (counter : UInt32) (nonce : List UInt8) : Nat → List UInt32
  | 0 => (ld key 8).set 12 counter
  | k + 1 => (ln key counter nonce k).set (13 + k) (word nonce (4 * k))
theorem ld_length (key : List UInt8) (k : Nat) : (ld key k).length = 16 := by
  induction k with
  | zero => rfl
  | succ k ih => rw [ld, List.length_set, ih]
theorem ln_length (key : List UInt8) (counter : UInt32) (nonce : List UInt8) (k : Nat) : (ln key counter nonce k).length = 16 := by
  induction k with
  | zero => rw [ln, List.length_set, ld_length]
  | succ k ih => rw [ln, List.length_set, ih]
theorem ln_start (key : List UInt8) (counter : UInt32) (nonce : List UInt8) : ln key counter nonce 3 = start key counter nonce := rfl
theorem outs_at (x s : List UInt32) (N k m : Nat) (hk : k < N) (hm : m < 4) : (outs x s N).getD (4 * k + m) 0 = (le4 (at0 x k + at0 s k)).getD m 0 := by
  induction N with
  | zero => omega
  | succ N ih =>
    have hl := outs_length x s N
    have h4 : (le4 (at0 x N + at0 s N)).length = 4 := rfl
    simp only [outs, List.getD_eq_getElem?_getD]
    by_cases h : k < N
    · rw [List.getElem?_append_left (by omega)]
      have := ih h
      simpa only [List.getD_eq_getElem?_getD] using this
    · have : k = N := by omega
      subst this
      rw [List.getElem?_append_right (by omega), hl, Nat.add_sub_cancel_left]
end Go.Con.Cha
namespace Go.Proofs.Ytoekopdogfnkhaa
open Go.RowKit Go.Con

theorem Words.range {w : World} {b : Nat} {t : TypeId} {s : List UInt32} (h : Words w b t s) : w.rangeAt b 0 (s.map cu32v) := fun j v hv => by
  rw [Nat.zero_add]
  exact cellAt h j (by simpa using hv)
/-- a block of so many cells -/
def Room (w : World) (b n : Nat) (t : TypeId) : Prop := ∃ cur, w.heap[b]? = some (.cells cur t (0, 0)) ∧ cur.size = n
theorem Room.keep {w w' : World} {b n B : Nat} {t : TypeId} {S : Nat → Prop} (h : Room w b n t) (hk : Kept B S w w') (hb : b < B) (hs : ¬ S b) : Room w' b n t := by
  obtain ⟨cur, h1, h2⟩ := h
  exact ⟨cur, (hk.block b hb hs).trans h1, h2⟩
theorem Room.set {w : World} {b n b' k : Nat} {t : TypeId} {v : Value} (h : Room w b n t) : Room (w.setCell ⟨b', k, none⟩ v) b n t := by
  obtain ⟨cur, h1, h2⟩ := h
  by_cases e : b = b'
  · subst e
    exact ⟨_, heapSet h1 v, by simpa using h2⟩
  · exact ⟨cur, by rw [heapSet_ne _ _ e]; exact h1, h2⟩
theorem Room.cellAt {w : World} {b n : Nat} {t : TypeId} (h : Room w b n t) (j : Nat) (hj : j < n) : ∃ v, w.cell? ⟨b, j, none⟩ = some v := by
  obtain ⟨cur, h1, h2⟩ := h
  exact ⟨_, cellD h1 j (by omega)⟩
theorem Room.freeAt {w : World} {b n : Nat} {t : TypeId} (h : Room w b n t) (j : Nat) : w.frozen? ⟨b, j, none⟩ = false := by
  obtain ⟨cur, h1, h2⟩ := h
  exact Go.Con.freeAt h1 j
theorem Room.drewN {w : World} {b n : Nat} {t : TypeId} (h : Room w b n t) (m : Nat) : Room (w.drewN m) b n t := h
theorem quarter_at (b a1 a2 a3 a4 : Nat) (q1 q2 q3 q4 : Int) (s : List UInt32) (w : World) (e1 : q1 = a1) (e2 : q2 = a2) (e3 : q3 = a3) (e4 : q4 = a4) (hs : s.length = 16) (h1 : a1 < 16) (h2 : a2 < 16) (h3 : a3 < 16) (h4 : a4 < 16) (hW : Words w b 62 s) :
    Calls Try.prog 36 #[.pointer (some ⟨b, 0, none⟩), .int .i64 q1, .int .i64 q2, .int .i64 q3, .int .i64 q4] w
      fun e w' => e = .returned (.tuple #[]) ∧ Words w' b 62 (Cha.quarter s a1 a2 a3 a4) ∧ Kept w.heap.size (fun k => k = b) w w' := by
  subst e1 e2 e3 e4
  exact quarter_any b a1 a2 a3 a4 s w hs h1 h2 h3 h4 hW
theorem Words.kept {w w' : World} {b B : Nat} {t : TypeId} {s : List UInt32} {S : Nat → Prop} (h : Words w b t s) (hk : Kept B S w w') (hb : b < B) (hs : ¬ S b) : Words w' b t s := (hk.block b hb hs).trans h
theorem Words.other {w : World} {b : Nat} {t : TypeId} {s : List UInt32} (h : Words w b t s) (b' k : Nat) (v : Value) (hb : b ≠ b') : Words (w.setCell ⟨b', k, none⟩ v) b t s := (heapSet_ne k v hb).trans h
theorem le4_0 (n : UInt32) : u8v ((Cha.le4 n).getD 0 0) = .int .u8 (n.toNat % 256) := by
  show Value.int .u8 (n.toUInt8.toNat : Int) = _
  rw [UInt32.toNat_toUInt8]; simp
theorem le4_1 (n : UInt32) : u8v ((Cha.le4 n).getD 1 0) = .int .u8 (n.toNat / 256 % 256) := by
  show Value.int .u8 ((n >>> 8).toUInt8.toNat : Int) = _
  rw [UInt32.toNat_toUInt8, UInt32.toNat_shiftRight, Nat.shiftRight_eq_div_pow]; simp
theorem le4_2 (n : UInt32) : u8v ((Cha.le4 n).getD 2 0) = .int .u8 (n.toNat / 65536 % 256) := by
  show Value.int .u8 ((n >>> 16).toUInt8.toNat : Int) = _
  rw [UInt32.toNat_toUInt8, UInt32.toNat_shiftRight, Nat.shiftRight_eq_div_pow]; simp
theorem le4_3 (n : UInt32) : u8v ((Cha.le4 n).getD 3 0) = .int .u8 (n.toNat / 16777216 % 256) := by
  show Value.int .u8 ((n >>> 24).toUInt8.toNat : Int) = _
  rw [UInt32.toNat_toUInt8, UInt32.toNat_shiftRight, Nat.shiftRight_eq_div_pow]; simp
/-- a row whose first m cells are known -/
def RowP (w : World) (b n : Nat) (t : TypeId) (f : Nat → Value) (m : Nat) : Prop := ∃ cur, w.heap[b]? = some (.cells cur t (0, 0)) ∧ cur.size = n ∧ ∀ j, j < m → cur[j]? = some (f j)
theorem RowP.next {w : World} {b n m : Nat} {t : TypeId} {f : Nat → Value} (h : RowP w b n t f m) (hm : m < n) (v : Value) (hv : v = f m) : RowP (w.setCell ⟨b, m, none⟩ v) b n t f (m + 1) := by
  obtain ⟨cur, h1, h2, h3⟩ := h
  exact fillOne 0 h1 h2 hm h3 hv
theorem RowP.cell {w : World} {b n m : Nat} {t : TypeId} {f : Nat → Value} (h : RowP w b n t f m) (j : Nat) (hj : j < n) : ∃ v, w.cell? ⟨b, j, none⟩ = some v := by
  obtain ⟨cur, h1, h2, h3⟩ := h
  exact ⟨_, cellD h1 j (by omega)⟩
theorem RowP.free {w : World} {b n m : Nat} {t : TypeId} {f : Nat → Value} (h : RowP w b n t f m) (j : Nat) : w.frozen? ⟨b, j, none⟩ = false := by
  obtain ⟨cur, h1, h2, h3⟩ := h
  exact freeAt h1 j
theorem RowP.full {w : World} {b n : Nat} {t : TypeId} {f : Nat → Value} (h : RowP w b n t f n) : w.heap[b]? = some (.cells ((List.range n).map f).toArray t (0, 0)) := by
  obtain ⟨cur, h1, h2, h3⟩ := h
  rw [h1]
  have e : cur = ((List.range n).map f).toArray := by
    apply Array.ext (by simp [h2])
    intro j k1 k2
    have hj : j < n := by omega
    have h4 := h3 j hj
    rw [Array.getElem?_eq_getElem k1] at h4
    injection h4 with h4
    rw [h4]
    simp
  rw [e]
set_option maxRecDepth 100000 in
set_option maxHeartbeats 4000000 in
theorem cblock_any (kb ko kc nb no nc : Nat) (key nonce : List UInt8) (counter : UInt32) (w : World) (hkl : key.length = 32) (hnl : nonce.length = 12)
    (hk : Rd w (.slice (some ⟨kb, ko, none⟩) 32 kc) key) (hn : Rd w (.slice (some ⟨nb, no, none⟩) 12 nc) nonce) :
    Calls Try.prog 33 #[.slice (some ⟨kb, ko, none⟩) 32 kc, .int .u32 counter.toNat, .slice (some ⟨nb, no, none⟩) 12 nc] w
      fun e w' => e = .returned (.agg ((Cha.block key counter nonce).map u8v).toArray) ∧ Below w.heap.size w w' := by
  have HKey := Lib.hid hk
  have HNon := Lib.hid hn
  have HKL := Lib.hid hkl
  have HNL := Lib.hid hnl
  clear hk hn hkl hnl
  go_enter Try.func33, Try.ntmps33
  go_wp2_with fail
  have hk1 : ∀ (W : World), Below w.heap.size w W → ∀ i, i < 32 → W.cell? ⟨kb, ko + i, none⟩ = some (.int .u8 (key.getD i 0).toNat) := by
    intro W hW i hi
    obtain ⟨a', c', e, _, _, _, h⟩ := HKey.out.stay hW
    obtain ⟨b, off, e4, h2⟩ := h (by intro h; have := HKL.out; rw [h] at this; cases this)
    injection e with e1 e2 e3
    subst e1
    injection e4 with e4
    injection e4 with e5 e6
    subst e5 e6
    exact h2 i (by rw [HKL.out]; exact hi)
  have hn1 : ∀ (W : World), Below w.heap.size w W → ∀ i, i < 12 → W.cell? ⟨nb, no + i, none⟩ = some (.int .u8 (nonce.getD i 0).toNat) := by
    intro W hW i hi
    obtain ⟨a', c', e, _, _, _, h⟩ := HNon.out.stay hW
    obtain ⟨b, off, e4, h2⟩ := h (by intro h; have := HNL.out; rw [h] at this; cases this)
    injection e with e1 e2 e3
    subst e1
    injection e4 with e4
    injection e4 with e5 e6
    subst e5 e6
    exact h2 i (by rw [HNL.out]; exact hi)
  have HK1 := Lib.hid hk1
  have HN1 := Lib.hid hn1
  have hkc : 32 ≤ kc := by obtain ⟨_, _, e, h, _⟩ := HKey.out; injection e with e1 e2 e3; omega
  have hnc : 12 ≤ nc := by obtain ⟨_, _, e, h, _⟩ := HNon.out; injection e with e1 e2 e3; omega
  clear hk1 hn1
  go_loopw [17] (fun i wr => ∃ k : Nat, k ≤ 8 ∧ i = .int .i64 k ∧ Words wr (w.heap.size + 1) 62 (Cha.ld key k) ∧ Room wr w.heap.size 64 57 ∧ Below w.heap.size w wr)
    (fun i _ => 8 - (intOf i).toNat)
  case atStart => exact ⟨0, by omega, rfl, heapNew1 _ _ _, ⟨_, heapNew0 _ _ _, rfl⟩, ((Below.refl _ _).alloc (Nat.le_refl _) _).alloc (by simp) _⟩
  case round =>
    obtain ⟨k, hk, rfl, hw, hr, hb⟩ := hrel
    have HW := Lib.hid hw
    have HR := Lib.hid hr
    have HB := Lib.hid hb
    by_cases hlt : k < 8
    · have g0 := HK1.out wr hb (4 * k) (by omega)
      have g1 := HK1.out wr hb (4 * k + 1) (by omega)
      have g2 := HK1.out wr hb (4 * k + 2) (by omega)
      have g3 := HK1.out wr hb (4 * k + 3) (by omega)
      have cc := (hw.cell (4 + k) (by rw [Cha.ld_length]; omega))
      have ff := freeAt hw (4 + k)
      clear hw hr hb
      go_wp2_with fail
      refine (chaWord_any kb (ko + 4 * k) (32 - 4 * k) (kc - 4 * k) (key.getD (4 * k) 0) (key.getD (4 * k + 1) 0) (key.getD (4 * k + 2) 0) (key.getD (4 * k + 3) 0) wr (by omega) (by omega) g0 g1 g2 g3).mono ?_
      rintro e w3 ⟨rfl, nq, rfl⟩
      clear g0 g1 g2 g3
      obtain ⟨x, hx⟩ : ∃ x, x = Cha.word key (4 * k) := ⟨_, rfl⟩
      have hx2 : ((key.getD (4 * k) 0).toUInt32 ||| (key.getD (4 * k + 1) 0).toUInt32 <<< 8 ||| (key.getD (4 * k + 2) 0).toUInt32 <<< 16 ||| (key.getD (4 * k + 3) 0).toUInt32 <<< 24) = x := hx.symm
      rw [hx2]
      have HX := Lib.hid hx
      clear hx hx2
      go_wp2
      go_roundw
      case rel =>
        refine ⟨k + 1, by omega, by go_num, ?_, (HR.out.drewN nq).set, (below_drewN HB.out nq).setCell (by simp) _⟩
        rw [Cha.ld, ← HX.out]
        exact (HW.out.drewN nq).set (4 + k) x
      case measure => simp [intOf]; omega
    · have hk8 : k = 8 := by omega
      rw [hk8] at hw
      clear hk8
      have HW := Lib.hid hw
      have cc := (hw.cell 12 (by rw [Cha.ld_length]; omega))
      have ff := freeAt hw 12
      clear hw hr hb
      go_wp2_with fail
      have hw1 : Words (wr.setCell ⟨w.heap.size + 1, 12, none⟩ (.int .u32 counter.toNat)) (w.heap.size + 1) 62 (Cha.ln key counter nonce 0) := HW.out.set 12 counter
      have hr1 : Room (wr.setCell ⟨w.heap.size + 1, 12, none⟩ (.int .u32 counter.toNat)) w.heap.size 64 57 := HR.out.set
      have hb1 : Below w.heap.size w (wr.setCell ⟨w.heap.size + 1, 12, none⟩ (.int .u32 counter.toNat)) := HB.out.setCell (by simp) _
      obtain ⟨w1, hw1e⟩ : ∃ w1, w1 = wr.setCell ⟨w.heap.size + 1, 12, none⟩ (.int .u32 counter.toNat) := ⟨_, rfl⟩
      rw [← hw1e] at hw1 hr1 hb1 ⊢
      have HW1 := Lib.hid hw1
      have HR1 := Lib.hid hr1
      have HB1 := Lib.hid hb1
      clear hw1 hr1 hb1 hw1e cc ff
      go_loopw [31] (fun i wr => ∃ k : Nat, k ≤ 3 ∧ i = .int .i64 k ∧ Words wr (w.heap.size + 1) 62 (Cha.ln key counter nonce k) ∧ Room wr w.heap.size 64 57 ∧ Below w.heap.size w wr)
        (fun i _ => 3 - (intOf i).toNat)
      case atStart => exact ⟨0, by omega, rfl, HW1.out, HR1.out, HB1.out⟩
      case round =>
        obtain ⟨j, hj, rfl, hw, hr, hb⟩ := hrel
        have HW := Lib.hid hw
        have HR := Lib.hid hr
        have HB := Lib.hid hb
        by_cases hlt2 : j < 3
        · have g0 := HN1.out _ hb (4 * j) (by omega)
          have g1 := HN1.out _ hb (4 * j + 1) (by omega)
          have g2 := HN1.out _ hb (4 * j + 2) (by omega)
          have g3 := HN1.out _ hb (4 * j + 3) (by omega)
          have cc := (hw.cell (13 + j) (by rw [Cha.ln_length]; omega))
          have ff := freeAt hw (13 + j)
          clear hw hr hb
          go_wp2_with fail
          refine (chaWord_any nb (no + 4 * j) (12 - 4 * j) (nc - 4 * j) (nonce.getD (4 * j) 0) (nonce.getD (4 * j + 1) 0) (nonce.getD (4 * j + 2) 0) (nonce.getD (4 * j + 3) 0) _ (by omega) (by omega) g0 g1 g2 g3).mono ?_
          rintro e w3 ⟨rfl, nq, rfl⟩
          clear g0 g1 g2 g3
          obtain ⟨x, hx⟩ : ∃ x, x = Cha.word nonce (4 * j) := ⟨_, rfl⟩
          have hx2 : ((nonce.getD (4 * j) 0).toUInt32 ||| (nonce.getD (4 * j + 1) 0).toUInt32 <<< 8 ||| (nonce.getD (4 * j + 2) 0).toUInt32 <<< 16 ||| (nonce.getD (4 * j + 3) 0).toUInt32 <<< 24) = x := hx.symm
          rw [hx2]
          have HX := Lib.hid hx
          clear hx hx2
          go_wp2
          go_roundw
          case rel =>
            refine ⟨j + 1, by omega, by go_num, ?_, (HR.out.drewN nq).set, (below_drewN HB.out nq).setCell (by simp) _⟩
            rw [Cha.ln, ← HX.out]
            exact (HW.out.drewN nq).set (13 + j) x
          case measure => simp [intOf]; omega
        · have hj3 : j = 3 := by omega
          rw [hj3, Cha.ln_start] at hw
          clear hj3
          have HW := Lib.hid hw
          obtain ⟨s, hs⟩ : ∃ s, s = Cha.start key counter nonce := ⟨_, rfl⟩
          rw [← hs] at HW
          have HS := Lib.hid hs
          have hsl : s.length = 16 := by rw [hs]; rfl
          have HSL := Lib.hid hsl
          have hrg : (_ : World).rangeAt (w.heap.size + 1) 0 (s.map cu32v) := Words.range HW.out
          clear hw hr hb hs hsl
          have hth : ∀ W : World, (W.alloc (.cells #[.int .u32 0, .int .u32 0, .int .u32 0, .int .u32 0, .int .u32 0, .int .u32 0, .int .u32 0, .int .u32 0, .int .u32 0, .int .u32 0, .int .u32 0, .int .u32 0, .int .u32 0, .int .u32 0, .int .u32 0, .int .u32 0] 62)).there W.heap.size 0 16 := fun W => there_of (heapNew W _) rfl
          have HTH := Lib.hid hth
          have hsz : (s.map cu32v).toArray.size = 16 := by simp [HSL.out]
          have SZ := Lib.hid hsz
          clear hth hsz
          go_wp2_with (first
            | (refine wpList_load_mid rfl 62 (.tmp 7) rfl (w.heap.size + 1) 0 rfl (s.map cu32v) _ hrg Try.underlying62 rfl (by rw [List.length_map, HSL.out]; kernel_rfl) ?_)
            | (refine wpList_store_mid rfl 62 (.tmp 10) (.tmp 43) rfl wr.heap.size 0 (s.map cu32v).toArray rfl rfl (by rw [SZ.out]; exact HTH.out _) (by rw [SZ.out]; kernel_rfl) (all_oneCell_toArray (by intro v hv; obtain ⟨x, _, rfl⟩ := List.mem_map.1 hv; rfl)) ?_))
          generalize hW5 : World.setCells _ _ _ _ = w5
          obtain ⟨bx, hbx⟩ : ∃ bx, bx = wr.heap.size := ⟨_, rfl⟩
          have hx5 : Words w5 bx 62 s := by
            rw [← hW5, hbx]
            exact storedRow (heapNew wr _) (by simp [HSL.out])
          have hlt5 := lt_of_heap HW.out
          have ho5 : Words w5 (w.heap.size + 1) 62 s := by
            rw [← hW5]
            exact (heap_setCells_ne (by omega) _ _ _).trans ((heapOld _ _ _ hlt5).trans HW.out)
          have hr5 : Room w5 w.heap.size 64 57 := by
            obtain ⟨cur, h1, h2⟩ := HR.out
            exact ⟨cur, by rw [← hW5]; exact (heap_setCells_ne (by omega) _ _ _).trans ((heapOld _ _ _ (by omega)).trans h1), h2⟩
          have hb5 : Below w.heap.size w w5 := by
            rw [← hW5]
            exact below_setCells (by omega) _ _ _ (HB.out.alloc (by omega) _)
          have hbx1 : w.heap.size + 1 < bx := by omega
          rw [← hbx]
          have HX5 := Lib.hid hx5
          have HO5 := Lib.hid ho5
          have HR5 := Lib.hid hr5
          have HB5 := Lib.hid hb5
          have HW0 := Lib.hid hW5
          clear hx5 ho5 hr5 hb5 hW5 hrg hlt5 hbx HW0
          go_loopw [44] (fun i wr => ∃ r : Nat, r ≤ 10 ∧ i = .int .i64 r ∧ Words wr bx 62 (Cha.rounds s r) ∧ Words wr (w.heap.size + 1) 62 s ∧ Room wr w.heap.size 64 57 ∧ Below w.heap.size w wr)
            (fun i _ => 10 - (intOf i).toNat)
          case atStart => exact ⟨0, by omega, rfl, HX5.out, HO5.out, HR5.out, HB5.out⟩
          case round =>
            obtain ⟨r, hr10, rfl, hx, ho, hr, hb⟩ := hrel
            have HX := Lib.hid hx
            have HO := Lib.hid ho
            have HR := Lib.hid hr
            have HB := Lib.hid hb
            clear hx ho hr hb
            by_cases hlt3 : r < 10
            · obtain ⟨t, ht⟩ : ∃ t, t = Cha.rounds s r := ⟨_, rfl⟩
              have htl : t.length = 16 := by rw [ht, Cha.rounds_length]; exact HSL.out
              have HTe := Lib.hid ht
              have HTL := Lib.hid htl
              rw [← ht] at HX
              clear ht htl
              have hdr : decide ((r : Int) < 10) = true := by rw [decide_eq_true_eq]; omega
              go_wp2_with fail
              go_loopw [46] (fun i wr => ∃ c : Nat, c ≤ 4 ∧ i = .int .i64 c ∧ Words wr bx 62 (Cha.cols t c) ∧ Words wr (w.heap.size + 1) 62 s ∧ Room wr w.heap.size 64 57 ∧ Below w.heap.size w wr)
                (fun i _ => 4 - (intOf i).toNat)
              case atStart => exact ⟨0, by omega, rfl, HX.out, HO.out, HR.out, HB.out⟩
              case round =>
                obtain ⟨c, hc4, rfl, hx, ho, hr, hb⟩ := hrel
                have HX := Lib.hid hx
                have HO := Lib.hid ho
                have HR := Lib.hid hr
                have HB := Lib.hid hb
                clear hx ho hr hb
                by_cases hlt4 : c < 4
                · go_wp2_with fail
                  refine (quarter_at bx c (4 + c) (8 + c) (12 + c) _ _ _ _ (Cha.cols t c) _ rfl (by simp) (by simp) (by simp) (by rw [Cha.cols_length]; exact HTL.out) (by omega) (by omega) (by omega) (by omega) HX.out).mono ?_
                  rintro e w6 ⟨rfl, hx6, hk6⟩
                  have hltx := lt_of_heap HX.out
                  have HX6 := Lib.hid hx6
                  have HO6 := Lib.hid (HO.out.kept hk6 (by omega) (by omega))
                  have HR6 := Lib.hid (HR.out.keep hk6 (by omega) (by omega))
                  have HB6 := Lib.hid (HB.out.trans ((hk6.mono (B' := w.heap.size) (S' := fun _ => False) HB.out.size (fun k hk e => by omega)).below (fun _ _ h => h)))
                  clear hx6 hk6 hltx
                  go_wp2
                  go_roundw
                  case rel => exact ⟨c + 1, by omega, by go_num, HX6.out, HO6.out, HR6.out, HB6.out⟩
                  case measure => simp [intOf]; omega
                · have hc : c = 4 := by omega
                  have hx4 := HX.out
                  rw [hc] at hx4
                  have HX4 := Lib.hid hx4
                  have hdc : decide ((c : Int) < 4) = false := by simp; omega
                  have HC := Lib.hid hc
                  clear hc hx4 HX
                  obtain ⟨q, hq⟩ : ∃ q, q = Cha.cols t 4 := ⟨_, rfl⟩
                  have hql : q.length = 16 := by rw [hq, Cha.cols_length]; exact HTL.out
                  have HQe := Lib.hid hq
                  have HQL := Lib.hid hql
                  rw [← hq] at HX4
                  clear hq hql
                  go_wp2_with fail
                  go_loopw [58] (fun i wr => ∃ d : Nat, d ≤ 4 ∧ i = .int .i64 d ∧ Words wr bx 62 (Cha.diags q d) ∧ Words wr (w.heap.size + 1) 62 s ∧ Room wr w.heap.size 64 57 ∧ Below w.heap.size w wr)
                    (fun i _ => 4 - (intOf i).toNat)
                  case atStart => exact ⟨0, by omega, rfl, HX4.out, HO.out, HR.out, HB.out⟩
                  case round =>
                    obtain ⟨d, hd4, rfl, hx, ho, hr, hb⟩ := hrel
                    have HX := Lib.hid hx
                    have HO := Lib.hid ho
                    have HR := Lib.hid hr
                    have HB := Lib.hid hb
                    clear hx ho hr hb
                    by_cases hlt5 : d < 4
                    · go_wp2_with fail
                      refine (quarter_at bx d (4 + (d + 1) % 4) (8 + (d + 2) % 4) (12 + (d + 3) % 4) _ _ _ _ (Cha.diags q d) _ rfl (by omega) (by omega) (by omega) (by rw [Cha.diags_length]; exact HQL.out) (by omega) (by omega) (by omega) (by omega) HX.out).mono ?_
                      rintro e w6 ⟨rfl, hx6, hk6⟩
                      have hltx := lt_of_heap HX.out
                      have HX6 := Lib.hid hx6
                      have HO6 := Lib.hid (HO.out.kept hk6 (by omega) (by omega))
                      have HR6 := Lib.hid (HR.out.keep hk6 (by omega) (by omega))
                      have HB6 := Lib.hid (HB.out.trans ((hk6.mono (B' := w.heap.size) (S' := fun _ => False) HB.out.size (fun k hk e => by omega)).below (fun _ _ h => h)))
                      clear hx6 hk6 hltx
                      go_wp2
                      go_roundw
                      case rel => exact ⟨d + 1, by omega, by go_num, HX6.out, HO6.out, HR6.out, HB6.out⟩
                      case measure => simp [intOf]; omega
                    · have hd : d = 4 := by omega
                      have hx4 := HX.out
                      rw [hd] at hx4
                      have HX5 := Lib.hid hx4
                      have hdd : decide ((d : Int) < 4) = false := by simp; omega
                      clear hd hx4 HX
                      go_wp2_with fail
                      go_roundw
                      case rel =>
                        refine ⟨r + 1, by omega, by go_num, ?_, HO.out, HR.out, HB.out⟩
                        have h := HX5.out
                        rw [HQe.out, HTe.out] at h
                        exact h
                      case measure => simp [intOf]; omega
            · have hr10e : r = 10 := by omega
              have hx10 := HX.out
              rw [hr10e] at hx10
              have hdr : decide ((r : Int) < 10) = false := by simp; omega
              obtain ⟨X, hXe⟩ : ∃ X, X = Cha.rounds s 10 := ⟨_, rfl⟩
              have hXl : X.length = 16 := by rw [hXe, Cha.rounds_length]; exact HSL.out
              rw [← hXe] at hx10
              have HX10 := Lib.hid hx10
              have HXe := Lib.hid hXe
              have HXL := Lib.hid hXl
              clear hr10e hx10 hXe hXl HX
              go_wp2_with fail
              obtain ⟨w7, hw7⟩ : ∃ w7, w7 = wr.alloc (.cells (Array.replicate 64 (.int .u8 0)) 57) := ⟨_, rfl⟩
              obtain ⟨bo, hbo⟩ : ∃ bo, bo = wr.heap.size := ⟨_, rfl⟩
              have hob : bx < bo ∧ w.heap.size + 1 < bo := by rw [hbo]; exact ⟨lt_of_heap HX10.out, lt_of_heap HO.out⟩
              have hx7 : Words w7 bx 62 X := by rw [hw7]; exact (heapOld _ _ _ (lt_of_heap HX10.out)).trans HX10.out
              have ho7 : Words w7 (w.heap.size + 1) 62 s := by rw [hw7]; exact (heapOld _ _ _ (lt_of_heap HO.out)).trans HO.out
              have hr7 : Room w7 w.heap.size 64 57 := by
                obtain ⟨cur, h1, h2⟩ := HR.out
                exact ⟨cur, by rw [hw7]; exact (heapOld _ _ _ (lt_of_heap h1)).trans h1, h2⟩
              have hb7 : Below w.heap.size w w7 := by rw [hw7]; exact HB.out.alloc (HB.out.size) _
              have hp7 : RowP w7 bo 64 57 (fun j => u8v ((Cha.outs X s 16).getD j 0)) 0 := ⟨Array.replicate 64 (.int .u8 0), by rw [hw7, hbo]; exact heapNew _ _, by simp, fun j hj => by omega⟩
              have e7 : wr.alloc (.cells #[.int .u8 0, .int .u8 0, .int .u8 0, .int .u8 0, .int .u8 0, .int .u8 0, .int .u8 0, .int .u8 0, .int .u8 0, .int .u8 0, .int .u8 0, .int .u8 0, .int .u8 0, .int .u8 0, .int .u8 0, .int .u8 0, .int .u8 0, .int .u8 0, .int .u8 0, .int .u8 0, .int .u8 0, .int .u8 0, .int .u8 0, .int .u8 0, .int .u8 0, .int .u8 0, .int .u8 0, .int .u8 0, .int .u8 0, .int .u8 0, .int .u8 0, .int .u8 0, .int .u8 0, .int .u8 0, .int .u8 0, .int .u8 0, .int .u8 0, .int .u8 0, .int .u8 0, .int .u8 0, .int .u8 0, .int .u8 0, .int .u8 0, .int .u8 0, .int .u8 0, .int .u8 0, .int .u8 0, .int .u8 0, .int .u8 0, .int .u8 0, .int .u8 0, .int .u8 0, .int .u8 0, .int .u8 0, .int .u8 0, .int .u8 0, .int .u8 0, .int .u8 0, .int .u8 0, .int .u8 0, .int .u8 0, .int .u8 0, .int .u8 0, .int .u8 0] 57) = w7 := hw7.symm
              rw [e7, ← hbo]
              have HX7 := Lib.hid hx7
              have HO7 := Lib.hid ho7
              have HR7 := Lib.hid hr7
              have HB7 := Lib.hid hb7
              have HP7 := Lib.hid hp7
              clear hx7 ho7 hr7 hb7 hp7 hw7 e7 hbo HX10 HO HR HB
              go_loopw [77] (fun i wr => ∃ k : Nat, k ≤ 16 ∧ i = .int .i64 k ∧ RowP wr bo 64 57 (fun j => u8v ((Cha.outs X s 16).getD j 0)) (4 * k) ∧ Words wr bx 62 X ∧ Words wr (w.heap.size + 1) 62 s ∧ Room wr w.heap.size 64 57 ∧ Below w.heap.size w wr)
                (fun i _ => 16 - (intOf i).toNat)
              case atStart => exact ⟨0, by omega, rfl, HP7.out, HX7.out, HO7.out, HR7.out, HB7.out⟩
              case round =>
                obtain ⟨k, hk16, rfl, hp, hx, ho, hr, hb⟩ := hrel
                have HP := Lib.hid hp
                have HX := Lib.hid hx
                have HO := Lib.hid ho
                have HR := Lib.hid hr
                have HB := Lib.hid hb
                by_cases hlt6 : k < 16
                · obtain ⟨y, hy⟩ : ∃ y, y = Cha.at0 X k := ⟨_, rfl⟩
                  obtain ⟨z, hz⟩ : ∃ z, z = Cha.at0 s k := ⟨_, rfl⟩
                  have c1 := hx.cell k (by rw [HXL.out]; omega)
                  have c2 := ho.cell k (by rw [HSL.out]; omega)
                  rw [← hy] at c1
                  rw [← hz] at c2
                  have HY := Lib.hid hy
                  have HZ := Lib.hid hz
                  clear hp hx ho hr hb hy hz
                  go_wp2
                  go_quiet (fail)
                  rw [add_raw]
                  obtain ⟨n, hn⟩ : ∃ n, n = y + z := ⟨_, rfl⟩
                  rw [← hn]
                  have HNe := Lib.hid hn
                  clear hn c1 c2
                  have rm : Room (wr.drewN nq) bo 64 57 := by obtain ⟨cur, h1, h2, _⟩ := HP.out; exact ⟨cur, h1, h2⟩
                  obtain ⟨u0, g0⟩ := rm.cellAt (4 * k) (by omega)
                  have z0 := rm.freeAt (4 * k)
                  have g1 : ∀ v0, ∃ u, ((wr.drewN nq).setCell ⟨bo, 4 * k, none⟩ v0).cell? ⟨bo, 4 * k + 1, none⟩ = some u := fun v0 => rm.set.cellAt _ (by omega)
                  have z1 : ∀ v0, ((wr.drewN nq).setCell ⟨bo, 4 * k, none⟩ v0).frozen? ⟨bo, 4 * k + 1, none⟩ = false := fun v0 => rm.set.freeAt _
                  have g2 : ∀ v0 v1, ∃ u, (((wr.drewN nq).setCell ⟨bo, 4 * k, none⟩ v0).setCell ⟨bo, 4 * k + 1, none⟩ v1).cell? ⟨bo, 4 * k + 2, none⟩ = some u := fun v0 v1 => rm.set.set.cellAt _ (by omega)
                  have z2 : ∀ v0 v1, (((wr.drewN nq).setCell ⟨bo, 4 * k, none⟩ v0).setCell ⟨bo, 4 * k + 1, none⟩ v1).frozen? ⟨bo, 4 * k + 2, none⟩ = false := fun v0 v1 => rm.set.set.freeAt _
                  have g3 : ∀ v0 v1 v2, ∃ u, ((((wr.drewN nq).setCell ⟨bo, 4 * k, none⟩ v0).setCell ⟨bo, 4 * k + 1, none⟩ v1).setCell ⟨bo, 4 * k + 2, none⟩ v2).cell? ⟨bo, 4 * k + 3, none⟩ = some u := fun v0 v1 v2 => rm.set.set.set.cellAt _ (by omega)
                  have z3 : ∀ v0 v1 v2, ((((wr.drewN nq).setCell ⟨bo, 4 * k, none⟩ v0).setCell ⟨bo, 4 * k + 1, none⟩ v1).setCell ⟨bo, 4 * k + 2, none⟩ v2).frozen? ⟨bo, 4 * k + 3, none⟩ = false := fun v0 v1 v2 => rm.set.set.set.freeAt _
                  obtain ⟨y1, g1⟩ : ∃ y1 : Value → Value, ∀ v0, ((wr.drewN nq).setCell ⟨bo, 4 * k, none⟩ v0).cell? ⟨bo, 4 * k + 1, none⟩ = some (y1 v0) := ⟨fun v => (g1 v).choose, fun v => (g1 v).choose_spec⟩
                  obtain ⟨y2, g2⟩ : ∃ y2 : Value → Value → Value, ∀ v0 v1, (((wr.drewN nq).setCell ⟨bo, 4 * k, none⟩ v0).setCell ⟨bo, 4 * k + 1, none⟩ v1).cell? ⟨bo, 4 * k + 2, none⟩ = some (y2 v0 v1) := ⟨fun v w => (g2 v w).choose, fun v w => (g2 v w).choose_spec⟩
                  obtain ⟨y3, g3⟩ : ∃ y3 : Value → Value → Value → Value, ∀ v0 v1 v2, ((((wr.drewN nq).setCell ⟨bo, 4 * k, none⟩ v0).setCell ⟨bo, 4 * k + 1, none⟩ v1).setCell ⟨bo, 4 * k + 2, none⟩ v2).cell? ⟨bo, 4 * k + 3, none⟩ = some (y3 v0 v1 v2) := ⟨fun v w x => (g3 v w x).choose, fun v w x => (g3 v w x).choose_spec⟩
                  clear rm
                  go_wp2
                  go_roundw
                  case rel =>
                    have hB : ∀ m, m < 4 → (Cha.outs X s 16).getD (4 * k + m) 0 = (Cha.le4 n).getD m 0 := fun m hm => by
                      rw [HNe.out, HY.out, HZ.out]; exact Cha.outs_at X s 16 k m hlt6 hm
                    refine ⟨k + 1, by omega, by go_num, ?_, (((HX.out.drewN nq |>.other bo _ _ (by omega)).other bo _ _ (by omega)).other bo _ _ (by omega)).other bo _ _ (by omega), (((HO.out.drewN nq |>.other bo _ _ (by omega)).other bo _ _ (by omega)).other bo _ _ (by omega)).other bo _ _ (by omega), (HR.out.drewN nq).set.set.set.set, ((((below_drewN HB.out nq).setCell (by show w.heap.size ≤ bo; omega) _).setCell (by show w.heap.size ≤ bo; omega) _).setCell (by show w.heap.size ≤ bo; omega) _).setCell (by show w.heap.size ≤ bo; omega) _⟩
                    have p0 : RowP (wr.drewN nq) bo 64 57 (fun j => u8v ((Cha.outs X s 16).getD j 0)) (4 * k) := HP.out
                    have p1 := p0.next (by omega) (.int .u8 (n.toNat % 256)) (by rw [show (4 * k) = 4 * k + 0 from rfl, hB 0 (by omega)]; exact (le4_0 n).symm)
                    have p2 := p1.next (by omega) (.int .u8 (n.toNat / 256 % 256)) (by rw [hB 1 (by omega)]; exact (le4_1 n).symm)
                    have p3 := p2.next (by omega) (.int .u8 (n.toNat / 65536 % 256)) (by rw [show 4 * k + 1 + 1 = 4 * k + 2 from rfl, hB 2 (by omega)]; exact (le4_2 n).symm)
                    have p4 := p3.next (by omega) (.int .u8 (n.toNat / 16777216 % 256)) (by rw [show 4 * k + 1 + 1 + 1 = 4 * k + 3 from rfl, hB 3 (by omega)]; exact (le4_3 n).symm)
                    exact p4
                  case measure => simp [intOf]; omega
                · have hk : k = 16 := by omega
                  have hp16 := HP.out
                  rw [hk] at hp16
                  obtain ⟨B, hBe⟩ : ∃ B, B = Cha.outs X s 16 := ⟨_, rfl⟩
                  have hBl : B.length = 64 := by rw [hBe]; exact Cha.outs_length _ _ 16
                  have hf := hp16.full
                  have hrow : (List.range 64).map (fun j => u8v ((Cha.outs X s 16).getD j 0)) = B.map u8v := by
                    rw [← hBe]
                    apply List.ext_getElem (by simp [hBl])
                    intro j h1 h2
                    have hj : j < B.length := by simpa using h2
                    simp [hj]
                  rw [hrow] at hf
                  have HF := Lib.hid hf
                  have HBe := Lib.hid hBe
                  have HBl := Lib.hid hBl
                  have hrg := range_of hf
                  have hth : wr.there w.heap.size 0 64 := by
                    obtain ⟨cur, h1, h2⟩ := hr
                    exact there_of h1 h2
                  have HTH2 := Lib.hid hth
                  have hsz2 : (B.map u8v).toArray.size = 64 := by simp [hBl]
                  have SZ2 := Lib.hid hsz2
                  clear hp hx ho hr hb hk hp16 hf hrow hBe hBl hth hsz2
                  go_wp2_with (first
                    | (refine wpList_load_mid rfl 57 (.tmp 13) rfl bo 0 rfl (B.map u8v) _ hrg Try.underlying57 rfl (by rw [List.length_map, HBl.out]; kernel_rfl) ?_)
                    | (refine wpList_store_mid rfl 57 (.tmp 6) (.tmp 114) rfl w.heap.size 0 (B.map u8v).toArray rfl rfl (by rw [SZ2.out]; exact HTH2.out) (by rw [SZ2.out]; kernel_rfl) (all_oneCell_toArray (by intro v hv; obtain ⟨x, _, rfl⟩ := List.mem_map.1 hv; rfl)) ?_))
                  generalize hW9 : World.setCells _ _ _ _ = w9
                  have hb9 : Below w.heap.size w w9 := by rw [← hW9]; exact below_setCells (Nat.le_refl _) _ _ _ HB.out
                  have hf9 : w9.heap[w.heap.size]? = some (.cells (B.map u8v).toArray 57 (0, 0)) := by
                    obtain ⟨cur, h1, h2⟩ := HR.out
                    rw [← hW9]
                    exact storedRow h1 (by rw [h2]; simp [HBl.out])
                  have hl9 := run_loadVar_mid (P := Try.prog) w9 w.heap.size 0 57 (B.map u8v) _ (range_of hf9) Try.underlying57 rfl (by rw [List.length_map, HBl.out]; kernel_rfl)
                  have hbl : Cha.block key counter nonce = B := by rw [HBe.out, HXe.out, HS.out]; rfl
                  rw [hbl]
                  clear hW9 hf9 hrg hbl
                  exact bodyPost_ret (v := .agg (B.map u8v).toArray) (results_c Try.results33 rfl hl9) rfl ⟨rfl, hb9⟩
end Go.Proofs.Ytoekopdogfnkhaa
