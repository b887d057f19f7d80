/-
  The walk of conclavekeep.MacMade: a Mac is made of two digests.
-/
import Derived.Test.YtdjnbnbhpjiicaaDoorShaP
import Derived.Test.YtdjnbnbhpjiicaaDoorJoin
set_option linter.unusedVariables false
set_option linter.unusedSimpArgs false
namespace Go.Proofs.YtdjnbnbhpjiicaaDoor
open Go.RowKit Go.Con

/-- a row of so many bytes at the head of a block -/
def RowX (w : World) (g n : Nat) (f : Nat → UInt8) : Prop := ∃ cur : Array Value, w.heap[g]? = some (.cells cur 5 (0, 0)) ∧ cur.size = n ∧ ∀ j, j < n → cur[j]? = some (u8v (f j))
theorem RowX.cell {w : World} {g n : Nat} {f : Nat → UInt8} (h : RowX w g n f) (k : Nat) (hk : k < n) : w.cell? ⟨g, k, none⟩ = some (.int .u8 (f k).toNat) := by
  obtain ⟨cur, h1, h2, h3⟩ := h
  exact cellAt h1 k (h3 k hk)
theorem RowX.free {w : World} {g n : Nat} {f : Nat → UInt8} (h : RowX w g n f) (k : Nat) : w.frozen? ⟨g, k, none⟩ = false := by
  obtain ⟨cur, h1, h2, h3⟩ := h
  exact freeAt h1 k
theorem RowX.set {w : World} {g n : Nat} {f f' : Nat → UInt8} (h : RowX w g n f) (k : Nat) (hk : k < n) (x : Int) (hx : x = ((f' k).toNat : Int)) (hf : ∀ j, j ≠ k → f' j = f j) : RowX (w.setCell ⟨g, k, none⟩ (.int .u8 x)) g n f' := by
  obtain ⟨cur, h1, h2, h3⟩ := h
  subst hx
  exact turnOne (g := fun j => u8v (f j)) (g' := fun j => u8v (f' j)) 0 h1 h2 hk h3 rfl (fun j hj hne => by rw [hf j hne])
theorem RowX.other {w : World} {g n : Nat} {f : Nat → UInt8} (h : RowX w g n f) (b k : Nat) (v : Value) (hb : b ≠ g) : RowX (w.setCell ⟨b, k, none⟩ v) g n f := by
  obtain ⟨cur, h1, h2, h3⟩ := h
  exact ⟨cur, by rw [heapSet_ne _ _ (Ne.symm hb)]; exact h1, h2, h3⟩
theorem RowX.own {w : World} {g n : Nat} {f : Nat → UInt8} (h : RowX w g n f) (base : Nat) (hb : base ≤ g) (hn : n ≤ maxLen) (l : List UInt8) (hl : l.length = n) (hf : ∀ j, j < n → f j = l.getD j 0) : Own w base (.slice (some ⟨g, 0, none⟩) n n) l := by
  obtain ⟨cur, h1, h2, h3⟩ := h
  exact Own.ofRow l n hl hb h1 h2 hn (fun j hj => by rw [h3 j hj, hf j hj])
/-- the first n bytes mixed with x -/
def xorTo (K : List UInt8) (x : UInt8) (n : Nat) : Nat → UInt8 := fun j => if j < n then K.getD j 0 ^^^ x else 0

set_option maxRecDepth 100000 in
set_option maxHeartbeats 1000000 in
theorem walk_MacMade (va : Value) (a : List UInt8) (vb : Value) (b : List UInt8) (w : World) (ha : Rd w va a) (hb : Rd w vb b) (hk : Kn w) :
    Calls Tryd.prog 9 #[va, vb] w fun e w' => e = .returned (.bool true) ∧ Below w.heap.size w w' := by
  have RA := Lib.hid ha
  have RB := Lib.hid hb
  have HK := Lib.hid hk
  obtain ⟨K, hKe⟩ : ∃ K, K = fill a 64 := ⟨_, rfl⟩
  have hK64 : K.length = 64 := by rw [hKe]; exact fill_length a 64
  have K64 := Lib.hid hK64
  have hfill := fun w h => filled_any va a 64 w h (by decide)
  rw [← hKe] at hfill
  have HF := Lib.hid hfill
  obtain ⟨D, hD⟩ : ∃ D, D = b.take 200 := ⟨_, rfl⟩
  have hDl : D.length ≤ 200 := by rw [hD]; simp; omega
  have hsome := fun w h => some_any vb b 200 w h (by decide)
  rw [← hD] at hsome
  have HS := Lib.hid hsome
  have BL := Lib.hid hDl
  have hmk : ∀ W : World, (Instr.makeSlice 35 (.int .i64 64) (.int .i64 64)).run Tryd.prog W = .ok (.slice (some ⟨W.heap.size, 0, none⟩) 64 64) (W.alloc (.cells (Array.replicate 64 (.int .u8 0)) 5)) := fun _ => by kernel_rfl
  have Hmk := Lib.hid hmk
  obtain ⟨Z, hZ⟩ : ∃ Z : Array Value, Z = Array.replicate 64 (.int .u8 0) := ⟨_, rfl⟩
  have HZ := Lib.hid hZ
  have hrow0 : ∀ (W : World) (g : Nat) (x : UInt8), W.heap[g]? = some (.cells Z 5 (0, 0)) → RowX W g 64 (xorTo K x 0) := by
    intro W g x h
    refine ⟨Z, h, by rw [hZ]; simp, fun j hj => ?_⟩
    rw [hZ]
    simp [xorTo, u8v, hj]
  have HROW0 := Lib.hid hrow0
  clear ha hb hk hKe hK64 hfill hmk hZ hrow0 hD hDl hsome
  go_enter Tryd.func9, Tryd.ntmps9
  go_wp2_with fail
  refine (HF.out _ RA.out).mono ?_
  rintro e w1 ⟨vk, rfl, hok, hb1⟩
  obtain ⟨gk, ck, hvk, hgk1, hgk2, hck, hcm⟩ := hok.shape (by intro h; have := K64.out; rw [h] at this; cases this)
  rw [K64.out] at hvk hck
  subst hvk
  have hcell : ∀ (W : World), Below w1.heap.size w1 W → ∀ i, i < 64 → W.cell? ⟨gk, i, none⟩ = some (.int .u8 (K.getD i 0).toNat) := by
    intro W hW i hi
    obtain ⟨a', c', e, _, _, _, h⟩ := hok.rd.stay hW
    obtain ⟨b', off, e4, h2⟩ := h (by intro h; have := K64.out; rw [h] at this; cases this)
    injection e with e1 e2 e3
    subst e1
    injection e4 with e4
    injection e4 with e5 e6
    subst e5 e6
    have := h2 i (by rw [K64.out]; exact hi)
    rwa [Nat.zero_add] at this
  have HOK := Lib.hid hok
  have HB1 := Lib.hid hb1
  have HCELL := Lib.hid hcell
  have s1 := hb1.size
  clear hok hb1 hcell
  have hmk := Hmk.out
  rw [← HZ.out] at hmk
  go_wp2
  clear hmk
  have h1 : ((w1.alloc (.cells Z 5)).alloc (.cells Z 5)).heap[w1.heap.size]? = some (.cells Z 5 (0, 0)) := heapNew0 _ _ _
  have h2 : ((w1.alloc (.cells Z 5)).alloc (.cells Z 5)).heap[w1.heap.size + 1]? = some (.cells Z 5 (0, 0)) := heapNew1 _ _ _
  have H1 := Lib.hid (HROW0.out _ _ 54 h1)
  have H2 := Lib.hid (HROW0.out _ _ 92 h2)
  clear h1 h2
  go_loopw [8] (fun i wr => ∃ k : Nat, k ≤ 64 ∧ i = .int .i64 k ∧ RowX wr w1.heap.size 64 (xorTo K 54 k) ∧ RowX wr (w1.heap.size + 1) 64 (xorTo K 92 k) ∧ Below w1.heap.size w1 wr) (fun i _ => 64 - (intOf i).toNat)
  case atStart => exact ⟨0, by omega, rfl, H1.out, H2.out, ((Below.refl _ _).alloc (Nat.le_refl _) _).alloc (by simp) _⟩
  case round =>
    obtain ⟨k, hk, rfl, hp, hq, hB⟩ := hrel
    have HP := Lib.hid hp
    have HQ := Lib.hid hq
    have HB := Lib.hid hB
    by_cases hlt : k < 64
    · obtain ⟨y, hy⟩ : ∃ y, y = K.getD k 0 := ⟨_, rfl⟩
      have ck0 : wr.cell? ⟨gk, k, none⟩ = some (.int .u8 y.toNat) := by rw [hy]; exact HCELL.out wr hB k hlt
      have cp := hp.cell k hlt
      have fp := hp.free k
      have ck1 : ∀ v, (wr.setCell ⟨w1.heap.size, k, none⟩ v).cell? ⟨gk, k, none⟩ = some (.int .u8 y.toNat) := fun v => by rw [hy]; exact HCELL.out _ (hB.setCell (Nat.le_refl _) _) k hlt
      have cq : ∀ v, (wr.setCell ⟨w1.heap.size, k, none⟩ v).cell? ⟨w1.heap.size + 1, k, none⟩ = some (.int .u8 (xorTo K 92 k k).toNat) := fun v => (hq.other w1.heap.size k v (by omega)).cell k hlt
      have fq : ∀ v, (wr.setCell ⟨w1.heap.size, k, none⟩ v).frozen? ⟨w1.heap.size + 1, k, none⟩ = false := fun v => (hq.other w1.heap.size k v (by omega)).free k
      have HY := Lib.hid hy
      clear hp hq hB hy
      go_wp2
      go_roundw
      case rel =>
        refine ⟨k + 1, by omega, by go_num, ?_, ?_, (HB.out.setCell (Nat.le_refl _) _).setCell (by simp) _⟩
        · refine RowX.other ?_ _ _ _ (by omega)
          refine HP.out.set k hlt _ ?_ ?_
          · show bits .xor .u8 (y.toNat : Int) (((54 : UInt8).toNat : Nat) : Int) = _; rw [u8_xorF, HY.out]; simp [xorTo]
          · intro j hj; unfold xorTo; by_cases h : j < k
            · rw [if_pos h, if_pos (by omega)]
            · rw [if_neg h, if_neg (by omega)]
        · refine RowX.set (HQ.out.other _ _ _ (by omega)) k hlt _ ?_ ?_
          · show bits .xor .u8 (y.toNat : Int) (((92 : UInt8).toNat : Nat) : Int) = _; rw [u8_xorF, HY.out]; simp [xorTo]
          · intro j hj; unfold xorTo; by_cases h : j < k
            · rw [if_pos h, if_pos (by omega)]
            · rw [if_neg h, if_neg (by omega)]
      case measure => simp [intOf]; omega
    · have hk64 : k = 64 := by omega
      rw [hk64] at hp hq
      clear HP HQ hk64
      have hx : ∀ x : UInt8, ∀ j, j < 64 → xorTo K x 64 j = (Sha.padKey K x).getD j 0 := by
        intro x j hj
        have : j < K.length := by rw [K64.out]; exact hj
        rw [Sha.padKey_full K x K64.out, xorTo, if_pos hj]
        simp [this]
      have rp := (hp.own w1.heap.size (Nat.le_refl _) (by decide) (Sha.padKey K 54) (Sha.padKey_length _ _) (hx 54)).rd
      have rq := (hq.own w1.heap.size (by omega) (by decide) (Sha.padKey K 92) (Sha.padKey_length _ _) (hx 92)).rd
      obtain ⟨I, hI⟩ : ∃ I, I = Sha.padKey K 54 := ⟨_, rfl⟩
      obtain ⟨J, hJ⟩ : ∃ J, J = Sha.padKey K 92 := ⟨_, rfl⟩
      have hIl : I.length = 64 := by rw [hI]; exact Sha.padKey_length _ _
      have hJl : J.length = 64 := by rw [hJ]; exact Sha.padKey_length _ _
      have hmac : Sha.mac K D = Sha.sum (J ++ Sha.sum (I ++ D)) := by rw [hI, hJ]; rfl
      rw [← hI] at rp
      rw [← hJ] at rq
      have RK := Lib.hid (HOK.out.rd.stay hB)
      have BB := Lib.hid (HB1.out.trans (hB.mono s1))
      have RB2 := Lib.hid (RB.out.stay BB.out)
      have RP := Lib.hid rp
      have RQ := Lib.hid rq
      have IL := Lib.hid hIl
      have JL := Lib.hid hJl
      have HM := Lib.hid hmac
      clear hp hq hB hx rp rq hI hJ hIl hJl hmac
      go_wp2_with fail
      refine (HS.out _ RB2.out).mono ?_
      rintro e w2 ⟨v2, rfl, ho2, hb2⟩
      obtain ⟨a2, c2, hv2, _⟩ := ho2.rd.slice
      subst hv2
      have O2 := Lib.hid ho2
      have T2 := Lib.hid hb2
      have B2 := Lib.hid (BB.out.trans (hb2.mono BB.out.size))
      clear ho2 hb2
      go_wp2_with fail
      refine (joined2 w2 _ _ I D (RP.out.stay T2.out) O2.out.rd (by rw [IL.out]; decide) (by have := BL.out; omega)).mono ?_
      rintro e w3 ⟨v3, rfl, ho3, hb3⟩
      have O3 := Lib.hid ho3
      have T3 := Lib.hid (((Below.refl w2.heap.size w2).alloc (Nat.le_refl _) _).trans (hb3.mono (by simp)))
      have B3 := Lib.hid (B2.out.trans (T3.out.mono B2.out.size))
      clear ho3 hb3
      go_wp2_with fail
      refine (Sum_ok _ (I ++ D) _ O3.out.rd (by rw [List.length_append, IL.out]; have := BL.out; omega) (HK.out.stay B3.out)).mono ?_
      rintro e w4 ⟨v4, rfl, ho4, hb4⟩
      obtain ⟨a4, c4, hv4, _⟩ := ho4.rd.sliceN 32 (Sha.sum_length _)
      subst hv4
      have O4 := Lib.hid ho4
      have T4 := Lib.hid hb4
      have B4 := Lib.hid (B3.out.trans (hb4.mono B3.out.size))
      have Q4 := Lib.hid (((RQ.out.stay T2.out).stay T3.out).stay T4.out)
      have K4 := Lib.hid (((RK.out.stay T2.out).stay T3.out).stay T4.out)
      have C4 := Lib.hid (((RB2.out.stay T2.out).stay T3.out).stay T4.out)
      clear ho4 hb4 RP RQ RK RB2
      go_wp2_with fail
      refine (joined2 w4 _ _ J (Sha.sum (I ++ D)) Q4.out O4.out.rd (by rw [JL.out]; decide) (by rw [Sha.sum_length]; decide)).mono ?_
      rintro e w5 ⟨v5, rfl, ho5, hb5⟩
      have O5 := Lib.hid ho5
      have T5 := Lib.hid (((Below.refl w4.heap.size w4).alloc (Nat.le_refl _) _).trans (hb5.mono (by simp)))
      have B5 := Lib.hid (B4.out.trans (T5.out.mono B4.out.size))
      clear ho5 hb5
      go_wp2_with fail
      refine (Sum_ok _ (J ++ Sha.sum (I ++ D)) _ O5.out.rd (by rw [List.length_append, JL.out, Sha.sum_length]; decide) (HK.out.stay B5.out)).mono ?_
      rintro e w6 ⟨v6, rfl, ho6, hb6⟩
      have O6 := Lib.hid ho6
      have T6 := Lib.hid hb6
      have B6 := Lib.hid (B5.out.trans (hb6.mono B5.out.size))
      have K6 := Lib.hid ((K4.out.stay T5.out).stay T6.out)
      have C6 := Lib.hid ((C4.out.stay T5.out).stay T6.out)
      clear ho6 hb6
      go_wp2_with fail
      refine (HS.out _ C6.out).mono ?_
      rintro e w7 ⟨v7, rfl, ho7, hb7⟩
      have O7 := Lib.hid ho7
      have T7 := Lib.hid hb7
      have B7 := Lib.hid (B6.out.trans (hb7.mono B6.out.size))
      clear ho7 hb7
      go_wp2_with fail
      refine (Mac_ok _ _ K D _ (K6.out.stay T7.out) O7.out.rd (by rw [K64.out]; decide) (by have := BL.out; omega) (HK.out.stay B7.out)).mono ?_
      rintro e w8 ⟨v8, rfl, ho8, hb8⟩
      have O8 := Lib.hid ho8
      have T8 := Lib.hid hb8
      have B8 := Lib.hid (B7.out.trans (hb8.mono B7.out.size))
      have R6 := Lib.hid ((O6.out.rd.stay T7.out).stay T8.out)
      obtain ⟨a8, c8, hv8, _⟩ := ho8.rd.sliceN 32 (Sha.mac_length _ _)
      subst hv8
      clear ho8 hb8
      go_wp2_with fail
      refine (same_true _ _ _ _ _ O8.out.rd R6.out HM.out).mono ?_
      rintro e _ ⟨rfl, rfl⟩
      go_wp2
      go_ret
      exact ⟨rfl, B8.out⟩
end Go.Proofs.YtdjnbnbhpjiicaaDoor
