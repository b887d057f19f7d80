/-
  The walk of conclavekeep.hex.
-/
import Derived.Test.YthoganfinpfibaaBy2
set_option linter.unusedVariables false
set_option linter.unusedSimpArgs false
namespace Go.Con
def digV (c : UInt8) : Nat := if 97 ≤ c.toNat then (c.toNat - 97) + 10 else (c.toNat + 208) % 256
def hexB : List UInt8 → List UInt8
  | a :: b :: r => UInt8.ofNat (16 * digV a + digV b) :: hexB r
  | _ => []
theorem digV_lt (c : UInt8) : digV c < 256 := by
  unfold digV; have := c.toNat_lt; split <;> omega
theorem hexB_take (l : List UInt8) (k : Nat) (h : 2 * k + 1 < l.length) :
    hexB (l.take (2 * (k + 1))) = hexB (l.take (2 * k)) ++ [UInt8.ofNat (16 * digV (l.getD (2 * k) 0) + digV (l.getD (2 * k + 1) 0))] := by
  induction k generalizing l with
  | zero =>
    match l, h with
    | a :: b :: r, _ => simp [hexB]
  | succ k ih =>
    match l, h with
    | a :: b :: r, h =>
      have := ih r (by simp at h; omega)
      rw [show 2 * (k + 1 + 1) = 2 * (k + 1) + 1 + 1 by omega, show 2 * (k + 1) = 2 * k + 1 + 1 by omega]
      simp only [List.take_succ_cons, hexB, List.cons_append, List.getD_cons_succ]
      rw [show 2 * k + 1 + 1 = 2 * (k + 1) by omega, this]
theorem hexB_odd (l : List UInt8) (k : Nat) (h : l.length ≤ 2 * k + 1) (h2 : 2 * k ≤ l.length) : hexB (l.take (2 * k)) = hexB l := by
  induction k generalizing l with
  | zero =>
    match l, h with
    | [], _ => rfl
    | [a], _ => rfl
  | succ k ih =>
    match l, h, h2 with
    | a :: b :: r, h, h2 =>
      rw [show 2 * (k + 1) = 2 * k + 1 + 1 by omega]
      simp only [List.take_succ_cons, hexB]
      rw [ih r (by simp at h; omega) (by simp at h2; omega)]
    | [a], _, h2 => simp at h2; omega
    | [], _, h2 => simp at h2
theorem hexB_len : ∀ q : List UInt8, (hexB q).length ≤ q.length
  | [] => Nat.le_refl _
  | [_] => by simp [hexB]
  | a :: b :: r => by
    have := hexB_len r
    simp only [hexB, List.length_cons]
    omega
def hexN (l : List UInt8) (k j : Nat) : Nat := match j with
  | 0 => 0
  | 1 => digV (l.getD (2 * k) 0)
  | _ => 16 * digV (l.getD (2 * k) 0) + digV (l.getD (2 * k + 1) 0)
end Go.Con
namespace Go.Proofs.Ythoganfinpfibaa
open Go.RowKit Go.Con

theorem digRaw (x : UInt8) (h : 97 ≤ x.toNat) : ((x.toNat : Int) - 97 + 10) = (digV x : Int) := by
  unfold digV; rw [if_pos h]; omega
theorem digRaw' (x : UInt8) (h : ¬ 97 ≤ x.toNat) : ((x.toNat : Int) - 48) % 256 = (digV x : Int) := by
  unfold digV; rw [if_neg h]; have := x.toNat_lt; omega

set_option maxHeartbeats 1000000 in
theorem hex_any (l : List UInt8) (w : World) (hl : l.length ≤ 1000000) :
    Calls Try.prog 14 #[.string ⟨l.toArray⟩] w (FreshB w (hexB l)) := by
  obtain ⟨s, hs⟩ : ∃ s : ByteArray, s = ⟨l.toArray⟩ := ⟨_, rfl⟩
  have hsz : s.size = l.length := by rw [hs]; simp [ByteArray.size]
  have hix : ∀ (k : Nat) (h : k < s.size), s[k] = l.getD k 0 := by
    intro k h
    subst hs
    have hk : k < l.length := by omega
    simp [ByteArray.getElem_eq_getElem_data, hk]
  rw [← hs]
  have HIX := Lib.hid hix
  have HSZ := Lib.hid hsz
  have hs1 : s.size ≤ 1000000 := by omega
  clear hs hix hsz
  go_enter Try.func14, Try.ntmps14
  go_wp2
  go_loopw [3, 4] (fun v i wr => ∃ k i0 : Nat, i = .int .i64 i0 ∧ Hid (i0 = 2 * k) ∧ i0 ≤ 1000000 ∧ i0 ≤ s.size ∧ Own wr w.heap.size v (hexB (l.take (2 * k))) ∧ Below w.heap.size w wr)
    (fun _ i _ => s.size + 1 - (intOf i).toNat)
  case atStart => exact ⟨0, 0, rfl, rfl, by omega, by omega, Own.nil _ _, Below.refl _ _⟩
  case round =>
    obtain ⟨k, i0, rfl, Hi, hi, hi1, hO, hB⟩ := hrel
    have HO := Lib.hid hO
    have HB := Lib.hid hB
    clear hO hB
    obtain ⟨wo, hwo⟩ : ∃ wo : World, wo = wr := ⟨_, rfl⟩
    rw [← hwo]
    rw [← hwo] at HO HB
    clear hwo
    by_cases hlt : i0 + 1 < s.size
    · have hlti : (i0 : Int) + 1 < (s.size : Int) := by omega
      go_wp2
      go_loopw [5, 6] (fun n m wr => ∃ j m0 : Nat, ∃ nv : Int, j ≤ 2 ∧ m = .int .i64 m0 ∧ Hid (m0 = i0 + j) ∧ m0 ≤ 1000002 ∧ n = .int .i64 nv ∧ Hid (nv = hexN l k j) ∧ 0 ≤ nv ∧ nv ≤ 5000 ∧ wr = wo)
        (fun _ m _ => i0 + 2 - (intOf m).toNat)
      case atStart => exact ⟨0, i0, 0, by omega, rfl, rfl, by omega, rfl, rfl, by omega, by omega, rfl⟩
      case round =>
        obtain ⟨j, m0, nv, hj, rfl, Hm, hm, rfl, Hn, hn0, hn1, rfl⟩ := hrel
        by_cases hlt2 : m0 < i0 + 2
        · have hj2 : j < 2 := by have := Hm.out; omega
          have hms : m0 < s.size := by omega
          obtain ⟨x, hx⟩ : ∃ x, s[m0] = x := ⟨_, rfl⟩
          have hxl : x = l.getD m0 0 := by rw [← hx]; exact HIX.out m0 hms
          have hxb := x.toNat_lt
          have HXL := Lib.hid hxl
          have Hj2 := Lib.hid hj2
          clear hxl hj2
          have hlt2i : (m0 : Int) < (i0 : Int) + 2 := by omega
          have hnext : (if j = 0 then (0 : Int) else digV (l.getD (2 * k) 0)) = nv := by
            have := Hn.out; have := Hj2.out
            match j, this with
            | 0, _ => simpa [hexN] using Hn.out.symm
            | 1, _ => simpa [hexN] using Hn.out.symm
          have hN : (16 * nv + (digV x : Int)) = (hexN l k (j + 1) : Int) := by
            have h1 := Hj2.out
            have h2 := Hm.out
            have h3 := Hi.out
            rw [HXL.out, h2, h3]
            have h4 := Hn.out
            match j, h1, h4 with
            | 0, _, h4 => rw [h4]; simp [hexN]
            | 1, _, h4 => rw [h4]; simp [hexN]
          have hd := digV_lt x
          have HN := Lib.hid hN
          have hNb : 16 * nv + (digV x : Int) ≤ 5000 := by
            have h1 := Hj2.out
            have h4 := Hn.out
            have h5 := digV_lt (l.getD (2 * k) 0)
            match j, h1, h4 with
            | 0, _, h4 => simp [hexN] at h4; omega
            | 1, _, h4 => simp only [hexN] at h4; omega
          have HNb := Lib.hid hNb
          clear hN hnext hNb
          by_cases h97 : 97 ≤ x.toNat
          · have h97i : (97 : Int) ≤ (x.toNat : Int) := by omega
            go_wp2
            go_roundw
            case rel => exact ⟨j + 1, m0 + 1, _, by have := Hj2.out; omega, by go_num, (by show _ = _; have := Hm.out; omega), by omega, rfl, (by show _ = _; rw [digRaw x h97]; exact HN.out), by rw [digRaw x h97]; omega, by rw [digRaw x h97]; exact HNb.out, trivial⟩
            case measure => simp [intOf]; omega
          · have h97i : ¬ (97 : Int) ≤ (x.toNat : Int) := by omega
            go_wp2
            go_roundw
            case rel => exact ⟨j + 1, m0 + 1, _, by have := Hj2.out; omega, by go_num, (by show _ = _; have := Hm.out; omega), by omega, rfl, (by show _ = _; rw [digRaw' x h97]; exact HN.out), by rw [digRaw' x h97]; omega, by rw [digRaw' x h97]; exact HNb.out, trivial⟩
            case measure => simp [intOf]; omega
        · have hj2 : j = 2 := by have := Hm.out; omega
          have hb : nv = ((16 * digV (l.getD (2 * k) 0) + digV (l.getD (2 * k + 1) 0) : Nat) : Int) := by
            have := Hn.out; rw [hj2] at this; exact this
          have hraw : nv % 256 = ((UInt8.ofNat (16 * digV (l.getD (2 * k) 0) + digV (l.getD (2 * k + 1) 0))).toNat : Int) := by
            rw [UInt8.toNat_ofNat', hb]; simp
          have HRAW := Lib.hid hraw
          have hlt2i : ¬ (m0 : Int) < (i0 : Int) + 2 := by omega
          have hhl : (hexB (l.take (2 * k))).length ≤ 1000000 := by
            have h1 := hexB_len (l.take (2 * k))
            have h2 : (l.take (2 * k)).length ≤ l.length := List.length_take_le' _ _
            omega
          clear hj2 hb hraw
          go_wp2_with (at_builtin; refine apB rfl (.tmp 41) (.tmp 44) rfl w.heap.size _ _ _ [UInt8.ofNat (16 * digV (l.getD (2 * k) 0) + digV (l.getD (2 * k + 1) 0))] rfl (HO.out.alloc _) rfl (newB _ _ _ HRAW.out) (by simp; omega) (by have := HB.out.size; simp; omega) ?_; intro v3 w3 hown3 hg3; have HO3 := Lib.hid hown3; have HG3 := Lib.hid hg3; clear hown3 hg3)
          go_roundw
          case rel =>
            refine ⟨k + 1, i0 + 2, by go_num, (by show _ = _; have := Hi.out; omega), by omega, by omega, ?_, ?_⟩
            · have h := HO3.out
              rw [← hexB_take l k (by have := Hi.out; have := HSZ.out; omega)] at h
              exact h
            · exact (HB.out.alloc (by have := HB.out.size; omega) _).grown HG3.out (by have := HB.out.size; simp; omega) (fun k hk => (HO.out.lt k hk).1)
          case measure => simp [intOf]; omega
    · have hlti : ¬ (i0 : Int) + 1 < (s.size : Int) := by omega
      go_wp2
      go_ret
      have h := HO.out
      rw [hexB_odd l k (by have := Hi.out; have := HSZ.out; omega) (by have := Hi.out; have := HSZ.out; omega)] at h
      exact ⟨_, rfl, h, HB.out⟩
end Go.Proofs.Ythoganfinpfibaa
