/-
  The walk of sha.Draw.
-/
import Derived.Test.YtdjnbnbhpjiicaaDoorShaMac
set_option linter.unusedVariables false
set_option linter.unusedSimpArgs false
namespace Go.Proofs.YtdjnbnbhpjiicaaDoor
open Go.RowKit Go.Con

theorem ownBlock_slice (a : Option Addr) (n c n' c' : Nat) : (Value.slice a n c).ownBlock = (Value.slice a n' c').ownBlock := by cases a <;> rfl
theorem Rd.recap {w : World} {a : Option Addr} {n c : Nat} {l : List UInt8} (h : Rd w (.slice a n c) l) : Rd w (.slice a n n) l := by
  obtain ⟨a', c', he, hlc, hcm, h0, hcell⟩ := h
  injection he with e1 e2 e3
  subst e1 e2 e3
  exact ⟨a, _, rfl, Nat.le_refl _, by omega, fun h => by have := h0 h; omega, hcell⟩
/-- A call that gives fresh bytes to read and a number, and turns nothing that was there. -/
def FreshRE (w : World) (R : List UInt8) (c : Int) (e : Ending) (w' : World) : Prop :=
  ∃ v', e = .returned (.tuple #[v', .int .i64 c]) ∧ Rd w' v' R ∧ (∀ k, v'.ownBlock = some k → w.heap.size ≤ k) ∧ Below w.heap.size w w'

set_option maxHeartbeats 400000 in
theorem Draw_long (sv av iv : Value) (s a i : List UInt8) (n : Int) (w : World) (hs : Rd w sv s) (ha : Rd w av a) (hi : Rd w iv i) (hsl : s.length ≤ 256) (hal : a.length ≤ 256) (hil : i.length ≤ 256) (hn : 512 < n) :
    Calls Tryd.prog 33 #[sv, av, iv, .int .i64 n] w (FreshRE w [] 1) := by
  obtain ⟨p1, c1, rfl, _, _⟩ := hs.slice
  obtain ⟨p2, c2, rfl, _, _⟩ := ha.slice
  obtain ⟨p3, c3, rfl, _, _⟩ := hi.slice
  clear hs ha hi
  have hn0 : ¬ n < 0 := by omega
  go_enter Tryd.func33, Tryd.ntmps33
  go_wp2
  go_ret2
  exact ⟨_, rfl, Rd.nil _, (fun k hk => by simp [Value.ownBlock] at hk), Below.refl _ _⟩

set_option maxRecDepth 100000 in
set_option maxHeartbeats 1000000 in
theorem Draw_ok (sv av iv : Value) (s a i : List UInt8) (n : Nat) (w : World) (hs : Rd w sv s) (ha : Rd w av a) (hi : Rd w iv i) (hsl : s.length ≤ 256) (hal : a.length ≤ 256) (hil : i.length ≤ 256) (hn : n ≤ 512) (hk : Kn w) :
    Calls Tryd.prog 33 #[sv, av, iv, .int .i64 n] w (FreshRE w (Sha.draw s a i n) 0) := by
  obtain ⟨p1, c1, rfl, _, _⟩ := hs.slice
  obtain ⟨p2, c2, rfl, _, _⟩ := ha.slice
  obtain ⟨p3, c3, rfl, _, _⟩ := hi.slice
  have HS := Lib.hid hs
  have HA := Lib.hid ha
  have HI := Lib.hid hi
  have HK := Lib.hid hk
  clear hs ha hi hk
  have hn0 : ¬ (n : Int) < 0 := by omega
  have d1 : decide ((256 : Int) < (s.length : Int)) = false := by simp; omega
  have d2 : decide ((256 : Int) < (a.length : Int)) = false := by simp; omega
  have d3 : decide ((256 : Int) < (i.length : Int)) = false := by simp; omega
  have d4 : decide ((512 : Int) < (n : Int)) = false := by simp; omega
  go_enter Tryd.func33, Tryd.ntmps33
  go_wp2_with (go_at_call 46; refine (mac_any _ _ a s _ HA.out HS.out (by omega) (by omega) HK.out).mono ?_; rintro e w1 ⟨v1, rfl, ho1, hb1⟩; have HO1 := Lib.hid ho1; have HB1 := Lib.hid hb1; clear ho1 hb1)
  obtain ⟨K, hK⟩ : ∃ K, K = Sha.mac a s := ⟨_, rfl⟩
  rw [← hK] at HO1
  have hKl : K.length = 32 := by rw [hK]; rfl
  have HKeq := Lib.hid hK
  have HKl := Lib.hid hKl
  clear hK hKl
  have h01 := HB1.out.size
  go_loopw [11, 12, 13] (fun ov lv iv wr => ∃ j : Nat, ∃ q : Int, ∃ a c m, ov = .slice a m c ∧ Hid (m = 32 * j) ∧ m ≤ 1024 ∧ iv = .int .i64 q ∧ Hid (q = j + 1) ∧ 1 ≤ q ∧ q ≤ 40 ∧ Hid (32 * j < n + 32) ∧
      Own wr w1.heap.size ov (Sha.pieces K i j) ∧ Own wr w1.heap.size lv (Sha.piece K i j) ∧ (∀ k, ov.ownBlock = some k → lv.ownBlock ≠ some k) ∧ Below w1.heap.size w1 wr)
    (fun ov _ _ _ => 1024 - lenV ov)
  case atStart => exact ⟨0, 1, none, 0, 0, rfl, rfl, by omega, rfl, rfl, by omega, by omega, (by show _ < _; omega), Own.nil _ _, Own.nil _ _, (fun k hk => by simp [Value.ownBlock] at hk), Below.refl _ _⟩
  case round =>
    obtain ⟨j, q, ao, co, m, rfl, Hm, hm, rfl, Hq, hq1, hq2, Hj, hoo, hol, hne, hbr⟩ := hrel
    have HOO := Lib.hid hoo
    have HOL := Lib.hid hol
    have HNE := Lib.hid hne
    have HBR := Lib.hid hbr
    clear hoo hol hne hbr
    by_cases hlt : m < n
    · have hx : q = ((UInt8.ofNat (j + 1)).toNat : Int) := by
        rw [UInt8.toNat_ofNat']; have := Hq.out; omega
      have HX := Lib.hid hx
      clear hx
      have h1r := HBR.out.size
      have hpl : (Sha.piece K i j).length ≤ 32 := by cases j with
        | zero => simp [Sha.piece]
        | succ j => rw [Sha.piece_length]; omega
      have HB0r := Lib.hid (HB1.out.trans (HBR.out.mono h01))
      go_wp2_with (first
        | (go_at_call 46; fail)
        | (at_builtin; refine apBw rfl (.tmp 45) (.tmp 46) rfl w1.heap.size _ _ _ i rfl HOL.out rfl (HI.out.stay HB0r.out) (by omega) h1r ?_; intro v2 w2 ho2 hg2 hw2; have HO2 := Lib.hid ho2; have HG2 := Lib.hid hg2; have HW2 := Lib.hid hw2; clear ho2 hg2 hw2)
        | (at_builtin; refine apB rfl (.tmp 47) (.tmp 50) rfl w1.heap.size v2 _ _ [UInt8.ofNat (j + 1)] rfl (HO2.out.alloc _) rfl (newB _ _ _ HX.out) (by simp; omega) (by have := HG2.out.size; simp; omega) ?_; intro v3 w3 ho3 hg3; have HO3 := Lib.hid ho3; have HG3 := Lib.hid hg3; clear ho3 hg3))
      have s12 := HG2.out.size
      have s23 : w2.heap.size + 1 ≤ w3.heap.size := by have := HG3.out.size; simpa using this
      have l2 := fun k hk => (HOL.out.lt k hk)
      have l3 := fun k hk => (HO2.out.lt k hk)
      have hw23 : Below w1.heap.size wr w3 := (((Below.refl _ _).grown HG2.out h1r (fun k hk => (l2 k hk).1)).alloc (by omega) _).grown HG3.out (by simp; omega) (fun k hk => (l3 k hk).1)
      have hB03 := Lib.hid (HB0r.out.trans (hw23.mono h01))
      have hoo3 : Own w3 w1.heap.size (.slice ao m co) (Sha.pieces K i j) := by
        have e1 := HOO.out.kept HG2.out (fun k hk hk' => HNE.out k hk' hk)
        refine (e1.alloc _).kept HG3.out (fun k hk hk' => ?_)
        rcases HW2.out with e | e
        · exact HNE.out k hk' (e ▸ hk)
        · rw [e] at hk
          have := (HOO.out.lt k hk').2
          injection hk with hk
          omega
      have HOO3 := Lib.hid hoo3
      have HK1 := Lib.hid ((HO1.out.below (HBR.out) (fun k hk => (HO1.out.lt k hk).2)).below hw23 (fun k hk => (HO1.out.lt k hk).2))
      have HW23 := Lib.hid hw23
      clear hoo3 hw23 l2 l3
      refine (mac_any _ _ K (Sha.piece K i j ++ i ++ [UInt8.ofNat (j + 1)]) _ HK1.out.rd HO3.out.rd (by rw [HKl.out]; omega) (by simp; omega) (HK.out.stay hB03.out)).mono ?_
      rintro e w4 ⟨v4, rfl, ho4, hb4⟩
      have HO4 := Lib.hid ho4
      have HB4 := Lib.hid hb4
      clear ho4 hb4
      have s34 := HB4.out.size
      have HOO4 := Lib.hid (HOO3.out.below HB4.out (fun k hk => (HOO3.out.lt k hk).2))
      have hlen4 : (Sha.pieces K i j).length + (Sha.mac K (Sha.piece K i j ++ i ++ [UInt8.ofNat (j + 1)])).length ≤ 140737488355328 := by rw [Sha.pieces_length, Sha.mac_length]; have := Hm.out; omega
      go_wp2_with (at_builtin; refine apBw rfl (.tmp 53) (.tmp 54) rfl w1.heap.size _ v4 _ _ rfl HOO4.out rfl HO4.out.rd hlen4 (by omega) ?_; intro v5 w5 ho5 hg5 hw5; have HO5 := Lib.hid ho5; have HG5 := Lib.hid hg5; have HW5 := Lib.hid hw5; clear ho5 hg5 hw5)
      have hp5 : Sha.pieces K i j ++ Sha.mac K (Sha.piece K i j ++ i ++ [UInt8.ofNat (j + 1)]) = Sha.pieces K i (j + 1) := rfl
      obtain ⟨g5, cap5, rfl, hg5, hg5', hc5, hcm5⟩ := HO5.out.shape (by rw [hp5]; intro h; have := congrArg List.length h; rw [Sha.pieces_length] at this; simp at this)
      have hl5 : (Sha.pieces K i j ++ Sha.mac K (Sha.piece K i j ++ i ++ [UInt8.ofNat (j + 1)])).length = 32 * j + 32 := by rw [hp5, Sha.pieces_length]; omega
      rw [hl5] at hc5 ⊢
      have HL5 := Lib.hid hl5
      clear hl5 hp5 hlen4
      go_roundw
      case rel =>
        refine ⟨j + 1, q + 1, _, _, _, rfl, ?_, ?_, rfl, ?_, by omega, ?_, ?_, ?_, ?_, ?_, ?_⟩
        · show _ = _; omega
        · have := Hj.out; omega
        · show _ = _; have := Hq.out; omega
        · have := Hj.out; have := Hq.out; omega
        · show _ < _; have := Hm.out; omega
        · have := HO5.out; rw [HL5.out] at this; exact this
        · refine Own.mono (HO4.out.kept HG5.out (fun k hk hk' => ?_)) (by omega)
          have := (HO4.out.lt k hk').1
          have := (HOO3.out.lt k hk).2
          omega
        · intro k hk hk'
          have a1 := HO4.out.lt k hk'
          have a2 := HW5.out
          rw [HL5.out] at a2
          rcases a2 with e | e
          · have := (HOO3.out.lt k (show _ from e.symm.trans hk)).2
            omega
          · rw [e] at hk
            injection hk with hk
            omega
        · exact (HBR.out.trans (HW23.out.trans (HB4.out.mono (by omega)))).grown HG5.out (by omega) (fun k hk => (HOO4.out.lt k hk).1)
      case measure => simp [lenV]; have := Hm.out; omega
    · have hmn : n ≤ m := by omega
      have hmc : m ≤ co := by obtain ⟨_, _, he, hle, _⟩ := HOO.out.rd; injection he with e1 e2 e3; omega
      have hrd := HOO.out.rd.pre n (by rw [Sha.pieces_length]; have := Hm.out; omega)
      have HRD := Lib.hid hrd
      have hnc : (n : Int) ≤ (co : Int) := by omega
      clear hrd
      go_wp2
      all_goals go_ret2
      all_goals
        refine ⟨_, rfl, ?_, ?_, ?_⟩
        · have hj : j = Sha.need n := by unfold Sha.need; have := Hj.out; have := Hm.out; omega
          have h := HRD.out.recap
          rw [hj, HKeq.out] at h
          exact h
        · intro k hk
          have := (HOO.out.lt k ((ownBlock_slice ao m co n n).trans hk)).1
          omega
        · exact HB1.out.trans (HBR.out.mono h01)
end Go.Proofs.YtdjnbnbhpjiicaaDoor
