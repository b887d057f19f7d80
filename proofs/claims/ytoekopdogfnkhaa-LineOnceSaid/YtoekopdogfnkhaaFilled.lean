/-
  The walk of conclavekeep.filled.
-/
import Derived.Test.YtoekopdogfnkhaaSome
set_option linter.unusedVariables false
set_option linter.unusedSimpArgs false
namespace Go.Proofs.Ytoekopdogfnkhaa
open Go.RowKit Go.Con

set_option maxHeartbeats 400000 in
theorem filled_any (v : Value) (l : List UInt8) (m : Nat) (w : World) (hv : Rd w v l) (hm : m ≤ 1099511627776) :
    Calls Try.prog 9 #[v, .int .i64 m] w (FreshB w (fill l m)) := by
  obtain ⟨a, c, rfl, hlc, hcm⟩ := hv.slice
  have HV := Lib.hid hv
  clear hv
  go_enter Try.func9, Try.ntmps9
  go_wp2_with (go_at_call 12; refine (some_any _ l m _ HV.out hm).mono ?_; rintro e w1 ⟨v1, rfl, ho1, hb1⟩; have HO1 := Lib.hid ho1; have HB1 := Lib.hid hb1; clear ho1 hb1)
  have n0 : ∀ W : World, Rd (W.alloc (.cells #[.int .u8 0] 5)) (.slice (some ⟨W.heap.size, 0, none⟩) 1 1) [0] := fun W => newB W 0 0 rfl
  have N0 := Lib.hid n0
  clear n0
  obtain ⟨a1, c1, hv1, hlc1, hcm1⟩ := HO1.out.rd.slice
  have HV1 := Lib.hid hv1
  clear hv1
  go_loopw [5] (fun v wr => ∃ z c n : Nat, ∃ a : Option Addr, v = .slice a n c ∧ Hid (n = min m l.length + z) ∧ n ≤ m ∧ Own wr w.heap.size v (l.take m ++ List.replicate z 0) ∧ Below w.heap.size w wr)
    (fun v _ => m - lenV v)
  case atStart =>
    refine ⟨0, c1, _, a1, HV1.out, by show _ = _; simp, by simp <;> omega, by simpa using HO1.out, HB1.out⟩
  case round =>
    obtain ⟨z, c2, n, a2, rfl, Hn, hnm, hO, hB⟩ := hrel
    have HO := Lib.hid hO
    have HB := Lib.hid hB
    clear hO hB
    by_cases hlt : n < m
    · go_wp2_with (at_builtin; refine apB rfl (.tmp 13) (.tmp 14) rfl w.heap.size _ _ _ [0] rfl (HO.out.alloc _) rfl (N0.out _) (by have := Hn.out; simp; omega) (by have := HB.out.size; simp; omega) ?_; intro v3 w3 hown3 hg3; have HO3 := Lib.hid hown3; have HG3 := Lib.hid hg3; clear hown3 hg3)
      obtain ⟨g3, cap3, rfl, hg3, hg3', hc3, hcm3⟩ := HO3.out.shape (by simp)
      go_roundw
      case rel =>
        refine ⟨z + 1, cap3, _, _, rfl, ?_, ?_, ?_, ?_⟩
        · show _ = _; simp <;> omega
        · have := Hn.out; simp <;> omega
        · have := HO3.out
          rw [List.replicate_succ']
          simpa using this
        · exact (HB.out.alloc (by have := HB.out.size; omega) _).grown HG3.out (by have := HB.out.size; simp; omega) (fun k hk => (HO.out.lt k hk).1)
      case measure => have := Hn.out; simp [lenV]; omega
    · go_wp2
      go_ret
      refine ⟨_, rfl, ?_, HB.out⟩
      have h := HO.out
      have hz : z = m - l.length := by have := Hn.out; omega
      rw [hz] at h
      exact h

end Go.Proofs.Ytoekopdogfnkhaa
