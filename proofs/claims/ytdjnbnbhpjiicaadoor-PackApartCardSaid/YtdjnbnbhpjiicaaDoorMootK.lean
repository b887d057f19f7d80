/-
  The walks of moot.Key and moot.Issuer.
-/
import Derived.Test.YtdjnbnbhpjiicaaDoorShaDraw
import Derived.Test.YtdjnbnbhpjiicaaDoorKeys
import Derived.Lib.SlBytesConst
namespace Go.Proofs.YtdjnbnbhpjiicaaDoor
open Go.RowKit Go.Con

theorem kconst1 (w : World) (A : Obj) (C : Array Value) (n c : Nat) :
    (convert 35 35 (.slice (some ⟨w.heap.size + 1, 0, none⟩) n c)).run Tryd.prog ((w.alloc A).alloc (.cells C 5)) = .ok (.slice (some ⟨w.heap.size + 1, 0, none⟩) n c) ((w.alloc A).alloc (.cells C 5 (C.size, C.size + 1))) := by
  have h := Lib.run_convert_bytes_const (P := Tryd.prog) (w.alloc A) 35 5 C n c Tryd.underlying35 Tryd.underlying5
  have e : (w.alloc A).heap.size = w.heap.size + 1 := by simp
  rw [e] at h
  exact h

set_option maxHeartbeats 1000000 in
theorem Key_ok (b : UInt8) (w : World) (hb : b.toNat ≤ 7) (hk : Kn w) :
    Calls Tryd.prog 41 #[.int .i64 b.toNat] w (FreshRE w (keyC b) 0) := by
  have HK := Lib.hid hk
  have hbb := b.toNat_lt
  have kc := fun (w : World) (A : Obj) (C : Array Value) (n c : Nat) => kconst1 w A C n c
  clear hk
  go_enter Tryd.func41, Tryd.ntmps41
  go_wp2_with fail
  have b1 : Below w.heap.size w ((w.alloc (.cells #[.int .u8 b.toNat] 5)).alloc (.cells ([99, 108, 105, 101, 110, 116].map u8v).toArray 5 (6, 7))) := ((Below.refl _ _).alloc (Nat.le_refl _) _).alloc (by simp) _
  have hr1 : Rd ((w.alloc (.cells #[.int .u8 b.toNat] 5)).alloc (.cells ([99, 108, 105, 101, 110, 116].map u8v).toArray 5 (6, 7))) (.slice (some ⟨w.heap.size, 0, none⟩) 1 1) [b] := (newB w _ b rfl).alloc _
  have hr2 : Rd ((w.alloc (.cells #[.int .u8 b.toNat] 5)).alloc (.cells ([99, 108, 105, 101, 110, 116].map u8v).toArray 5 (6, 7))) (.slice (some ⟨w.heap.size + 1, 0, none⟩) 6 6) [99, 108, 105, 101, 110, 116] := by
    have h := Rd.newMark (w.alloc (.cells #[.int .u8 b.toNat] 5)) [99, 108, 105, 101, 110, 116] 6 (6, 7) rfl (by decide)
    have e : (w.alloc (.cells #[.int .u8 b.toNat] 5)).heap.size = w.heap.size + 1 := by simp
    rw [e] at h
    exact h
  refine (Draw_ok _ _ _ [b] [99, 108, 105, 101, 110, 116] [] 32 _ hr1 hr2 (Rd.nil _) (by simp) (by simp) (by simp) (by decide) (HK.out.stay b1)).mono ?_
  rintro e w2 ⟨v2, rfl, hv2, hf2, hb2⟩
  have HV2 := Lib.hid hv2
  have HF2 := Lib.hid hf2
  have HB2 := Lib.hid (b1.trans (hb2.mono (by simp; omega)))
  clear hv2 hf2 hb2 b1 hr1 hr2
  go_wp2
  go_ret2
  exact ⟨_, rfl, HV2.out, fun k hk => Nat.le_trans (by simp; omega) (HF2.out k hk), HB2.out⟩

set_option maxHeartbeats 1000000 in
theorem Key_bad (n : Int) (w : World) (hn : n < 0 ∨ 7 < n) :
    Calls Tryd.prog 41 #[.int .i64 n] w fun e w' => e = .returned (.tuple #[.slice none 0 0, .int .i64 2]) ∧ w = w' := by
  by_cases h0 : n < 0
  · go_enter Tryd.func41, Tryd.ntmps41
    go_wp2
    go_ret2
    exact ⟨rfl, rfl⟩
  · have h1 : 7 < n := by omega
    have h2 : 0 ≤ n := by omega
    go_enter Tryd.func41, Tryd.ntmps41
    go_wp2
    go_ret2
    exact ⟨rfl, rfl⟩

set_option maxHeartbeats 1000000 in
theorem Issuer_any (w : World) (hk : Kn w) :
    Calls Tryd.prog 42 #[] w fun e w' => ∃ v', e = .returned v' ∧ Rd w' v' keyI ∧ (∀ k, v'.ownBlock = some k → w.heap.size ≤ k) ∧ Below w.heap.size w w' := by
  have HK := Lib.hid hk
  have kc := fun (w : World) (A : Obj) (C : Array Value) (n c : Nat) => kconst1 w A C n c
  clear hk
  go_enter Tryd.func42, Tryd.ntmps42
  go_wp2_with fail
  have b1 : Below w.heap.size w ((w.alloc (.cells #[.int .u8 255] 5)).alloc (.cells ([105, 115, 115, 117, 101, 114].map u8v).toArray 5 (6, 7))) := ((Below.refl _ _).alloc (Nat.le_refl _) _).alloc (by simp) _
  have hr1 : Rd ((w.alloc (.cells #[.int .u8 255] 5)).alloc (.cells ([105, 115, 115, 117, 101, 114].map u8v).toArray 5 (6, 7))) (.slice (some ⟨w.heap.size, 0, none⟩) 1 1) [255] := (newB w _ 255 rfl).alloc _
  have hr2 : Rd ((w.alloc (.cells #[.int .u8 255] 5)).alloc (.cells ([105, 115, 115, 117, 101, 114].map u8v).toArray 5 (6, 7))) (.slice (some ⟨w.heap.size + 1, 0, none⟩) 6 6) [105, 115, 115, 117, 101, 114] := by
    have h := Rd.newMark (w.alloc (.cells #[.int .u8 255] 5)) [105, 115, 115, 117, 101, 114] 6 (6, 7) rfl (by decide)
    have e : (w.alloc (.cells #[.int .u8 255] 5)).heap.size = w.heap.size + 1 := by simp
    rw [e] at h
    exact h
  refine (Draw_ok _ _ _ [255] [105, 115, 115, 117, 101, 114] [] 32 _ hr1 hr2 (Rd.nil _) (by simp) (by simp) (by simp) (by decide) (HK.out.stay b1)).mono ?_
  rintro e w2 ⟨v2, rfl, hv2, hf2, hb2⟩
  have HV2 := Lib.hid hv2
  have HF2 := Lib.hid hf2
  have HB2 := Lib.hid (b1.trans (hb2.mono (by simp; omega)))
  clear hv2 hf2 hb2 b1 hr1 hr2
  go_wp2
  go_ret
  exact ⟨_, rfl, HV2.out, fun k hk => Nat.le_trans (by simp; omega) (HF2.out k hk), HB2.out⟩
end Go.Proofs.YtdjnbnbhpjiicaaDoor
