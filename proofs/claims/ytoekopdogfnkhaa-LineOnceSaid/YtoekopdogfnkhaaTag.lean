/-
  The walk of poly.Tag.
-/
import Derived.Test.YtoekopdogfnkhaaPolG
set_option linter.unusedVariables false
set_option linter.unusedSimpArgs false
namespace Go.Proofs.Ytoekopdogfnkhaa
open Go.RowKit Go.Con
set_option maxHeartbeats 1000000 in
theorem Tag_ok (kv dv : Value) (key data : List UInt8) (w : World) (hk : Rd w kv key) (hd : Rd w dv data) (hkl : key.length = 32) (hdl : data.length ≤ 4000) :
    Calls Try.prog 31 #[kv, dv] w (FreshBE w (Pol.tag key data) 0) := by
  have ht := tag_any kv dv key data w hk hd hkl hdl
  have HT := Lib.hid ht
  obtain ⟨ka, kc, rfl, _, _⟩ := hk.sliceN 32 hkl
  obtain ⟨n, hn⟩ : ∃ n, data.length = n := ⟨_, rfl⟩
  obtain ⟨da, dc, rfl, _, _⟩ := hd.sliceN n hn
  have hnl : n ≤ 4000 := by omega
  have hd4 : decide ((4000 : Int) < (n : Int)) = false := by rw [decide_eq_false_iff_not]; omega
  clear ht hk hd hkl hdl hn
  go_enter Try.func31, Try.ntmps31
  go_wp2_with fail
  refine HT.out.mono ?_
  rintro e w1 ⟨v, rfl, ho, hb⟩
  have HO := Lib.hid ho
  have HB := Lib.hid hb
  clear ho hb
  go_wp2
  go_ret2
  exact ⟨_, rfl, HO.out, HB.out⟩
/-- A key of another length is refused. -/
theorem Tag_key (ka : Option Addr) (kc n : Nat) (dv : Value) (w : World) (hn : n ≠ 32) :
    Calls Try.prog 31 #[.slice ka n kc, dv] w fun e w' => e = .returned (.tuple #[.slice none 0 0, .int .i64 1]) ∧ w = w' := by
  have h1 : ((n : Int) == 32) = false := by rw [beq_eq_false_iff_ne]; omega
  have h2 : ((n : Int) != 32) = true := by rw [bne_iff_ne]; omega
  go_enter Try.func31, Try.ntmps31
  go_wp2
  go_ret2
  exact ⟨rfl, rfl⟩
/-- A cell of what is shown. -/
theorem cellOf {w : World} {b off n c : Nat} {l : List UInt8} (h : Rd w (.slice (some ⟨b, off, none⟩) n c) l) (k : Nat) (hk : k < l.length) : w.cell? ⟨b, off + k, none⟩ = some (.int .u8 (l.getD k 0).toNat) := by
  obtain ⟨a', c', e, _, _, _, h⟩ := h
  injection e with e1 e2 e3
  subst e1
  obtain ⟨b, off, e4, h2⟩ := h (by intro h; rw [h] at hk; cases hk)
  injection e4 with e4
  injection e4 with e5 e6
  subst e5 e6
  exact h2 k hk
end Go.Proofs.Ytoekopdogfnkhaa
