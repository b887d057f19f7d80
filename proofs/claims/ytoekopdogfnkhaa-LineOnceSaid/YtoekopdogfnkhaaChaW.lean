/-
  The walks of cha.word, cha.check and cha.block.
-/
import Derived.Test.YtoekopdogfnkhaaChaQ
set_option linter.unusedVariables false
set_option linter.unusedSimpArgs false
namespace Go.Proofs.Ytoekopdogfnkhaa
open Go.RowKit Go.Con

theorem wordLow_raw (x0 x1 x2 x3 : UInt8) :
    bits .or .u32 (bits .or .u32 (bits .or .u32 ((x0.toNat : Int) % 4294967296) ((x1.toNat : Int) % 4294967296 * 256 % 4294967296)) ((x2.toNat : Int) % 4294967296 * 65536 % 4294967296)) ((x3.toNat : Int) % 4294967296 * 16777216 % 4294967296)
      = ((x0.toUInt32 ||| x1.toUInt32 <<< 8 ||| x2.toUInt32 <<< 16 ||| x3.toUInt32 <<< 24).toNat : Int) := by
  rw [up32, up32, up32, up32, shl32 _ 24 24 16777216 (by decide) rfl (by decide), shl32 _ 16 16 65536 (by decide) rfl (by decide), shl32 _ 8 8 256 (by decide) rfl (by decide), u32_orF, u32_orF, u32_orF]

set_option maxHeartbeats 1000000 in
theorem chaWord_any (b off n c : Nat) (x0 x1 x2 x3 : UInt8) (w : World) (hn : 4 ≤ n) (hc : n ≤ c) (h0 : w.cell? ⟨b, off, none⟩ = some (.int .u8 x0.toNat)) (h1 : w.cell? ⟨b, off + 1, none⟩ = some (.int .u8 x1.toNat)) (h2 : w.cell? ⟨b, off + 2, none⟩ = some (.int .u8 x2.toNat)) (h3 : w.cell? ⟨b, off + 3, none⟩ = some (.int .u8 x3.toNat)) :
    Calls Try.prog 35 #[.slice (some ⟨b, off, none⟩) n c] w fun e w' => e = .returned (.int .u32 (x0.toUInt32 ||| x1.toUInt32 <<< 8 ||| x2.toUInt32 <<< 16 ||| x3.toUInt32 <<< 24).toNat) ∧ ∃ k, w' = w.drewN k := by
  have k0 : (0 : Int) < (n : Int) := by omega
  have k1 : (1 : Int) < (n : Int) := by omega
  have k2 : (2 : Int) < (n : Int) := by omega
  have k3 : (3 : Int) < (n : Int) := by omega
  go_enter Try.func35, Try.ntmps35
  go_wp2
  go_quiet (fail)
  go_wp2
  go_ret
  exact ⟨by rw [← wordLow_raw]; rfl, _, rfl⟩

theorem chaCheck_ok (a1 a2 : Option Addr) (c1 c2 : Nat) (n : Nat) (w : World) (hn : n ≤ 1073741824) :
    Calls Try.prog 32 #[.slice a1 32 c1, .int .i64 n, .slice a2 12 c2] w fun e w' => e = .returned (.int .i64 0) ∧ w = w' := by
  have h1 : ¬ ((n : Int) < 0) := by omega
  have h2 : ¬ ((1073741824 : Int) < (n : Int)) := by omega
  go_enter Try.func32, Try.ntmps32
  go_wp2
  go_ret
  exact ⟨rfl, rfl⟩
end Go.Proofs.Ytoekopdogfnkhaa
