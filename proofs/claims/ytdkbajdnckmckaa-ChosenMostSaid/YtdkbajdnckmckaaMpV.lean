/-
  A map of votes: how a vote reads as a key.
-/
import Derived.Test.YtdkbajdnckmckaaAcc
import Derived.Maps.RangeWalk
import Derived.Maps.OwnOps
import Derived.Maps.Views
import Derived.WideKeyEntry
import Derived.DeepKeys4
set_option linter.unusedVariables false
set_option linter.unusedSimpArgs false
namespace Go.Proofs.Ytdkbajdnckmckaa
open Go.RowKit Go.Con
theorem votLaw : WideMaps.KeyLaw Try.prog 32 := deep_law_laid (by kernel_rfl) (m := 6) (by decide) (of_decide_eq_true (by kernel_rfl)) (by kernel_rfl) (by kernel_rfl)
theorem votKeyed : Go.Maps.Keyed Try.prog 32 := Go.Maps.Keyed.of_law votLaw
def I64 (x : Int) : Prop := -9223372036854775808 ≤ x ∧ x ≤ 9223372036854775807
theorem wf64 {x : Int} (h : I64 x) : (Lit.int .i64 x).wf = true := WalkArith.wf_i64 h
structure VotI (y : Vot) : Prop where
  a0 : I64 y.slot
  a1 : I64 y.bal.1
  a2 : I64 y.bal.2
  a3 : I64 y.what.kind
  a4 : I64 y.what.client
  a5 : I64 y.what.seq
  a6 : I64 y.what.name
  a7 : I64 y.what.value
theorem cells1 : Try.prog.cellsOf 3 = 1 := by kernel_rfl
theorem cells2 : Try.prog.cellsOf 28 = 2 := by kernel_rfl
theorem cells5 : Try.prog.cellsOf 30 = 5 := by kernel_rfl
theorem cells8 : Try.prog.cellsOf 32 = 8 := by kernel_rfl
theorem keyLit_int (d : Nat) {x : Int} (h : I64 x) : Try.prog.keyLits (d + 1) 3 [.int .i64 x] = some [.int .i64 x] := by
  unfold Program.keyLits
  rw [Try.underlying3]
  simp [wf64 h]
theorem keyLit_bal (d : Nat) {a b : Int} (ha : I64 a) (hb : I64 b) : Try.prog.keyLits (d + 1 + 1) 28 [.int .i64 a, .int .i64 b] = some [.int .i64 a, .int .i64 b] := by
  unfold Program.keyLits
  rw [Try.underlying28]
  simp [cells1, cells2, keyLit_int d ha, keyLit_int d hb]
theorem keyLit_cmd (d : Nat) {c : Cmd} (h3 : I64 c.kind) (h4 : I64 c.client) (h5 : I64 c.seq) (h6 : I64 c.name) (h7 : I64 c.value) : Try.prog.keyLits (d + 1 + 1) 30 [.int .i64 c.kind, .int .i64 c.client, .int .i64 c.seq, .int .i64 c.name, .int .i64 c.value] = some [.int .i64 c.kind, .int .i64 c.client, .int .i64 c.seq, .int .i64 c.name, .int .i64 c.value] := by
  unfold Program.keyLits
  rw [Try.underlying30]
  simp [cells1, cells5, keyLit_int d h3, keyLit_int d h4, keyLit_int d h5, keyLit_int d h6, keyLit_int d h7]
theorem keyLit_vot (d : Nat) {y : Vot} (h : VotI y) : ∃ ls, Try.prog.keyLits (d + 1 + 1 + 1) 32 (votCells y) = some ls := by
  unfold Program.keyLits
  rw [Try.underlying32]
  simp [votCells, cells1, cells2, cells5, cells8, keyLit_int (d + 1) h.a0, keyLit_bal d h.a1 h.a2, keyLit_cmd d h.a3 h.a4 h.a5 h.a6 h.a7]
/-- a vote is a key -/
theorem votKey {y : Vot} (h : VotI y) : ∃ kl, keyOf Try.prog 32 (votV y) = some kl := by
  obtain ⟨d, hd⟩ : ∃ d, Try.prog.types.size + 1 = d + 1 + 1 + 1 := ⟨Try.prog.types.size - 2, by have : decide (2 ≤ Try.prog.types.size) = true := (by kernel_rfl); have := of_decide_eq_true this; omega⟩
  obtain ⟨ls, hls⟩ := keyLit_vot d h
  have h1 : (Try.prog.keyType 32 && (votV y).formed Try.prog 32) = true := by kernel_rfl
  unfold keyOf
  rw [Try.underlying32]
  simp only [h1, if_true, hd]
  rw [show (votV y).cells.toList = votCells y from rfl, hls]
  exact ⟨_, rfl⟩
theorem votKey_inj {x y : Vot} {kl : Lit} (hx : keyOf Try.prog 32 (votV x) = some kl) (hy : keyOf Try.prog 32 (votV y) = some kl) : x = y := by
  have h := votLaw.inj hx hy
  obtain ⟨a0, ⟨a1, a2⟩, ⟨a3, a4, a5, a6, a7⟩⟩ := x
  obtain ⟨b0, ⟨b1, b2⟩, ⟨b3, b4, b5, b6, b7⟩⟩ := y
  simp [votV, votCells] at h
  obtain ⟨h0, h1, h2, h3, h4, h5, h6, h7⟩ := h
  subst h0 h1 h2 h3 h4 h5 h6 h7
  rfl
end Go.Proofs.Ytdkbajdnckmckaa
