/-
  Texts put together: OrdE, B64, Frm, FrI, St4.
-/
import Derived.Test.YtdkbajdnckmckaaMg2
import Derived.WalkKit
import Derived.Test.YtdkbajdnckmckaaMg1
import Derived.ProofKit
import Derived.OpenShut
import Derived.ShutString
import Derived.ChangeOld
import Derived.Below
import Derived.Lib.SmallJoins
import Derived.LaidLaws
import Derived.LaidMore
import Derived.LaidHandle
import Derived.Stop.Joined
import Derived.SevenTiedAt
import Derived.Test.YtdkbajdnckmckaaMg3
set_option linter.unusedVariables false
set_option linter.unusedSimpArgs false
namespace Go.Con
/-- four bytes of a number -/
def fourB (n : Nat) : List UInt8 := [UInt8.ofNat (n / 16777216), UInt8.ofNat (n / 65536), UInt8.ofNat (n / 256), UInt8.ofNat n]
def Cmd.fld (c : Cmd) (k : Nat) : Int := match k with | 0 => c.kind | 1 => c.client | 2 => c.seq | 3 => c.name | _ => c.value
/-- the bytes of a command's first k numbers -/
def encK (c : Cmd) : Nat → List UInt8
  | 0 => []
  | k + 1 => encK c k ++ fourB (c.fld k).toNat
def encC (c : Cmd) : List UInt8 := encK c 5
theorem encK_length (c : Cmd) (k : Nat) : (encK c k).length = 4 * k := by
  induction k with
  | zero => rfl
  | succ k ih => rw [encK, List.length_append, ih]; simp [fourB]; omega
end Go.Con
namespace Go.Proofs.Ytdkbajdnckmckaa
open Go.RowKit Go.Con

theorem raw24 (q : Int) (h : 0 ≤ q) : q / 16777216 % 256 = ((UInt8.ofNat (q.toNat / 16777216)).toNat : Int) := by
  obtain ⟨n, rfl⟩ := Int.eq_ofNat_of_zero_le h
  rw [UInt8.toNat_ofNat']; simp
theorem raw16 (q : Int) (h : 0 ≤ q) : q / 65536 % 256 = ((UInt8.ofNat (q.toNat / 65536)).toNat : Int) := by
  obtain ⟨n, rfl⟩ := Int.eq_ofNat_of_zero_le h
  rw [UInt8.toNat_ofNat']; simp
theorem raw8 (q : Int) (h : 0 ≤ q) : q / 256 % 256 = ((UInt8.ofNat (q.toNat / 256)).toNat : Int) := by
  obtain ⟨n, rfl⟩ := Int.eq_ofNat_of_zero_le h
  rw [UInt8.toNat_ofNat']; simp
theorem raw0 (q : Int) (h : 0 ≤ q) : q % 256 = ((UInt8.ofNat q.toNat).toNat : Int) := by
  obtain ⟨n, rfl⟩ := Int.eq_ofNat_of_zero_le h
  rw [UInt8.toNat_ofNat']; simp

def ptrs (b off : Nat) : Array Value := #[.pointer (some ⟨b, off, none⟩), .pointer (some ⟨b, off + 1, none⟩), .pointer (some ⟨b, off + 2, none⟩), .pointer (some ⟨b, off + 3, none⟩), .pointer (some ⟨b, off + 4, none⟩)]

/-- The cells of a command. -/
def cmdA (c : Cmd) : Array Value := #[.int .i64 c.kind, .int .i64 c.client, .int .i64 c.seq, .int .i64 c.name, .int .i64 c.value]
theorem cmdA_at (c : Cmd) (k : Nat) (hk : k < 5) : (cmdA c)[k]? = some (.int .i64 (c.fld k)) := by
  have h5 : k = 0 ∨ k = 1 ∨ k = 2 ∨ k = 3 ∨ k = 4 := by omega
  rcases h5 with rfl | rfl | rfl | rfl | rfl <;> rfl
theorem fld_nonneg (c : Cmd) (h : checkC c = 0) (k : Nat) : 0 ≤ c.fld k ∧ c.fld k ≤ 1073741824 := by
  unfold checkC at h
  split at h
  · split at h
    · rename_i h1 h2
      subst h2
      match k with
      | 0 => simp [Cmd.fld, Cmd.zero]
      | 1 => simp [Cmd.fld, Cmd.zero]
      | 2 => simp [Cmd.fld, Cmd.zero]
      | 3 => simp [Cmd.fld, Cmd.zero]
      | k + 4 => simp [Cmd.fld, Cmd.zero]
    · cases h
  · split at h
    · rename_i h1 h2
      split at h
      · cases h
      · rename_i h3
        have h4 : inRange c = true := by simpa using h3
        unfold inRange at h4
        have h4 := of_decide_eq_true h4
        match k with
        | 0 => simp only [Cmd.fld]; omega
        | 1 => simp only [Cmd.fld]; omega
        | 2 => simp only [Cmd.fld]; omega
        | 3 => simp only [Cmd.fld]; omega
        | k + 4 => simp only [Cmd.fld]; omega
    · cases h

/-- A call that gives a row of its own with these bytes and a number, and turns nothing that was there. -/
def FreshBC (w : World) (R : List UInt8) (c : Int) (e : Ending) (w' : World) : Prop := ∃ v', e = .returned (.tuple #[v', .int .i64 c]) ∧ Own w' w.heap.size v' R ∧ Below w.heap.size w w'

end Go.Proofs.Ytdkbajdnckmckaa

set_option linter.unusedVariables false
set_option linter.unusedSimpArgs false
namespace Go.Con
open Go Go.RowKit
theorem or64 (x y : Nat) (hx : x < 9223372036854775808) (hy : y < 9223372036854775808) : bits .or .i64 (x : Int) (y : Int) = ((x ||| y : Nat) : Int) := by
  show IntKind.i64.wrap ((BitVec.ofInt 64 (x : Int) ||| BitVec.ofInt 64 (y : Int)).toNat : Int) = _
  have hxy : (x ||| y) < 2 ^ 63 := Nat.or_lt_two_pow hx hy
  rw [BitVec.ofInt_natCast, BitVec.ofInt_natCast, BitVec.toNat_or, BitVec.toNat_ofNat, BitVec.toNat_ofNat, Nat.mod_eq_of_lt (by omega), Nat.mod_eq_of_lt (by omega)]
  exact IntWalk.i64_in _ (by omega)
theorem and64 (x y : Nat) (hx : x < 9223372036854775808) (hy : y < 9223372036854775808) : bits .and .i64 (x : Int) (y : Int) = ((x &&& y : Nat) : Int) := by
  show IntKind.i64.wrap ((BitVec.ofInt 64 (x : Int) &&& BitVec.ofInt 64 (y : Int)).toNat : Int) = _
  have hxy : (x &&& y) < 2 ^ 63 := Nat.and_lt_two_pow x hy
  rw [BitVec.ofInt_natCast, BitVec.ofInt_natCast, BitVec.toNat_and, BitVec.toNat_ofNat, BitVec.toNat_ofNat, Nat.mod_eq_of_lt (by omega), Nat.mod_eq_of_lt (by omega)]
  exact IntWalk.i64_in _ (by omega)
/-- bits that are apart are added -/
theorem or_apart (a b i : Nat) (h : b < 2 ^ i) : (a * 2 ^ i ||| b) = a * 2 ^ i + b := by
  have := Nat.shiftLeft_add_eq_or_of_lt h a
  rw [Nat.shiftLeft_eq] at this
  exact this.symm
theorem four64 (x0 x1 x2 x3 : UInt8) :
    bits .or .i64 (bits .or .i64 (bits .or .i64 (wrap64 (wrap64 (x0.toNat : Int) * 16777216)) (wrap64 (wrap64 (x1.toNat : Int) * 65536))) (wrap64 (wrap64 (x2.toNat : Int) * 256))) (wrap64 (x3.toNat : Int))
      = ((x0.toNat * 16777216 + x1.toNat * 65536 + x2.toNat * 256 + x3.toNat : Nat) : Int) := by
  have h0 := x0.toNat_lt
  have h1 := x1.toNat_lt
  have h2 := x2.toNat_lt
  have h3 := x3.toNat_lt
  have w (n : Nat) (h : n < 9223372036854775808) : wrap64 (n : Int) = n := IntWalk.wrap64_in _ (by omega)
  rw [w _ (by omega), w _ (by omega), w _ (by omega), w _ (by omega)]
  rw [show (x0.toNat : Int) * 16777216 = ((x0.toNat * 16777216 : Nat) : Int) by omega, show (x1.toNat : Int) * 65536 = ((x1.toNat * 65536 : Nat) : Int) by omega, show (x2.toNat : Int) * 256 = ((x2.toNat * 256 : Nat) : Int) by omega]
  rw [w _ (by omega), w _ (by omega), w _ (by omega)]
  have e1 := or_apart x0.toNat (x1.toNat * 65536) 24 (by omega)
  have e2 := or_apart (x0.toNat * 256 + x1.toNat) (x2.toNat * 256) 16 (by omega)
  have e3 := or_apart (x0.toNat * 65536 + x1.toNat * 256 + x2.toNat) x3.toNat 8 (by omega)
  rw [or64 _ _ (by omega) (by omega)]
  rw [show (2 : Nat) ^ 24 = 16777216 by rfl] at e1
  rw [show (2 : Nat) ^ 16 = 65536 by rfl] at e2
  rw [show (2 : Nat) ^ 8 = 256 by rfl] at e3
  rw [e1, or64 _ _ (by omega) (by omega)]
  rw [show x0.toNat * 16777216 + x1.toNat * 65536 = (x0.toNat * 256 + x1.toNat) * 65536 by omega, e2, or64 _ _ (by omega) (by omega)]
  rw [show (x0.toNat * 256 + x1.toNat) * 65536 + x2.toNat * 256 = (x0.toNat * 65536 + x1.toNat * 256 + x2.toNat) * 256 by omega, e3]
end Go.Con


set_option linter.unusedVariables false
set_option linter.unusedSimpArgs false
namespace Go.Proofs.Ytdkbajdnckmckaa
open Go.ChangeShapes Go.WideShapes Go.ChangeAt Go.RowKit Go.Con

theorem own : ownKnob Try.prog.godebug = none := by kernel_rfl
theorem laidOut : laidOutB Try.prog = true := by kernel_rfl

section
variable {H : Type} {enc : TypeId × Value → H} {W : World} {base b0 : Nat}

/-- An int that came in. -/
def IsInt (v : Value) (n : Int) : Prop := v = .int .i64 n ∧ -9223372036854775808 ≤ n ∧ n ≤ 9223372036854775807
set_option maxRecDepth 100000 in
theorem open_int {v : Value} {d : DataW H} {p : List MemPlace} (hv : Value.okWide Try.prog W .any b0 3 v) (h : DataW.Trod enc Try.prog W base (fun _ => true) true 3 v d p) : ∃ n, IsInt v n := by
  obtain ⟨n, rfl, _, _, wn⟩ := ChangeShapes.open_int Try.underlying3 hv h
  exact ⟨n, rfl, (bounds_i64 wn).1, (bounds_i64 wn).2⟩
def IsBool (v : Value) (b : Bool) : Prop := v = .bool b
set_option maxRecDepth 100000 in
theorem open_bool {v : Value} {d : DataW H} {p : List MemPlace} (hv : Value.okWide Try.prog W .any b0 4 v) (h : DataW.Trod enc Try.prog W base (fun _ => true) true 4 v d p) : ∃ b, IsBool v b := by
  obtain ⟨b, rfl, _, _⟩ := RowKit.open_bool Try.underlying4 hv h
  exact ⟨b, rfl⟩
end
end Go.Proofs.Ytdkbajdnckmckaa

set_option linter.unusedVariables false
set_option linter.unusedSimpArgs false
namespace Go.Proofs.Ytdkbajdnckmckaa
open Go.ChangeShapes Go.WideShapes Go.ChangeAt Go.RowKit Go.Con
/-- the value is a slice that shows integers -/
def RdInts (w : World) (v : Value) (zs : List Int) : Prop :=
  ∃ a c, v = .slice a zs.length c ∧ zs.length ≤ c ∧ c ≤ maxLen ∧ (∀ i, i < zs.length → -9223372036854775808 ≤ zs.getD i 0 ∧ zs.getD i 0 ≤ 9223372036854775807) ∧ (zs ≠ [] → ∃ b off, a = some ⟨b, off, none⟩ ∧ ∀ i, i < zs.length → w.cell? ⟨b, off + i, none⟩ = some (.int .i64 (zs.getD i 0)))
theorem RdInts.stay {w w' : World} {v : Value} {zs : List Int} (h : RdInts w v zs) (hb : Below w.heap.size w w') : RdInts w' v zs := by
  obtain ⟨a, c, rfl, h1, h2, h0, h3⟩ := h
  refine ⟨a, c, rfl, h1, h2, h0, fun hl => ?_⟩
  obtain ⟨b, off, rfl, hc⟩ := h3 hl
  refine ⟨b, off, rfl, fun i hi => ?_⟩
  exact (World.cell?_of_block (w := w) (hb.block b (World.block_lt_of_cell? w _ (hc i hi)))).trans (hc i hi)
section
variable {H : Type} {enc : TypeId × Value → H} {W : World} {base b0 : Nat}
set_option maxRecDepth 100000 in
theorem open_ints {v : Value} {d : DataW H} {p : List MemPlace} (hv : Value.okWide Try.prog W .any b0 86 v) (h : DataW.Trod enc Try.prog W base (fun _ => true) true 86 v d p) : ∃ zs, RdInts W v zs := by
  obtain ⟨a, len, cap, rfl⟩ := okWide_slice Try.underlying86 hv
  obtain ⟨fuel, hf⟩ := h
  rcases Go.ChangeShapes.open_ints Try.underlying86 Try.underlying3 (by kernel_rfl) hf with ⟨hcs, _⟩ | ⟨x, l, c, zs, hcs, _, hl, hm, hz, _, hcell, hwz⟩
  · simp [Value.cells] at hcs
    obtain ⟨rfl, rfl, rfl⟩ := hcs
    exact ⟨[], none, 0, rfl, Nat.le_refl _, Nat.zero_le _, (fun i hi => by cases hi), fun h => absurd rfl h⟩
  · simp [Value.cells] at hcs
    obtain ⟨rfl, rfl, rfl⟩ := hcs
    have hzl : zs.length = cap := by simpa using hz
    have hlen : (zs.take len).length = len := by simp; omega
    have hget : ∀ i, i < len → (zs.take len).getD i 0 = zs.getD i 0 := fun i hi => by simp [List.getElem?_take, hi]
    refine ⟨zs.take len, some x, cap, by rw [hlen], by rw [hlen]; exact hl, hm, fun i hi => ?_, fun hne => ?_⟩
    · rw [hlen] at hi
      rw [hget i hi]
      have hiz : i < zs.length := by omega
      have e2 : zs.getD i 0 = zs[i] := by simp [hiz]
      rw [e2]
      exact bounds_i64 (hwz zs[i] (List.getElem_mem hiz))
    · have hpos : 0 < len := by rw [← hlen]; exact List.length_pos_iff.2 hne
      obtain ⟨b, off, spot⟩ := x
      have hspot : spot = none := by
        have := hcell 0 (by omega)
        simpa [Addr.add] using World.cell?_spot this
      subst hspot
      refine ⟨b, off, rfl, fun i hi => ?_⟩
      rw [hlen] at hi
      have hc := hcell i (by omega)
      rw [hget i hi]
      unfold Addr.add at hc
      split at hc
      · rename_i h0; subst h0; simpa using hc
      · exact hc
end
end Go.Proofs.Ytdkbajdnckmckaa

set_option linter.unusedVariables false
set_option linter.unusedSimpArgs false
namespace Go.Proofs.Ytdkbajdnckmckaa
open Go.RowKit Go.Con
/-- numbers, four bytes each -/
def flatB (zs : List Int) : List UInt8 := zs.flatMap fun z => fourB z.toNat
theorem flatB_len (zs : List Int) : (flatB zs).length = 4 * zs.length := by
  induction zs with
  | nil => rfl
  | cons z r ih => rw [flatB, List.flatMap_cons, List.length_append, List.length_cons]; rw [flatB] at ih; rw [ih]; simp [fourB]; omega
theorem flatB_take (zs : List Int) (k : Nat) (hk : k < zs.length) : flatB (zs.take (k + 1)) = flatB (zs.take k) ++ fourB (zs.getD k 0).toNat := by
  have e : zs.take (k + 1) = zs.take k ++ [zs.getD k 0] := by
    rw [List.take_succ_eq_append_getElem hk]; simp [hk]
  rw [e, flatB, List.flatMap_append]; simp [flatB]
/-- a number of four bytes -/
def getN (l : List UInt8) : Nat := (l.getD 0 0).toNat * 16777216 + (l.getD 1 0).toNat * 65536 + (l.getD 2 0).toNat * 256 + (l.getD 3 0).toNat
end Go.Proofs.Ytdkbajdnckmckaa
