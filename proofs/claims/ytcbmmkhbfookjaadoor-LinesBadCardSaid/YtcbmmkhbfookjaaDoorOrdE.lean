/-
  The walks of order.four, numbers and Encode.
-/
import Derived.Test.YtcbmmkhbfookjaaDoorOrd
set_option linter.unusedVariables false
set_option linter.unusedSimpArgs false
namespace Go.Con
/-- four bytes of a number -/
def fourB (n : Nat) : List UInt8 := [UInt8.ofNat (n / 16777216), UInt8.ofNat (n / 65536), UInt8.ofNat (n / 256), UInt8.ofNat n]
def Cmd.fld (c : Cmd) (k : Nat) : Int := match k with | 0 => c.kind | 1 => c.client | 2 => c.seq | 3 => c.name | _ => c.value
/-- the bytes of a command's first k numbers -/
def encK (c : Cmd) : Nat → List UInt8
  | 0 => []
  | k + 1 => encK c k ++ fourB (c.fld k).toNat
def encC (c : Cmd) : List UInt8 := encK c 5
theorem encK_length (c : Cmd) (k : Nat) : (encK c k).length = 4 * k := by
  induction k with
  | zero => rfl
  | succ k ih => rw [encK, List.length_append, ih]; simp [fourB]; omega
end Go.Con
namespace Go.Proofs.YtcbmmkhbfookjaaDoor
open Go.RowKit Go.Con

theorem raw24 (q : Int) (h : 0 ≤ q) : q / 16777216 % 256 = ((UInt8.ofNat (q.toNat / 16777216)).toNat : Int) := by
  obtain ⟨n, rfl⟩ := Int.eq_ofNat_of_zero_le h
  rw [UInt8.toNat_ofNat']; simp
theorem raw16 (q : Int) (h : 0 ≤ q) : q / 65536 % 256 = ((UInt8.ofNat (q.toNat / 65536)).toNat : Int) := by
  obtain ⟨n, rfl⟩ := Int.eq_ofNat_of_zero_le h
  rw [UInt8.toNat_ofNat']; simp
theorem raw8 (q : Int) (h : 0 ≤ q) : q / 256 % 256 = ((UInt8.ofNat (q.toNat / 256)).toNat : Int) := by
  obtain ⟨n, rfl⟩ := Int.eq_ofNat_of_zero_le h
  rw [UInt8.toNat_ofNat']; simp
theorem raw0 (q : Int) (h : 0 ≤ q) : q % 256 = ((UInt8.ofNat q.toNat).toNat : Int) := by
  obtain ⟨n, rfl⟩ := Int.eq_ofNat_of_zero_le h
  rw [UInt8.toNat_ofNat']; simp

def ptrs (b off : Nat) : Array Value := #[.pointer (some ⟨b, off, none⟩), .pointer (some ⟨b, off + 1, none⟩), .pointer (some ⟨b, off + 2, none⟩), .pointer (some ⟨b, off + 3, none⟩), .pointer (some ⟨b, off + 4, none⟩)]

/-- The cells of a command. -/
def cmdA (c : Cmd) : Array Value := #[.int .i64 c.kind, .int .i64 c.client, .int .i64 c.seq, .int .i64 c.name, .int .i64 c.value]
theorem cmdA_at (c : Cmd) (k : Nat) (hk : k < 5) : (cmdA c)[k]? = some (.int .i64 (c.fld k)) := by
  have h5 : k = 0 ∨ k = 1 ∨ k = 2 ∨ k = 3 ∨ k = 4 := by omega
  rcases h5 with rfl | rfl | rfl | rfl | rfl <;> rfl
theorem fld_nonneg (c : Cmd) (h : checkC c = 0) (k : Nat) : 0 ≤ c.fld k ∧ c.fld k ≤ 1073741824 := by
  unfold checkC at h
  split at h
  · split at h
    · rename_i h1 h2
      subst h2
      match k with
      | 0 => simp [Cmd.fld, Cmd.zero]
      | 1 => simp [Cmd.fld, Cmd.zero]
      | 2 => simp [Cmd.fld, Cmd.zero]
      | 3 => simp [Cmd.fld, Cmd.zero]
      | k + 4 => simp [Cmd.fld, Cmd.zero]
    · cases h
  · split at h
    · rename_i h1 h2
      split at h
      · cases h
      · rename_i h3
        have h4 : inRange c = true := by simpa using h3
        unfold inRange at h4
        have h4 := of_decide_eq_true h4
        match k with
        | 0 => simp only [Cmd.fld]; omega
        | 1 => simp only [Cmd.fld]; omega
        | 2 => simp only [Cmd.fld]; omega
        | 3 => simp only [Cmd.fld]; omega
        | k + 4 => simp only [Cmd.fld]; omega
    · cases h

/-- A call that gives a row of its own with these bytes and a number, and turns nothing that was there. -/
def FreshBC (w : World) (R : List UInt8) (c : Int) (e : Ending) (w' : World) : Prop := ∃ v', e = .returned (.tuple #[v', .int .i64 c]) ∧ Own w' w.heap.size v' R ∧ Below w.heap.size w w'

end Go.Proofs.YtcbmmkhbfookjaaDoor
