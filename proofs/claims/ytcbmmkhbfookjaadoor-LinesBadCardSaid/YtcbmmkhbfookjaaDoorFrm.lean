/-
  The frame of every law's row: the closed facts on the program, and each kind of argument opened.
-/
import Derived.Test.YtcbmmkhbfookjaaDoorBy2
import Derived.ProofKit
import Derived.OpenShut
import Derived.ShutString
import Derived.ChangeOld
import Derived.Below
import Derived.Lib.SmallJoins
import Derived.LaidLaws
import Derived.LaidMore
import Derived.LaidHandle
import Derived.Stop.Joined
import Derived.SevenTiedAt
set_option linter.unusedVariables false
set_option linter.unusedSimpArgs false
namespace Go.Proofs.YtcbmmkhbfookjaaDoor
open Go.ChangeShapes Go.WideShapes Go.ChangeAt Go.RowKit Go.Con

theorem own : ownKnob Tryd.prog.godebug = none := by kernel_rfl
theorem laidOut : laidOutB Tryd.prog = true := by kernel_rfl

section
variable {H : Type} {enc : TypeId × Value → H} {W : World} {base b0 : Nat}

set_option maxRecDepth 100000 in
theorem open_bytes {v : Value} {d : DataW H} {p : List MemPlace} (hv : Value.okWide Tryd.prog W .any b0 30 v) (h : DataW.Trod enc Tryd.prog W base (fun _ => true) true 30 v d p) : ∃ l, Rd W v l := by
  obtain ⟨a, len, cap, rfl⟩ := okWide_slice Tryd.underlying30 hv
  obtain ⟨fuel, hf⟩ := h
  rcases open_ints Tryd.underlying30 Tryd.underlying5 (by kernel_rfl) hf with ⟨hcs, _⟩ | ⟨x, l, c, zs, hcs, _, hl, hm, hz, _, hcell, hwz⟩
  · simp [Value.cells] at hcs
    obtain ⟨rfl, rfl, rfl⟩ := hcs
    exact ⟨[], Rd.nil W⟩
  · simp [Value.cells] at hcs
    obtain ⟨rfl, rfl, rfl⟩ := hcs
    refine ⟨(zs.take len).map fun z => UInt8.ofNat z.toNat, ?_⟩
    have hzl : zs.length = cap := by simpa using hz
    have hlen : ((zs.take len).map fun z => UInt8.ofNat z.toNat).length = len := by simp; omega
    refine ⟨some x, cap, by rw [hlen], by rw [hlen]; exact hl, hm, (fun h => by cases h), fun hne => ?_⟩
    have hpos : 0 < len := by rw [← hlen]; exact List.length_pos_iff.2 hne
    obtain ⟨b, off, spot⟩ := x
    have hspot : spot = none := by
      have := hcell 0 (by omega)
      simpa [Addr.add] using World.cell?_spot this
    subst hspot
    refine ⟨b, off, rfl, fun i hi => ?_⟩
    rw [hlen] at hi
    have hc := hcell i (by omega)
    have hiz : i < zs.length := by omega
    have hb := bounds_u8 (hwz zs[i] (List.getElem_mem hiz))
    have e : u8v (((zs.take len).map fun z => UInt8.ofNat z.toNat).getD i 0) = .int .u8 (zs.getD i 0) := by
      have e1 : ((zs.take len).map fun z => UInt8.ofNat z.toNat).getD i 0 = UInt8.ofNat zs[i].toNat := by
        simp [List.getElem?_take, hi, hiz]
      have e2 : zs.getD i 0 = zs[i] := by simp [hiz]
      have e3 : (UInt8.ofNat zs[i].toNat).toNat = zs[i].toNat := by
        rw [UInt8.toNat_ofNat']; omega
      rw [e1, e2, u8v, e3]
      congr 1
      omega
    rw [e]
    unfold Addr.add at hc
    split at hc
    · rename_i h0; subst h0; simpa using hc
    · exact hc

/-- An int that came in. -/
def IsInt (v : Value) (n : Int) : Prop := v = .int .i64 n ∧ -9223372036854775808 ≤ n ∧ n ≤ 9223372036854775807
set_option maxRecDepth 100000 in
theorem open_int {v : Value} {d : DataW H} {p : List MemPlace} (hv : Value.okWide Tryd.prog W .any b0 3 v) (h : DataW.Trod enc Tryd.prog W base (fun _ => true) true 3 v d p) : ∃ n, IsInt v n := by
  obtain ⟨n, rfl, _, _, wn⟩ := ChangeShapes.open_int Tryd.underlying3 hv h
  exact ⟨n, rfl, (bounds_i64 wn).1, (bounds_i64 wn).2⟩
def IsBool (v : Value) (b : Bool) : Prop := v = .bool b
set_option maxRecDepth 100000 in
theorem open_bool {v : Value} {d : DataW H} {p : List MemPlace} (hv : Value.okWide Tryd.prog W .any b0 4 v) (h : DataW.Trod enc Tryd.prog W base (fun _ => true) true 4 v d p) : ∃ b, IsBool v b := by
  obtain ⟨b, rfl, _, _⟩ := RowKit.open_bool Tryd.underlying4 hv h
  exact ⟨b, rfl⟩
end
end Go.Proofs.YtcbmmkhbfookjaaDoor
