/-
  A slice of slices of bytes that came in, opened.
-/
import Derived.Test.YtcbmmkhbfookjaaDoorFrm
import Derived.Deep.Slices
set_option linter.unusedVariables false
set_option linter.unusedSimpArgs false
namespace Go.Proofs.YtcbmmkhbfookjaaDoor
open Go.ChangeShapes Go.WideShapes Go.ChangeAt Go.RowKit Go.Con Go.Deep
/-- A slice of slices of bytes: each of its cells shows bytes. -/
def RdRows (w : World) (v : Value) (ls : List (List UInt8)) : Prop :=
  ∃ a c, v = .slice a ls.length c ∧ ls.length ≤ c ∧ c ≤ maxLen ∧ (ls ≠ [] → ∃ b off, a = some ⟨b, off, none⟩ ∧ ∀ i, i < ls.length → ∃ x, w.cell? ⟨b, off + i, none⟩ = some x ∧ Rd w x (ls.getD i []))
section
variable {H : Type} {enc : TypeId × Value → H} {W : World} {base b0 : Nat}
set_option maxRecDepth 100000 in
/-- the cell of a slice of bytes -/
theorem open_row {fuel : Nat} {cs : List Value} {x : DataW H × List MemPlace} (hf : DataW.trod enc Tryd.prog W base (fun _ => true) true fuel 30 cs = some x) : ∃ v l, cs = [v] ∧ Rd W v l := by
  rcases open_ints Tryd.underlying30 Tryd.underlying5 (by kernel_rfl) hf with ⟨hcs, _⟩ | ⟨x, l, c, zs, hcs, _, hl, hm, hz, _, hcell, hwz⟩
  · exact ⟨_, [], hcs, Rd.nil W⟩
  · refine ⟨_, (zs.take l).map fun z => UInt8.ofNat z.toNat, hcs, ?_⟩
    have hzl : zs.length = c := by simpa using hz
    have hlen : ((zs.take l).map fun z => UInt8.ofNat z.toNat).length = l := by simp; omega
    refine ⟨some x, c, by rw [hlen], by rw [hlen]; exact hl, hm, (fun h => by cases h), fun hne => ?_⟩
    have hpos : 0 < l := by rw [← hlen]; exact List.length_pos_iff.2 hne
    obtain ⟨b, off, spot⟩ := x
    have hspot : spot = none := by
      have := hcell 0 (by omega)
      simpa [Addr.add] using World.cell?_spot this
    subst hspot
    refine ⟨b, off, rfl, fun i hi => ?_⟩
    rw [hlen] at hi
    have hc := hcell i (by omega)
    have hiz : i < zs.length := by omega
    have hb := bounds_u8 (hwz zs[i] (List.getElem_mem hiz))
    have e : u8v (((zs.take l).map fun z => UInt8.ofNat z.toNat).getD i 0) = .int .u8 (zs.getD i 0) := by
      have e1 : ((zs.take l).map fun z => UInt8.ofNat z.toNat).getD i 0 = UInt8.ofNat zs[i].toNat := by
        simp [List.getElem?_take, hi, hiz]
      have e2 : zs.getD i 0 = zs[i] := by simp [hiz]
      have e3 : (UInt8.ofNat zs[i].toNat).toNat = zs[i].toNat := by
        rw [UInt8.toNat_ofNat']; omega
      rw [e1, e2, u8v, e3]
      congr 1
      omega
    rw [e]
    unfold Addr.add at hc
    split at hc
    · rename_i h0; subst h0; simpa using hc
    · exact hc
end
end Go.Proofs.YtcbmmkhbfookjaaDoor
