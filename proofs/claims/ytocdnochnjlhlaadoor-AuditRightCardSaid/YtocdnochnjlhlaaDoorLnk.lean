/-
  The walk of vault.link.
-/
import Derived.Test.YtocdnochnjlhlaaDoorCln
import Derived.Test.YtocdnochnjlhlaaDoorOrdE
import Derived.Test.YtocdnochnjlhlaaDoorShaM
import Derived.Test.YtocdnochnjlhlaaDoorVau
set_option linter.unusedVariables false
set_option linter.unusedSimpArgs false
namespace Go.Con
/-- what a link's bytes are behind k numbers; the sum behind a command and its answer -/
def bufK (l e : List UInt8) (a0 a1 : Int) (k : Nat) : List UInt8 := if k = 0 then l ++ e else if k = 1 then (l ++ e) ++ fourB a0.toNat else ((l ++ e) ++ fourB a0.toNat) ++ fourB a1.toNat
def linkB (l : List UInt8) (c : Cmd) (a : Int × Int) : List UInt8 := Sha.sum (((l ++ encC c) ++ fourB a.1.toNat) ++ fourB a.2.toNat)
end Go.Con
namespace Go.Proofs.YtocdnochnjlhlaaDoor
open Go.RowKit Go.Con
theorem Rd.shapeN' {w : World} {v : Value} {l : List UInt8} (h : Rd w v l) (n : Nat) (hn : l.length = n) (h0 : 0 < n) : ∃ b off c, v = .slice (some ⟨b, off, none⟩) n c ∧ n ≤ c ∧ c ≤ maxLen := by
  subst hn
  obtain ⟨a, c, rfl, h1, h2, _, h3⟩ := h
  obtain ⟨b, off, rfl, _⟩ := h3 (List.length_pos_iff.1 h0)
  exact ⟨b, off, c, rfl, h1, h2⟩
theorem Kn.allocs' {w : World} (h : Kn w) (A B : Obj) : Kn ((w.alloc A).alloc B) :=
  h.stay (((Below.refl w.heap.size w).alloc (Nat.le_refl _) A).alloc (by simp) B)
set_option maxRecDepth 100000 in
set_option maxHeartbeats 1000000 in
theorem link_any (v : Value) (l : List UInt8) (c : Cmd) (a0 a1 : Int) (w : World) (hv : Rd w v l) (hl : l.length = 32) (hc : checkC c = 0) (h00 : 0 ≤ a0) (h10 : 0 ≤ a1) (hk : Kn w) :
    Calls Tryd.prog 12 #[v, cmdV c, .agg #[.int .i64 a0, .int .i64 a1]] w (FreshB w (linkB l c (a0, a1))) := by
  obtain ⟨R, hR⟩ : ∃ R, R = linkB l c (a0, a1) := ⟨_, rfl⟩
  rw [← hR]
  obtain ⟨va, vc, rfl, _, _⟩ := hv.sliceN 32 hl
  obtain ⟨EC, hEC⟩ : ∃ EC, EC = encC c := ⟨_, rfl⟩
  have hEl : EC.length = 20 := by rw [hEC]; rfl
  have hen := fun w => Encode_ok c w hc
  rw [← hEC] at hen
  have hRS : R = Sha.sum (((l ++ EC) ++ fourB a0.toNat) ++ fourB a1.toNat) := by rw [hR, hEC]; rfl
  obtain ⟨k, cl, sq, nm, vl⟩ := c
  unfold cmdV at hen ⊢
  dsimp only at hen ⊢
  have hn4 : ∀ (q : Int), 0 ≤ q → ∀ W : World, Rd (W.alloc (.cells #[.int .u8 (q / 16777216 % 256), .int .u8 (q / 65536 % 256), .int .u8 (q / 256 % 256), .int .u8 (q % 256)] 5)) (.slice (some ⟨W.heap.size, 0, none⟩) 4 4) (fourB q.toNat) := fun q h0 W =>
    newB4 W _ _ _ _ _ _ _ _ (raw24 q h0) (raw16 q h0) (raw8 q h0) (raw0 q h0)
  obtain ⟨vb, vo, hva⟩ : ∃ vb vo, va = some ⟨vb, vo, none⟩ := by
    obtain ⟨b, o, c, he, _, _⟩ := hv.shapeN' 32 hl (by decide)
    injection he with e1 _ _
    exact ⟨b, o, e1⟩
  subst hva
  have HV := Lib.hid hv
  have HL := Lib.hid hl
  have HEN := Lib.hid hen
  have HEL := Lib.hid hEl
  have HRS := Lib.hid hRS
  have HN4 := Lib.hid hn4
  have HK := Lib.hid hk
  have HA0 := Lib.hid h00
  have HA1 := Lib.hid h10
  clear hv hl hen hEl hRS hn4 hk hR hEC hc
  go_enter Tryd.func12, Tryd.ntmps12
  go_wp2_with fail
  generalize hW : World.alloc _ _ = z
  have x1 : z.heap[w.heap.size + 1]? = some (.cells #[.int .i64 a0, .int .i64 a1] 26 (0, 0)) := by rw [← hW]; exact heapNew1 _ _ _
  have yz : Below w.heap.size w z := by rw [← hW]; exact ((Below.refl _ _).alloc (Nat.le_refl _) _).alloc (by simp) _
  have X1 := Lib.hid x1
  have YZ := Lib.hid yz
  clear hW x1 yz
  refine (HEN.out _).mono ?_
  rintro e w1 ⟨ve, rfl, hoe, hb1⟩
  have OE := Lib.hid hoe.rd
  have B1 := Lib.hid (YZ.out.trans (hb1.mono YZ.out.size))
  have X2 := Lib.hid ((hb1.block _ (lt_of_heap X1.out)).trans X1.out)
  have RV1 := Lib.hid (HV.out.stay B1.out)
  clear hoe hb1
  go_wp2_with (first
    | (go_at_call 13; refine (cln_any _ 32 vc l w1 RV1.out HL.out (by decide)).mono ?_; rintro e w2 ⟨vcl, rfl, hoc, hb2⟩; have OC := Lib.hid (hoc.mono B1.out.size); have OCL := Lib.hid hoc.lt; have OE2 := Lib.hid (OE.out.stay hb2); have B2 := Lib.hid (B1.out.trans (hb2.mono B1.out.size)); have X3 := Lib.hid ((hb2.block _ (lt_of_heap X2.out)).trans X2.out); have LT2 := Lib.hid (lt_of_heap X2.out); clear hoc hb2)
    | (at_builtin; refine apB rfl (.tmp 19) (.tmp 20) rfl w.heap.size vcl ve l EC rfl OC.out rfl OE2.out (by rw [HL.out, HEL.out]; decide) B2.out.size ?_; intro v3 w3 ho3 hg3; have O3 := Lib.hid ho3; have B3 := Lib.hid (B2.out.grown hg3 B2.out.size (fun k hk => (OC.out.lt k hk).1)); have y3 : w3.heap[w.heap.size + 1]? = _ := (hg3.block _ (lt_of_heap X3.out) (fun e => by have e1 := (OCL.out _ e.symm).1; have e2 := LT2.out; omega)).trans X3.out; have h0 : w3.cell? ⟨w.heap.size + 1, 0, none⟩ = some (.int .i64 a0) := cellAt y3 0 rfl; have h1 : w3.cell? ⟨w.heap.size + 1, 1, none⟩ = some (.int .i64 a1) := cellAt y3 1 rfl; clear ho3 hg3 y3))
  clear h0 h1
  have hix0 : ∀ W, (Instr.index 62 (.agg #[.int .i64 a0, .int .i64 a1]) (.int .i64 0)).run Tryd.prog W = .ok (.int .i64 a0) W := fun W => by show _ = _; kernel_rfl
  have hix1 : ∀ W, (Instr.index 62 (.agg #[.int .i64 a0, .int .i64 a1]) (.int .i64 1)).run Tryd.prog W = .ok (.int .i64 a1) W := fun W => by show _ = _; kernel_rfl
  go_loopw [7, 27] (fun bv i wr => (∃ k : Nat, k ≤ 2 ∧ i = .int .i64 (if k = 0 then 0 else if k = 1 then 1 else 2) ∧ Hid (Own wr w.heap.size bv (bufK l EC a0 a1 k)) ∧ Hid (Below w.heap.size w wr))) (fun _ i _ => 2 - (intOf i).toNat)
  case atStart => exact ⟨0, by omega, rfl, O3, B3⟩
  case round =>
    obtain ⟨j, hj, hi, OB, BB⟩ := hrel
    have hj3 : j = 0 ∨ j = 1 ∨ j = 2 := by omega
    rcases hj3 with rfl | rfl | rfl
    · have hi2 : u27 = .int .i64 0 := hi
      subst hi2
      clear hi
      have q0 := HA0.out
      go_wp2_with (at_builtin; refine apB rfl (.tmp 30) (.tmp 42) rfl w.heap.size _ _ (l ++ EC) (fourB a0.toNat) rfl (OB.out.alloc _) rfl (HN4.out a0 HA0.out _) (by rw [List.length_append, HL.out, HEL.out]; simp [fourB]) (Nat.le_trans BB.out.size (by simp)) ?_; intro v5 w5 ho5 hg5; have O5 := Lib.hid ho5; have B5 := Lib.hid ((BB.out.alloc BB.out.size _).grown hg5 (Nat.le_trans BB.out.size (by simp)) (fun k hk => (OB.out.lt k hk).1)); clear ho5 hg5)
      go_roundw
      case rel => exact ⟨1, by omega, rfl, O5, B5⟩
      case measure => simp [intOf]
    · have hi2 : u27 = .int .i64 1 := hi
      subst hi2
      clear hi
      have q0 := HA1.out
      go_wp2_with (at_builtin; refine apB rfl (.tmp 30) (.tmp 42) rfl w.heap.size _ _ ((l ++ EC) ++ fourB a0.toNat) (fourB a1.toNat) rfl (OB.out.alloc _) rfl (HN4.out a1 HA1.out _) (by rw [List.length_append, List.length_append, HL.out, HEL.out]; simp [fourB]) (Nat.le_trans BB.out.size (by simp)) ?_; intro v5 w5 ho5 hg5; have O5 := Lib.hid ho5; have B5 := Lib.hid ((BB.out.alloc BB.out.size _).grown hg5 (Nat.le_trans BB.out.size (by simp)) (fun k hk => (OB.out.lt k hk).1)); clear ho5 hg5)
      go_roundw
      case rel => exact ⟨2, by omega, rfl, O5, B5⟩
      case measure => simp [intOf]
    · have hi2 : u27 = .int .i64 2 := hi
      subst hi2
      clear hi
      have hrd : Rd wr u7 (((l ++ EC) ++ fourB a0.toNat) ++ fourB a1.toNat) := OB.out.rd
      have hlen : ((((l ++ EC) ++ fourB a0.toNat) ++ fourB a1.toNat)).length ≤ 2000 := by simp [HL.out, HEL.out, fourB]
      have KR := Lib.hid (HK.out.stay BB.out)
      have HRD := Lib.hid hrd
      have HLEN := Lib.hid hlen
      clear hrd hlen
      go_wp2_with (go_at_call 18; refine (Sum_ok _ _ wr HRD.out HLEN.out KR.out).mono ?_; rintro e w6 ⟨v6, rfl, ho6, hb6⟩; have O6 := Lib.hid (ho6.mono BB.out.size); have B6 := Lib.hid (BB.out.trans (hb6.mono BB.out.size)); clear ho6 hb6)
      go_ret
      exact ⟨_, rfl, by rw [HRS.out]; exact O6.out, B6.out⟩
end Go.Proofs.YtocdnochnjlhlaaDoor
