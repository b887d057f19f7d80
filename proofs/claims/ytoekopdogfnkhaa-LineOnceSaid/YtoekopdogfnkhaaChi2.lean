/-
  A channel in a block of its own, which a loop turns by Send or Take.
-/
import Derived.Test.YtoekopdogfnkhaaSnt
set_option linter.unusedVariables false
set_option linter.unusedSimpArgs false
namespace Go.Proofs.Ytoekopdogfnkhaa
open Go.RowKit Go.Con
/-- a channel lies in block bc -/
structure ChInv (w wr : World) (bc : Nat) (K : List UInt8) (s t : Nat) (f : Nat → Bool) (kg kc : Nat) : Prop where
  chan : wr.heap[bc]? = some (chanC' kg kc s t f)
  key : Rd wr (.slice (some ⟨kg, 0, none⟩) 32 kc) K
  kne : kg ≠ bc
  low : w.heap.size ≤ bc
  below : Below w.heap.size w wr
theorem ChInv.start {w : World} {K : List UInt8} {s t : Nat} {f : Nat → Bool} {kg kc : Nat} (hr : Rd w (.slice (some ⟨kg, 0, none⟩) 32 kc) K) (hk : kg < w.heap.size) : ChInv w (w.alloc (chanC' kg kc s t f)) w.heap.size K s t f kg kc :=
  ⟨heapNew w _, hr.alloc _, by omega, Nat.le_refl _, (Below.refl _ _).alloc (Nat.le_refl _) _⟩
theorem ChInv.turn {w wr wc wz : World} {bc : Nat} {K : List UInt8} {s t s2 t2 : Nat} {f g : Nat → Bool} {kg kc kg2 kc2 : Nat} (H : ChInv w wr bc K s t f kg kc) (hb : Below wr.heap.size wr wc) (hk : Rd wc (.slice (some ⟨kg2, 0, none⟩) 32 kc2) K) (hkg : wr.heap.size ≤ kg2)
    (hz : wc.setCells bc 0 [.slice (some ⟨kg2, 0, none⟩) 32 kc2, .int .i64 s2, .int .i64 t2, .bool (g 0), .bool (g 1), .bool (g 2), .bool (g 3), .bool (g 4), .bool (g 5), .bool (g 6), .bool (g 7)] = wz) : ChInv w wz bc K s2 t2 g kg2 kc2 := by
  have hbl := lt_of_heap H.chan
  have hc := (hb.block bc hbl).trans H.chan
  subst hz
  exact ⟨storedRow hc rfl, hk.setsNe (fun k h => by have e : kg2 = k := Option.some.inj h; omega), by omega, H.low, below_setCells H.low _ _ _ (H.below.trans (hb.mono H.below.size))⟩
theorem ChInv.stay {w wr wc : World} {bc : Nat} {K : List UInt8} {s t : Nat} {f : Nat → Bool} {kg kc : Nat} (H : ChInv w wr bc K s t f kg kc) (hb : Below wr.heap.size wr wc) : ChInv w wc bc K s t f kg kc :=
  ⟨(hb.block bc (lt_of_heap H.chan)).trans H.chan, H.key.stay hb, H.kne, H.low, H.below.trans (hb.mono H.below.size)⟩
/-- a whole load behind a guard -/
theorem wpList_load_gC {P : Program} {ops : Array Oper} {rest : List Oper} {op : Oper} {a : Act} {w : World} {Q : Exit → Act → World → Prop} (hw : Region.wanted op (yielded ops a.tmps) = true) (ty : TypeId) (x : Operand) (ho : op.op = .load ty x)
    (b o : Nat) (hx : a.eval x = .pointer (some ⟨b, o, none⟩)) (cs : List Value) (d : TypeDesc) (hc : w.rangeAt b o cs)
    (hu : P.underlying ty = some d) (hd : d.isRow = true) (hi : (P.info? ty).map (·.size) = some cs.length)
    (h : wpList P ops Q rest (a.put op.dst (.agg cs.toArray)) w) : wpList P ops Q (op :: rest) a w := by
  unfold wpList
  rw [if_pos hw]
  exact .inl (wp_load_mid ty x ho b o hx cs d hc hu hd hi h)
/-- what Take left in block b -/
theorem takeLit (a : Addr) (c : Nat) (rv : Value) (key r p : List UInt8) (s t n T : Nat) (f g : Nat → Bool) (w : World) (h : Hid (SeenOk t f ∧ metB t n f = false ∧ r = recB key n p ∧ p.length ≤ 2000 ∧ n < 1073741824 ∧ s ≤ 1073741824 ∧ t ≤ 1073741824 ∧ key.length = 32)) (hT : Hid (max t (n + 1) = T)) (hg : Hid (withF t n f = g)) (hv : Rd w (.slice (some a) 32 c) key) (hr : Rd w rv r) :
    Calls Try.prog 10 #[.agg #[.slice (some a) 32 c, .int .i64 s, .int .i64 t, .bool (f 0), .bool (f 1), .bool (f 2), .bool (f 3), .bool (f 4), .bool (f 5), .bool (f 6), .bool (f 7)], rv] w fun e w' => ∃ kg kcap pv, e = .returned (.tuple #[.agg #[.slice (some ⟨kg, 0, none⟩) 32 kcap, .int .i64 s, .int .i64 T, .bool (g 0), .bool (g 1), .bool (g 2), .bool (g 3), .bool (g 4), .bool (g 5), .bool (g 6), .bool (g 7)], pv, .int .i64 0]) ∧ Own w' w.heap.size (.slice (some ⟨kg, 0, none⟩) 32 kcap) key ∧ Own w' w.heap.size pv p ∧ Below w.heap.size w w' := by
  obtain ⟨h1, h2, h3, h4, h5, h6, h7, h8⟩ := h
  exact Take_lit a c rv key r p s t n T f g w hv hr h8 h3 h4 h5 h6 h7 h1 h2 hT hg
end Go.Proofs.Ytoekopdogfnkhaa
