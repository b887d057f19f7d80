/-
  Texts put together: Bit, Qt, Wld, Byt, By2.
-/
import Derived.WalkKit
import Derived.StillTail
import Derived.Deep.Quiet
import Derived.Deep.QuietTactic
import Derived.BigQuiet
import Derived.Deep.Draws
import Derived.Test.YtdkbajdnckmckaaRows
import Derived.Laws.AppendOwnNone
import Derived.WalkSpells
import Derived.WalkLawsBesides
import Derived.LoopTactic
import Derived.Lib.Hide
import Derived.Lib.BufferRead
set_option linter.unusedVariables false
set_option linter.unusedSimpArgs false
namespace Go.Con
open Go

theorem ofInt8 (x : UInt8) : BitVec.ofInt 8 (x.toNat : Int) = x.toBitVec := by
  apply BitVec.eq_of_toNat_eq; simp
theorem ofInt32 (x : UInt32) : BitVec.ofInt 32 (x.toNat : Int) = x.toBitVec := by
  apply BitVec.eq_of_toNat_eq; simp
theorem ofInt64 (x : UInt64) : BitVec.ofInt 64 (x.toNat : Int) = x.toBitVec := by
  apply BitVec.eq_of_toNat_eq; simp
theorem wrapb8 (x : BitVec 8) : IntKind.u8.wrap (x.toNat : Int) = x.toNat := by
  have := x.isLt; exact IntWalk.u8_in _ (by omega)
theorem wrapb32 (x : BitVec 32) : IntKind.u32.wrap (x.toNat : Int) = x.toNat := by
  have := x.isLt; exact IntWalk.u32_in _ (by omega)
theorem wrapb64 (x : BitVec 64) : IntKind.u64.wrap (x.toNat : Int) = x.toNat := by
  have := x.isLt; exact IntWalk.u64_in _ (by omega)

theorem u8_xorF (x y : UInt8) : bits .xor .u8 (x.toNat : Int) (y.toNat : Int) = ((x ^^^ y).toNat : Int) := by
  show IntKind.u8.wrap ((BitVec.ofInt 8 (x.toNat : Int) ^^^ BitVec.ofInt 8 (y.toNat : Int)).toNat : Int) = _
  rw [ofInt8, ofInt8, wrapb8]; rfl
theorem u8_orF (x y : UInt8) : bits .or .u8 (x.toNat : Int) (y.toNat : Int) = ((x ||| y).toNat : Int) := by
  show IntKind.u8.wrap ((BitVec.ofInt 8 (x.toNat : Int) ||| BitVec.ofInt 8 (y.toNat : Int)).toNat : Int) = _
  rw [ofInt8, ofInt8, wrapb8]; rfl
theorem u8_andF (x y : UInt8) : bits .and .u8 (x.toNat : Int) (y.toNat : Int) = ((x &&& y).toNat : Int) := by
  show IntKind.u8.wrap ((BitVec.ofInt 8 (x.toNat : Int) &&& BitVec.ofInt 8 (y.toNat : Int)).toNat : Int) = _
  rw [ofInt8, ofInt8, wrapb8]; rfl
theorem u32_xorF (x y : UInt32) : bits .xor .u32 (x.toNat : Int) (y.toNat : Int) = ((x ^^^ y).toNat : Int) := by
  show IntKind.u32.wrap ((BitVec.ofInt 32 (x.toNat : Int) ^^^ BitVec.ofInt 32 (y.toNat : Int)).toNat : Int) = _
  rw [ofInt32, ofInt32, wrapb32]; rfl
theorem u32_orF (x y : UInt32) : bits .or .u32 (x.toNat : Int) (y.toNat : Int) = ((x ||| y).toNat : Int) := by
  show IntKind.u32.wrap ((BitVec.ofInt 32 (x.toNat : Int) ||| BitVec.ofInt 32 (y.toNat : Int)).toNat : Int) = _
  rw [ofInt32, ofInt32, wrapb32]; rfl
theorem u32_andF (x y : UInt32) : bits .and .u32 (x.toNat : Int) (y.toNat : Int) = ((x &&& y).toNat : Int) := by
  show IntKind.u32.wrap ((BitVec.ofInt 32 (x.toNat : Int) &&& BitVec.ofInt 32 (y.toNat : Int)).toNat : Int) = _
  rw [ofInt32, ofInt32, wrapb32]; rfl
theorem u32_notF (x : UInt32) : bits .xor .u32 4294967295 (x.toNat : Int) = ((~~~x).toNat : Int) := by
  show IntKind.u32.wrap ((BitVec.ofInt 32 4294967295 ^^^ BitVec.ofInt 32 (x.toNat : Int)).toNat : Int) = _
  rw [ofInt32, wrapb32]
  have : (BitVec.ofInt 32 4294967295 ^^^ x.toBitVec) = ~~~x.toBitVec := by
    have h : BitVec.ofInt 32 4294967295 = BitVec.allOnes 32 := by decide
    rw [h, BitVec.allOnes_xor]
  rw [this]; rfl
theorem u32_addF (x y : UInt32) : IntKind.u32.wrap ((x.toNat : Int) + (y.toNat : Int)) = ((x + y).toNat : Int) := by
  rw [IntKind.wrap_u32', UInt32.toNat_add]; omega
theorem u32_shlF (x : UInt32) (n : Nat) : IntKind.u32.wrap ((x.toNat : Int) * 2 ^ n) = (((x.toNat <<< n) % 4294967296 : Nat) : Int) := by
  rw [IntKind.wrap_u32', Nat.shiftLeft_eq]
  have : ((x.toNat : Int) * 2 ^ n) = ((x.toNat * 2 ^ n : Nat) : Int) := by simp
  rw [this]; omega

theorem shl32 (x : UInt32) (n : Nat) (m : UInt32) (p : Int) (hn : n < 32) (hm : m.toNat = n) (hp : p = ((2 ^ n : Nat) : Int)) : (x.toNat : Int) * p % 4294967296 = ((x <<< m).toNat : Int) := by
  subst hp
  rw [UInt32.toNat_shiftLeft, hm, Nat.mod_eq_of_lt hn, Nat.shiftLeft_eq]
  rw [show ((x.toNat : Int) * ((2 ^ n : Nat) : Int)) = ((x.toNat * 2 ^ n : Nat) : Int) by simp]
  omega
theorem shr32 (x : UInt32) (n : Nat) (m : UInt32) (p : Int) (hn : n < 32) (hm : m.toNat = n) (hp : p = ((2 ^ n : Nat) : Int)) : (x.toNat : Int) / p = ((x >>> m).toNat : Int) := by
  subst hp
  rw [UInt32.toNat_shiftRight, hm, Nat.mod_eq_of_lt hn, Nat.shiftRight_eq_div_pow]
  simp
theorem up32 (b : UInt8) : (b.toNat : Int) % 4294967296 = (b.toUInt32.toNat : Int) := by
  have := b.toNat_lt; rw [UInt8.toNat_toUInt32]; omega
/-- four bytes as a word, the highest one first, as the walk has it -/
theorem word_raw (x0 x1 x2 x3 : UInt8) :
    bits .or .u32 (bits .or .u32 (bits .or .u32 ((x0.toNat : Int) % 4294967296 * 16777216 % 4294967296) ((x1.toNat : Int) % 4294967296 * 65536 % 4294967296)) ((x2.toNat : Int) % 4294967296 * 256 % 4294967296)) ((x3.toNat : Int) % 4294967296)
      = ((x0.toUInt32 <<< 24 ||| x1.toUInt32 <<< 16 ||| x2.toUInt32 <<< 8 ||| x3.toUInt32).toNat : Int) := by
  rw [up32, up32, up32, up32, shl32 _ 24 24 16777216 (by decide) rfl (by decide), shl32 _ 16 16 65536 (by decide) rfl (by decide), shl32 _ 8 8 256 (by decide) rfl (by decide), u32_orF, u32_orF, u32_orF]
end Go.Con

set_option linter.unusedVariables false
set_option linter.unusedSimpArgs false
namespace Go.Con
open Go
section
variable {P : Program} {ops : Array Oper} {md : Region.Mode} {C : World → Prop}

/-- Whatever order is picked for the first n operations, each quiet; behind them L. -/
def anyHead (P : Program) (md : Region.Mode) (ops : Array Oper) (C : World → Prop) (n : Nat) (L : Array Bool → Act → Prop) : Nat → Array Bool → Act → Prop
  | 0, listed, a => L listed a
  | f + 1, listed, a =>
    Region.ready md ops listed ≠ [] ∧ ∀ i ∈ Region.ready md ops listed, i < n ∧ qOp P ops C i (anyHead P md ops C n L f (listed.setIfInBounds i true)) a

theorem any_of_head {n g : Nat} {L : Array Bool → Act → Prop} {Q : Exit → Act → World → Prop} (hL : ∀ listed a w, C w → L listed a → wpAny P md ops Q g listed a w) :
    ∀ (f : Nat) (listed : Array Bool) (a : Act) (w : World), C w → anyHead P md ops C n L f listed a → wpAny P md ops Q (f + g) listed a w
  | 0, listed, a, w, hw, h => by rw [Nat.zero_add]; exact hL _ _ _ hw h
  | f + 1, listed, a, w, hw, h => by
    rw [show f + 1 + g = (f + g) + 1 by omega]
    exact ⟨fun h0 => absurd h0 h.1, fun i hi => wpOp_of_qOp hw (fun a' w' hw' h' => any_of_head hL f _ a' w' hw' h') (h.2 i hi).2⟩

theorem anyHead_first {n i : Nat} {oi : Oper} {v : Value} {L : Array Bool → Act → Prop} (hi : ops[i]? = some oi) (hsel : ∀ (j : Nat) (o : Oper) cs b, ops[j]? = some o → o.op ≠ .select cs b)
    (hs : Region.sinkB md ops n = true) (hc : Region.chainB md ops n = true) (hn : n < ops.size) (hin : i < n)
    (hdone : ∀ listed a, L listed a → ∀ j ∈ Region.ready md ops listed, n ≤ j) :
    ∀ (f : Nat) (listed : Array Bool) (a : Act), HeadInv md ops n listed →
      (∀ j oj, ops[j]? = some oj → j ≠ i → listed.getD j true = false → (∀ e ∈ oj.after, Region.binds md e = true → e.on ≠ i) → oi.apart ops oj = true) →
      i ∈ Region.ready md ops listed → YieldsIn P ops C oi v a →
      anyHead P md ops C n L f (listed.setIfInBounds i true) (a.put oi.dst v) → anyHead P md ops C n L (f + 1) listed a := by
  intro f
  induction f with
  | zero =>
    intro listed a inv _ hr hy H
    have hun := (mem_ready.1 hr).1
    refine ⟨fun h => (by rw [h] at hr; cases hr), fun j hj => ?_⟩
    have hjn : j < n := by
      rcases Nat.lt_or_ge j n with h | h
      · exact h
      · exact absurd hj (tail_waits hs hc hn inv _ i rfl hin hun j h)
    refine ⟨hjn, ?_⟩
    by_cases hji : j = i
    · subst hji; exact hy.qOp hi H
    · have := hdone _ _ H j (ready_mono hj hji)
      omega
  | succ f ih =>
    intro listed a inv hfree hr hy H
    have hun := (mem_ready.1 hr).1
    refine ⟨fun h => (by rw [h] at hr; cases hr), fun j hj => ?_⟩
    have hjn : j < n := by
      rcases Nat.lt_or_ge j n with h | h
      · exact h
      · exact absurd hj (tail_waits hs hc hn inv _ i rfl hin hun j h)
    refine ⟨hjn, ?_⟩
    by_cases hji : j = i
    · subst hji; exact hy.qOp hi H
    · have h1 := (H.2 j (ready_mono hj hji)).2
      obtain ⟨hjun, oj, hoj, hall⟩ := mem_ready.1 hj
      have hnot : ∀ e ∈ oj.after, Region.binds md e = true → e.on ≠ i := fun e he hb heq => by
        have h1 := hall e he hb
        rw [heq, getD_both hun] at h1
        cases h1
      have h2 := qOp_put hoj (hfree j oj hoj hji hjun hnot) (fun cs b => hsel i oi cs b hi) (fun cs b => hsel j oj cs b hoj) hy h1
      have hfree' : ∀ k ok, ops[k]? = some ok → k ≠ i → (listed.setIfInBounds j true).getD k true = false →
          (∀ e ∈ ok.after, Region.binds md e = true → e.on ≠ i) → oi.apart ops ok = true := fun k ok hk hki hun hno => by
        refine hfree k ok hk hki ?_ hno
        by_cases hjk : j = k
        · subst hjk; exact hjun
        · rw [getD_set_ne true hjk] at hun; exact hun
      refine qOp_mono (fun a' h3 => ih (listed.setIfInBounds j true) a' (inv.set hj hjn) hfree' (ready_mono hr (Ne.symm hji)) h3.1 ?_) h2
      rw [Array.setIfInBounds_comm _ _ hji]
      exact h3.2

theorem anyHead_lex {n g : Nat} {Lq : Act → Prop} (hsel : Region.noSelect ops = true) (hs : Region.sinkB md ops n = true) (hc : Region.chainB md ops n = true) (hn : n < ops.size) :
    ∀ (l : List Oper) (k : Nat) (listed : Array Bool) (a : Act), (∀ j, j < l.length → l[j]? = ops[k + j]?) → k + l.length = n → HeadInv md ops n listed →
    Region.lexHead md ops g l.length k listed = true → wpQuiet P ops C Lq l a →
    anyHead P md ops C n (fun listed' a' => Region.seqB md ops g n listed' = true ∧ Lq a') l.length listed a
  | [], k, listed, a, _, hk, _, hB, h => by
    have : k = n := by simpa using hk
    subst this
    exact ⟨by simpa [Region.lexHead] using hB, h⟩
  | o :: l, k, listed, a, hl, hk, inv, hB, h => by
    have h0 : ops[k]? = some o := by simpa using (hl 0 (by simp)).symm
    simp only [List.length_cons, Region.lexHead, Bool.and_eq_true] at hB
    obtain ⟨⟨hr, hf⟩, hB'⟩ := hB
    have hkn : k < n := by simp only [List.length_cons] at hk; omega
    have hr' : k ∈ Region.ready md ops listed := by simpa using hr
    have hst : qOp P ops C k (wpQuiet P ops C Lq l) a := by unfold qOp; simp only [h0]; exact h
    obtain ⟨v, hy, hK⟩ := yieldsIn_of_qOp h0 hst
    exact anyHead_first h0 (Region.noSelect_spec hsel) hs hc hn hkn (fun listed' a' hL => seqB_ready hL.1) l.length listed a inv (Region.free_spec h0 hf) hr' hy
      (anyHead_lex hsel hs hc hn l (k + 1) _ _ (fun j hj => by have := hl (j + 1) (by simp; omega); simpa [Nat.add_assoc, Nat.add_comm 1 j] using this) (by simp only [List.length_cons] at hk; omega) (inv.set hr' hkn) hB' hK)

/-- One walk in the text's order: the head quiet in the class, the tail as it stands, in every world of the class. -/
theorem region_quiet_tail_in {id : Nat} {Q : Exit → Act → World → Prop} {a : Act} {w : World} {l : List Oper} (n : Nat) (hm : P.follows .mixedOrders = true) (hB : Region.lexTailB .any l.toArray n = true)
    (hC : C { w with drawn := w.drawn + 1 })
    (h : wpQuiet P l.toArray C (fun a' => ∀ w', C w' → wpList P l.toArray Q (l.drop n) a' w') (l.take n) a) : (Code.region id l.toArray true).wp P Q a w := by
  simp only [Region.lexTailB, Bool.and_eq_true, decide_eq_true_eq] at hB
  obtain ⟨⟨⟨⟨hsel, hn⟩, hs⟩, hc⟩, hlex⟩ := hB
  have hn' : n < l.length := by simpa using hn
  have htl : (l.take n).length = n := by simp; omega
  have hdl : (l.drop n).length = l.toArray.size - n := by simp
  have inv0 : HeadInv .any l.toArray n (Array.replicate l.toArray.size false) :=
    ⟨by simp, fun j oj _ hl => (by rw [getD_replicate_false] at hl; cases hl), fun t _ ht => getD_in (by simpa using ht) (getD_replicate_false _ _)⟩
  have H := anyHead_lex (md := .any) (g := l.toArray.size - n) hsel hs hc hn (l.take n) 0 _ a (fun j hj => by
    have hj' : j < n := by rw [htl] at hj; exact hj
    simp [hj']) (by simpa using htl) inv0 (by rw [htl]; exact hlex) h
  refine wp_region_any hm ?_
  have := any_of_head (Q := Q) (g := l.toArray.size - n) (fun listed a' w' hw' hL => by
    have := wpAny_of_seq (md := .any) (Q' := Q) (l.drop n) n listed a' w' (fun j => by simp [List.getElem?_drop]) (by rw [hdl]; exact hL.1) (hL.2 w' hw')
    rwa [hdl] at this) _ _ _ _ hC H
  rw [htl, show n + (l.toArray.size - n) = l.toArray.size by omega] at this
  exact this

/-- The same at the class 'w behind some draws'. -/
theorem region_quiet_tail {id : Nat} {Q : Exit → Act → World → Prop} {a : Act} {w : World} {l : List Oper} (n : Nat) (hm : P.follows .mixedOrders = true) (hB : Region.lexTailB .any l.toArray n = true)
    (h : wpQuiet P l.toArray (fun w' => ∃ n, w' = w.drewN n) (fun a' => ∀ w', (∃ n, w' = w.drewN n) → wpList P l.toArray Q (l.drop n) a' w') (l.take n) a) : (Code.region id l.toArray true).wp P Q a w :=
  region_quiet_tail_in n hm hB ⟨1, rfl⟩ h
end
/-- A callee's contract behind an earlier region's draws. -/
theorem quiet_of2 {P : Program} {f : FuncId} {args : Array Value} {w : World} {n0 n : Nat} {v : Value}
    (h : Calls P f args (w.drewN (n0 + n)) fun e w' => e = .returned v ∧ ∃ m, w' = (w.drewN (n0 + n)).drewN m) : Calls P f args (w.drewN (n0 + n)) fun e w'' => e = .returned v ∧ ∃ m, w'' = w.drewN (n0 + m) :=
  h.mono fun _ _ ⟨he, m, hm⟩ => ⟨he, n + m, by rw [hm, World.drewN_drewN, Nat.add_assoc]⟩
theorem quiet_of2_same {P : Program} {f : FuncId} {args : Array Value} {w : World} {n0 n : Nat} {v : Value}
    (h : Calls P f args (w.drewN (n0 + n)) fun e w' => e = .returned v ∧ w' = w.drewN (n0 + n)) : Calls P f args (w.drewN (n0 + n)) fun e w'' => e = .returned v ∧ ∃ m, w'' = w.drewN (n0 + m) :=
  h.mono fun _ _ ⟨he, hm⟩ => ⟨he, n, hm⟩
end Go.Con

set_option linter.unusedVariables false
set_option linter.unusedSimpArgs false
namespace Go.Con
open Go Go.RowKit

/-- Below block number B, but for the blocks in S, the world w is as a was. -/
structure Kept (B : Nat) (S : Nat → Prop) (a w : World) : Prop where
  os : w.os = a.os
  tape : w.tape = a.tape
  output : w.output = a.output
  size : a.heap.size ≤ w.heap.size
  block : ∀ k, k < B → ¬ S k → w.heap[k]? = a.heap[k]?

theorem Kept.refl (B : Nat) (S : Nat → Prop) (w : World) : Kept B S w w := ⟨rfl, rfl, rfl, Nat.le_refl _, fun _ _ _ => rfl⟩
theorem Kept.trans {B : Nat} {S : Nat → Prop} {a b c : World} (h : Kept B S a b) (k : Kept B S b c) : Kept B S a c :=
  ⟨k.os.trans h.os, k.tape.trans h.tape, k.output.trans h.output, Nat.le_trans h.size k.size, fun i hi hs => (k.block i hi hs).trans (h.block i hi hs)⟩
theorem Kept.mono {B B' : Nat} {S S' : Nat → Prop} {a w : World} (h : Kept B S a w) (hB : B' ≤ B) (hS : ∀ k, k < B' → S k → S' k) : Kept B' S' a w :=
  ⟨h.os, h.tape, h.output, h.size, fun k hk hs => h.block k (by omega) (fun h' => hs (hS k hk h'))⟩
theorem Kept.drewN {B : Nat} {S : Nat → Prop} {a w : World} (h : Kept B S a w) (n : Nat) : Kept B S a (w.drewN n) := ⟨h.os, h.tape, h.output, h.size, h.block⟩
theorem Kept.drew {B : Nat} {S : Nat → Prop} {a w : World} (h : Kept B S a w) : Kept B S a w.drew := ⟨h.os, h.tape, h.output, h.size, h.block⟩
theorem Kept.alloc {B : Nat} {S : Nat → Prop} {a w : World} (h : Kept B S a w) (hB : B ≤ w.heap.size) (o : Obj) : Kept B S a (w.alloc o) :=
  h.trans ⟨rfl, rfl, rfl, by simp, fun k hk _ => Below.heap_alloc _ _ _ (by omega)⟩
theorem Kept.setCell {B : Nat} {S : Nat → Prop} {a w : World} (h : Kept B S a w) {p : Addr} (hp : B ≤ p.block ∨ S p.block) (u : Value) : Kept B S a (w.setCell p u) :=
  h.trans ⟨rfl, rfl, rfl, by simp [World.setCell], fun k hk hs => Below.heap_setCell _ _ _ _ (fun e => by
    subst e; exact hp.elim (by omega) hs)⟩
theorem Kept.below {B : Nat} {S : Nat → Prop} {a w : World} (h : Kept B S a w) (hS : ∀ k, k < B → ¬ S k) : Below B a w :=
  ⟨h.os, h.tape, h.output, h.size, fun k hk => h.block k hk (hS k hk)⟩
theorem Kept.of_below {B : Nat} {S : Nat → Prop} {a w : World} (h : Below B a w) : Kept B S a w :=
  ⟨h.os, h.tape, h.output, h.size, fun k hk _ => h.block k hk⟩
theorem Kept.of_grown {B : Nat} {S : Nat → Prop} {a w : World} {row : Option Nat} (h : a.grownBy w row) (hB : B ≤ a.heap.size) (hr : ∀ k, row = some k → B ≤ k ∨ S k) : Kept B S a w :=
  ⟨h.os, h.tape, h.output, h.size, fun k hk hs => h.block k (by omega) (fun e => by
    rcases hr k e.symm with h | h
    · omega
    · exact hs h)⟩
theorem Kept.cell {B : Nat} {S : Nat → Prop} {a w : World} (h : Kept B S a w) {p : Addr} (hp : p.block < B) (hs : ¬ S p.block) : w.cell? p = a.cell? p := World.cell?_of_block (w := a) (h.block p.block hp hs)

theorem below_drewN {B : Nat} {a w : World} (h : Below B a w) (n : Nat) : Below B a (w.drewN n) := ⟨h.os, h.tape, h.output, h.size, h.block⟩

/-! ### A block that is known whole -/
theorem cellAt {w : World} {b : Nat} {c : Array Value} {e : TypeId} {f : Nat × Nat} (h : w.heap[b]? = some (.cells c e f)) (o : Nat) {v : Value} (hv : c[o]? = some v) : w.cell? ⟨b, o, none⟩ = some v := by
  simp [World.cell?, h, hv]
theorem freeAt {w : World} {b : Nat} {c : Array Value} {e : TypeId} (h : w.heap[b]? = some (.cells c e (0, 0))) (o : Nat) : w.frozen? ⟨b, o, none⟩ = false := by
  simp [World.frozen?, h]
theorem heapSet {w : World} {b o : Nat} {c : Array Value} {e : TypeId} {f : Nat × Nat} (h : w.heap[b]? = some (.cells c e f)) (v : Value) :
    (w.setCell ⟨b, o, none⟩ v).heap[b]? = some (.cells (c.setIfInBounds o v) e f) := by
  simp [World.setCell, Array.getElem?_modify, h]
theorem heapSet_ne {w : World} {b k : Nat} (o : Nat) (v : Value) (hk : k ≠ b) : (w.setCell ⟨b, o, none⟩ v).heap[k]? = w.heap[k]? :=
  Below.heap_setCell _ _ _ _ hk
theorem heapNew (w : World) (o : Obj) : (w.alloc o).heap[w.heap.size]? = some o := heap_alloc_new w o
theorem heapOld (w : World) (o : Obj) (k : Nat) (h : k < w.heap.size) : (w.alloc o).heap[k]? = w.heap[k]? := heap_alloc_old w o h
theorem heapNew1 (w : World) (A B : Obj) : ((w.alloc A).alloc B).heap[w.heap.size + 1]? = some B := by
  have e : (w.alloc A).heap.size = w.heap.size + 1 := by simp
  rw [← e]; exact heapNew _ _
theorem heapNew0 (w : World) (A B : Obj) : ((w.alloc A).alloc B).heap[w.heap.size]? = some A := by
  rw [heapOld _ _ _ (by simp)]; exact heapNew _ _
theorem lt_of_heap {w : World} {b : Nat} {o : Obj} (h : w.heap[b]? = some o) : b < w.heap.size := (Array.getElem?_eq_some_iff.1 h).1

/-- A cell of a block known whole, by getD. -/
theorem cellD {w : World} {b : Nat} {c : Array Value} {e : TypeId} {f : Nat × Nat} (h : w.heap[b]? = some (.cells c e f)) (o : Nat) (ho : o < c.size) : w.cell? ⟨b, o, none⟩ = some (c.getD o undef) :=
  cellAt h o (by simp [ho])
/-- One more cell of a row is filled. -/
theorem fillOne {w : World} {b k n : Nat} {c : Array Value} {e : TypeId} (nq : Nat) {g : Nat → Value} {v : Value} (h : w.heap[b]? = some (.cells c e (0, 0))) (hs : c.size = n) (hk : k < n)
    (hold : ∀ j, j < k → c[j]? = some (g j)) (hv : v = g k) :
    ∃ c', ((w.drewN nq).setCell ⟨b, k, none⟩ v).heap[b]? = some (.cells c' e (0, 0)) ∧ c'.size = n ∧ ∀ j, j < k + 1 → c'[j]? = some (g j) := by
  refine ⟨c.setIfInBounds k v, heapSet (w := w.drewN nq) h v, by simp [hs], fun j hj => ?_⟩
  by_cases hjk : j = k
  · subst hjk; subst hv; simp [hs, hk]
  · rw [Array.getElem?_setIfInBounds, if_neg (by omega)]; exact hold j (by omega)

theorem set8 {w : World} {b : Nat} {c0 c1 c2 c3 c4 c5 c6 c7 : Value} {e : TypeId} (h : w.heap[b]? = some (.cells #[c0, c1, c2, c3, c4, c5, c6, c7] e (0, 0))) (v0 v1 v2 v3 v4 v5 v6 v7 : Value) :
    ((((((((w.setCell ⟨b, 0, none⟩ v0).setCell ⟨b, 1, none⟩ v1).setCell ⟨b, 2, none⟩ v2).setCell ⟨b, 3, none⟩ v3).setCell ⟨b, 4, none⟩ v4).setCell ⟨b, 5, none⟩ v5).setCell ⟨b, 6, none⟩ v6).setCell ⟨b, 7, none⟩ v7).heap[b]? = some (.cells #[v0, v1, v2, v3, v4, v5, v6, v7] e (0, 0)) :=
  by
  have h1 := heapSet (o := 0) h v0
  have h2 := heapSet (o := 1) h1 v1
  have h3 := heapSet (o := 2) h2 v2
  have h4 := heapSet (o := 3) h3 v3
  have h5 := heapSet (o := 4) h4 v4
  have h6 := heapSet (o := 5) h5 v5
  have h7 := heapSet (o := 6) h6 v6
  have h8 := heapSet (o := 7) h7 v7
  rw [h8]
  simp
theorem arr8 {cur : Array Value} {g : Nat → Value} (hs : cur.size = 8) (h : ∀ j, j < 8 → cur[j]? = some (g j)) : cur = #[g 0, g 1, g 2, g 3, g 4, g 5, g 6, g 7] := by
  apply Array.ext (by simpa using hs)
  intro i h1 h2
  have hi : i < 8 := by omega
  have := h i hi
  rw [Array.getElem?_eq_getElem h1] at this
  rw [Option.some.inj this]
  match i, hi with
  | 0, _ => rfl
  | 1, _ => rfl
  | 2, _ => rfl
  | 3, _ => rfl
  | 4, _ => rfl
  | 5, _ => rfl
  | 6, _ => rfl
  | 7, _ => rfl
/-- One cell of a row is turned. -/
theorem turnOne {w : World} {b k n : Nat} {c : Array Value} {e : TypeId} (nq : Nat) {g g' : Nat → Value} {v : Value} (h : w.heap[b]? = some (.cells c e (0, 0))) (hs : c.size = n) (hk : k < n)
    (hold : ∀ j, j < n → c[j]? = some (g j)) (hv : v = g' k) (hg : ∀ j, j < n → j ≠ k → g' j = g j) :
    ∃ c', ((w.drewN nq).setCell ⟨b, k, none⟩ v).heap[b]? = some (.cells c' e (0, 0)) ∧ c'.size = n ∧ ∀ j, j < n → c'[j]? = some (g' j) := by
  refine ⟨c.setIfInBounds k v, heapSet (w := w.drewN nq) h v, by simp [hs], fun j hj => ?_⟩
  by_cases hjk : j = k
  · subst hjk; subst hv; simp [hs, hk]
  · rw [Array.getElem?_setIfInBounds, if_neg (by omega), hold j hj, hg j hj hjk]

/-- A byte as a value. -/
def u8v (b : UInt8) : Value := .int .u8 b.toNat
/-- The length of a slice value. -/
def lenV : Value → Nat | .slice _ n _ => n | _ => 0
end Go.Con

set_option linter.unusedVariables false
set_option linter.unusedSimpArgs false
namespace Go.Proofs.Ytdkbajdnckmckaa
open Go.RowKit Go.Con


/-- The slice value v shows the bytes l. -/
def Rd (w : World) (v : Value) (l : List UInt8) : Prop :=
  ∃ a c, v = .slice a l.length c ∧ l.length ≤ c ∧ c ≤ maxLen ∧ (a = none → c = 0) ∧ (l ≠ [] → ∃ b off, a = some ⟨b, off, none⟩ ∧ ∀ i, i < l.length → w.cell? ⟨b, off + i, none⟩ = some (u8v (l.getD i 0)))

/-- The slice value v is a row of the call's own, which holds the bytes l. -/
def Own (w : World) (base : Nat) (v : Value) (l : List UInt8) : Prop := w.ownsRow base 5 1 v l.length (l.map u8v)

theorem Try.info8 : (Try.prog.info? 5).map (fun i => (i.zero, i.size, i.bytes)) = some (some (.int .u8 0), 1, 1) := by kernel_rfl

theorem one8 (l : List UInt8) : ∀ u ∈ l.map u8v, u.oneCell' = true := by
  intro u hu
  obtain ⟨b, _, rfl⟩ := List.mem_map.1 hu
  rfl

theorem map_getD (l : List UInt8) (j : Nat) (u : Value) (h : (l.map u8v)[j]? = some u) : j < l.length ∧ u = u8v (l.getD j 0) := by
  rw [List.getElem?_map] at h
  obtain ⟨b, hb, rfl⟩ := Option.map_eq_some_iff.1 h
  obtain ⟨hj, rfl⟩ := List.getElem?_eq_some_iff.1 hb
  exact ⟨hj, by simp [hj]⟩

theorem Rd.cells {w : World} {a : Option Addr} {n c : Nat} {l : List UInt8} (h : Rd w (.slice a n c) l) (ad : Addr) (ha : a = some ad) : ∀ j u, (l.map u8v)[j]? = some u → w.cell? (ad.add j) = some u := by
  obtain ⟨a', c', he, _, _, _, hc⟩ := h
  injection he with h1 h2 h3
  subst h1
  intro j u hju
  obtain ⟨hj, rfl⟩ := map_getD l j u hju
  obtain ⟨b, off, hb, hcell⟩ := hc (by intro h0; subst h0; simp at hj)
  rw [ha] at hb
  injection hb with hb
  subst hb
  have := hcell j hj
  unfold Addr.add
  split
  · rename_i h0; subst h0; simpa using this
  · exact this

theorem Rd.none_nil {w : World} {n c : Nat} {l : List UInt8} (h : Rd w (.slice none n c) l) : l = [] ∧ n = 0 ∧ c = 0 := by
  obtain ⟨a', c', he, _, _, h0, hc⟩ := h
  injection he with h1 h2 h3
  subst h1 h2 h3
  have hl : l = [] := by
    by_cases hl : l = []
    · exact hl
    · obtain ⟨_, _, h1, _⟩ := hc hl
      cases h1
  subst hl
  exact ⟨rfl, rfl, h0 rfl⟩

theorem Rd.nil (w : World) : Rd w (.slice none 0 0) [] := ⟨none, 0, rfl, Nat.le_refl _, Nat.zero_le _, fun _ => rfl, fun h => absurd rfl h⟩

/-- What is owned is shown. -/
theorem Own.rd {w : World} {base : Nat} {v : Value} {l : List UInt8} (h : Own w base v l) : Rd w v l := by
  obtain ⟨hl, h2⟩ := h
  rcases h2 with ⟨rfl, hn⟩ | ⟨g, cap, cur, rfl, hb, hg, hnc, hcm, hcs, htake⟩
  · have : l = [] := List.eq_nil_of_length_eq_zero hn
    subst this
    exact Rd.nil w
  · refine ⟨some ⟨g, 0, none⟩, cap, rfl, hnc, hcm, (fun h => by cases h), fun _ => ⟨g, 0, rfl, fun i hi => ?_⟩⟩
    have : (cur.toList.take (l.length * 1))[i]? = some (u8v (l.getD i 0)) := by rw [htake]; simp [hi]
    rw [List.getElem?_take] at this
    split at this
    · rw [Nat.zero_add]
      refine cellAt hg i (by simpa using this)
    · cases this

/-- Its shape. -/
theorem Own.shape {w : World} {base : Nat} {v : Value} {l : List UInt8} (h : Own w base v l) (hl : l ≠ []) : ∃ g cap, v = .slice (some ⟨g, 0, none⟩) l.length cap ∧ base ≤ g ∧ g < w.heap.size ∧ l.length ≤ cap ∧ cap ≤ maxLen := by
  obtain ⟨_, h2⟩ := h
  rcases h2 with ⟨rfl, hn⟩ | ⟨g, cap, cur, rfl, hb, hg, hnc, hcm, hcs, htake⟩
  · exact absurd (List.eq_nil_of_length_eq_zero hn) hl
  · exact ⟨g, cap, rfl, hb, lt_of_heap hg, hnc, hcm⟩

theorem Own.nil (w : World) (base : Nat) : Own w base (.slice none 0 0) [] := World.ownsRow_nil w base _ _
theorem Own.mono {w : World} {base base' : Nat} {v : Value} {l : List UInt8} (h : Own w base v l) (hb : base' ≤ base) : Own w base' v l := by
  obtain ⟨h1, h2⟩ := h
  refine ⟨h1, ?_⟩
  rcases h2 with h2 | ⟨g, cap, cur, hv, hg, r⟩
  · exact .inl h2
  · exact .inr ⟨g, cap, cur, hv, by omega, r⟩
theorem Own.alloc {w : World} {base : Nat} {v : Value} {l : List UInt8} (h : Own w base v l) (o : Obj) : Own (w.alloc o) base v l := World.ownsRow.alloc h o
theorem Own.kept {w w' : World} {base : Nat} {v : Value} {l : List UInt8} {row : Option Nat} (h : Own w base v l) (hg : w.grownBy w' row) (hne : ∀ k, row = some k → v.ownBlock ≠ some k) : Own w' base v l := by
  refine World.ownsRow.kept h hg ?_
  cases hv : v.ownBlock with
  | none => exact .inl rfl
  | some k =>
    refine .inr fun e => ?_
    exact hne k e.symm hv
/-- Owned below B, it stays while the world is turned from B on alone. -/
theorem Own.below {w w' : World} {base B : Nat} {v : Value} {l : List UInt8} (h : Own w base v l) (hb : Below B w w') (hB : ∀ k, v.ownBlock = some k → k < B) : Own w' base v l := by
  obtain ⟨h1, h2⟩ := h
  refine ⟨h1, ?_⟩
  rcases h2 with h2 | ⟨g, cap, cur, rfl, hg, hh, r⟩
  · exact .inl h2
  · exact .inr ⟨g, cap, cur, rfl, hg, by rw [hb.block g (hB g rfl)]; exact hh, r⟩
theorem Own.lt {w : World} {base : Nat} {v : Value} {l : List UInt8} (h : Own w base v l) : ∀ k, v.ownBlock = some k → base ≤ k ∧ k < w.heap.size := World.ownsRow.lt h

/-- What is shown out of blocks that are there stays while nothing below is turned. -/
theorem Rd.below {w w' : World} {B : Nat} {v : Value} {l : List UInt8} (h : Rd w v l) (hb : Below B w w') (hB : ∀ k, v.ownBlock = some k → l ≠ [] → k < B) : Rd w' v l := by
  obtain ⟨a, c, rfl, h1, h2, h0, h3⟩ := h
  refine ⟨a, c, rfl, h1, h2, h0, fun hl => ?_⟩
  obtain ⟨b, off, rfl, hc⟩ := h3 hl
  exact ⟨b, off, rfl, fun i hi => by rw [hb.cell (p := ⟨b, off + i, none⟩) (hB b rfl hl)]; exact hc i hi⟩
theorem Rd.lt {w : World} {v : Value} {l : List UInt8} (h : Rd w v l) : ∀ k, v.ownBlock = some k → l ≠ [] → k < w.heap.size := by
  obtain ⟨a, c, rfl, h1, h2, h0, h3⟩ := h
  intro k hk hl
  obtain ⟨b, off, rfl, hc⟩ := h3 hl
  simp [Value.ownBlock] at hk
  subst hk
  have : 0 < l.length := List.length_pos_iff.2 hl
  exact World.block_lt_of_cell? w _ (hc 0 this)
theorem Rd.kept {w w' : World} {v : Value} {l : List UInt8} {row : Option Nat} (h : Rd w v l) (hg : w.grownBy w' row) (hne : ∀ k, row = some k → v.ownBlock ≠ some k) : Rd w' v l := by
  obtain ⟨a, c, rfl, h1, h2, h0, h3⟩ := h
  refine ⟨a, c, rfl, h1, h2, h0, fun hl => ?_⟩
  obtain ⟨b, off, rfl, hc⟩ := h3 hl
  exact ⟨b, off, rfl, fun i hi => hg.cell (hc i hi) (fun e => hne b e.symm rfl)⟩
theorem Rd.stay {w w' : World} {v : Value} {l : List UInt8} (h : Rd w v l) (hb : Below w.heap.size w w') : Rd w' v l := h.below hb h.lt
theorem Rd.alloc {w : World} {v : Value} {l : List UInt8} (h : Rd w v l) (o : Obj) : Rd (w.alloc o) v l := h.stay ((Below.refl _ _).alloc (Nat.le_refl _) o)
theorem Rd.drewN {w : World} {v : Value} {l : List UInt8} (h : Rd w v l) (n : Nat) : Rd (w.drewN n) v l := h
theorem Own.drewN {w : World} {base : Nat} {v : Value} {l : List UInt8} (h : Own w base v l) (n : Nat) : Own (w.drewN n) base v l := h
theorem Rd.slice {w : World} {v : Value} {l : List UInt8} (h : Rd w v l) : ∃ a c, v = .slice a l.length c ∧ l.length ≤ c ∧ c ≤ maxLen := by
  obtain ⟨a, c, rfl, h1, h2, _⟩ := h
  exact ⟨a, c, rfl, h1, h2⟩
/-- A cut of what is shown. -/
theorem Rd.cut {w : World} {a : Option Addr} {n c : Nat} {l : List UInt8} (h : Rd w (.slice a n c) l) (lo hi : Nat) (h1 : lo ≤ hi) (h2 : hi ≤ n) : Rd w (.slice (if c = lo then a else a.map (·.add (lo * 1))) (hi - lo) (c - lo)) ((l.take hi).drop lo) := by
  obtain ⟨a', c', he, hlc, hcm, h0, hcell⟩ := h
  injection he with e1 e2 e3
  subst e1 e2 e3
  have hlen : ((l.take hi).drop lo).length = hi - lo := by simp; omega
  refine ⟨_, c - lo, by rw [hlen], by omega, by omega, ?_, ?_⟩
  · intro hn
    split at hn
    · have := h0 hn; omega
    · rw [Option.map_eq_none_iff] at hn; have := h0 hn; omega
  · intro hne
    have hpos : 0 < hi - lo := by rw [← hlen]; exact List.length_pos_iff.2 hne
    obtain ⟨b, off, rfl, hc⟩ := hcell (by intro h; subst h; simp at h2; omega)
    refine ⟨b, off + lo, ?_, ?_⟩
    · rw [if_neg (by omega)]
      simp only [Option.map_some, Addr.add, Nat.mul_one]
      split
      · rename_i h; subst h; rfl
      · rfl
    · intro i hi'
      rw [hlen] at hi'
      have := hc (lo + i) (by omega)
      rw [show off + lo + i = off + (lo + i) by omega, this]
      simp [List.getElem?_drop, List.getElem?_take, show lo + i < hi by omega]

section
variable {ops : Array Oper} {rest : List Oper} {o : Oper} {a : Act} {Q : Exit → Act → World → Prop} {w : World}
end
/-- A new block of bytes, written out. -/
theorem Rd.newRow (w : World) (l : List UInt8) (n : Nat) (hn : n = l.length) (hl : l.length ≤ maxLen) : Rd (w.alloc (.cells (l.map u8v).toArray 5)) (.slice (some ⟨w.heap.size, 0, none⟩) n n) l := by
  subst hn
  refine ⟨_, _, rfl, Nat.le_refl _, hl, (fun h => by cases h), fun _ => ⟨_, _, rfl, fun i hi => ?_⟩⟩
  refine cellAt (heapNew w _) _ ?_
  simp [hi]
/-- Its first bytes. -/
theorem Rd.pre {w : World} {a : Option Addr} {n c : Nat} {l : List UInt8} (h : Rd w (.slice a n c) l) (m : Nat) (hm : m ≤ l.length) : Rd w (.slice a m c) (l.take m) := by
  obtain ⟨a', c', he, hlc, hcm, h0, hcell⟩ := h
  injection he with e1 e2 e3
  subst e1 e2 e3
  have hlen : (l.take m).length = m := by simp; omega
  refine ⟨a, c, by rw [hlen], by omega, hcm, h0, fun hne => ?_⟩
  have hpos : 0 < m := by rw [← hlen]; exact List.length_pos_iff.2 hne
  obtain ⟨b, off, rfl, hc⟩ := hcell (by intro h; subst h; simp at hm; omega)
  refine ⟨b, off, rfl, fun i hi => ?_⟩
  rw [hlen] at hi
  rw [hc i (by omega)]
  simp [List.getElem?_take, hi]
/-- A new block of four bytes. -/
theorem newB4 (W : World) (x0 x1 x2 x3 : Int) (b0 b1 b2 b3 : UInt8) (h0 : x0 = b0.toNat) (h1 : x1 = b1.toNat) (h2 : x2 = b2.toNat) (h3 : x3 = b3.toNat) :
    Rd (W.alloc (.cells #[.int .u8 x0, .int .u8 x1, .int .u8 x2, .int .u8 x3] 5)) (.slice (some ⟨W.heap.size, 0, none⟩) 4 4) [b0, b1, b2, b3] := by
  subst h0 h1 h2 h3; exact Rd.newRow W [b0, b1, b2, b3] 4 rfl (by simp [maxLen])
/-- A row made without length. -/
theorem Own.made (w : World) (base : Nat) (cur : Array Value) (cap : Nat) (hb : base ≤ w.heap.size) (hm : cap ≤ maxLen) (hs : cur.size = cap) :
    Own (w.alloc (.cells cur 5)) base (.slice (some ⟨w.heap.size, 0, none⟩) 0 cap) [] :=
  World.ownsRow_made w cur cap hb hm (by omega)
/-- A new block of bytes that bears a mark. -/
theorem Rd.newMark (w : World) (l : List UInt8) (n : Nat) (f : Nat × Nat) (hn : n = l.length) (hl : l.length ≤ maxLen) : Rd (w.alloc (.cells (l.map u8v).toArray 5 f)) (.slice (some ⟨w.heap.size, 0, none⟩) n n) l := by
  subst hn
  refine ⟨_, _, rfl, Nat.le_refl _, hl, (fun h => by cases h), fun _ => ⟨_, _, rfl, fun i hi => ?_⟩⟩
  refine cellAt (heapNew w _) _ ?_
  simp [hi]
/-- A new block of one byte. -/
theorem newB (W : World) (x : Int) (b : UInt8) (hx : x = b.toNat) : Rd (W.alloc (.cells #[.int .u8 x] 5)) (.slice (some ⟨W.heap.size, 0, none⟩) 1 1) [b] := by
  subst hx; exact Rd.newRow W [b] 1 rfl (by simp [maxLen])
theorem Rd.keptS {w w' : World} {B : Nat} {S : Nat → Prop} {v : Value} {l : List UInt8} (h : Rd w v l) (hb : Kept B S w w') (hB : ∀ k, v.ownBlock = some k → l ≠ [] → k < B ∧ ¬ S k) : Rd w' v l := by
  obtain ⟨a, c, rfl, h1, h2, h0, h3⟩ := h
  refine ⟨a, c, rfl, h1, h2, h0, fun hl => ?_⟩
  obtain ⟨b, off, rfl, hc⟩ := h3 hl
  obtain ⟨q1, q2⟩ := hB b rfl hl
  exact ⟨b, off, rfl, fun i hi => by rw [hb.cell (p := ⟨b, off + i, none⟩) q1 q2]; exact hc i hi⟩
end Go.Proofs.Ytdkbajdnckmckaa

set_option linter.unusedVariables false
set_option linter.unusedSimpArgs false
namespace Go.Con
/-- a number from 0 to many - 1 -/
def pick (n m : Int) : Int := (if n < 0 then -(n + 1) else n) % m
theorem pick_nonneg (n m : Int) (h : 0 < m) : 0 ≤ pick n m := Int.emod_nonneg _ (by omega)
theorem pick_lt (n m : Int) (h : 0 < m) : pick n m < m := Int.emod_lt_of_pos _ h
/-- just so many bytes -/
def fill (l : List UInt8) (n : Nat) : List UInt8 := l.take n ++ List.replicate (n - l.length) 0
theorem fill_length (l : List UInt8) (n : Nat) : (fill l n).length = n := by simp [fill]; omega
end Go.Con
namespace Go.Proofs.Ytdkbajdnckmckaa
open Go.RowKit Go.Con

theorem ret_int {k : IntKind} {a b : Int} (h : a = b) : Ending.returned (.int k a) = .returned (.int k b) := by rw [h]

/-- A call that gives a row of its own with these bytes, and turns nothing that was there. -/
def FreshB (w : World) (R : List UInt8) (e : Ending) (w' : World) : Prop := ∃ v', e = .returned v' ∧ Own w' w.heap.size v' R ∧ Below w.heap.size w w'

/-- A call that gives a row of its own with these bytes and a number, and turns nothing that was there. -/
def FreshBE (w : World) (R : List UInt8) (c : Int) (e : Ending) (w' : World) : Prop := ∃ v', e = .returned (.tuple #[v', .int .i64 c]) ∧ Own w' w.heap.size v' R ∧ Below w.heap.size w w'
/-- Its shape, the length named. -/
theorem Rd.sliceN {w : World} {v : Value} {l : List UInt8} (h : Rd w v l) (n : Nat) (hn : l.length = n) : ∃ a c, v = .slice a n c ∧ n ≤ c ∧ c ≤ maxLen := by
  subst hn; exact h.slice
section
variable {ops : Array Oper} {rest : List Oper} {o : Oper} {a : Act} {Q : Exit → Act → World → Prop}
end
end Go.Proofs.Ytdkbajdnckmckaa
