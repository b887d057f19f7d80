/-
  Texts put together: Bit, Wld, Qt, ShaS, ShaW.
-/
import Derived.WalkKit
import Derived.Deep.Draws
import Derived.StillTail
import Derived.Deep.Quiet
import Derived.Deep.QuietTactic
import Derived.BigQuiet
import Derived.Test.YtpkfbmafbkgcmaaDoorRows
import Derived.WalkSpells
import Derived.WalkLawsBesides
import Derived.LoopTactic
import Derived.Lib.Hide
set_option linter.unusedVariables false
set_option linter.unusedSimpArgs false
namespace Go.Con
open Go

theorem ofInt8 (x : UInt8) : BitVec.ofInt 8 (x.toNat : Int) = x.toBitVec := by
  apply BitVec.eq_of_toNat_eq; simp
theorem ofInt32 (x : UInt32) : BitVec.ofInt 32 (x.toNat : Int) = x.toBitVec := by
  apply BitVec.eq_of_toNat_eq; simp
theorem ofInt64 (x : UInt64) : BitVec.ofInt 64 (x.toNat : Int) = x.toBitVec := by
  apply BitVec.eq_of_toNat_eq; simp
theorem wrapb8 (x : BitVec 8) : IntKind.u8.wrap (x.toNat : Int) = x.toNat := by
  have := x.isLt; exact IntWalk.u8_in _ (by omega)
theorem wrapb32 (x : BitVec 32) : IntKind.u32.wrap (x.toNat : Int) = x.toNat := by
  have := x.isLt; exact IntWalk.u32_in _ (by omega)
theorem wrapb64 (x : BitVec 64) : IntKind.u64.wrap (x.toNat : Int) = x.toNat := by
  have := x.isLt; exact IntWalk.u64_in _ (by omega)

theorem u8_xorF (x y : UInt8) : bits .xor .u8 (x.toNat : Int) (y.toNat : Int) = ((x ^^^ y).toNat : Int) := by
  show IntKind.u8.wrap ((BitVec.ofInt 8 (x.toNat : Int) ^^^ BitVec.ofInt 8 (y.toNat : Int)).toNat : Int) = _
  rw [ofInt8, ofInt8, wrapb8]; rfl
theorem u8_orF (x y : UInt8) : bits .or .u8 (x.toNat : Int) (y.toNat : Int) = ((x ||| y).toNat : Int) := by
  show IntKind.u8.wrap ((BitVec.ofInt 8 (x.toNat : Int) ||| BitVec.ofInt 8 (y.toNat : Int)).toNat : Int) = _
  rw [ofInt8, ofInt8, wrapb8]; rfl
theorem u8_andF (x y : UInt8) : bits .and .u8 (x.toNat : Int) (y.toNat : Int) = ((x &&& y).toNat : Int) := by
  show IntKind.u8.wrap ((BitVec.ofInt 8 (x.toNat : Int) &&& BitVec.ofInt 8 (y.toNat : Int)).toNat : Int) = _
  rw [ofInt8, ofInt8, wrapb8]; rfl
theorem u32_xorF (x y : UInt32) : bits .xor .u32 (x.toNat : Int) (y.toNat : Int) = ((x ^^^ y).toNat : Int) := by
  show IntKind.u32.wrap ((BitVec.ofInt 32 (x.toNat : Int) ^^^ BitVec.ofInt 32 (y.toNat : Int)).toNat : Int) = _
  rw [ofInt32, ofInt32, wrapb32]; rfl
theorem u32_orF (x y : UInt32) : bits .or .u32 (x.toNat : Int) (y.toNat : Int) = ((x ||| y).toNat : Int) := by
  show IntKind.u32.wrap ((BitVec.ofInt 32 (x.toNat : Int) ||| BitVec.ofInt 32 (y.toNat : Int)).toNat : Int) = _
  rw [ofInt32, ofInt32, wrapb32]; rfl
theorem u32_andF (x y : UInt32) : bits .and .u32 (x.toNat : Int) (y.toNat : Int) = ((x &&& y).toNat : Int) := by
  show IntKind.u32.wrap ((BitVec.ofInt 32 (x.toNat : Int) &&& BitVec.ofInt 32 (y.toNat : Int)).toNat : Int) = _
  rw [ofInt32, ofInt32, wrapb32]; rfl
theorem u32_notF (x : UInt32) : bits .xor .u32 4294967295 (x.toNat : Int) = ((~~~x).toNat : Int) := by
  show IntKind.u32.wrap ((BitVec.ofInt 32 4294967295 ^^^ BitVec.ofInt 32 (x.toNat : Int)).toNat : Int) = _
  rw [ofInt32, wrapb32]
  have : (BitVec.ofInt 32 4294967295 ^^^ x.toBitVec) = ~~~x.toBitVec := by
    have h : BitVec.ofInt 32 4294967295 = BitVec.allOnes 32 := by decide
    rw [h, BitVec.allOnes_xor]
  rw [this]; rfl
theorem u32_addF (x y : UInt32) : IntKind.u32.wrap ((x.toNat : Int) + (y.toNat : Int)) = ((x + y).toNat : Int) := by
  rw [IntKind.wrap_u32', UInt32.toNat_add]; omega
theorem u32_shlF (x : UInt32) (n : Nat) : IntKind.u32.wrap ((x.toNat : Int) * 2 ^ n) = (((x.toNat <<< n) % 4294967296 : Nat) : Int) := by
  rw [IntKind.wrap_u32', Nat.shiftLeft_eq]
  have : ((x.toNat : Int) * 2 ^ n) = ((x.toNat * 2 ^ n : Nat) : Int) := by simp
  rw [this]; omega

theorem shl32 (x : UInt32) (n : Nat) (m : UInt32) (p : Int) (hn : n < 32) (hm : m.toNat = n) (hp : p = ((2 ^ n : Nat) : Int)) : (x.toNat : Int) * p % 4294967296 = ((x <<< m).toNat : Int) := by
  subst hp
  rw [UInt32.toNat_shiftLeft, hm, Nat.mod_eq_of_lt hn, Nat.shiftLeft_eq]
  rw [show ((x.toNat : Int) * ((2 ^ n : Nat) : Int)) = ((x.toNat * 2 ^ n : Nat) : Int) by simp]
  omega
theorem shr32 (x : UInt32) (n : Nat) (m : UInt32) (p : Int) (hn : n < 32) (hm : m.toNat = n) (hp : p = ((2 ^ n : Nat) : Int)) : (x.toNat : Int) / p = ((x >>> m).toNat : Int) := by
  subst hp
  rw [UInt32.toNat_shiftRight, hm, Nat.mod_eq_of_lt hn, Nat.shiftRight_eq_div_pow]
  simp
theorem up32 (b : UInt8) : (b.toNat : Int) % 4294967296 = (b.toUInt32.toNat : Int) := by
  have := b.toNat_lt; rw [UInt8.toNat_toUInt32]; omega
/-- four bytes as a word, the highest one first, as the walk has it -/
theorem word_raw (x0 x1 x2 x3 : UInt8) :
    bits .or .u32 (bits .or .u32 (bits .or .u32 ((x0.toNat : Int) % 4294967296 * 16777216 % 4294967296) ((x1.toNat : Int) % 4294967296 * 65536 % 4294967296)) ((x2.toNat : Int) % 4294967296 * 256 % 4294967296)) ((x3.toNat : Int) % 4294967296)
      = ((x0.toUInt32 <<< 24 ||| x1.toUInt32 <<< 16 ||| x2.toUInt32 <<< 8 ||| x3.toUInt32).toNat : Int) := by
  rw [up32, up32, up32, up32, shl32 _ 24 24 16777216 (by decide) rfl (by decide), shl32 _ 16 16 65536 (by decide) rfl (by decide), shl32 _ 8 8 256 (by decide) rfl (by decide), u32_orF, u32_orF, u32_orF]
end Go.Con

set_option linter.unusedVariables false
set_option linter.unusedSimpArgs false
namespace Go.Con
open Go Go.RowKit

/-- Below block number B, but for the blocks in S, the world w is as a was. -/
structure Kept (B : Nat) (S : Nat → Prop) (a w : World) : Prop where
  os : w.os = a.os
  tape : w.tape = a.tape
  output : w.output = a.output
  size : a.heap.size ≤ w.heap.size
  block : ∀ k, k < B → ¬ S k → w.heap[k]? = a.heap[k]?

theorem Kept.refl (B : Nat) (S : Nat → Prop) (w : World) : Kept B S w w := ⟨rfl, rfl, rfl, Nat.le_refl _, fun _ _ _ => rfl⟩
theorem Kept.trans {B : Nat} {S : Nat → Prop} {a b c : World} (h : Kept B S a b) (k : Kept B S b c) : Kept B S a c :=
  ⟨k.os.trans h.os, k.tape.trans h.tape, k.output.trans h.output, Nat.le_trans h.size k.size, fun i hi hs => (k.block i hi hs).trans (h.block i hi hs)⟩
theorem Kept.mono {B B' : Nat} {S S' : Nat → Prop} {a w : World} (h : Kept B S a w) (hB : B' ≤ B) (hS : ∀ k, k < B' → S k → S' k) : Kept B' S' a w :=
  ⟨h.os, h.tape, h.output, h.size, fun k hk hs => h.block k (by omega) (fun h' => hs (hS k hk h'))⟩
theorem Kept.drewN {B : Nat} {S : Nat → Prop} {a w : World} (h : Kept B S a w) (n : Nat) : Kept B S a (w.drewN n) := ⟨h.os, h.tape, h.output, h.size, h.block⟩
theorem Kept.drew {B : Nat} {S : Nat → Prop} {a w : World} (h : Kept B S a w) : Kept B S a w.drew := ⟨h.os, h.tape, h.output, h.size, h.block⟩
theorem Kept.alloc {B : Nat} {S : Nat → Prop} {a w : World} (h : Kept B S a w) (hB : B ≤ w.heap.size) (o : Obj) : Kept B S a (w.alloc o) :=
  h.trans ⟨rfl, rfl, rfl, by simp, fun k hk _ => Below.heap_alloc _ _ _ (by omega)⟩
theorem Kept.setCell {B : Nat} {S : Nat → Prop} {a w : World} (h : Kept B S a w) {p : Addr} (hp : B ≤ p.block ∨ S p.block) (u : Value) : Kept B S a (w.setCell p u) :=
  h.trans ⟨rfl, rfl, rfl, by simp [World.setCell], fun k hk hs => Below.heap_setCell _ _ _ _ (fun e => by
    subst e; exact hp.elim (by omega) hs)⟩
theorem Kept.below {B : Nat} {S : Nat → Prop} {a w : World} (h : Kept B S a w) (hS : ∀ k, k < B → ¬ S k) : Below B a w :=
  ⟨h.os, h.tape, h.output, h.size, fun k hk => h.block k hk (hS k hk)⟩
theorem Kept.of_below {B : Nat} {S : Nat → Prop} {a w : World} (h : Below B a w) : Kept B S a w :=
  ⟨h.os, h.tape, h.output, h.size, fun k hk _ => h.block k hk⟩
theorem Kept.of_grown {B : Nat} {S : Nat → Prop} {a w : World} {row : Option Nat} (h : a.grownBy w row) (hB : B ≤ a.heap.size) (hr : ∀ k, row = some k → B ≤ k ∨ S k) : Kept B S a w :=
  ⟨h.os, h.tape, h.output, h.size, fun k hk hs => h.block k (by omega) (fun e => by
    rcases hr k e.symm with h | h
    · omega
    · exact hs h)⟩
theorem Kept.cell {B : Nat} {S : Nat → Prop} {a w : World} (h : Kept B S a w) {p : Addr} (hp : p.block < B) (hs : ¬ S p.block) : w.cell? p = a.cell? p := World.cell?_of_block (w := a) (h.block p.block hp hs)

theorem below_drewN {B : Nat} {a w : World} (h : Below B a w) (n : Nat) : Below B a (w.drewN n) := ⟨h.os, h.tape, h.output, h.size, h.block⟩

/-! ### A block that is known whole -/
theorem cellAt {w : World} {b : Nat} {c : Array Value} {e : TypeId} {f : Nat × Nat} (h : w.heap[b]? = some (.cells c e f)) (o : Nat) {v : Value} (hv : c[o]? = some v) : w.cell? ⟨b, o, none⟩ = some v := by
  simp [World.cell?, h, hv]
theorem freeAt {w : World} {b : Nat} {c : Array Value} {e : TypeId} (h : w.heap[b]? = some (.cells c e (0, 0))) (o : Nat) : w.frozen? ⟨b, o, none⟩ = false := by
  simp [World.frozen?, h]
theorem heapSet {w : World} {b o : Nat} {c : Array Value} {e : TypeId} {f : Nat × Nat} (h : w.heap[b]? = some (.cells c e f)) (v : Value) :
    (w.setCell ⟨b, o, none⟩ v).heap[b]? = some (.cells (c.setIfInBounds o v) e f) := by
  simp [World.setCell, Array.getElem?_modify, h]
theorem heapSet_ne {w : World} {b k : Nat} (o : Nat) (v : Value) (hk : k ≠ b) : (w.setCell ⟨b, o, none⟩ v).heap[k]? = w.heap[k]? :=
  Below.heap_setCell _ _ _ _ hk
theorem heapNew (w : World) (o : Obj) : (w.alloc o).heap[w.heap.size]? = some o := heap_alloc_new w o
theorem heapOld (w : World) (o : Obj) (k : Nat) (h : k < w.heap.size) : (w.alloc o).heap[k]? = w.heap[k]? := heap_alloc_old w o h
theorem heapNew1 (w : World) (A B : Obj) : ((w.alloc A).alloc B).heap[w.heap.size + 1]? = some B := by
  have e : (w.alloc A).heap.size = w.heap.size + 1 := by simp
  rw [← e]; exact heapNew _ _
theorem heapNew0 (w : World) (A B : Obj) : ((w.alloc A).alloc B).heap[w.heap.size]? = some A := by
  rw [heapOld _ _ _ (by simp)]; exact heapNew _ _
theorem lt_of_heap {w : World} {b : Nat} {o : Obj} (h : w.heap[b]? = some o) : b < w.heap.size := (Array.getElem?_eq_some_iff.1 h).1

/-- A cell of a block known whole, by getD. -/
theorem cellD {w : World} {b : Nat} {c : Array Value} {e : TypeId} {f : Nat × Nat} (h : w.heap[b]? = some (.cells c e f)) (o : Nat) (ho : o < c.size) : w.cell? ⟨b, o, none⟩ = some (c.getD o undef) :=
  cellAt h o (by simp [ho])
/-- One more cell of a row is filled. -/
theorem fillOne {w : World} {b k n : Nat} {c : Array Value} {e : TypeId} (nq : Nat) {g : Nat → Value} {v : Value} (h : w.heap[b]? = some (.cells c e (0, 0))) (hs : c.size = n) (hk : k < n)
    (hold : ∀ j, j < k → c[j]? = some (g j)) (hv : v = g k) :
    ∃ c', ((w.drewN nq).setCell ⟨b, k, none⟩ v).heap[b]? = some (.cells c' e (0, 0)) ∧ c'.size = n ∧ ∀ j, j < k + 1 → c'[j]? = some (g j) := by
  refine ⟨c.setIfInBounds k v, heapSet (w := w.drewN nq) h v, by simp [hs], fun j hj => ?_⟩
  by_cases hjk : j = k
  · subst hjk; subst hv; simp [hs, hk]
  · rw [Array.getElem?_setIfInBounds, if_neg (by omega)]; exact hold j (by omega)

theorem set8 {w : World} {b : Nat} {c0 c1 c2 c3 c4 c5 c6 c7 : Value} {e : TypeId} (h : w.heap[b]? = some (.cells #[c0, c1, c2, c3, c4, c5, c6, c7] e (0, 0))) (v0 v1 v2 v3 v4 v5 v6 v7 : Value) :
    ((((((((w.setCell ⟨b, 0, none⟩ v0).setCell ⟨b, 1, none⟩ v1).setCell ⟨b, 2, none⟩ v2).setCell ⟨b, 3, none⟩ v3).setCell ⟨b, 4, none⟩ v4).setCell ⟨b, 5, none⟩ v5).setCell ⟨b, 6, none⟩ v6).setCell ⟨b, 7, none⟩ v7).heap[b]? = some (.cells #[v0, v1, v2, v3, v4, v5, v6, v7] e (0, 0)) :=
  by
  have h1 := heapSet (o := 0) h v0
  have h2 := heapSet (o := 1) h1 v1
  have h3 := heapSet (o := 2) h2 v2
  have h4 := heapSet (o := 3) h3 v3
  have h5 := heapSet (o := 4) h4 v4
  have h6 := heapSet (o := 5) h5 v5
  have h7 := heapSet (o := 6) h6 v6
  have h8 := heapSet (o := 7) h7 v7
  rw [h8]
  simp
theorem arr8 {cur : Array Value} {g : Nat → Value} (hs : cur.size = 8) (h : ∀ j, j < 8 → cur[j]? = some (g j)) : cur = #[g 0, g 1, g 2, g 3, g 4, g 5, g 6, g 7] := by
  apply Array.ext (by simpa using hs)
  intro i h1 h2
  have hi : i < 8 := by omega
  have := h i hi
  rw [Array.getElem?_eq_getElem h1] at this
  rw [Option.some.inj this]
  match i, hi with
  | 0, _ => rfl
  | 1, _ => rfl
  | 2, _ => rfl
  | 3, _ => rfl
  | 4, _ => rfl
  | 5, _ => rfl
  | 6, _ => rfl
  | 7, _ => rfl
/-- One cell of a row is turned. -/
theorem turnOne {w : World} {b k n : Nat} {c : Array Value} {e : TypeId} (nq : Nat) {g g' : Nat → Value} {v : Value} (h : w.heap[b]? = some (.cells c e (0, 0))) (hs : c.size = n) (hk : k < n)
    (hold : ∀ j, j < n → c[j]? = some (g j)) (hv : v = g' k) (hg : ∀ j, j < n → j ≠ k → g' j = g j) :
    ∃ c', ((w.drewN nq).setCell ⟨b, k, none⟩ v).heap[b]? = some (.cells c' e (0, 0)) ∧ c'.size = n ∧ ∀ j, j < n → c'[j]? = some (g' j) := by
  refine ⟨c.setIfInBounds k v, heapSet (w := w.drewN nq) h v, by simp [hs], fun j hj => ?_⟩
  by_cases hjk : j = k
  · subst hjk; subst hv; simp [hs, hk]
  · rw [Array.getElem?_setIfInBounds, if_neg (by omega), hold j hj, hg j hj hjk]

/-- A byte as a value. -/
def u8v (b : UInt8) : Value := .int .u8 b.toNat
/-- The length of a slice value. -/
def lenV : Value → Nat | .slice _ n _ => n | _ => 0
end Go.Con

set_option linter.unusedVariables false
set_option linter.unusedSimpArgs false
namespace Go.Con
open Go
section
variable {P : Program} {ops : Array Oper} {md : Region.Mode} {C : World → Prop}

/-- Whatever order is picked for the first n operations, each quiet; behind them L. -/
def anyHead (P : Program) (md : Region.Mode) (ops : Array Oper) (C : World → Prop) (n : Nat) (L : Array Bool → Act → Prop) : Nat → Array Bool → Act → Prop
  | 0, listed, a => L listed a
  | f + 1, listed, a =>
    Region.ready md ops listed ≠ [] ∧ ∀ i ∈ Region.ready md ops listed, i < n ∧ qOp P ops C i (anyHead P md ops C n L f (listed.setIfInBounds i true)) a

theorem any_of_head {n g : Nat} {L : Array Bool → Act → Prop} {Q : Exit → Act → World → Prop} (hL : ∀ listed a w, C w → L listed a → wpAny P md ops Q g listed a w) :
    ∀ (f : Nat) (listed : Array Bool) (a : Act) (w : World), C w → anyHead P md ops C n L f listed a → wpAny P md ops Q (f + g) listed a w
  | 0, listed, a, w, hw, h => by rw [Nat.zero_add]; exact hL _ _ _ hw h
  | f + 1, listed, a, w, hw, h => by
    rw [show f + 1 + g = (f + g) + 1 by omega]
    exact ⟨fun h0 => absurd h0 h.1, fun i hi => wpOp_of_qOp hw (fun a' w' hw' h' => any_of_head hL f _ a' w' hw' h') (h.2 i hi).2⟩

theorem anyHead_first {n i : Nat} {oi : Oper} {v : Value} {L : Array Bool → Act → Prop} (hi : ops[i]? = some oi) (hsel : ∀ (j : Nat) (o : Oper) cs b, ops[j]? = some o → o.op ≠ .select cs b)
    (hs : Region.sinkB md ops n = true) (hc : Region.chainB md ops n = true) (hn : n < ops.size) (hin : i < n)
    (hdone : ∀ listed a, L listed a → ∀ j ∈ Region.ready md ops listed, n ≤ j) :
    ∀ (f : Nat) (listed : Array Bool) (a : Act), HeadInv md ops n listed →
      (∀ j oj, ops[j]? = some oj → j ≠ i → listed.getD j true = false → (∀ e ∈ oj.after, Region.binds md e = true → e.on ≠ i) → oi.apart ops oj = true) →
      i ∈ Region.ready md ops listed → YieldsIn P ops C oi v a →
      anyHead P md ops C n L f (listed.setIfInBounds i true) (a.put oi.dst v) → anyHead P md ops C n L (f + 1) listed a := by
  intro f
  induction f with
  | zero =>
    intro listed a inv _ hr hy H
    have hun := (mem_ready.1 hr).1
    refine ⟨fun h => (by rw [h] at hr; cases hr), fun j hj => ?_⟩
    have hjn : j < n := by
      rcases Nat.lt_or_ge j n with h | h
      · exact h
      · exact absurd hj (tail_waits hs hc hn inv _ i rfl hin hun j h)
    refine ⟨hjn, ?_⟩
    by_cases hji : j = i
    · subst hji; exact hy.qOp hi H
    · have := hdone _ _ H j (ready_mono hj hji)
      omega
  | succ f ih =>
    intro listed a inv hfree hr hy H
    have hun := (mem_ready.1 hr).1
    refine ⟨fun h => (by rw [h] at hr; cases hr), fun j hj => ?_⟩
    have hjn : j < n := by
      rcases Nat.lt_or_ge j n with h | h
      · exact h
      · exact absurd hj (tail_waits hs hc hn inv _ i rfl hin hun j h)
    refine ⟨hjn, ?_⟩
    by_cases hji : j = i
    · subst hji; exact hy.qOp hi H
    · have h1 := (H.2 j (ready_mono hj hji)).2
      obtain ⟨hjun, oj, hoj, hall⟩ := mem_ready.1 hj
      have hnot : ∀ e ∈ oj.after, Region.binds md e = true → e.on ≠ i := fun e he hb heq => by
        have h1 := hall e he hb
        rw [heq, getD_both hun] at h1
        cases h1
      have h2 := qOp_put hoj (hfree j oj hoj hji hjun hnot) (fun cs b => hsel i oi cs b hi) (fun cs b => hsel j oj cs b hoj) hy h1
      have hfree' : ∀ k ok, ops[k]? = some ok → k ≠ i → (listed.setIfInBounds j true).getD k true = false →
          (∀ e ∈ ok.after, Region.binds md e = true → e.on ≠ i) → oi.apart ops ok = true := fun k ok hk hki hun hno => by
        refine hfree k ok hk hki ?_ hno
        by_cases hjk : j = k
        · subst hjk; exact hjun
        · rw [getD_set_ne true hjk] at hun; exact hun
      refine qOp_mono (fun a' h3 => ih (listed.setIfInBounds j true) a' (inv.set hj hjn) hfree' (ready_mono hr (Ne.symm hji)) h3.1 ?_) h2
      rw [Array.setIfInBounds_comm _ _ hji]
      exact h3.2

theorem anyHead_lex {n g : Nat} {Lq : Act → Prop} (hsel : Region.noSelect ops = true) (hs : Region.sinkB md ops n = true) (hc : Region.chainB md ops n = true) (hn : n < ops.size) :
    ∀ (l : List Oper) (k : Nat) (listed : Array Bool) (a : Act), (∀ j, j < l.length → l[j]? = ops[k + j]?) → k + l.length = n → HeadInv md ops n listed →
    Region.lexHead md ops g l.length k listed = true → wpQuiet P ops C Lq l a →
    anyHead P md ops C n (fun listed' a' => Region.seqB md ops g n listed' = true ∧ Lq a') l.length listed a
  | [], k, listed, a, _, hk, _, hB, h => by
    have : k = n := by simpa using hk
    subst this
    exact ⟨by simpa [Region.lexHead] using hB, h⟩
  | o :: l, k, listed, a, hl, hk, inv, hB, h => by
    have h0 : ops[k]? = some o := by simpa using (hl 0 (by simp)).symm
    simp only [List.length_cons, Region.lexHead, Bool.and_eq_true] at hB
    obtain ⟨⟨hr, hf⟩, hB'⟩ := hB
    have hkn : k < n := by simp only [List.length_cons] at hk; omega
    have hr' : k ∈ Region.ready md ops listed := by simpa using hr
    have hst : qOp P ops C k (wpQuiet P ops C Lq l) a := by unfold qOp; simp only [h0]; exact h
    obtain ⟨v, hy, hK⟩ := yieldsIn_of_qOp h0 hst
    exact anyHead_first h0 (Region.noSelect_spec hsel) hs hc hn hkn (fun listed' a' hL => seqB_ready hL.1) l.length listed a inv (Region.free_spec h0 hf) hr' hy
      (anyHead_lex hsel hs hc hn l (k + 1) _ _ (fun j hj => by have := hl (j + 1) (by simp; omega); simpa [Nat.add_assoc, Nat.add_comm 1 j] using this) (by simp only [List.length_cons] at hk; omega) (inv.set hr' hkn) hB' hK)

/-- One walk in the text's order: the head quiet in the class, the tail as it stands, in every world of the class. -/
theorem region_quiet_tail_in {id : Nat} {Q : Exit → Act → World → Prop} {a : Act} {w : World} {l : List Oper} (n : Nat) (hm : P.follows .mixedOrders = true) (hB : Region.lexTailB .any l.toArray n = true)
    (hC : C { w with drawn := w.drawn + 1 })
    (h : wpQuiet P l.toArray C (fun a' => ∀ w', C w' → wpList P l.toArray Q (l.drop n) a' w') (l.take n) a) : (Code.region id l.toArray true).wp P Q a w := by
  simp only [Region.lexTailB, Bool.and_eq_true, decide_eq_true_eq] at hB
  obtain ⟨⟨⟨⟨hsel, hn⟩, hs⟩, hc⟩, hlex⟩ := hB
  have hn' : n < l.length := by simpa using hn
  have htl : (l.take n).length = n := by simp; omega
  have hdl : (l.drop n).length = l.toArray.size - n := by simp
  have inv0 : HeadInv .any l.toArray n (Array.replicate l.toArray.size false) :=
    ⟨by simp, fun j oj _ hl => (by rw [getD_replicate_false] at hl; cases hl), fun t _ ht => getD_in (by simpa using ht) (getD_replicate_false _ _)⟩
  have H := anyHead_lex (md := .any) (g := l.toArray.size - n) hsel hs hc hn (l.take n) 0 _ a (fun j hj => by
    have hj' : j < n := by rw [htl] at hj; exact hj
    simp [hj']) (by simpa using htl) inv0 (by rw [htl]; exact hlex) h
  refine wp_region_any hm ?_
  have := any_of_head (Q := Q) (g := l.toArray.size - n) (fun listed a' w' hw' hL => by
    have := wpAny_of_seq (md := .any) (Q' := Q) (l.drop n) n listed a' w' (fun j => by simp [List.getElem?_drop]) (by rw [hdl]; exact hL.1) (hL.2 w' hw')
    rwa [hdl] at this) _ _ _ _ hC H
  rw [htl, show n + (l.toArray.size - n) = l.toArray.size by omega] at this
  exact this

/-- The same at the class 'w behind some draws'. -/
theorem region_quiet_tail {id : Nat} {Q : Exit → Act → World → Prop} {a : Act} {w : World} {l : List Oper} (n : Nat) (hm : P.follows .mixedOrders = true) (hB : Region.lexTailB .any l.toArray n = true)
    (h : wpQuiet P l.toArray (fun w' => ∃ n, w' = w.drewN n) (fun a' => ∀ w', (∃ n, w' = w.drewN n) → wpList P l.toArray Q (l.drop n) a' w') (l.take n) a) : (Code.region id l.toArray true).wp P Q a w :=
  region_quiet_tail_in n hm hB ⟨1, rfl⟩ h
end
/-- A callee's contract behind an earlier region's draws. -/
theorem quiet_of2 {P : Program} {f : FuncId} {args : Array Value} {w : World} {n0 n : Nat} {v : Value}
    (h : Calls P f args (w.drewN (n0 + n)) fun e w' => e = .returned v ∧ ∃ m, w' = (w.drewN (n0 + n)).drewN m) : Calls P f args (w.drewN (n0 + n)) fun e w'' => e = .returned v ∧ ∃ m, w'' = w.drewN (n0 + m) :=
  h.mono fun _ _ ⟨he, m, hm⟩ => ⟨he, n + m, by rw [hm, World.drewN_drewN, Nat.add_assoc]⟩
theorem quiet_of2_same {P : Program} {f : FuncId} {args : Array Value} {w : World} {n0 n : Nat} {v : Value}
    (h : Calls P f args (w.drewN (n0 + n)) fun e w' => e = .returned v ∧ w' = w.drewN (n0 + n)) : Calls P f args (w.drewN (n0 + n)) fun e w'' => e = .returned v ∧ ∃ m, w'' = w.drewN (n0 + m) :=
  h.mono fun _ _ ⟨he, hm⟩ => ⟨he, n, hm⟩
end Go.Con

namespace Go.Con.Sha

def rotr (x : UInt32) (n : Nat) : UInt32 := UInt32.ofNat (x.toNat / 2 ^ n ||| (x.toNat <<< (32 - n)) % 4294967296)

def kn : List UInt32 := [
  1116352408, 1899447441, 3049323471, 3921009573, 961987163, 1508970993, 2453635748, 2870763221,
  3624381080, 310598401, 607225278, 1426881987, 1925078388, 2162078206, 2614888103, 3248222580,
  3835390401, 4022224774, 264347078, 604807628, 770255983, 1249150122, 1555081692, 1996064986,
  2554220882, 2821834349, 2952996808, 3210313671, 3336571891, 3584528711, 113926993, 338241895,
  666307205, 773529912, 1294757372, 1396182291, 1695183700, 1986661051, 2177026350, 2456956037,
  2730485921, 2820302411, 3259730800, 3345764771, 3516065817, 3600352804, 4094571909, 275423344,
  430227734, 506948616, 659060556, 883997877, 958139571, 1322822218, 1537002063, 1747873779,
  1955562222, 2024104815, 2227730452, 2361852424, 2428436474, 2756734187, 3204031479, 3329325298]

/-- four bytes as a word, the highest one first -/
def word (b : List UInt8) (i : Nat) : UInt32 :=
  (b.getD (4 * i) 0).toUInt32 <<< 24 ||| (b.getD (4 * i + 1) 0).toUInt32 <<< 16 ||| (b.getD (4 * i + 2) 0).toUInt32 <<< 8 ||| (b.getD (4 * i + 3) 0).toUInt32

def nextW (b : List UInt8) (l : List UInt32) (k : Nat) : UInt32 :=
  if k < 16 then word b k else
    l.getD (k - 16) 0 + l.getD (k - 7) 0 + (rotr (l.getD (k - 15) 0) 7 ^^^ rotr (l.getD (k - 15) 0) 18 ^^^ l.getD (k - 15) 0 >>> 3)
      + (rotr (l.getD (k - 2) 0) 17 ^^^ rotr (l.getD (k - 2) 0) 19 ^^^ l.getD (k - 2) 0 >>> 10)

/-- the first k words of the schedule -/
def sched (b : List UInt8) : Nat → List UInt32
  | 0 => []
  | k + 1 => let l := sched b k; l ++ [nextW b l k]

structure D8 where
  a : UInt32
  b : UInt32
  c : UInt32
  d : UInt32
  e : UInt32
  f : UInt32
  g : UInt32
  h : UInt32

def upOf (s : D8) (k w : UInt32) : UInt32 :=
  s.h + (rotr s.e 6 ^^^ rotr s.e 11 ^^^ rotr s.e 25) + (s.e &&& s.f ^^^ ~~~s.e &&& s.g) + k + w
def downOf (s : D8) : UInt32 :=
  (rotr s.a 2 ^^^ rotr s.a 13 ^^^ rotr s.a 22) + (s.a &&& s.b ^^^ s.a &&& s.c ^^^ s.b &&& s.c)
def stepD (s : D8) (k w : UInt32) : D8 :=
  { a := upOf s k w + downOf s, b := s.a, c := s.b, d := s.c, e := s.d + upOf s k w, f := s.e, g := s.f, h := s.g }

def rounds (ws : List UInt32) (s : D8) : Nat → D8
  | 0 => s
  | k + 1 => stepD (rounds ws s k) (kn.getD k 0) (ws.getD k 0)

def addD (x y : D8) : D8 :=
  { a := x.a + y.a, b := x.b + y.b, c := x.c + y.c, d := x.d + y.d, e := x.e + y.e, f := x.f + y.f, g := x.g + y.g, h := x.h + y.h }

def D8.toList (s : D8) : List UInt32 := [s.a, s.b, s.c, s.d, s.e, s.f, s.g, s.h]

/-- one block of 64 bytes -/
def blk (s : D8) (b : List UInt8) : D8 := addD s (rounds (sched b 64) s 64)

def d0 : D8 := { a := 1779033703, b := 3144134277, c := 1013904242, d := 2773480762, e := 1359893119, f := 2600822924, g := 528734635, h := 1541459225 }
/-- so many noughts behind n bytes and the one that begins the padding -/
def zeros (n : Nat) : Nat := (119 - n % 64) % 64
/-- the length's eight bytes, the highest one first: the first k of them -/
def len8 (n : Nat) (k : Nat) : List UInt8 := (List.range k).map fun j => UInt8.ofNat (n / 2 ^ (56 - 8 * j))
def padded (l : List UInt8) : List UInt8 := l ++ [128] ++ List.replicate (zeros l.length) 0 ++ len8 (8 * l.length) 8
/-- k blocks of 64 bytes -/
def blocks (p : List UInt8) : Nat → D8
  | 0 => d0
  | k + 1 => blk (blocks p k) ((p.drop (64 * k)).take 64)
def bytes4 (x : UInt32) : List UInt8 := [UInt8.ofNat (x.toNat / 16777216), UInt8.ofNat (x.toNat / 65536), UInt8.ofNat (x.toNat / 256), UInt8.ofNat x.toNat]
def sum (l : List UInt8) : List UInt8 := (blocks (padded l) ((padded l).length / 64)).toList.flatMap bytes4

theorem len8_succ (n k : Nat) : len8 n (k + 1) = len8 n k ++ [UInt8.ofNat (n / 2 ^ (56 - 8 * k))] := by
  simp [len8, List.range_succ]
theorem len8_length (n k : Nat) : (len8 n k).length = k := by simp [len8]
theorem padded_length (l : List UInt8) : (padded l).length % 64 = 0 ∧ 0 < (padded l).length ∧ (padded l).length = l.length + 9 + zeros l.length := by
  have h : (padded l).length = l.length + 9 + zeros l.length := by simp [padded, len8_length]; omega
  refine ⟨?_, by omega, h⟩
  rw [h]; unfold zeros; omega
theorem bytes4_length (x : UInt32) : (bytes4 x).length = 4 := rfl
theorem sum_length (l : List UInt8) : (sum l).length = 32 := rfl

def out (s : D8) (k : Nat) : List UInt8 := (s.toList.take k).flatMap bytes4
theorem out_succ (s : D8) (k : Nat) (h : k < 8) : out s (k + 1) = out s k ++ bytes4 (s.toList.getD k 0) := by
  have : k < s.toList.length := h
  simp only [out, List.take_succ_eq_append_getElem this, List.flatMap_append]
  simp [List.getD, this]
theorem out_length (s : D8) (k : Nat) (h : k ≤ 8) : (out s k).length = 4 * k := by
  have : ∀ l : List UInt32, (l.flatMap bytes4).length = 4 * l.length := by
    intro l
    induction l with
    | nil => rfl
    | cons x l ih => simp only [List.flatMap_cons, List.length_append, List.length_cons, ih, bytes4_length]; omega
  rw [out, this, List.length_take]
  have : s.toList.length = 8 := rfl
  omega

theorem sched_length (b : List UInt8) (k : Nat) : (sched b k).length = k := by
  induction k with
  | zero => rfl
  | succ k ih => simp [sched, ih]
theorem sched_old (b : List UInt8) (k j : Nat) (h : j < k) : (sched b (k + 1)).getD j 0 = (sched b k).getD j 0 := by
  simp [sched, List.getElem?_append, sched_length, h]
theorem sched_new (b : List UInt8) (k : Nat) : (sched b (k + 1)).getD k 0 = nextW b (sched b k) k := by
  simp [sched, sched_length]
theorem sched_le (b : List UInt8) (j k n : Nat) (h : j < k) (hn : k ≤ n) : (sched b n).getD j 0 = (sched b k).getD j 0 := by
  induction n with
  | zero => omega
  | succ n ih =>
    by_cases hk : k = n + 1
    · rw [hk]
    · rw [sched_old b n j (by omega), ih (by omega)]
end Go.Con.Sha

set_option linter.unusedVariables false
set_option linter.unusedSimpArgs false
namespace Go.Proofs.YtpkfbmafbkgcmaaDoor
open Go.RowKit Go.Con

theorem rotrN (x : UInt32) (n : Nat) : bits .or .u32 ((x.toNat : Int) / 2 ^ n) ((x.toNat : Int) * 2 ^ (32 - n) % 4294967296) = ((Sha.rotr x n).toNat : Int) := by
  have h1 : ((x.toNat : Int) / 2 ^ n) = ((x.toNat / 2 ^ n : Nat) : Int) := by simp
  have h2 : ((x.toNat : Int) * 2 ^ (32 - n) % 4294967296) = ((x.toNat <<< (32 - n) % 4294967296 : Nat) : Int) := by
    rw [Nat.shiftLeft_eq]; simp
  rw [h1, h2, u32_or_nat _ _ (Nat.lt_of_le_of_lt (Nat.div_le_self _ _) x.toNat_lt) (Nat.mod_lt _ (by decide))]
  congr 1
  unfold Sha.rotr
  rw [UInt32.toNat_ofNat_of_lt']
  exact Nat.or_lt_two_pow (n := 32) (Nat.lt_of_le_of_lt (Nat.div_le_self _ _) x.toNat_lt) (Nat.mod_lt _ (by decide))

set_option maxHeartbeats 400000 in
theorem turn_any (x : UInt32) (n : Nat) (w : World) (h1 : 0 < n) (h2 : n < 32) :
    Calls Tryd.prog 53 #[.int .u32 x.toNat, .int .i64 n] w fun e w' => e = .returned (.int .u32 (Sha.rotr x n).toNat) ∧ ∃ k, w' = w.drewN k := by
  go_enter Tryd.func53, Tryd.ntmps53
  go_wp2
  go_quiet (fail)
  go_wp2
  go_ret
  exact ⟨by rw [← rotrN]; rfl, _, rfl⟩

theorem turn_at (x : UInt32) (n : Int) (m : Nat) (w : World) (hn : n = m) (h1 : 0 < m) (h2 : m < 32) :
    Calls Tryd.prog 53 #[.int .u32 x.toNat, .int .i64 n] w fun e w' => e = .returned (.int .u32 (Sha.rotr x m).toNat) ∧ ∃ k, w' = w.drewN k := by
  subst hn; exact turn_any x m w h1 h2

theorem turn_i (x : UInt32) (n : Int) (w : World) (h1 : 0 < n) (h2 : n < 32) :
    Calls Tryd.prog 53 #[.int .u32 x.toNat, .int .i64 n] w fun e w' => e = .returned (.int .u32 (Sha.rotr x n.toNat).toNat) ∧ ∃ k, w' = w.drewN k := by
  obtain ⟨m, rfl⟩ := Int.eq_ofNat_of_zero_le (Int.le_of_lt h1)
  exact turn_any x m w (by omega) (by omega)

theorem notF (x : UInt32) : bits .xor .u32 IntKind.u32.max (x.toNat : Int) = ((~~~x).toNat : Int) := u32_notF x
theorem up_raw (s : Sha.D8) (k w : UInt32) :
    ((s.h.toNat : Int) + bits .xor .u32 (bits .xor .u32 ((Sha.rotr s.e 6).toNat : Int) ((Sha.rotr s.e 11).toNat : Int)) ((Sha.rotr s.e 25).toNat : Int) +
      bits .xor .u32 (bits .and .u32 (s.e.toNat : Int) (s.f.toNat : Int)) (bits .and .u32 (bits .xor .u32 IntKind.u32.max (s.e.toNat : Int)) (s.g.toNat : Int)) + (k.toNat : Int) + (w.toNat : Int)) % 4294967296
      = ((Sha.upOf s k w).toNat : Int) := by
  simp only [notF, u32_xorF, u32_andF, Sha.upOf, UInt32.toNat_add]
  omega
theorem down_raw (s : Sha.D8) :
    (bits .xor .u32 (bits .xor .u32 ((Sha.rotr s.a 2).toNat : Int) ((Sha.rotr s.a 13).toNat : Int)) ((Sha.rotr s.a 22).toNat : Int) +
      bits .xor .u32 (bits .xor .u32 (bits .and .u32 (s.a.toNat : Int) (s.b.toNat : Int)) (bits .and .u32 (s.a.toNat : Int) (s.c.toNat : Int))) (bits .and .u32 (s.b.toNat : Int) (s.c.toNat : Int))) % 4294967296
      = ((Sha.downOf s).toNat : Int) := by
  simp only [u32_xorF, u32_andF, Sha.downOf, UInt32.toNat_add]
  omega
theorem modAdd (a b : Int) (x y : UInt32) (ha : a % 4294967296 = (x.toNat : Int)) (hb : b % 4294967296 = (y.toNat : Int)) : (a + b) % 4294967296 = ((x + y).toNat : Int) := by
  rw [UInt32.toNat_add]; omega
theorem modSelf (y : UInt32) : (y.toNat : Int) % 4294967296 = (y.toNat : Int) := by
  have := y.toNat_lt; omega

theorem index8 (s : Sha.D8) (k : Nat) (hk : k < 8) (W : World) :
    (Instr.index 82 (.agg #[.int .u32 s.a.toNat, .int .u32 s.b.toNat, .int .u32 s.c.toNat, .int .u32 s.d.toNat, .int .u32 s.e.toNat, .int .u32 s.f.toNat, .int .u32 s.g.toNat, .int .u32 s.h.toNat]) (.int .i64 k)).run Tryd.prog W
      = .ok (.int .u32 (s.toList.getD k 0).toNat) W := by
  have h8 : k = 0 ∨ k = 1 ∨ k = 2 ∨ k = 3 ∨ k = 4 ∨ k = 5 ∨ k = 6 ∨ k = 7 := by omega
  rcases h8 with rfl | rfl | rfl | rfl | rfl | rfl | rfl | rfl <;> (show _ = _; kernel_rfl)


def u32v (x : UInt32) : Value := .int .u32 x.toNat

set_option maxRecDepth 100000 in
set_option maxHeartbeats 1000000 in
theorem block_any (bd b off cap : Nat) (D : Sha.D8) (B : List UInt8) (w : World)
    (hd : w.heap[bd]? = some (.cells #[u32v D.a, u32v D.b, u32v D.c, u32v D.d, u32v D.e, u32v D.f, u32v D.g, u32v D.h] 82 (0, 0)))
    (hk : ∀ i, i < 64 → w.cell? ⟨1, i, none⟩ = some (u32v (Sha.kn.getD i 0)))
    (hg : 1 ≠ bd)
    (hc : ∀ i, i < 64 → w.cell? ⟨b, off + i, none⟩ = some (u8v (B.getD i 0))) :
    Calls Tryd.prog 46 #[.pointer (some ⟨bd, 0, none⟩), .slice (some ⟨b, off, none⟩) 64 cap] w fun e w' =>
      e = .returned (.tuple #[]) ∧ Kept w.heap.size (· = bd) w w' ∧
      w'.heap[bd]? = some (.cells #[u32v (Sha.blk D B).a, u32v (Sha.blk D B).b, u32v (Sha.blk D B).c, u32v (Sha.blk D B).d, u32v (Sha.blk D B).e, u32v (Sha.blk D B).f, u32v (Sha.blk D B).g, u32v (Sha.blk D B).h] 82 (0, 0)) := by
  unfold u8v u32v at *
  have hk0 := Lib.hid hk
  clear hk
  go_enter Tryd.func46, Tryd.ntmps46
  go_wp2
  go_loopw [16] (fun c wr => ∃ k : Nat, k ≤ 64 ∧ c = .int .i64 k ∧ Kept w.heap.size (fun _ => False) w wr ∧
      ∃ arr : Array Value, wr.heap[w.heap.size]? = some (.cells arr 89 (0, 0)) ∧ arr.size = 64 ∧ ∀ j, j < k → arr[j]? = some (.int .u32 ((Sha.sched B k).getD j 0).toNat))
    (fun c _ => 64 - (intOf c).toNat)
  case atStart => exact ⟨0, by omega, rfl, (Kept.refl _ _ _).alloc (Nat.le_refl _) _, _, heapNew _ _, rfl, fun j hj => absurd hj (Nat.not_lt_zero _)⟩
  case round =>
    obtain ⟨k, hk, rfl, hkept, arr, harr, hsz, hold⟩ := hrel
    by_cases hlt : k < 64
    · have c4 := cellD harr k (by omega)
      have c5 := freeAt harr k
      by_cases h16 : k < 16
      · have hcc : ∀ j, j < 64 → wr.cell? ⟨b, off + j, none⟩ = some (.int .u8 (B.getD j 0).toNat) := fun j hj => (hkept.cell (p := ⟨b, off + j, none⟩) (World.block_lt_of_cell? w _ (hc j hj)) id).trans (hc j hj)
        obtain ⟨x0, hx0⟩ : ∃ x, x = B.getD (4 * k) 0 := ⟨_, rfl⟩
        obtain ⟨x1, hx1⟩ : ∃ x, x = B.getD (4 * k + 1) 0 := ⟨_, rfl⟩
        obtain ⟨x2, hx2⟩ : ∃ x, x = B.getD (4 * k + 2) 0 := ⟨_, rfl⟩
        obtain ⟨x3, hx3⟩ : ∃ x, x = B.getD (4 * k + 3) 0 := ⟨_, rfl⟩
        have c0 := hcc (4 * k) (by omega)
        have c1 := hcc (4 * k + 1) (by omega)
        have c2 := hcc (4 * k + 2) (by omega)
        have c3 := hcc (4 * k + 3) (by omega)
        rw [← hx0] at c0; rw [← hx1] at c1; rw [← hx2] at c2; rw [← hx3] at c3
        have HS : Hid (x0.toUInt32 <<< 24 ||| x1.toUInt32 <<< 16 ||| x2.toUInt32 <<< 8 ||| x3.toUInt32 = (Sha.sched B (k + 1)).getD k 0) := by
          rw [Sha.sched_new, Sha.nextW, if_pos h16, hx0, hx1, hx2, hx3]; rfl
        clear hx0 hx1 hx2 hx3 hcc hc hd
        have hold' := Lib.hid hold
        clear hold
        go_wp2
        refine region_quiet_tail 35 (by kernel_rfl) (by kernel_rfl) ?_
        simp only [List.take_succ_cons, List.take_zero, List.drop_succ_cons, List.drop_zero]
        repeat (go_big_quiet_step (fail))
        refine wpQuiet_nil ?_
        intro w9 hw9
        obtain ⟨nq, rfl⟩ := hw9
        go_wp2
        go_roundw
        case rel =>
          refine ⟨k + 1, by omega, by go_num, (hkept.drewN nq).setCell (.inl (Nat.le_refl _)) _, fillOne (g := fun j => .int .u32 ((Sha.sched B (k + 1)).getD j 0).toNat) nq harr hsz hlt (fun j hj => by rw [hold'.out j hj, Sha.sched_old B k j hj]) ?_⟩
          rw [word_raw, HS.out]
        case measure => simp [intOf]; omega
      · obtain ⟨y16, h16'⟩ : ∃ x, x = (Sha.sched B k).getD (k - 16) 0 := ⟨_, rfl⟩
        obtain ⟨y15, h15'⟩ : ∃ x, x = (Sha.sched B k).getD (k - 15) 0 := ⟨_, rfl⟩
        obtain ⟨y7, h7'⟩ : ∃ x, x = (Sha.sched B k).getD (k - 7) 0 := ⟨_, rfl⟩
        obtain ⟨y2, h2'⟩ : ∃ x, x = (Sha.sched B k).getD (k - 2) 0 := ⟨_, rfl⟩
        have c0 := cellAt harr _ (hold (k - 16) (by omega))
        have c1 := cellAt harr _ (hold (k - 15) (by omega))
        have c2 := cellAt harr _ (hold (k - 7) (by omega))
        have c3 := cellAt harr _ (hold (k - 2) (by omega))
        rw [← h16'] at c0; rw [← h15'] at c1; rw [← h7'] at c2; rw [← h2'] at c3
        have HS : Hid (y16 + y7 + (Sha.rotr y15 7 ^^^ Sha.rotr y15 18 ^^^ y15 >>> 3) + (Sha.rotr y2 17 ^^^ Sha.rotr y2 19 ^^^ y2 >>> 10) = (Sha.sched B (k + 1)).getD k 0) := by
          rw [Sha.sched_new, Sha.nextW, if_neg h16, h16', h15', h7', h2']; rfl
        have h16i : (16 : Int) ≤ (k : Int) := by omega
        clear h16' h15' h7' h2' hc hd
        have hold' := Lib.hid hold
        clear hold
        go_wp2
        go_quiet (fail)
        go_wp2
        refine region_quiet_tail 29 (by kernel_rfl) (by kernel_rfl) ?_
        simp only [List.take_succ_cons, List.take_zero, List.drop_succ_cons, List.drop_zero]
        repeat (go_big_quiet_step ((go_at_call 53; exact quiet_of2 (turn_i _ _ _ (by decide) (by decide)))))
        refine wpQuiet_nil ?_
        intro w9 hw9
        obtain ⟨nq, rfl⟩ := hw9
        go_wp2
        go_roundw
        case rel =>
          refine ⟨k + 1, by omega, by go_num, (hkept.drewN _).setCell (.inl (Nat.le_refl _)) _, fillOne (g := fun j => .int .u32 ((Sha.sched B (k + 1)).getD j 0).toNat) _ harr hsz hlt (fun j hj => by rw [hold'.out j hj, Sha.sched_old B k j hj]) ?_⟩
          rw [← HS.out, u32_xorF, u32_xorF, shr32 y15 3 3 8 (by decide) rfl (by decide), shr32 y2 10 10 1024 (by decide) rfl (by decide), u32_xorF, u32_xorF]
          congr 1
          simp only [UInt32.toNat_add]
          omega
        case measure => simp [intOf]; omega
    · have hk64 : k = 64 := by omega
      rw [hk64] at hold
      have hk64d : decide ((k : Int) < 64) = false := by rw [hk64]; decide
      have Hk64 := Lib.hid hk64
      clear hk64
      have cg : ∀ i, i < 64 → wr.cell? ⟨1, i, none⟩ = some (.int .u32 (Sha.kn.getD i 0).toNat) := fun i hi => (hkept.cell (p := ⟨1, i, none⟩) (World.block_lt_of_cell? w _ (hk0.out i hi)) id).trans (hk0.out i hi)
      have hdr : wr.heap[bd]? = some (.cells #[.int .u32 D.a.toNat, .int .u32 D.b.toNat, .int .u32 D.c.toNat, .int .u32 D.d.toNat, .int .u32 D.e.toNat, .int .u32 D.f.toNat, .int .u32 D.g.toNat, .int .u32 D.h.toNat] 82 (0, 0)) := (hkept.block bd (lt_of_heap hd) id).trans hd
      have q0 := cellAt hdr 0 rfl
      have q1 := cellAt hdr 1 rfl
      have q2 := cellAt hdr 2 rfl
      have q3 := cellAt hdr 3 rfl
      have q4 := cellAt hdr 4 rfl
      have q5 := cellAt hdr 5 rfl
      have q6 := cellAt hdr 6 rfl
      have q7 := cellAt hdr 7 rfl
      have Hold := Lib.hid hold
      have Cg := Lib.hid cg
      have Hd := Lib.hid hd
      have Hdr := Lib.hid hdr
      have Harr := Lib.hid harr
      clear hold hc hd hdr cg harr
      go_wp2
      obtain ⟨w1, hw1⟩ : ∃ w1 : World, w1 = wr := ⟨_, rfl⟩
      rw [← hw1]
      rw [← hw1] at hkept Harr
      generalize hbv : w1.heap.size = bv
      have hbv' : w.heap.size < bv := by rw [← hbv]; exact lt_of_heap Harr.out
      have k0 : ∀ o, Kept w.heap.size (fun _ => False) w (w1.alloc o) := fun o => hkept.alloc (by have := hkept.size; omega) o
      have r0 : ∀ o, (w1.alloc o).heap[w.heap.size]? = some (.cells arr 89 (0, 0)) := fun o => (heapOld w1 o _ (lt_of_heap Harr.out)).trans Harr.out
      have r1 : ∀ o, (w1.alloc o).heap[bv]? = some o := fun o => by rw [← hbv]; exact heapNew w1 o
      have Hbv := Lib.hid hbv
      clear hbv
      go_loopw [97] (fun c wr2 => ∃ k2 : Nat, k2 ≤ 64 ∧ c = .int .i64 k2 ∧ Kept w.heap.size (fun _ => False) w wr2 ∧
          wr2.heap[w.heap.size]? = some (.cells arr 89 (0, 0)) ∧ ∃ s : Sha.D8, s = Sha.rounds (Sha.sched B 64) D k2 ∧
          wr2.heap[bv]? = some (.cells #[.int .u32 s.a.toNat, .int .u32 s.b.toNat, .int .u32 s.c.toNat, .int .u32 s.d.toNat, .int .u32 s.e.toNat, .int .u32 s.f.toNat, .int .u32 s.g.toNat, .int .u32 s.h.toNat] 82 (0, 0)))
        (fun c _ => 64 - (intOf c).toNat)
      case atStart => exact ⟨0, by omega, rfl, k0 _, r0 _, D, rfl, r1 _⟩
      case round =>
        clear r0 r1 k0 q0 q1 q2 q3 q4 q5 q6 q7
        obtain ⟨k2, hk2, rfl, hkept2, harr2, s, hs, hv⟩ := hrel
        have q0 := cellAt hv 0 rfl
        have q1 := cellAt hv 1 rfl
        have q2 := cellAt hv 2 rfl
        have q3 := cellAt hv 3 rfl
        have q4 := cellAt hv 4 rfl
        have q5 := cellAt hv 5 rfl
        have q6 := cellAt hv 6 rfl
        have q7 := cellAt hv 7 rfl
        have fv := freeAt hv
        have Hv := Lib.hid hv
        have Hs := Lib.hid hs
        have Harr2 := Lib.hid harr2
        clear hv hs harr2
        by_cases hlt2 : k2 < 64
        · obtain ⟨wk, hwk⟩ : ∃ x, x = (Sha.sched B 64).getD k2 0 := ⟨_, rfl⟩
          obtain ⟨kk, hkk⟩ : ∃ x, x = Sha.kn.getD k2 0 := ⟨_, rfl⟩
          have cw : wr.cell? ⟨w.heap.size, k2, none⟩ = some (.int .u32 wk.toNat) := by rw [hwk]; exact cellAt Harr2.out k2 (Hold.out k2 hlt2)
          have ck : wr.cell? ⟨1, k2, none⟩ = some (.int .u32 kk.toNat) := by
            rw [hkk]; exact (hkept2.cell (p := ⟨1, k2, none⟩) (World.block_lt_of_cell? w _ (hk0.out k2 hlt2)) id).trans (hk0.out k2 hlt2)
          have Hwk := Lib.hid hwk
          have Hkk := Lib.hid hkk
          clear hwk hkk
          go_wp2
          go_quiet (fail)
          go_wp2
          go_quiet ((go_at_call 53; exact quiet_of2 (turn_i _ _ _ (by decide) (by decide))))
          go_wp2
          go_quiet ((go_at_call 53; exact quiet_of2 (turn_i _ _ _ (by decide) (by decide))))
          go_wp2
          go_roundw
          case rel =>
            refine ⟨k2 + 1, by omega, by go_num, ?_, ?_, Sha.stepD s kk wk, ?_, ?_⟩
            · exact (((((((((hkept2.drewN _).setCell (.inl (by exact Nat.le_of_lt hbv')) _).setCell (.inl (by exact Nat.le_of_lt hbv')) _).setCell (.inl (by exact Nat.le_of_lt hbv')) _).setCell (.inl (by exact Nat.le_of_lt hbv')) _).setCell (.inl (by exact Nat.le_of_lt hbv')) _).setCell (.inl (by exact Nat.le_of_lt hbv')) _).setCell (.inl (by exact Nat.le_of_lt hbv')) _).setCell (.inl (by exact Nat.le_of_lt hbv')) _)
            · have hne : w.heap.size ≠ bv := by omega
              rw [heapSet_ne _ _ hne, heapSet_ne _ _ hne, heapSet_ne _ _ hne, heapSet_ne _ _ hne, heapSet_ne _ _ hne, heapSet_ne _ _ hne, heapSet_ne _ _ hne, heapSet_ne _ _ hne]
              exact Harr2.out
            · rw [Hkk.out, Hwk.out, Hs.out]; rfl
            · refine (set8 (w := wr.drewN _) Hv.out _ _ _ _ _ _ _ _).trans ?_
              rw [modAdd _ _ _ _ (up_raw s kk wk) (down_raw s), modAdd _ _ _ _ (modSelf s.d) (up_raw s kk wk)]
              rfl
          case measure => simp [intOf]; omega
        · have hk64 : k2 = 64 := by omega
          obtain ⟨s', hs'⟩ : ∃ x, x = s := ⟨_, rfl⟩
          have hdr : wr.heap[bd]? = some (.cells #[.int .u32 D.a.toNat, .int .u32 D.b.toNat, .int .u32 D.c.toNat, .int .u32 D.d.toNat, .int .u32 D.e.toNat, .int .u32 D.f.toNat, .int .u32 D.g.toNat, .int .u32 D.h.toNat] 82 (0, 0)) := (hkept2.block bd (lt_of_heap Hd.out) id).trans Hd.out
          have Hdr2 := Lib.hid hdr
          clear hdr
          go_wp2
          have hix := index8 s
          have hlt0 : (0 : Nat) < 8 := by decide
          have Hs2 := Lib.hid (show s = Sha.rounds (Sha.sched B 64) D 64 by rw [Hs.out, hk64])
          have Hk64b := Lib.hid hk64
          clear hk64 Hs q0 q1 q2 q3 q4 q5 q6 q7 fv Hv
          obtain ⟨w2, hw2⟩ : ∃ w2 : World, w2 = wr := ⟨_, rfl⟩
          rw [← hw2]
          rw [← hw2] at hkept2 Hdr2
          clear hw2 hw1 Cg Hdr
          go_loopw [178] (fun c wr3 => ∃ k3 : Nat, k3 ≤ 8 ∧ c = .int .i64 k3 ∧ Kept w.heap.size (fun x => x = bd) w wr3 ∧
              ∃ cur : Array Value, wr3.heap[bd]? = some (.cells cur 82 (0, 0)) ∧ cur.size = 8 ∧ ∀ j, j < 8 → cur[j]? = some (.int .u32 (if j < k3 then D.toList.getD j 0 + s.toList.getD j 0 else D.toList.getD j 0).toNat))
            (fun c _ => 8 - (intOf c).toNat)
          case atStart =>
            refine ⟨0, by omega, rfl, hkept2.mono (Nat.le_refl _) (fun _ _ h => h.elim), _, Hdr2.out, rfl, fun j hj => ?_⟩
            match j, hj with
            | 0, _ => rfl
            | 1, _ => rfl
            | 2, _ => rfl
            | 3, _ => rfl
            | 4, _ => rfl
            | 5, _ => rfl
            | 6, _ => rfl
            | 7, _ => rfl
          case round =>
            obtain ⟨k3, hk3, rfl, hkept3, cur, hcur, hcs, hcv⟩ := hrel
            by_cases hlt3 : k3 < 8
            · have hix3 := hix k3 hlt3
              obtain ⟨sk, hsk⟩ : ∃ x, x = s.toList.getD k3 0 := ⟨_, rfl⟩
              obtain ⟨dk, hdk⟩ : ∃ x, x = D.toList.getD k3 0 := ⟨_, rfl⟩
              rw [← hsk] at hix3
              have c0 := cellAt hcur k3 (hcv k3 hlt3)
              rw [if_neg (Nat.lt_irrefl k3), ← hdk] at c0
              have f0 := freeAt hcur k3
              have Hcur := Lib.hid hcur
              have Hcv := Lib.hid hcv
              have Hsk := Lib.hid hsk
              have Hdk := Lib.hid hdk
              clear hcur hcv hsk hdk hix
              go_wp2
              refine region_quiet_tail 9 (by kernel_rfl) (by kernel_rfl) ?_
              simp only [List.take_succ_cons, List.take_zero, List.drop_succ_cons, List.drop_zero]
              repeat (go_big_quiet_step (fail))
              refine wpQuiet_nil ?_
              intro w9 hw9
              obtain ⟨nq, rfl⟩ := hw9
              go_wp2
              go_roundw
              case rel =>
                refine ⟨k3 + 1, by omega, by go_num, (hkept3.drewN _).setCell (.inr rfl) _, turnOne _ Hcur.out hcs hlt3 Hcv.out ?_ ?_⟩
                · rw [if_pos (by omega), ← Hdk.out, ← Hsk.out, modAdd _ _ _ _ (modSelf dk) (modSelf sk)]
                · intro j hj hne
                  by_cases h : j < k3
                  · rw [if_pos h, if_pos (by omega)]
                  · rw [if_neg h, if_neg (by omega)]
              case measure => simp [intOf]; omega
            · have Hcv := Lib.hid hcv
              have Hcur := Lib.hid hcur
              clear hix hcv hcur
              go_wp2
              go_end0
              refine ⟨rfl, hkept3, ?_⟩
              have h3 : k3 = 8 := by omega
              subst h3
              rw [Hcur.out, arr8 hcs (fun j hj => by rw [Hcv.out j hj, if_pos hj]), Sha.blk, ← Hs2.out]
              rfl
end Go.Proofs.YtpkfbmafbkgcmaaDoor
