/-
  Texts put together: Stw, RwV, Acc, ClV, Pro.
-/
import Derived.Test.YtdkbajdnckmckaaMg4
import Derived.Test.YtdkbajdnckmckaaMg5
import Derived.Test.YtdkbajdnckmckaaMg2
import Derived.Maps.AppendAt
import Derived.Lib.AppendZerosOnto
import Derived.Lib.SliceRun
import Derived.Shelf.Abstract
set_option linter.unusedVariables false
set_option linter.unusedSimpArgs false
namespace Go.Con.Tp
/-- a record on a tape -/
def head (b : List UInt8) : List UInt8 := UInt8.ofNat b.length :: b
def frame (b : List UInt8) : List UInt8 := head b ++ (Sha.sum (head b)).take 4
end Go.Con.Tp
namespace Go.Proofs.Ytdkbajdnckmckaa
open Go.RowKit Go.Con
/-- a tape, or why not -/
def TapePost (w : World) (l : List UInt8) (s c : Int) (e : Ending) (w' : World) : Prop :=
  ∃ v', e = .returned (.tuple #[.agg #[v', .int .i64 s], .int .i64 c]) ∧ Own w' w.heap.size v' l ∧ Below w.heap.size w w'
theorem newOne (W : World) (n : Nat) (hn : n < 256) : Rd (W.alloc (.cells #[.int .u8 (n : Int)] 5)) (.slice (some ⟨W.heap.size, 0, none⟩) 1 1) [UInt8.ofNat n] := by
  have h := Rd.newRow W [UInt8.ofNat n] 1 rfl (by show 1 ≤ maxLen; decide)
  have e : [UInt8.ofNat n].map u8v = [.int .u8 (n : Int)] := by simp [u8v, UInt8.toNat_ofNat']; omega
  rw [e] at h; exact h
theorem newOneOwn (W : World) (n : Nat) (hn : n < 256) : Own (W.alloc (.cells #[.int .u8 (n : Int)] 5)) W.heap.size (.slice (some ⟨W.heap.size, 0, none⟩) 1 1) [UInt8.ofNat n] := by
  have h := ownNew W W.heap.size [UInt8.ofNat n] 1 rfl (Nat.le_refl _) (by show 1 ≤ maxLen; decide)
  have e : [UInt8.ofNat n].map u8v = [.int .u8 (n : Int)] := by simp [u8v, UInt8.toNat_ofNat']; omega
  rw [e] at h; exact h
end Go.Proofs.Ytdkbajdnckmckaa

set_option linter.unusedVariables false
set_option linter.unusedSimpArgs false
namespace Go.Con
open Go
theorem flatMap_row {α : Type} (f : α → List Value) (d : α) (k : Nat) (hf : ∀ x, (f x).length = k) : ∀ (l : List α) (i : Nat), i < l.length → ∀ j, j < k → (l.flatMap f)[k * i + j]? = (f (l.getD i d))[j]?
  | c :: l, 0, _, j, hj => by
    rw [List.flatMap_cons, Nat.mul_zero, Nat.zero_add, List.getElem?_append_left (by rw [hf]; exact hj)]; rfl
  | c :: l, i + 1, hi, j, hj => by
    rw [List.flatMap_cons, List.getElem?_append_right (by rw [hf, Nat.mul_succ]; omega), hf]
    have e : k * (i + 1) + j - k = k * i + j := by rw [Nat.mul_succ]; omega
    rw [e]
    exact flatMap_row f d k hf l i (by simpa using hi) j hj
theorem flatMap_len {α : Type} (f : α → List Value) (k : Nat) (hf : ∀ x, (f x).length = k) (l : List α) : (l.flatMap f).length = l.length * k := by
  induction l with
  | nil => simp
  | cons c l ih => rw [List.flatMap_cons, List.length_append, ih, hf, List.length_cons, Nat.succ_mul]; omega
/-- a slice that shows a row -/
def RdRow {α : Type} (k : Nat) (f : α → List Value) (d : α) (w : World) (v : Value) (l : List α) : Prop :=
  ∃ a c, v = .slice a l.length c ∧ l.length ≤ c ∧ c ≤ maxLen ∧ (l ≠ [] → ∃ b off, a = some ⟨b, off, none⟩ ∧ b < w.heap.size ∧ ∀ i, i < l.length → ∀ j, j < k → w.cell? ⟨b, off + (k * i + j), none⟩ = (f (l.getD i d))[j]?)
theorem RdRow.ofOwn {α : Type} {k : Nat} {f : α → List Value} {d : α} {w : World} {base : Nat} {t : TypeId} {v : Value} {l : List α} (hf : ∀ x, (f x).length = k) (h : w.ownsRow base t k v l.length (l.flatMap f)) : RdRow k f d w v l := by
  obtain ⟨h1, h2⟩ := h
  rcases h2 with ⟨rfl, hn⟩ | ⟨g, cap, cur, rfl, hb, hg, hnc, hcm, hcs, htake⟩
  · have : l = [] := List.eq_nil_of_length_eq_zero hn
    subst this
    exact ⟨none, 0, rfl, Nat.le_refl _, Nat.zero_le _, fun h => absurd rfl h⟩
  · refine ⟨some ⟨g, 0, none⟩, cap, rfl, hnc, hcm, fun _ => ⟨g, 0, rfl, lt_of_heap hg, fun i hi j hj => ?_⟩⟩
    rw [Nat.zero_add, ← flatMap_row f d k hf l i hi j hj]
    have hlt : k * i + j < (l.flatMap f).length := by
      rw [h1]
      have : k * i + k ≤ l.length * k := by rw [← Nat.mul_succ, Nat.mul_comm]; exact Nat.mul_le_mul_right _ hi
      omega
    have hcur : cur[k * i + j]? = (l.flatMap f)[k * i + j]? := by
      rw [← htake, List.getElem?_take, if_pos (by omega)]; simp
    rw [List.getElem?_eq_getElem hlt] at hcur ⊢
    exact cellAt hg _ hcur
theorem RdRow.heap {α : Type} {k : Nat} {f : α → List Value} {d : α} {w w' : World} {v : Value} {l : List α} (h : RdRow k f d w v l) (hh : ∀ q, v.ownBlock = some q → q < w.heap.size → w'.heap[q]? = w.heap[q]?) : RdRow k f d w' v l := by
  obtain ⟨a, c, rfl, h1, h2, h3⟩ := h
  refine ⟨a, c, rfl, h1, h2, fun hl => ?_⟩
  obtain ⟨b, off, rfl, hb, hc⟩ := h3 hl
  have hw := hh b rfl hb
  refine ⟨b, off, rfl, ?_, fun i hi j hj => ?_⟩
  · rcases Nat.lt_or_ge b w'.heap.size with h | h
    · exact h
    · rw [Array.getElem?_eq_none h, Array.getElem?_eq_getElem hb] at hw; cases hw
  · rw [← hc i hi j hj]
    exact World.cell?_of_block (w := w) hw
/-- what a row's cells are, where it is not empty -/
theorem RdRow.cells {α : Type} {k : Nat} {f : α → List Value} {d : α} {w : World} {a : Option Addr} {n c : Nat} {l : List α} (h : RdRow k f d w (.slice a n c) l) : n = l.length ∧ n ≤ c ∧ (∀ i, i < n → ∃ b off, a = some ⟨b, off, none⟩ ∧ b < w.heap.size ∧ ∀ j, j < k → w.cell? ⟨b, off + (k * i + j), none⟩ = (f (l.getD i d))[j]?) := by
  obtain ⟨a', c', h0, h1, h2, h3⟩ := h
  injection h0 with e1 e2 e3
  subst e1 e3
  refine ⟨e2, by omega, fun i hi => ?_⟩
  obtain ⟨b, off, rfl, hb, hc⟩ := h3 (fun e => by rw [e] at e2; simp at e2; omega)
  exact ⟨b, off, rfl, hb, hc i (by omega)⟩
end Go.Con
namespace Go.Proofs.Ytdkbajdnckmckaa
open Go.RowKit Go.Con
theorem _root_.Go.Con.RdRow.stay {α : Type} {k : Nat} {f : α → List Value} {d : α} {w w' : World} {v : Value} {l : List α} (h : RdRow k f d w v l) (hb : Below w.heap.size w w') : RdRow k f d w' v l := h.heap (fun q _ hq => hb.block q hq)
abbrev RdV := RdRow 8 votCells Vot.zero
/-- a row of votes of the call's own -/
def OwnV (w : World) (base : Nat) (v : Value) (l : List Vot) : Prop := w.ownsRow base 32 8 v l.length (l.flatMap votCells)
theorem OwnV.row {w : World} {base : Nat} {v : Value} {l : List Vot} (h : OwnV w base v l) : RdV w v l := RdRow.ofOwn (fun _ => rfl) h
theorem row_ofHeap {w w' : World} {base size : Nat} {e : TypeId} {v : Value} {n : Nat} {xs : List Value} (h : w.ownsRow base e size v n xs) (hh : ∀ k, v.ownBlock = some k → w'.heap[k]? = w.heap[k]?) : w'.ownsRow base e size v n xs := by
  obtain ⟨h1, h2⟩ := h
  refine ⟨h1, ?_⟩
  rcases h2 with h2 | ⟨g, cap, cur, rfl, hg, hh2, r⟩
  · exact .inl h2
  · exact .inr ⟨g, cap, cur, rfl, hg, by rw [hh g rfl]; exact hh2, r⟩
theorem row_mono {w : World} {base base' size : Nat} {e : TypeId} {v : Value} {n : Nat} {xs : List Value} (h : w.ownsRow base e size v n xs) (hb : base' ≤ base) : w.ownsRow base' e size v n xs := by
  obtain ⟨h1, h2⟩ := h
  refine ⟨h1, ?_⟩
  rcases h2 with h2 | ⟨g, cap, cur, hv, hg, r⟩
  · exact .inl h2
  · exact .inr ⟨g, cap, cur, hv, by omega, r⟩
theorem row_lt {w : World} {base size : Nat} {e : TypeId} {v : Value} {n : Nat} {xs : List Value} (h : w.ownsRow base e size v n xs) : ∀ k, v.ownBlock = some k → base ≤ k ∧ k < w.heap.size := by
  intro k hk
  obtain ⟨h1, h2⟩ := h
  rcases h2 with ⟨rfl, _⟩ | ⟨g, cap, cur, rfl, hg, hh2, r⟩
  · cases hk
  · injection hk with e; subst e; exact ⟨hg, lt_of_heap hh2⟩
theorem info_part {P : Program} {t : TypeId} {z : Option Value} {s b : Nat} (h : (P.info? t).map (fun i => (i.zero, i.size, i.bytes)) = some (z, s, b)) : ∃ i, P.info? t = some i ∧ i.zero = z ∧ i.size = s ∧ i.bytes = b := by
  cases hi : P.info? t with
  | none => rw [hi] at h; cases h
  | some i => rw [hi] at h; simp at h; exact ⟨i, rfl, h.1, h.2.1, h.2.2⟩
theorem infoVot : (Try.prog.info? 32).map (fun i => (i.zero, i.size, i.bytes)) = some (some (.agg #[.int .i64 0, .int .i64 0, .int .i64 0, .int .i64 0, .int .i64 0, .int .i64 0, .int .i64 0, .int .i64 0]), 8, 64) := by kernel_rfl
theorem votCells_one (l : List Vot) : ∀ u ∈ l.flatMap votCells, u.oneCell' = true := by
  intro u hu
  obtain ⟨e, he, hu⟩ := List.mem_flatMap.1 hu
  simp [votCells] at hu
  rcases hu with rfl | rfl | rfl | rfl | rfl | rfl | rfl | rfl <;> rfl
theorem rdV_cells {w : World} {ea : Option Addr} {k c : Nat} {m : List Vot} (h : RdV w (.slice ea k c) m) (ad : Addr) (he : ea = some ad) : ∀ j u, (m.flatMap votCells)[j]? = some u → w.cell? (ad.add j) = some u := by
  intro j u hu
  obtain ⟨hk, hkc, hcells⟩ := h.cells
  have hj : j < m.length * 8 := by
    have := (List.getElem?_eq_some_iff.1 hu).1
    rwa [flatMap_len votCells 8 (fun _ => rfl)] at this
  obtain ⟨b, off, he2, -, hc⟩ := hcells (j / 8) (by omega)
  obtain rfl := Option.some.inj (he.symm.trans he2)
  have h2 := hc (j % 8) (Nat.mod_lt _ (by decide))
  have h3 := flatMap_row votCells Vot.zero 8 (fun _ => rfl) m (j / 8) (by omega) (j % 8) (Nat.mod_lt _ (by decide))
  rw [Nat.div_add_mod] at h2 h3
  rw [Addr.add_mid]
  exact h2.trans (h3.symm.trans hu)
section
variable {ops : Array Oper} {rest : List Oper} {o : Oper} {a : Act} {Q : Exit → Act → World → Prop} {w : World}
/-- append(own votes, shown ones...) -/
theorem apV (hgd : o.guard = none) (s x : Operand) (ho : o.op = .call { callee := .builtin .append, args := #[s, x], argTypes := #[23, 23] })
    (base : Nat) (v : Value) (l m : List Vot) (ea : Option Addr) (k c : Nat) (hs : a.eval s = v) (hown : OwnV w base v l) (hx : a.eval x = .slice ea k c) (hsrc : RdV w (.slice ea k c) m) (hnone : ea = none → c = 0) (hlen : l.length + m.length ≤ 1000000) (hbase : base ≤ w.heap.size)
    (h : ∀ v' w', OwnV w' base v' (l ++ m) → w.grownBy w' v.ownBlock → (v'.ownBlock = v.ownBlock ∨ v'.ownBlock = some w.heap.size) → wpList Try.prog ops Q rest (a.put o.dst v') w') : wpList Try.prog ops Q (o :: rest) a w := by
  obtain ⟨i, hi, hz, hsz, hb⟩ := info_part infoVot
  obtain ⟨hk, hkc, hcells⟩ := hsrc.cells
  cases ea with
  | none =>
    have hk0 : k = 0 := by
      rcases Nat.eq_zero_or_pos k with h | h
      · exact h
      · obtain ⟨b, off, he, -⟩ := hcells 0 h; cases he
    have hm : m = [] := List.eq_nil_of_length_eq_zero (by omega)
    rw [hk0, hnone rfl] at hx
    subst hm
    refine wpList_append_own_none hgd s x 23 ho base 32 i 8 Try.underlying23 hi v l.length _ hs hown hx ?_
    exact h v w (by simpa using hown) ⟨rfl, rfl, rfl, Nat.le_refl _, fun _ _ _ => rfl⟩ (.inl rfl)
  | some ad =>
    refine wpList_append_own_at w hgd s x 23 ho base 32 i _ 8 64 Try.underlying23 hi hz hsz hb rfl (by decide) v l.length (l.flatMap votCells) hs hown ad k c (m.flatMap votCells) hx (by rw [flatMap_len votCells 8 (fun _ => rfl), hk]) (rdV_cells hsrc ad rfl) (votCells_one m) (by unfold maxLen; omega) (by omega) hbase ?_
    intro v' w' h1 h2 _ h4
    refine h v' w' ?_ h2 h4
    unfold OwnV
    rw [List.length_append, List.flatMap_append, ← hk]
    exact h1
end
section
variable {ops : Array Oper} {o : Oper} {a : Act} {w : World} {K : Act → World → Prop} {Q : Exit → Act → World → Prop} {E : Prop}
/-- append(own votes, one more), as one step of a region that draws -/
theorem step_apV (hg : o.guard = none) (s x : Operand) (ho : o.op = .call { callee := .builtin .append, args := #[s, x], argTypes := #[23, 23] })
    (base : Nat) (v : Value) (l : List Vot) (c : Vot) (g : Nat) (hs : a.eval s = v) (hown : OwnV w base v l) (hx : a.eval x = .slice (some ⟨g, 0, none⟩) 1 1) (hsrc : w.heap[g]? = some (.cells (votCells c).toArray 32 (0, 0))) (hlen : l.length ≤ 1000000) (hbase : base ≤ w.heap.size)
    (h : ∀ v' w', OwnV w' base v' (l ++ [c]) → w.grownBy w' v.ownBlock → (v'.ownBlock = v.ownBlock ∨ v'.ownBlock = some w.heap.size) → K (a.put o.dst v') w') : if Region.wanted o (yielded ops a.tmps) = true then Oper.wp Try.prog o a w K Q else E := by
  have hw : Region.wanted o (yielded ops a.tmps) = true := by simp [Region.wanted, hg]
  rw [if_pos hw]
  obtain ⟨i, hi, hz, hsz, hb⟩ := info_part infoVot
  obtain ⟨v', w', hr, h2, h3, h4, h5⟩ := run_append_own_at (P := Try.prog) w base 23 o.type 32 i _ 8 64 Try.underlying23 hi hz hsz hb rfl (by decide) v l.length (l.flatMap votCells) hown ⟨g, 0, none⟩ 1 1 (votCells c) rfl (fun j u hu => by
    have hj := cellAt hsrc j (by simpa using hu)
    rw [Addr.add_mid, Nat.zero_add]; exact hj) (fun u hu => by
    simp [votCells] at hu
    rcases hu with rfl | rfl | rfl | rfl | rfl | rfl | rfl | rfl <;> rfl) (by unfold maxLen; omega) (by omega) hbase
  refine Lib.wp_append_run w s x _ _ ho _ _ hs hx v' w' hr (h v' w' ?_ h3 h5)
  unfold OwnV
  rw [List.length_append, List.flatMap_append]
  simpa using h2
end
end Go.Proofs.Ytdkbajdnckmckaa

set_option linter.unusedVariables false
set_option linter.unusedSimpArgs false
namespace Go.Con
open Go
/-- votes that may be: their slots rise, and none is above the promise -/
def okVs (p : Int × Int) : Int → List Vot → Bool
  | _, [] => true
  | last, v :: l => okV v && decide (last < v.slot) && decide (cmpB v.bal p ≤ 0) && okVs p v.slot l
/-- may an acceptor be? -/
def okA (p : Int × Int) (l : List Vot) : Bool := (decide (p = (0, 0)) || okB p) && okVs p (-1) l
/-- the last slot of votes -/
def lastSlot (l : List Vot) : Int := match l.getLast? with | some v => v.slot | none => -1
theorem lastSlot_snoc (l : List Vot) (v : Vot) : lastSlot (l ++ [v]) = v.slot := by simp [lastSlot]
theorem okVs_append (p : Int × Int) (last : Int) (l m : List Vot) : okVs p last (l ++ m) = (okVs p last l && okVs p ((match l.getLast? with | some v => v.slot | none => last)) m) := by
  induction l generalizing last with
  | nil => rfl
  | cons v l ih =>
    show (okV v && decide (last < v.slot) && decide (cmpB v.bal p ≤ 0) && okVs p v.slot (l ++ m)) = _
    rw [ih]
    have e : (match (v :: l).getLast? with | some v => v.slot | none => last) = (match l.getLast? with | some v => v.slot | none => v.slot) := by
      cases l with
      | nil => rfl
      | cons a b => rw [List.getLast?_cons_cons, List.getLast?_cons]
    rw [e]
    show _ = ((okV v && decide (last < v.slot) && decide (cmpB v.bal p ≤ 0) && okVs p v.slot l) && _)
    simp [Bool.and_assoc]
theorem okVs_snoc (p : Int × Int) (l : List Vot) (v : Vot) : okVs p (-1) (l ++ [v]) = (okVs p (-1) l && (okV v && decide (lastSlot l < v.slot) && decide (cmpB v.bal p ≤ 0))) := by
  rw [okVs_append]
  show (_ && (okV v && decide (_ < v.slot) && decide (cmpB v.bal p ≤ 0) && true)) = _
  rw [Bool.and_true]; rfl
end Go.Con
namespace Go.Proofs.Ytdkbajdnckmckaa
open Go.RowKit Go.Con
/-- an acceptor's value -/
def accV (p : Int × Int) (v : Value) : Value := .agg #[.int .i64 p.1, .int .i64 p.2, v]
theorem vote_to (sl r n k cl sq nm vl : Int) (c : Bool) (w : World) (h : Hid (okV ⟨sl, (r, n), ⟨k, cl, sq, nm, vl⟩⟩ = c)) :
    Calls Try.prog 20 #[.agg #[.int .i64 sl, .int .i64 r, .int .i64 n, .int .i64 k, .int .i64 cl, .int .i64 sq, .int .i64 nm, .int .i64 vl]] w fun e w' => e = .returned (.bool c) ∧ Below w.heap.size w w' := by
  rw [← h.out]; exact vote_any ⟨sl, (r, n), ⟨k, cl, sq, nm, vl⟩⟩ w
theorem cellsV {w : World} {b off i : Nat} {x : Vot} (h : ∀ j, j < 8 → w.cell? ⟨b, off + (8 * i + j), none⟩ = (votCells x)[j]?) :
    w.cell? ⟨b, off + i * 8, none⟩ = some (.int .i64 x.slot) ∧ w.cell? ⟨b, off + i * 8 + 1, none⟩ = some (.int .i64 x.bal.1) ∧ w.cell? ⟨b, off + i * 8 + 2, none⟩ = some (.int .i64 x.bal.2) ∧ w.cell? ⟨b, off + i * 8 + 3, none⟩ = some (.int .i64 x.what.kind) ∧ w.cell? ⟨b, off + i * 8 + 4, none⟩ = some (.int .i64 x.what.client) ∧
    w.cell? ⟨b, off + i * 8 + 5, none⟩ = some (.int .i64 x.what.seq) ∧ w.cell? ⟨b, off + i * 8 + 6, none⟩ = some (.int .i64 x.what.name) ∧ w.cell? ⟨b, off + i * 8 + 7, none⟩ = some (.int .i64 x.what.value) := by
  have e : ∀ j, off + i * 8 + j = off + (8 * i + j) := fun j => by omega
  refine ⟨?_, ?_, ?_, ?_, ?_, ?_, ?_, ?_⟩
  · rw [show off + i * 8 = off + (8 * i + 0) by omega]; exact h 0 (by decide)
  · rw [e]; exact h 1 (by decide)
  · rw [e]; exact h 2 (by decide)
  · rw [e]; exact h 3 (by decide)
  · rw [e]; exact h 4 (by decide)
  · rw [e]; exact h 5 (by decide)
  · rw [e]; exact h 6 (by decide)
  · rw [e]; exact h 7 (by decide)
set_option maxRecDepth 100000 in
set_option maxHeartbeats 2000000 in
theorem accCheck_any (p : Int × Int) (v : Value) (l : List Vot) (w : World) (hv : RdV w v l) :
    Calls Try.prog 12 #[accV p v] w fun e w' => e = .returned (.int .i64 (if okA p l then 0 else 5)) ∧ Below w.heap.size w w' := by
  obtain ⟨pr, pn⟩ := p
  obtain ⟨ea, ec, rfl, hle, hcm, -⟩ := id hv
  obtain ⟨n, hn⟩ : ∃ n, n = l.length := ⟨_, rfl⟩
  rw [← hn] at hv hle ⊢
  have hcm2 : ec ≤ 9223372036854775807 := hcm
  show Calls Try.prog 12 #[.agg #[.int .i64 pr, .int .i64 pn, .slice ea n ec]] w _
  obtain ⟨r, hr⟩ : ∃ r : Int, r = if okA (pr, pn) l then 0 else 5 := ⟨_, rfl⟩
  rw [← hr]
  have HR := Lib.hid hr
  have HV := Lib.hid hv
  have HN := Lib.hid hn
  obtain ⟨b, hb⟩ : ∃ b, b = okB (pr, pn) := ⟨_, rfl⟩
  have HB := Lib.hid hb.symm
  have hbad : (decide ((pr, pn) = ((0, 0) : Int × Int)) || b) = false → r = 5 := by
    intro h; rw [HR.out]; unfold okA; rw [← hb, h]; rfl
  have HBAD := Lib.hid hbad
  clear hr hv hn hb hbad
  -- the promise
  have hp : (pr = 0 ∧ pn = 0) ∨ ((pr == 0) = false ∧ b = true) ∨ (pr = 0 ∧ (pn == 0) = false ∧ b = true) ∨ ((pr == 0) = false ∧ b = false) ∨ (pr = 0 ∧ (pn == 0) = false ∧ b = false) := by
    simp only [beq_eq_false_iff_ne, ne_eq]
    cases b <;> simp <;> omega
  go_enter Try.func12, Try.ntmps12
  rcases hp with ⟨rfl, rfl⟩ | ⟨hp, rfl⟩ | ⟨rfl, hp, rfl⟩ | ⟨hp, rfl⟩ | ⟨rfl, hp, rfl⟩
  · go_upto_region 3 with fail
    generalize hW : World.alloc _ _ = w1
    have hz : w1.heap[w.heap.size]? = some (.cells #[.int .i64 0, .int .i64 0, .slice ea n ec] 39 (0, 0)) := by rw [← hW]; exact heapNew _ _
    have hbw : Below w.heap.size w w1 := by rw [← hW]; exact (Below.refl _ _).alloc (Nat.le_refl _) _
    clear hW
    have HOK : Hid (okA (0, 0) l = okVs (0, 0) (-1) l) := Lib.hid rfl
    have hz1 : Hid (w1.heap[w.heap.size]? = some (.cells #[.int .i64 0, .int .i64 0, .slice ea n ec] 39 (0, 0))) := Lib.hid hz
    have BW := Lib.hid hbw
    have RM : w.heap.size < w1.heap.size := lt_of_heap hz
    have y2 : w1.cell? ⟨w.heap.size, 2, none⟩ = some (.slice ea n ec) := cellAt hz 2 rfl
    clear hz hbw
    go_wp2_with fail
    clear y2
    go_loopw [3, 5, 19] (fun la _ i wr => ∃ j : Nat, j ≤ n ∧ i = .int .i64 j ∧ la = .int .i64 (lastSlot (l.take j)) ∧ Hid (okVs (0, 0) (-1) (l.take j) = true ∧ Below w1.heap.size w1 wr)) (fun _ _ i _ => n - (intOf i).toNat)
    case atStart => exact ⟨0, by omega, rfl, rfl, Lib.hid ⟨rfl, Below.refl _ _⟩⟩
    case round =>
      obtain ⟨j, hjn, rfl, rfl, HI⟩ := hrel
      obtain ⟨la, hla⟩ : ∃ x, x = lastSlot (l.take j) := ⟨_, rfl⟩
      rw [← hla]
      by_cases h1 : j < n
      · have hd1 : decide ((j : Int) < n) = true := by rw [decide_eq_true_eq]; omega
        have hd1n : decide (j < n) = true := by rw [decide_eq_true_eq]; omega
        obtain ⟨eb, eoff, rfl, hel, hec⟩ := HV.out.cells.2.2 j h1
        have hjl : j < l.length := by rw [← HN.out]; exact h1
        obtain ⟨v, hv⟩ : ∃ v, v = l.getD j Vot.zero := ⟨_, rfl⟩
        rw [← hv] at hec
        have htk : l.take (j + 1) = l.take j ++ [v] := by
          rw [List.take_add_one, List.getElem?_eq_getElem hjl, hv, List.getD_eq_getElem?_getD, List.getElem?_eq_getElem hjl]; rfl
        have hsp : ∃ m, l = (l.take j ++ [v]) ++ m := ⟨l.drop (j + 1), by rw [← htk, List.take_append_drop]⟩
        have hkk : okVs (0, 0) (-1) (l.take (j + 1)) = (okV v && decide (la < v.slot) && decide (cmpB v.bal (0, 0) ≤ 0)) := by
          rw [htk, okVs_snoc, HI.out.1, hla, Bool.true_and]
        have hls : lastSlot (l.take (j + 1)) = v.slot := by rw [htk, lastSlot_snoc]
        have hno : (okV v && decide (la < v.slot) && decide (cmpB v.bal (0, 0) ≤ 0)) = false → r = 5 := by
          intro h
          obtain ⟨m, hm⟩ := hsp
          rw [HR.out]
          have : okVs (0, 0) (-1) l = false := by
            rw [hm, okVs_append, ← htk, hkk, h]; rfl
          unfold okA
          rw [this, Bool.and_false]; rfl
        have hecr : ∀ q, q < 8 → wr.cell? ⟨eb, eoff + (8 * j + q), none⟩ = (votCells v)[q]? := fun q hq => by
          rw [← hec q hq]
          exact World.cell?_of_block (w := w) ((BW.out.trans (HI.out.2.mono BW.out.size)).block eb hel)
        obtain ⟨sl, ⟨br, bn⟩, ⟨k, cl, sq, nm, vl⟩⟩ := v
        obtain ⟨x0, x1, x2, x3, x4, x5, x6, x7⟩ := cellsV hecr
        dsimp only at x0 x1 x2 x3 x4 x5 x6 x7 hno hkk hls
        obtain ⟨c1, hc1⟩ : ∃ c, c = okV ⟨sl, (br, bn), ⟨k, cl, sq, nm, vl⟩⟩ := ⟨_, rfl⟩
        obtain ⟨c2, hc2⟩ : ∃ c, c = cmpB (br, bn) (0, 0) := ⟨_, rfl⟩
        rw [← hc1, ← hc2] at hno hkk
        have HC1 := Lib.hid hc1.symm
        have HC2 := Lib.hid hc2.symm
        have HNO := Lib.hid hno
        have HKK := Lib.hid hkk
        have HLS := Lib.hid hls
        have RMr : w.heap.size < wr.heap.size := Nat.lt_of_lt_of_le RM HI.out.2.size
        have hzr := (HI.out.2.block _ RM).trans hz1.out
        have HZR := Lib.hid hzr
        clear hec hecr hv htk hsp hno hkk hls hc1 hc2 hla hzr hjl hel
        have hcase : (c1 = false ∧ r = 5) ∨ (c1 = true ∧ decide (sl ≤ la) = true ∧ r = 5) ∨ (c1 = true ∧ decide (sl ≤ la) = false ∧ decide (0 < c2) = true ∧ r = 5) ∨ (c1 = true ∧ decide (sl ≤ la) = false ∧ decide (0 < c2) = false ∧ okVs (0, 0) (-1) (l.take (j + 1)) = true) := by
          by_cases q1 : c1 = true
          · by_cases q2 : sl ≤ la
            · exact .inr (.inl ⟨q1, by simpa using q2, HNO.out (by rw [show decide (la < sl) = false by rw [decide_eq_false_iff_not]; omega]; simp)⟩)
            · by_cases q3 : 0 < c2
              · exact .inr (.inr (.inl ⟨q1, by simpa using q2, by simpa using q3, HNO.out (by rw [show decide (c2 ≤ 0) = false by rw [decide_eq_false_iff_not]; omega]; simp)⟩))
              · refine .inr (.inr (.inr ⟨q1, by simpa using q2, by simpa using q3, ?_⟩))
                rw [HKK.out, q1]
                simp; omega
          · have q1' : c1 = false := by simpa using q1
            exact .inl ⟨q1', HNO.out (by rw [q1']; rfl)⟩
        rcases hcase with ⟨rfl, rfl⟩ | ⟨rfl, q2, rfl⟩ | ⟨rfl, q2, q3, rfl⟩ | ⟨rfl, q2, q3, q4⟩
        iterate 3
          · go_wp2_with (first
              | (go_at_call 20; refine (vote_to _ _ _ _ _ _ _ _ _ _ (by assumption)).mono ?_; rintro e w2 ⟨rfl, hb2⟩; have B2 := Lib.hid (((Below.refl wr.heap.size wr).alloc (Nat.le_refl _) _).trans (hb2.mono (by simp))); have g5 := (hb2.block wr.heap.size (by simp)).trans (heapNew _ _); have g0 := ((hb2.block w.heap.size (by simp; omega)).trans (heapOld _ _ _ RMr)).trans HZR.out; have u0 := cellAt g5 0 rfl; have u1 := cellAt g5 1 rfl; have u2 := cellAt g5 2 rfl; have p0 := cellAt g0 0 rfl; have p1 := cellAt g0 1 rfl; clear hb2 g5 g0)
              | (go_at_call 21; refine (compare_to _ _ _ _ _ _ (by assumption)).mono ?_; rintro e w3 ⟨rfl, hb3⟩; have B3 := Lib.hid (B2.out.trans (hb3.mono B2.out.size)); clear hb3))
            go_ret
            exact ⟨rfl, (BW.out.trans (HI.out.2.mono BW.out.size)).trans (Below.mono (by first | exact B3.out | exact B2.out) (Nat.le_of_lt RMr))⟩
        · go_wp2_with (first
            | (go_at_call 20; refine (vote_to _ _ _ _ _ _ _ _ _ _ (by assumption)).mono ?_; rintro e w2 ⟨rfl, hb2⟩; have B2 := Lib.hid (((Below.refl wr.heap.size wr).alloc (Nat.le_refl _) _).trans (hb2.mono (by simp))); have g5 := (hb2.block wr.heap.size (by simp)).trans (heapNew _ _); have G5 := Lib.hid g5; have g0 := ((hb2.block w.heap.size (by simp; omega)).trans (heapOld _ _ _ RMr)).trans HZR.out; have u0 := cellAt g5 0 rfl; have u1 := cellAt g5 1 rfl; have u2 := cellAt g5 2 rfl; have p0 := cellAt g0 0 rfl; have p1 := cellAt g0 1 rfl; clear hb2 g5 g0)
            | (go_at_call 21; refine (compare_to _ _ _ _ _ _ (by assumption)).mono ?_; rintro e w3 ⟨rfl, hb3⟩; have B3 := Lib.hid (B2.out.trans (hb3.mono B2.out.size)); have t0 := cellAt ((hb3.block _ (lt_of_heap G5.out)).trans G5.out) 0 rfl; clear hb3))
          go_roundw
          case rel => exact ⟨j + 1, by omega, by go_num, by rw [HLS.out], Lib.hid ⟨q4, HI.out.2.trans (B3.out.mono HI.out.2.size)⟩⟩
          case measure => simp [intOf]; omega
      · have hjn2 : j = n := by omega
        have hd1 : decide ((j : Int) < n) = false := by rw [decide_eq_false_iff_not]; omega
        have hd1n : decide (j < n) = false := by rw [decide_eq_false_iff_not]; omega
        have hr0 : r = 0 := by
          rw [HR.out]
          have h := HI.out.1
          rw [show l.take j = l by rw [hjn2, HN.out, List.take_length]] at h
          rw [HOK.out, h]; rfl
        subst hr0
        clear hjn2 hla
        go_wp2_with fail
        go_ret
        exact ⟨rfl, BW.out.trans (HI.out.2.mono BW.out.size)⟩
  · have HOK : Hid (okA (pr, pn) l = okVs (pr, pn) (-1) l) := Lib.hid (by unfold okA; rw [HB.out, Bool.or_true, Bool.true_and])
    go_upto_region 3 with (go_at_call 22; refine (ballot_to _ _ _ _ (by assumption)).mono ?_; rintro e w1 ⟨rfl, hb1⟩; have hz := (hb1.block w.heap.size (by simp)).trans (heapNew _ _); have hbw := ((Below.refl w.heap.size w).alloc (Nat.le_refl _) (.cells #[.int .i64 pr, .int .i64 pn, .slice ea n ec] 39)).trans (hb1.mono (by simp)); clear hb1)
    clear hp
    have hz1 : Hid (w1.heap[w.heap.size]? = some (.cells #[.int .i64 pr, .int .i64 pn, .slice ea n ec] 39 (0, 0))) := Lib.hid hz
    have BW := Lib.hid hbw
    have RM : w.heap.size < w1.heap.size := lt_of_heap hz
    have y2 : w1.cell? ⟨w.heap.size, 2, none⟩ = some (.slice ea n ec) := cellAt hz 2 rfl
    clear hz hbw
    go_wp2_with fail
    clear y2
    go_loopw [3, 5, 19] (fun la _ i wr => ∃ j : Nat, j ≤ n ∧ i = .int .i64 j ∧ la = .int .i64 (lastSlot (l.take j)) ∧ Hid (okVs (pr, pn) (-1) (l.take j) = true ∧ Below w1.heap.size w1 wr)) (fun _ _ i _ => n - (intOf i).toNat)
    case atStart => exact ⟨0, by omega, rfl, rfl, Lib.hid ⟨rfl, Below.refl _ _⟩⟩
    case round =>
      obtain ⟨j, hjn, rfl, rfl, HI⟩ := hrel
      obtain ⟨la, hla⟩ : ∃ x, x = lastSlot (l.take j) := ⟨_, rfl⟩
      rw [← hla]
      by_cases h1 : j < n
      · have hd1 : decide ((j : Int) < n) = true := by rw [decide_eq_true_eq]; omega
        have hd1n : decide (j < n) = true := by rw [decide_eq_true_eq]; omega
        obtain ⟨eb, eoff, rfl, hel, hec⟩ := HV.out.cells.2.2 j h1
        have hjl : j < l.length := by rw [← HN.out]; exact h1
        obtain ⟨v, hv⟩ : ∃ v, v = l.getD j Vot.zero := ⟨_, rfl⟩
        rw [← hv] at hec
        have htk : l.take (j + 1) = l.take j ++ [v] := by
          rw [List.take_add_one, List.getElem?_eq_getElem hjl, hv, List.getD_eq_getElem?_getD, List.getElem?_eq_getElem hjl]; rfl
        have hsp : ∃ m, l = (l.take j ++ [v]) ++ m := ⟨l.drop (j + 1), by rw [← htk, List.take_append_drop]⟩
        have hkk : okVs (pr, pn) (-1) (l.take (j + 1)) = (okV v && decide (la < v.slot) && decide (cmpB v.bal (pr, pn) ≤ 0)) := by
          rw [htk, okVs_snoc, HI.out.1, hla, Bool.true_and]
        have hls : lastSlot (l.take (j + 1)) = v.slot := by rw [htk, lastSlot_snoc]
        have hno : (okV v && decide (la < v.slot) && decide (cmpB v.bal (pr, pn) ≤ 0)) = false → r = 5 := by
          intro h
          obtain ⟨m, hm⟩ := hsp
          rw [HR.out]
          have : okVs (pr, pn) (-1) l = false := by
            rw [hm, okVs_append, ← htk, hkk, h]; rfl
          unfold okA
          rw [this, Bool.and_false]; rfl
        have hecr : ∀ q, q < 8 → wr.cell? ⟨eb, eoff + (8 * j + q), none⟩ = (votCells v)[q]? := fun q hq => by
          rw [← hec q hq]
          exact World.cell?_of_block (w := w) ((BW.out.trans (HI.out.2.mono BW.out.size)).block eb hel)
        obtain ⟨sl, ⟨br, bn⟩, ⟨k, cl, sq, nm, vl⟩⟩ := v
        obtain ⟨x0, x1, x2, x3, x4, x5, x6, x7⟩ := cellsV hecr
        dsimp only at x0 x1 x2 x3 x4 x5 x6 x7 hno hkk hls
        obtain ⟨c1, hc1⟩ : ∃ c, c = okV ⟨sl, (br, bn), ⟨k, cl, sq, nm, vl⟩⟩ := ⟨_, rfl⟩
        obtain ⟨c2, hc2⟩ : ∃ c, c = cmpB (br, bn) (pr, pn) := ⟨_, rfl⟩
        rw [← hc1, ← hc2] at hno hkk
        have HC1 := Lib.hid hc1.symm
        have HC2 := Lib.hid hc2.symm
        have HNO := Lib.hid hno
        have HKK := Lib.hid hkk
        have HLS := Lib.hid hls
        have RMr : w.heap.size < wr.heap.size := Nat.lt_of_lt_of_le RM HI.out.2.size
        have hzr := (HI.out.2.block _ RM).trans hz1.out
        have HZR := Lib.hid hzr
        clear hec hecr hv htk hsp hno hkk hls hc1 hc2 hla hzr hjl hel
        have hcase : (c1 = false ∧ r = 5) ∨ (c1 = true ∧ decide (sl ≤ la) = true ∧ r = 5) ∨ (c1 = true ∧ decide (sl ≤ la) = false ∧ decide (0 < c2) = true ∧ r = 5) ∨ (c1 = true ∧ decide (sl ≤ la) = false ∧ decide (0 < c2) = false ∧ okVs (pr, pn) (-1) (l.take (j + 1)) = true) := by
          by_cases q1 : c1 = true
          · by_cases q2 : sl ≤ la
            · exact .inr (.inl ⟨q1, by simpa using q2, HNO.out (by rw [show decide (la < sl) = false by rw [decide_eq_false_iff_not]; omega]; simp)⟩)
            · by_cases q3 : 0 < c2
              · exact .inr (.inr (.inl ⟨q1, by simpa using q2, by simpa using q3, HNO.out (by rw [show decide (c2 ≤ 0) = false by rw [decide_eq_false_iff_not]; omega]; simp)⟩))
              · refine .inr (.inr (.inr ⟨q1, by simpa using q2, by simpa using q3, ?_⟩))
                rw [HKK.out, q1]
                simp; omega
          · have q1' : c1 = false := by simpa using q1
            exact .inl ⟨q1', HNO.out (by rw [q1']; rfl)⟩
        rcases hcase with ⟨rfl, rfl⟩ | ⟨rfl, q2, rfl⟩ | ⟨rfl, q2, q3, rfl⟩ | ⟨rfl, q2, q3, q4⟩
        iterate 3
          · go_wp2_with (first
              | (go_at_call 20; refine (vote_to _ _ _ _ _ _ _ _ _ _ (by assumption)).mono ?_; rintro e w2 ⟨rfl, hb2⟩; have B2 := Lib.hid (((Below.refl wr.heap.size wr).alloc (Nat.le_refl _) _).trans (hb2.mono (by simp))); have g5 := (hb2.block wr.heap.size (by simp)).trans (heapNew _ _); have g0 := ((hb2.block w.heap.size (by simp; omega)).trans (heapOld _ _ _ RMr)).trans HZR.out; have u0 := cellAt g5 0 rfl; have u1 := cellAt g5 1 rfl; have u2 := cellAt g5 2 rfl; have p0 := cellAt g0 0 rfl; have p1 := cellAt g0 1 rfl; clear hb2 g5 g0)
              | (go_at_call 21; refine (compare_to _ _ _ _ _ _ (by assumption)).mono ?_; rintro e w3 ⟨rfl, hb3⟩; have B3 := Lib.hid (B2.out.trans (hb3.mono B2.out.size)); clear hb3))
            go_ret
            exact ⟨rfl, (BW.out.trans (HI.out.2.mono BW.out.size)).trans (Below.mono (by first | exact B3.out | exact B2.out) (Nat.le_of_lt RMr))⟩
        · go_wp2_with (first
            | (go_at_call 20; refine (vote_to _ _ _ _ _ _ _ _ _ _ (by assumption)).mono ?_; rintro e w2 ⟨rfl, hb2⟩; have B2 := Lib.hid (((Below.refl wr.heap.size wr).alloc (Nat.le_refl _) _).trans (hb2.mono (by simp))); have g5 := (hb2.block wr.heap.size (by simp)).trans (heapNew _ _); have G5 := Lib.hid g5; have g0 := ((hb2.block w.heap.size (by simp; omega)).trans (heapOld _ _ _ RMr)).trans HZR.out; have u0 := cellAt g5 0 rfl; have u1 := cellAt g5 1 rfl; have u2 := cellAt g5 2 rfl; have p0 := cellAt g0 0 rfl; have p1 := cellAt g0 1 rfl; clear hb2 g5 g0)
            | (go_at_call 21; refine (compare_to _ _ _ _ _ _ (by assumption)).mono ?_; rintro e w3 ⟨rfl, hb3⟩; have B3 := Lib.hid (B2.out.trans (hb3.mono B2.out.size)); have t0 := cellAt ((hb3.block _ (lt_of_heap G5.out)).trans G5.out) 0 rfl; clear hb3))
          go_roundw
          case rel => exact ⟨j + 1, by omega, by go_num, by rw [HLS.out], Lib.hid ⟨q4, HI.out.2.trans (B3.out.mono HI.out.2.size)⟩⟩
          case measure => simp [intOf]; omega
      · have hjn2 : j = n := by omega
        have hd1 : decide ((j : Int) < n) = false := by rw [decide_eq_false_iff_not]; omega
        have hd1n : decide (j < n) = false := by rw [decide_eq_false_iff_not]; omega
        have hr0 : r = 0 := by
          rw [HR.out]
          have h := HI.out.1
          rw [show l.take j = l by rw [hjn2, HN.out, List.take_length]] at h
          rw [HOK.out, h]; rfl
        subst hr0
        clear hjn2 hla
        go_wp2_with fail
        go_ret
        exact ⟨rfl, BW.out.trans (HI.out.2.mono BW.out.size)⟩
  · have HOK : Hid (okA (0, pn) l = okVs (0, pn) (-1) l) := Lib.hid (by unfold okA; rw [HB.out, Bool.or_true, Bool.true_and])
    go_upto_region 3 with (go_at_call 22; refine (ballot_to _ _ _ _ (by assumption)).mono ?_; rintro e w1 ⟨rfl, hb1⟩; have hz := (hb1.block w.heap.size (by simp)).trans (heapNew _ _); have hbw := ((Below.refl w.heap.size w).alloc (Nat.le_refl _) (.cells #[.int .i64 0, .int .i64 pn, .slice ea n ec] 39)).trans (hb1.mono (by simp)); clear hb1)
    clear hp
    have hz1 : Hid (w1.heap[w.heap.size]? = some (.cells #[.int .i64 0, .int .i64 pn, .slice ea n ec] 39 (0, 0))) := Lib.hid hz
    have BW := Lib.hid hbw
    have RM : w.heap.size < w1.heap.size := lt_of_heap hz
    have y2 : w1.cell? ⟨w.heap.size, 2, none⟩ = some (.slice ea n ec) := cellAt hz 2 rfl
    clear hz hbw
    go_wp2_with fail
    clear y2
    go_loopw [3, 5, 19] (fun la _ i wr => ∃ j : Nat, j ≤ n ∧ i = .int .i64 j ∧ la = .int .i64 (lastSlot (l.take j)) ∧ Hid (okVs (0, pn) (-1) (l.take j) = true ∧ Below w1.heap.size w1 wr)) (fun _ _ i _ => n - (intOf i).toNat)
    case atStart => exact ⟨0, by omega, rfl, rfl, Lib.hid ⟨rfl, Below.refl _ _⟩⟩
    case round =>
      obtain ⟨j, hjn, rfl, rfl, HI⟩ := hrel
      obtain ⟨la, hla⟩ : ∃ x, x = lastSlot (l.take j) := ⟨_, rfl⟩
      rw [← hla]
      by_cases h1 : j < n
      · have hd1 : decide ((j : Int) < n) = true := by rw [decide_eq_true_eq]; omega
        have hd1n : decide (j < n) = true := by rw [decide_eq_true_eq]; omega
        obtain ⟨eb, eoff, rfl, hel, hec⟩ := HV.out.cells.2.2 j h1
        have hjl : j < l.length := by rw [← HN.out]; exact h1
        obtain ⟨v, hv⟩ : ∃ v, v = l.getD j Vot.zero := ⟨_, rfl⟩
        rw [← hv] at hec
        have htk : l.take (j + 1) = l.take j ++ [v] := by
          rw [List.take_add_one, List.getElem?_eq_getElem hjl, hv, List.getD_eq_getElem?_getD, List.getElem?_eq_getElem hjl]; rfl
        have hsp : ∃ m, l = (l.take j ++ [v]) ++ m := ⟨l.drop (j + 1), by rw [← htk, List.take_append_drop]⟩
        have hkk : okVs (0, pn) (-1) (l.take (j + 1)) = (okV v && decide (la < v.slot) && decide (cmpB v.bal (0, pn) ≤ 0)) := by
          rw [htk, okVs_snoc, HI.out.1, hla, Bool.true_and]
        have hls : lastSlot (l.take (j + 1)) = v.slot := by rw [htk, lastSlot_snoc]
        have hno : (okV v && decide (la < v.slot) && decide (cmpB v.bal (0, pn) ≤ 0)) = false → r = 5 := by
          intro h
          obtain ⟨m, hm⟩ := hsp
          rw [HR.out]
          have : okVs (0, pn) (-1) l = false := by
            rw [hm, okVs_append, ← htk, hkk, h]; rfl
          unfold okA
          rw [this, Bool.and_false]; rfl
        have hecr : ∀ q, q < 8 → wr.cell? ⟨eb, eoff + (8 * j + q), none⟩ = (votCells v)[q]? := fun q hq => by
          rw [← hec q hq]
          exact World.cell?_of_block (w := w) ((BW.out.trans (HI.out.2.mono BW.out.size)).block eb hel)
        obtain ⟨sl, ⟨br, bn⟩, ⟨k, cl, sq, nm, vl⟩⟩ := v
        obtain ⟨x0, x1, x2, x3, x4, x5, x6, x7⟩ := cellsV hecr
        dsimp only at x0 x1 x2 x3 x4 x5 x6 x7 hno hkk hls
        obtain ⟨c1, hc1⟩ : ∃ c, c = okV ⟨sl, (br, bn), ⟨k, cl, sq, nm, vl⟩⟩ := ⟨_, rfl⟩
        obtain ⟨c2, hc2⟩ : ∃ c, c = cmpB (br, bn) (0, pn) := ⟨_, rfl⟩
        rw [← hc1, ← hc2] at hno hkk
        have HC1 := Lib.hid hc1.symm
        have HC2 := Lib.hid hc2.symm
        have HNO := Lib.hid hno
        have HKK := Lib.hid hkk
        have HLS := Lib.hid hls
        have RMr : w.heap.size < wr.heap.size := Nat.lt_of_lt_of_le RM HI.out.2.size
        have hzr := (HI.out.2.block _ RM).trans hz1.out
        have HZR := Lib.hid hzr
        clear hec hecr hv htk hsp hno hkk hls hc1 hc2 hla hzr hjl hel
        have hcase : (c1 = false ∧ r = 5) ∨ (c1 = true ∧ decide (sl ≤ la) = true ∧ r = 5) ∨ (c1 = true ∧ decide (sl ≤ la) = false ∧ decide (0 < c2) = true ∧ r = 5) ∨ (c1 = true ∧ decide (sl ≤ la) = false ∧ decide (0 < c2) = false ∧ okVs (0, pn) (-1) (l.take (j + 1)) = true) := by
          by_cases q1 : c1 = true
          · by_cases q2 : sl ≤ la
            · exact .inr (.inl ⟨q1, by simpa using q2, HNO.out (by rw [show decide (la < sl) = false by rw [decide_eq_false_iff_not]; omega]; simp)⟩)
            · by_cases q3 : 0 < c2
              · exact .inr (.inr (.inl ⟨q1, by simpa using q2, by simpa using q3, HNO.out (by rw [show decide (c2 ≤ 0) = false by rw [decide_eq_false_iff_not]; omega]; simp)⟩))
              · refine .inr (.inr (.inr ⟨q1, by simpa using q2, by simpa using q3, ?_⟩))
                rw [HKK.out, q1]
                simp; omega
          · have q1' : c1 = false := by simpa using q1
            exact .inl ⟨q1', HNO.out (by rw [q1']; rfl)⟩
        rcases hcase with ⟨rfl, rfl⟩ | ⟨rfl, q2, rfl⟩ | ⟨rfl, q2, q3, rfl⟩ | ⟨rfl, q2, q3, q4⟩
        iterate 3
          · go_wp2_with (first
              | (go_at_call 20; refine (vote_to _ _ _ _ _ _ _ _ _ _ (by assumption)).mono ?_; rintro e w2 ⟨rfl, hb2⟩; have B2 := Lib.hid (((Below.refl wr.heap.size wr).alloc (Nat.le_refl _) _).trans (hb2.mono (by simp))); have g5 := (hb2.block wr.heap.size (by simp)).trans (heapNew _ _); have g0 := ((hb2.block w.heap.size (by simp; omega)).trans (heapOld _ _ _ RMr)).trans HZR.out; have u0 := cellAt g5 0 rfl; have u1 := cellAt g5 1 rfl; have u2 := cellAt g5 2 rfl; have p0 := cellAt g0 0 rfl; have p1 := cellAt g0 1 rfl; clear hb2 g5 g0)
              | (go_at_call 21; refine (compare_to _ _ _ _ _ _ (by assumption)).mono ?_; rintro e w3 ⟨rfl, hb3⟩; have B3 := Lib.hid (B2.out.trans (hb3.mono B2.out.size)); clear hb3))
            go_ret
            exact ⟨rfl, (BW.out.trans (HI.out.2.mono BW.out.size)).trans (Below.mono (by first | exact B3.out | exact B2.out) (Nat.le_of_lt RMr))⟩
        · go_wp2_with (first
            | (go_at_call 20; refine (vote_to _ _ _ _ _ _ _ _ _ _ (by assumption)).mono ?_; rintro e w2 ⟨rfl, hb2⟩; have B2 := Lib.hid (((Below.refl wr.heap.size wr).alloc (Nat.le_refl _) _).trans (hb2.mono (by simp))); have g5 := (hb2.block wr.heap.size (by simp)).trans (heapNew _ _); have G5 := Lib.hid g5; have g0 := ((hb2.block w.heap.size (by simp; omega)).trans (heapOld _ _ _ RMr)).trans HZR.out; have u0 := cellAt g5 0 rfl; have u1 := cellAt g5 1 rfl; have u2 := cellAt g5 2 rfl; have p0 := cellAt g0 0 rfl; have p1 := cellAt g0 1 rfl; clear hb2 g5 g0)
            | (go_at_call 21; refine (compare_to _ _ _ _ _ _ (by assumption)).mono ?_; rintro e w3 ⟨rfl, hb3⟩; have B3 := Lib.hid (B2.out.trans (hb3.mono B2.out.size)); have t0 := cellAt ((hb3.block _ (lt_of_heap G5.out)).trans G5.out) 0 rfl; clear hb3))
          go_roundw
          case rel => exact ⟨j + 1, by omega, by go_num, by rw [HLS.out], Lib.hid ⟨q4, HI.out.2.trans (B3.out.mono HI.out.2.size)⟩⟩
          case measure => simp [intOf]; omega
      · have hjn2 : j = n := by omega
        have hd1 : decide ((j : Int) < n) = false := by rw [decide_eq_false_iff_not]; omega
        have hd1n : decide (j < n) = false := by rw [decide_eq_false_iff_not]; omega
        have hr0 : r = 0 := by
          rw [HR.out]
          have h := HI.out.1
          rw [show l.take j = l by rw [hjn2, HN.out, List.take_length]] at h
          rw [HOK.out, h]; rfl
        subst hr0
        clear hjn2 hla
        go_wp2_with fail
        go_ret
        exact ⟨rfl, BW.out.trans (HI.out.2.mono BW.out.size)⟩
  · have hr5 : r = 5 := HBAD.out (by
      rw [Bool.or_false, decide_eq_false_iff_not]
      intro h; injection h with e1 e2; simp [e1, e2] at hp)
    subst hr5
    go_wp2_with (go_at_call 22; refine (ballot_to _ _ _ _ (by assumption)).mono ?_; rintro e w1 ⟨rfl, hb1⟩; have B1 := Lib.hid (((Below.refl w.heap.size w).alloc (Nat.le_refl _) (.cells #[.int .i64 pr, .int .i64 pn, .slice ea n ec] 39)).trans (hb1.mono (by simp))); clear hb1)
    go_ret
    exact ⟨rfl, B1.out⟩
  · have hr5 : r = 5 := HBAD.out (by
      rw [Bool.or_false, decide_eq_false_iff_not]
      intro h; injection h with e1 e2; simp [e1, e2] at hp)
    subst hr5
    go_wp2_with (go_at_call 22; refine (ballot_to _ _ _ _ (by assumption)).mono ?_; rintro e w1 ⟨rfl, hb1⟩; have B1 := Lib.hid (((Below.refl w.heap.size w).alloc (Nat.le_refl _) (.cells #[.int .i64 0, .int .i64 pn, .slice ea n ec] 39)).trans (hb1.mono (by simp))); clear hb1)
    go_ret
    exact ⟨rfl, B1.out⟩
end Go.Proofs.Ytdkbajdnckmckaa

set_option linter.unusedVariables false
set_option linter.unusedSimpArgs false
namespace Go.Proofs.Ytdkbajdnckmckaa
open Go.RowKit Go.Con
/-- votes, or none at all -/
theorem clnV_nil (w : World) : Calls Try.prog 23 #[.slice none 0 0] w fun e w' => e = .returned (.slice none 0 0) ∧ w' = w := by
  have hnl := fun (w : World) => Lib.run_eql_slice_nil (P := Try.prog) w 23 32 none 0 0 0 0 Try.underlying23
  go_enter Try.func23, Try.ntmps23
  go_wp2_with fail
  go_ret
  exact ⟨rfl, rfl⟩
theorem clnV_some (a : Addr) (n c : Nat) (l : List Vot) (w : World) (hv : RdV w (.slice (some a) n c) l) (hl : l.length ≤ 100000) :
    Calls Try.prog 23 #[.slice (some a) n c] w fun e w' => ∃ v', e = .returned v' ∧ OwnV w' w.heap.size v' l ∧ Below w.heap.size w w' := by
  have hnl := fun (w : World) => Lib.run_eql_slice_nil (P := Try.prog) w 23 32 (some a) n c 0 0 Try.underlying23
  have HV := Lib.hid hv
  clear hv
  go_enter Try.func23, Try.ntmps23
  go_wp2_with (at_builtin; refine apV rfl (.tmp 5) (.tmp 6) rfl w.heap.size (.slice (some ⟨w.heap.size, 0, none⟩) 0 0) [] l (some a) n c rfl ⟨rfl, .inr ⟨w.heap.size, 0, #[], rfl, Nat.le_refl _, heapNew _ _, Nat.le_refl _, by decide, rfl, rfl⟩⟩ rfl (RdRow.stay HV.out ((Below.refl _ _).alloc (Nat.le_refl _) _)) (fun h => by cases h) (by simp; omega) (by simp) ?_; intro v2 w2 ho2 hg2 _; have O2 := Lib.hid ho2; have G2 := Lib.hid hg2; clear ho2 hg2)
  go_ret
  refine ⟨_, rfl, by have h := O2.out; rwa [List.nil_append] at h, ((Below.refl _ _).alloc (Nat.le_refl _) _).grown G2.out (by simp) (fun k hk => by injection hk with hk; subst hk; exact Nat.le_refl _)⟩
/-- Clone of votes: a row of its own (nil of nil) -/
theorem clnV_any (v : Value) (l : List Vot) (w : World) (hv : RdV w v l) (hn : v = .slice none 0 0 ∨ ∃ a n c, v = .slice (some a) n c) (hl : l.length ≤ 100000) :
    Calls Try.prog 23 #[v] w fun e w' => ∃ v', e = .returned v' ∧ OwnV w' w.heap.size v' l ∧ Below w.heap.size w w' := by
  rcases hn with rfl | ⟨a, n, c, rfl⟩
  · have hl0 : l = [] := by
      obtain ⟨a, c, h, -⟩ := hv
      injection h with h1 h2 h3
      exact List.eq_nil_of_length_eq_zero h2.symm
    subst hl0
    exact (clnV_nil w).mono fun e w' ⟨h1, h2⟩ => ⟨_, h1, World.ownsRow_nil _ _ _ _, by rw [h2]; exact Below.refl _ _⟩
  · exact clnV_some a n c l w hv hl
theorem cmp_toV (a b c : Int) (w : World) (h : Hid (cmpI a b = c)) :
    Calls Try.prog 26 #[.int .i64 a, .int .i64 b] w fun e w' => e = .returned (.int .i64 c) ∧ w = w' :=
  (cmp_to a b c w h).mono fun e w' ⟨h1, h2⟩ => ⟨h1, h2.symm⟩
set_option maxRecDepth 100000 in
set_option maxHeartbeats 1000000 in
theorem slotCmp_to (x0 x1 x2 x3 x4 x5 x6 x7 y0 y1 y2 y3 y4 y5 y6 y7 c : Int) (w : World) (h : Hid (cmpI x0 y0 = c)) :
    Calls Try.prog 25 #[.agg #[.int .i64 x0, .int .i64 x1, .int .i64 x2, .int .i64 x3, .int .i64 x4, .int .i64 x5, .int .i64 x6, .int .i64 x7], .agg #[.int .i64 y0, .int .i64 y1, .int .i64 y2, .int .i64 y3, .int .i64 y4, .int .i64 y5, .int .i64 y6, .int .i64 y7]] w fun e w' => e = .returned (.int .i64 c) ∧ Below w.heap.size w w' := by
  go_enter Try.func25, Try.ntmps25
  go_wp2_with (go_at_call 26; refine (cmp_toV _ _ _ _ (by assumption)).mono ?_; rintro e _ ⟨rfl, rfl⟩)
  go_ret
  exact ⟨rfl, ((Below.refl _ _).alloc (Nat.le_refl _) _).alloc (by simp) _⟩
/-- where a slot is to be found among votes whose slots rise -/
def slotAt (l : List Vot) (s : Int) (i : Nat) : Prop := i ≤ l.length ∧ (∀ q, q < i → (l.getD q Vot.zero).slot < s) ∧ (∀ q, i ≤ q → q < l.length → s ≤ (l.getD q Vot.zero).slot)
set_option maxRecDepth 100000 in
set_option maxHeartbeats 4000000 in
theorem search_any (v : Value) (l : List Vot) (y : Vot) (w : World) (hv : RdV w v l) (hsort : ∀ a b, a < b → b < l.length → (l.getD a Vot.zero).slot < (l.getD b Vot.zero).slot) (hl : l.length ≤ 100000) :
    Calls Try.prog 24 #[v, votV y, .func (.func 25) #[] #[]] w fun e w' => ∃ i : Nat, slotAt l y.slot i ∧ e = .returned (.tuple #[.int .i64 i, .bool (decide (i < l.length ∧ (l.getD i Vot.zero).slot = y.slot))]) ∧ Below w.heap.size w w' := by
  obtain ⟨sl, ⟨br, bn⟩, ⟨ck, ccl, csq, cnm, cvl⟩⟩ := y
  dsimp only
  obtain ⟨ea, ec, rfl, hle, hcm, -⟩ := id hv
  obtain ⟨n, hn⟩ : ∃ n, n = l.length := ⟨_, rfl⟩
  rw [← hn] at hv hle hsort hl ⊢
  show Calls Try.prog 24 #[.slice ea n ec, .agg #[.int .i64 sl, .int .i64 br, .int .i64 bn, .int .i64 ck, .int .i64 ccl, .int .i64 csq, .int .i64 cnm, .int .i64 cvl], .func (.func 25) #[] #[]] w _
  have hcm2 : ec ≤ 9223372036854775807 := hcm
  have HV := Lib.hid hv
  have HN := Lib.hid hn
  have HSORT := Lib.hid hsort
  clear hv hn hsort
  go_enter Try.func24, Try.ntmps24
  go_wp2_with fail
  generalize hW : World.alloc _ _ = w1
  have hz1 : Hid (w1.heap[w.heap.size]? = some (.cells #[.int .i64 sl, .int .i64 br, .int .i64 bn, .int .i64 ck, .int .i64 ccl, .int .i64 csq, .int .i64 cnm, .int .i64 cvl] 32 (0, 0))) := Lib.hid (by rw [← hW]; exact heapNew _ _)
  have BW := Lib.hid (show Below w.heap.size w w1 by rw [← hW]; exact (Below.refl _ _).alloc (Nat.le_refl _) _)
  have RM : w.heap.size < w1.heap.size := lt_of_heap hz1.out
  clear hW
  go_loopw [9, 10] (fun a b wr => ∃ lo hi : Nat, a = .int .i64 lo ∧ b = .int .i64 hi ∧ lo ≤ hi ∧ hi ≤ n ∧ Hid ((∀ q, q < lo → (l.getD q Vot.zero).slot < sl) ∧ (∀ q, hi ≤ q → q < n → sl ≤ (l.getD q Vot.zero).slot) ∧ Below w1.heap.size w1 wr)) (fun a b _ => (intOf b).toNat - (intOf a).toNat)
  case atStart => exact ⟨0, n, rfl, rfl, Nat.zero_le _, Nat.le_refl _, Lib.hid ⟨fun q hq => absurd hq (by omega), fun q h1 h2 => by omega, Below.refl _ _⟩⟩
  case round =>
    obtain ⟨lo, hi, rfl, rfl, hlh, hin, HI⟩ := hrel
    have hzr := Lib.hid ((HI.out.2.2.block _ RM).trans hz1.out)
    have BR := Lib.hid (BW.out.trans (HI.out.2.2.mono BW.out.size))
    by_cases hlt : lo < hi
    · obtain ⟨k, hk⟩ : ∃ k, k = (lo + hi) / 2 := ⟨_, rfl⟩
      have hkI : ((lo : Int) + (hi : Int)) / 2 = (k : Int) := by omega
      have hk1 : lo ≤ k := by omega
      have hk2 : k < hi := by omega
      clear hk
      obtain ⟨eb, eoff, rfl, hel, hec⟩ := HV.out.cells.2.2 k (by omega)
      obtain ⟨y, hy⟩ : ∃ y, y = l.getD k Vot.zero := ⟨_, rfl⟩
      rw [← hy] at hec
      have HY := Lib.hid hy
      have hecr : ∀ q, q < 8 → wr.cell? ⟨eb, eoff + (8 * k + q), none⟩ = (votCells y)[q]? := fun q hq => by
        rw [← hec q hq]; exact World.cell?_of_block (w := w) (BR.out.block eb hel)
      obtain ⟨vs, ⟨v1, v2⟩, ⟨v3, v4, v5, v6, v7⟩⟩ := y
      obtain ⟨x0, x1, x2, x3, x4, x5, x6, x7⟩ := cellsV hecr
      dsimp only at x0 x1 x2 x3 x4 x5 x6 x7
      have y0 : wr.cell? ⟨w.heap.size, 0, none⟩ = some (.int .i64 sl) := cellAt hzr.out 0 rfl
      have y1 : wr.cell? ⟨w.heap.size, 1, none⟩ = some (.int .i64 br) := cellAt hzr.out 1 rfl
      have y2 : wr.cell? ⟨w.heap.size, 2, none⟩ = some (.int .i64 bn) := cellAt hzr.out 2 rfl
      have y3 : wr.cell? ⟨w.heap.size, 3, none⟩ = some (.int .i64 ck) := cellAt hzr.out 3 rfl
      have y4 : wr.cell? ⟨w.heap.size, 4, none⟩ = some (.int .i64 ccl) := cellAt hzr.out 4 rfl
      have y5 : wr.cell? ⟨w.heap.size, 5, none⟩ = some (.int .i64 csq) := cellAt hzr.out 5 rfl
      have y6 : wr.cell? ⟨w.heap.size, 6, none⟩ = some (.int .i64 cnm) := cellAt hzr.out 6 rfl
      have y7 : wr.cell? ⟨w.heap.size, 7, none⟩ = some (.int .i64 cvl) := cellAt hzr.out 7 rfl
      have hmn : k < n := by omega
      have hk0 : (0 : Int) ≤ (k : Int) := by omega
      have hkn : (k : Int) < (n : Int) := by omega
      have hkn2 : (k : Int) ≤ (n : Int) := by omega
      clear hec hecr hy
      have hcc := cmpI_cases vs sl
      have X0 := Lib.hid x0
      have Y0 := Lib.hid y0
      have X1 := Lib.hid x1
      have Y1 := Lib.hid y1
      have X2 := Lib.hid x2
      have Y2 := Lib.hid y2
      have X3 := Lib.hid x3
      have Y3 := Lib.hid y3
      have X4 := Lib.hid x4
      have Y4 := Lib.hid y4
      have X5 := Lib.hid x5
      have Y5 := Lib.hid y5
      have X6 := Lib.hid x6
      have Y6 := Lib.hid y6
      have X7 := Lib.hid x7
      have Y7 := Lib.hid y7
      rcases hcc with ⟨hvs, hc⟩ | ⟨hvs, hc⟩ | ⟨hvs, hc⟩
      · have HC := Lib.hid hc
        have HVS := Lib.hid hvs
        clear hc hvs
        go_upto_region 5 with fail
        go_region_held3 (fun w' => w'.cell? ⟨eb, eoff + k * 8, none⟩ = some (.int .i64 vs) ∧ w'.cell? ⟨eb, eoff + k * 8 + 1, none⟩ = some (.int .i64 v1) ∧ w'.cell? ⟨eb, eoff + k * 8 + 2, none⟩ = some (.int .i64 v2) ∧ w'.cell? ⟨eb, eoff + k * 8 + 3, none⟩ = some (.int .i64 v3) ∧ w'.cell? ⟨eb, eoff + k * 8 + 4, none⟩ = some (.int .i64 v4) ∧ w'.cell? ⟨eb, eoff + k * 8 + 5, none⟩ = some (.int .i64 v5) ∧ w'.cell? ⟨eb, eoff + k * 8 + 6, none⟩ = some (.int .i64 v6) ∧ w'.cell? ⟨eb, eoff + k * 8 + 7, none⟩ = some (.int .i64 v7) ∧ w'.cell? ⟨w.heap.size, 0, none⟩ = some (.int .i64 sl) ∧ w'.cell? ⟨w.heap.size, 1, none⟩ = some (.int .i64 br) ∧ w'.cell? ⟨w.heap.size, 2, none⟩ = some (.int .i64 bn) ∧ w'.cell? ⟨w.heap.size, 3, none⟩ = some (.int .i64 ck) ∧ w'.cell? ⟨w.heap.size, 4, none⟩ = some (.int .i64 ccl) ∧ w'.cell? ⟨w.heap.size, 5, none⟩ = some (.int .i64 csq) ∧ w'.cell? ⟨w.heap.size, 6, none⟩ = some (.int .i64 cnm) ∧ w'.cell? ⟨w.heap.size, 7, none⟩ = some (.int .i64 cvl)) (first | exact S5 | go_keep) (first
          | (first | go_at_call 25 | go_at_fn 25); refine (slotCmp_to _ _ _ _ _ _ _ _ _ _ _ _ _ _ _ _ _ _ HC).mono ?_; rintro e w2 ⟨rfl, hb2⟩; have c5 : ∀ p : Addr, p.block < wr.heap.size → w2.cell? p = wr.cell? p := fun p hp => World.cell?_of_block (w := wr) (hb2.block p.block hp); have B2 := Lib.hid (show Below wr.heap.size wr w2 from (Below.refl wr.heap.size wr).drew.trans hb2); have S5 : w2.cell? ⟨eb, eoff + k * 8, none⟩ = some (.int .i64 vs) ∧ w2.cell? ⟨eb, eoff + k * 8 + 1, none⟩ = some (.int .i64 v1) ∧ w2.cell? ⟨eb, eoff + k * 8 + 2, none⟩ = some (.int .i64 v2) ∧ w2.cell? ⟨eb, eoff + k * 8 + 3, none⟩ = some (.int .i64 v3) ∧ w2.cell? ⟨eb, eoff + k * 8 + 4, none⟩ = some (.int .i64 v4) ∧ w2.cell? ⟨eb, eoff + k * 8 + 5, none⟩ = some (.int .i64 v5) ∧ w2.cell? ⟨eb, eoff + k * 8 + 6, none⟩ = some (.int .i64 v6) ∧ w2.cell? ⟨eb, eoff + k * 8 + 7, none⟩ = some (.int .i64 v7) ∧ w2.cell? ⟨w.heap.size, 0, none⟩ = some (.int .i64 sl) ∧ w2.cell? ⟨w.heap.size, 1, none⟩ = some (.int .i64 br) ∧ w2.cell? ⟨w.heap.size, 2, none⟩ = some (.int .i64 bn) ∧ w2.cell? ⟨w.heap.size, 3, none⟩ = some (.int .i64 ck) ∧ w2.cell? ⟨w.heap.size, 4, none⟩ = some (.int .i64 ccl) ∧ w2.cell? ⟨w.heap.size, 5, none⟩ = some (.int .i64 csq) ∧ w2.cell? ⟨w.heap.size, 6, none⟩ = some (.int .i64 cnm) ∧ w2.cell? ⟨w.heap.size, 7, none⟩ = some (.int .i64 cvl) := ⟨(c5 _ (Nat.lt_of_lt_of_le hel BR.out.size)).trans X0.out, (c5 _ (Nat.lt_of_lt_of_le hel BR.out.size)).trans X1.out, (c5 _ (Nat.lt_of_lt_of_le hel BR.out.size)).trans X2.out, (c5 _ (Nat.lt_of_lt_of_le hel BR.out.size)).trans X3.out, (c5 _ (Nat.lt_of_lt_of_le hel BR.out.size)).trans X4.out, (c5 _ (Nat.lt_of_lt_of_le hel BR.out.size)).trans X5.out, (c5 _ (Nat.lt_of_lt_of_le hel BR.out.size)).trans X6.out, (c5 _ (Nat.lt_of_lt_of_le hel BR.out.size)).trans X7.out, (c5 _ (lt_of_heap hzr.out)).trans Y0.out, (c5 _ (lt_of_heap hzr.out)).trans Y1.out, (c5 _ (lt_of_heap hzr.out)).trans Y2.out, (c5 _ (lt_of_heap hzr.out)).trans Y3.out, (c5 _ (lt_of_heap hzr.out)).trans Y4.out, (c5 _ (lt_of_heap hzr.out)).trans Y5.out, (c5 _ (lt_of_heap hzr.out)).trans Y6.out, (c5 _ (lt_of_heap hzr.out)).trans Y7.out⟩; clear hb2 c5)
        go_wp2_with fail
        have INV : Hid ((∀ q, q < k + 1 → (l.getD q Vot.zero).slot < sl) ∧ (∀ q, hi ≤ q → q < n → sl ≤ (l.getD q Vot.zero).slot) ∧ Below w1.heap.size w1 w2) := Lib.hid ⟨fun q hq => by
          rcases Nat.lt_or_ge q k with h | h
          · have h2 := HSORT.out q k h hmn
            have h3 := congrArg Vot.slot HY.out
            have h4 := HVS.out
            dsimp only at h3
            omega
          · have h3 := congrArg Vot.slot HY.out
            have h4 := HVS.out
            rw [show q = k by omega]
            dsimp only at h3
            omega, HI.out.2.1, HI.out.2.2.trans (B2.out.mono HI.out.2.2.size)⟩
        go_roundw
        case rel => exact ⟨k + 1, hi, by go_num, rfl, by omega, hin, INV⟩
        case measure => simp [intOf]; omega
      · have HC := Lib.hid hc
        have HVS := Lib.hid hvs
        clear hc hvs
        go_upto_region 5 with fail
        go_region_held3 (fun w' => w'.cell? ⟨eb, eoff + k * 8, none⟩ = some (.int .i64 vs) ∧ w'.cell? ⟨eb, eoff + k * 8 + 1, none⟩ = some (.int .i64 v1) ∧ w'.cell? ⟨eb, eoff + k * 8 + 2, none⟩ = some (.int .i64 v2) ∧ w'.cell? ⟨eb, eoff + k * 8 + 3, none⟩ = some (.int .i64 v3) ∧ w'.cell? ⟨eb, eoff + k * 8 + 4, none⟩ = some (.int .i64 v4) ∧ w'.cell? ⟨eb, eoff + k * 8 + 5, none⟩ = some (.int .i64 v5) ∧ w'.cell? ⟨eb, eoff + k * 8 + 6, none⟩ = some (.int .i64 v6) ∧ w'.cell? ⟨eb, eoff + k * 8 + 7, none⟩ = some (.int .i64 v7) ∧ w'.cell? ⟨w.heap.size, 0, none⟩ = some (.int .i64 sl) ∧ w'.cell? ⟨w.heap.size, 1, none⟩ = some (.int .i64 br) ∧ w'.cell? ⟨w.heap.size, 2, none⟩ = some (.int .i64 bn) ∧ w'.cell? ⟨w.heap.size, 3, none⟩ = some (.int .i64 ck) ∧ w'.cell? ⟨w.heap.size, 4, none⟩ = some (.int .i64 ccl) ∧ w'.cell? ⟨w.heap.size, 5, none⟩ = some (.int .i64 csq) ∧ w'.cell? ⟨w.heap.size, 6, none⟩ = some (.int .i64 cnm) ∧ w'.cell? ⟨w.heap.size, 7, none⟩ = some (.int .i64 cvl)) (first | exact S5 | go_keep) (first
          | (first | go_at_call 25 | go_at_fn 25); refine (slotCmp_to _ _ _ _ _ _ _ _ _ _ _ _ _ _ _ _ _ _ HC).mono ?_; rintro e w2 ⟨rfl, hb2⟩; have c5 : ∀ p : Addr, p.block < wr.heap.size → w2.cell? p = wr.cell? p := fun p hp => World.cell?_of_block (w := wr) (hb2.block p.block hp); have B2 := Lib.hid (show Below wr.heap.size wr w2 from (Below.refl wr.heap.size wr).drew.trans hb2); have S5 : w2.cell? ⟨eb, eoff + k * 8, none⟩ = some (.int .i64 vs) ∧ w2.cell? ⟨eb, eoff + k * 8 + 1, none⟩ = some (.int .i64 v1) ∧ w2.cell? ⟨eb, eoff + k * 8 + 2, none⟩ = some (.int .i64 v2) ∧ w2.cell? ⟨eb, eoff + k * 8 + 3, none⟩ = some (.int .i64 v3) ∧ w2.cell? ⟨eb, eoff + k * 8 + 4, none⟩ = some (.int .i64 v4) ∧ w2.cell? ⟨eb, eoff + k * 8 + 5, none⟩ = some (.int .i64 v5) ∧ w2.cell? ⟨eb, eoff + k * 8 + 6, none⟩ = some (.int .i64 v6) ∧ w2.cell? ⟨eb, eoff + k * 8 + 7, none⟩ = some (.int .i64 v7) ∧ w2.cell? ⟨w.heap.size, 0, none⟩ = some (.int .i64 sl) ∧ w2.cell? ⟨w.heap.size, 1, none⟩ = some (.int .i64 br) ∧ w2.cell? ⟨w.heap.size, 2, none⟩ = some (.int .i64 bn) ∧ w2.cell? ⟨w.heap.size, 3, none⟩ = some (.int .i64 ck) ∧ w2.cell? ⟨w.heap.size, 4, none⟩ = some (.int .i64 ccl) ∧ w2.cell? ⟨w.heap.size, 5, none⟩ = some (.int .i64 csq) ∧ w2.cell? ⟨w.heap.size, 6, none⟩ = some (.int .i64 cnm) ∧ w2.cell? ⟨w.heap.size, 7, none⟩ = some (.int .i64 cvl) := ⟨(c5 _ (Nat.lt_of_lt_of_le hel BR.out.size)).trans X0.out, (c5 _ (Nat.lt_of_lt_of_le hel BR.out.size)).trans X1.out, (c5 _ (Nat.lt_of_lt_of_le hel BR.out.size)).trans X2.out, (c5 _ (Nat.lt_of_lt_of_le hel BR.out.size)).trans X3.out, (c5 _ (Nat.lt_of_lt_of_le hel BR.out.size)).trans X4.out, (c5 _ (Nat.lt_of_lt_of_le hel BR.out.size)).trans X5.out, (c5 _ (Nat.lt_of_lt_of_le hel BR.out.size)).trans X6.out, (c5 _ (Nat.lt_of_lt_of_le hel BR.out.size)).trans X7.out, (c5 _ (lt_of_heap hzr.out)).trans Y0.out, (c5 _ (lt_of_heap hzr.out)).trans Y1.out, (c5 _ (lt_of_heap hzr.out)).trans Y2.out, (c5 _ (lt_of_heap hzr.out)).trans Y3.out, (c5 _ (lt_of_heap hzr.out)).trans Y4.out, (c5 _ (lt_of_heap hzr.out)).trans Y5.out, (c5 _ (lt_of_heap hzr.out)).trans Y6.out, (c5 _ (lt_of_heap hzr.out)).trans Y7.out⟩; clear hb2 c5)
        go_wp2_with fail
        have INV : Hid ((∀ q, q < lo → (l.getD q Vot.zero).slot < sl) ∧ (∀ q, k ≤ q → q < n → sl ≤ (l.getD q Vot.zero).slot) ∧ Below w1.heap.size w1 w2) := Lib.hid ⟨HI.out.1, fun q hq hqn => by
          have h3 := congrArg Vot.slot HY.out
          have h4 := HVS.out
          dsimp only at h3
          rcases Nat.lt_or_ge k q with h | h
          · have h2 := HSORT.out k q h hqn
            omega
          · rw [show q = k by omega]
            omega, HI.out.2.2.trans (B2.out.mono HI.out.2.2.size)⟩
        go_roundw
        case rel => exact ⟨lo, k, rfl, by go_num, by omega, by omega, INV⟩
        case measure => simp [intOf]; omega
      · have HC := Lib.hid hc
        have HVS := Lib.hid hvs
        clear hc hvs
        go_upto_region 5 with fail
        go_region_held3 (fun w' => w'.cell? ⟨eb, eoff + k * 8, none⟩ = some (.int .i64 vs) ∧ w'.cell? ⟨eb, eoff + k * 8 + 1, none⟩ = some (.int .i64 v1) ∧ w'.cell? ⟨eb, eoff + k * 8 + 2, none⟩ = some (.int .i64 v2) ∧ w'.cell? ⟨eb, eoff + k * 8 + 3, none⟩ = some (.int .i64 v3) ∧ w'.cell? ⟨eb, eoff + k * 8 + 4, none⟩ = some (.int .i64 v4) ∧ w'.cell? ⟨eb, eoff + k * 8 + 5, none⟩ = some (.int .i64 v5) ∧ w'.cell? ⟨eb, eoff + k * 8 + 6, none⟩ = some (.int .i64 v6) ∧ w'.cell? ⟨eb, eoff + k * 8 + 7, none⟩ = some (.int .i64 v7) ∧ w'.cell? ⟨w.heap.size, 0, none⟩ = some (.int .i64 sl) ∧ w'.cell? ⟨w.heap.size, 1, none⟩ = some (.int .i64 br) ∧ w'.cell? ⟨w.heap.size, 2, none⟩ = some (.int .i64 bn) ∧ w'.cell? ⟨w.heap.size, 3, none⟩ = some (.int .i64 ck) ∧ w'.cell? ⟨w.heap.size, 4, none⟩ = some (.int .i64 ccl) ∧ w'.cell? ⟨w.heap.size, 5, none⟩ = some (.int .i64 csq) ∧ w'.cell? ⟨w.heap.size, 6, none⟩ = some (.int .i64 cnm) ∧ w'.cell? ⟨w.heap.size, 7, none⟩ = some (.int .i64 cvl)) (first | exact S5 | go_keep) (first
          | (first | go_at_call 25 | go_at_fn 25); refine (slotCmp_to _ _ _ _ _ _ _ _ _ _ _ _ _ _ _ _ _ _ HC).mono ?_; rintro e w2 ⟨rfl, hb2⟩; have c5 : ∀ p : Addr, p.block < wr.heap.size → w2.cell? p = wr.cell? p := fun p hp => World.cell?_of_block (w := wr) (hb2.block p.block hp); have B2 := Lib.hid (show Below wr.heap.size wr w2 from (Below.refl wr.heap.size wr).drew.trans hb2); have S5 : w2.cell? ⟨eb, eoff + k * 8, none⟩ = some (.int .i64 vs) ∧ w2.cell? ⟨eb, eoff + k * 8 + 1, none⟩ = some (.int .i64 v1) ∧ w2.cell? ⟨eb, eoff + k * 8 + 2, none⟩ = some (.int .i64 v2) ∧ w2.cell? ⟨eb, eoff + k * 8 + 3, none⟩ = some (.int .i64 v3) ∧ w2.cell? ⟨eb, eoff + k * 8 + 4, none⟩ = some (.int .i64 v4) ∧ w2.cell? ⟨eb, eoff + k * 8 + 5, none⟩ = some (.int .i64 v5) ∧ w2.cell? ⟨eb, eoff + k * 8 + 6, none⟩ = some (.int .i64 v6) ∧ w2.cell? ⟨eb, eoff + k * 8 + 7, none⟩ = some (.int .i64 v7) ∧ w2.cell? ⟨w.heap.size, 0, none⟩ = some (.int .i64 sl) ∧ w2.cell? ⟨w.heap.size, 1, none⟩ = some (.int .i64 br) ∧ w2.cell? ⟨w.heap.size, 2, none⟩ = some (.int .i64 bn) ∧ w2.cell? ⟨w.heap.size, 3, none⟩ = some (.int .i64 ck) ∧ w2.cell? ⟨w.heap.size, 4, none⟩ = some (.int .i64 ccl) ∧ w2.cell? ⟨w.heap.size, 5, none⟩ = some (.int .i64 csq) ∧ w2.cell? ⟨w.heap.size, 6, none⟩ = some (.int .i64 cnm) ∧ w2.cell? ⟨w.heap.size, 7, none⟩ = some (.int .i64 cvl) := ⟨(c5 _ (Nat.lt_of_lt_of_le hel BR.out.size)).trans X0.out, (c5 _ (Nat.lt_of_lt_of_le hel BR.out.size)).trans X1.out, (c5 _ (Nat.lt_of_lt_of_le hel BR.out.size)).trans X2.out, (c5 _ (Nat.lt_of_lt_of_le hel BR.out.size)).trans X3.out, (c5 _ (Nat.lt_of_lt_of_le hel BR.out.size)).trans X4.out, (c5 _ (Nat.lt_of_lt_of_le hel BR.out.size)).trans X5.out, (c5 _ (Nat.lt_of_lt_of_le hel BR.out.size)).trans X6.out, (c5 _ (Nat.lt_of_lt_of_le hel BR.out.size)).trans X7.out, (c5 _ (lt_of_heap hzr.out)).trans Y0.out, (c5 _ (lt_of_heap hzr.out)).trans Y1.out, (c5 _ (lt_of_heap hzr.out)).trans Y2.out, (c5 _ (lt_of_heap hzr.out)).trans Y3.out, (c5 _ (lt_of_heap hzr.out)).trans Y4.out, (c5 _ (lt_of_heap hzr.out)).trans Y5.out, (c5 _ (lt_of_heap hzr.out)).trans Y6.out, (c5 _ (lt_of_heap hzr.out)).trans Y7.out⟩; clear hb2 c5)
        go_wp2_with fail
        have INV : Hid ((∀ q, q < lo → (l.getD q Vot.zero).slot < sl) ∧ (∀ q, k ≤ q → q < n → sl ≤ (l.getD q Vot.zero).slot) ∧ Below w1.heap.size w1 w2) := Lib.hid ⟨HI.out.1, fun q hq hqn => by
          have h3 := congrArg Vot.slot HY.out
          have h4 := HVS.out
          dsimp only at h3
          rcases Nat.lt_or_ge k q with h | h
          · have h2 := HSORT.out k q h hqn
            omega
          · rw [show q = k by omega]
            omega, HI.out.2.2.trans (B2.out.mono HI.out.2.2.size)⟩
        go_roundw
        case rel => exact ⟨lo, k, rfl, by go_num, by omega, by omega, INV⟩
        case measure => simp [intOf]; omega
    · have hlh2 : lo = hi := by omega
      subst hlh2
      clear hlh hlt
      by_cases hln : lo < n
      · have hdl : decide ((lo : Int) < n) = true := by rw [decide_eq_true_eq]; omega
        have hdln : decide (lo < n) = true := by rw [decide_eq_true_eq]; omega
        obtain ⟨eb, eoff, rfl, hel, hec⟩ := HV.out.cells.2.2 lo hln
        obtain ⟨y, hy⟩ : ∃ y, y = l.getD lo Vot.zero := ⟨_, rfl⟩
        rw [← hy] at hec
        have HY := Lib.hid hy
        have hecr : ∀ q, q < 8 → wr.cell? ⟨eb, eoff + (8 * lo + q), none⟩ = (votCells y)[q]? := fun q hq => by
          rw [← hec q hq]; exact World.cell?_of_block (w := w) (BR.out.block eb hel)
        obtain ⟨vs, ⟨v1, v2⟩, ⟨v3, v4, v5, v6, v7⟩⟩ := y
        obtain ⟨x0, x1, x2, x3, x4, x5, x6, x7⟩ := cellsV hecr
        dsimp only at x0 x1 x2 x3 x4 x5 x6 x7
        have hsv : sl ≤ vs := by
          have h3 := congrArg Vot.slot hy
          dsimp only at h3
          have h4 := HI.out.2.1 lo (Nat.le_refl _) hln
          omega
        have y0 : wr.cell? ⟨w.heap.size, 0, none⟩ = some (.int .i64 sl) := cellAt hzr.out 0 rfl
        have y1 : wr.cell? ⟨w.heap.size, 1, none⟩ = some (.int .i64 br) := cellAt hzr.out 1 rfl
        have y2 : wr.cell? ⟨w.heap.size, 2, none⟩ = some (.int .i64 bn) := cellAt hzr.out 2 rfl
        have y3 : wr.cell? ⟨w.heap.size, 3, none⟩ = some (.int .i64 ck) := cellAt hzr.out 3 rfl
        have y4 : wr.cell? ⟨w.heap.size, 4, none⟩ = some (.int .i64 ccl) := cellAt hzr.out 4 rfl
        have y5 : wr.cell? ⟨w.heap.size, 5, none⟩ = some (.int .i64 csq) := cellAt hzr.out 5 rfl
        have y6 : wr.cell? ⟨w.heap.size, 6, none⟩ = some (.int .i64 cnm) := cellAt hzr.out 6 rfl
        have y7 : wr.cell? ⟨w.heap.size, 7, none⟩ = some (.int .i64 cvl) := cellAt hzr.out 7 rfl
        have X0 := Lib.hid x0
        have Y0 := Lib.hid y0
        have X1 := Lib.hid x1
        have Y1 := Lib.hid y1
        have X2 := Lib.hid x2
        have Y2 := Lib.hid y2
        have X3 := Lib.hid x3
        have Y3 := Lib.hid y3
        have X4 := Lib.hid x4
        have Y4 := Lib.hid y4
        have X5 := Lib.hid x5
        have Y5 := Lib.hid y5
        have X6 := Lib.hid x6
        have Y6 := Lib.hid y6
        have X7 := Lib.hid x7
        have Y7 := Lib.hid y7
        clear hec hecr hy
        have hcc : (vs = sl ∧ cmpI vs sl = 0 ∧ ((0 : Int) == 0) = true) ∨ (vs ≠ sl ∧ cmpI vs sl = 1 ∧ ((1 : Int) == 0) = false) := by
          rcases cmpI_cases vs sl with ⟨h1, h2⟩ | ⟨h1, h2⟩ | ⟨h1, h2⟩
          · omega
          · exact .inl ⟨h1, h2, rfl⟩
          · exact .inr ⟨by omega, h2, rfl⟩
        rcases hcc with ⟨hvs, hc, he0⟩ | ⟨hvs, hc, he0⟩
        · have HC := Lib.hid hc
          have HVS := Lib.hid hvs
          clear hc hvs hsv
          go_wp2_with fail
          go_region_held3 (fun w' => w'.cell? ⟨eb, eoff + lo * 8, none⟩ = some (.int .i64 vs) ∧ w'.cell? ⟨eb, eoff + lo * 8 + 1, none⟩ = some (.int .i64 v1) ∧ w'.cell? ⟨eb, eoff + lo * 8 + 2, none⟩ = some (.int .i64 v2) ∧ w'.cell? ⟨eb, eoff + lo * 8 + 3, none⟩ = some (.int .i64 v3) ∧ w'.cell? ⟨eb, eoff + lo * 8 + 4, none⟩ = some (.int .i64 v4) ∧ w'.cell? ⟨eb, eoff + lo * 8 + 5, none⟩ = some (.int .i64 v5) ∧ w'.cell? ⟨eb, eoff + lo * 8 + 6, none⟩ = some (.int .i64 v6) ∧ w'.cell? ⟨eb, eoff + lo * 8 + 7, none⟩ = some (.int .i64 v7) ∧ w'.cell? ⟨w.heap.size, 0, none⟩ = some (.int .i64 sl) ∧ w'.cell? ⟨w.heap.size, 1, none⟩ = some (.int .i64 br) ∧ w'.cell? ⟨w.heap.size, 2, none⟩ = some (.int .i64 bn) ∧ w'.cell? ⟨w.heap.size, 3, none⟩ = some (.int .i64 ck) ∧ w'.cell? ⟨w.heap.size, 4, none⟩ = some (.int .i64 ccl) ∧ w'.cell? ⟨w.heap.size, 5, none⟩ = some (.int .i64 csq) ∧ w'.cell? ⟨w.heap.size, 6, none⟩ = some (.int .i64 cnm) ∧ w'.cell? ⟨w.heap.size, 7, none⟩ = some (.int .i64 cvl)) (first | exact S5 | go_keep) (first
            | (first | go_at_call 25 | go_at_fn 25); refine (slotCmp_to _ _ _ _ _ _ _ _ _ _ _ _ _ _ _ _ _ _ HC).mono ?_; rintro e w2 ⟨rfl, hb2⟩; have c5 : ∀ p : Addr, p.block < wr.heap.size → w2.cell? p = wr.cell? p := fun p hp => World.cell?_of_block (w := wr) (hb2.block p.block hp); have B2 := Lib.hid (show Below wr.heap.size wr w2 from (Below.refl wr.heap.size wr).drew.trans hb2); have S5 : w2.cell? ⟨eb, eoff + lo * 8, none⟩ = some (.int .i64 vs) ∧ w2.cell? ⟨eb, eoff + lo * 8 + 1, none⟩ = some (.int .i64 v1) ∧ w2.cell? ⟨eb, eoff + lo * 8 + 2, none⟩ = some (.int .i64 v2) ∧ w2.cell? ⟨eb, eoff + lo * 8 + 3, none⟩ = some (.int .i64 v3) ∧ w2.cell? ⟨eb, eoff + lo * 8 + 4, none⟩ = some (.int .i64 v4) ∧ w2.cell? ⟨eb, eoff + lo * 8 + 5, none⟩ = some (.int .i64 v5) ∧ w2.cell? ⟨eb, eoff + lo * 8 + 6, none⟩ = some (.int .i64 v6) ∧ w2.cell? ⟨eb, eoff + lo * 8 + 7, none⟩ = some (.int .i64 v7) ∧ w2.cell? ⟨w.heap.size, 0, none⟩ = some (.int .i64 sl) ∧ w2.cell? ⟨w.heap.size, 1, none⟩ = some (.int .i64 br) ∧ w2.cell? ⟨w.heap.size, 2, none⟩ = some (.int .i64 bn) ∧ w2.cell? ⟨w.heap.size, 3, none⟩ = some (.int .i64 ck) ∧ w2.cell? ⟨w.heap.size, 4, none⟩ = some (.int .i64 ccl) ∧ w2.cell? ⟨w.heap.size, 5, none⟩ = some (.int .i64 csq) ∧ w2.cell? ⟨w.heap.size, 6, none⟩ = some (.int .i64 cnm) ∧ w2.cell? ⟨w.heap.size, 7, none⟩ = some (.int .i64 cvl) := ⟨(c5 _ (Nat.lt_of_lt_of_le hel BR.out.size)).trans X0.out, (c5 _ (Nat.lt_of_lt_of_le hel BR.out.size)).trans X1.out, (c5 _ (Nat.lt_of_lt_of_le hel BR.out.size)).trans X2.out, (c5 _ (Nat.lt_of_lt_of_le hel BR.out.size)).trans X3.out, (c5 _ (Nat.lt_of_lt_of_le hel BR.out.size)).trans X4.out, (c5 _ (Nat.lt_of_lt_of_le hel BR.out.size)).trans X5.out, (c5 _ (Nat.lt_of_lt_of_le hel BR.out.size)).trans X6.out, (c5 _ (Nat.lt_of_lt_of_le hel BR.out.size)).trans X7.out, (c5 _ (lt_of_heap hzr.out)).trans Y0.out, (c5 _ (lt_of_heap hzr.out)).trans Y1.out, (c5 _ (lt_of_heap hzr.out)).trans Y2.out, (c5 _ (lt_of_heap hzr.out)).trans Y3.out, (c5 _ (lt_of_heap hzr.out)).trans Y4.out, (c5 _ (lt_of_heap hzr.out)).trans Y5.out, (c5 _ (lt_of_heap hzr.out)).trans Y6.out, (c5 _ (lt_of_heap hzr.out)).trans Y7.out⟩; clear hb2 c5)
          go_wp2_with fail
          go_ret2
          exact ⟨lo, ⟨by rw [← HN.out]; exact hin, HI.out.1, by rw [← HN.out]; exact HI.out.2.1⟩, by
            have h3 := congrArg Vot.slot HY.out
            have h4 := HVS.out
            dsimp only at h3
            rw [decide_eq_true (show lo < n ∧ (l.getD lo Vot.zero).slot = sl from ⟨hln, by omega⟩)]; rfl, BR.out.trans (B2.out.mono BR.out.size)⟩
        · have HC := Lib.hid hc
          have HVS := Lib.hid hvs
          clear hc hvs hsv
          go_wp2_with fail
          go_region_held3 (fun w' => w'.cell? ⟨eb, eoff + lo * 8, none⟩ = some (.int .i64 vs) ∧ w'.cell? ⟨eb, eoff + lo * 8 + 1, none⟩ = some (.int .i64 v1) ∧ w'.cell? ⟨eb, eoff + lo * 8 + 2, none⟩ = some (.int .i64 v2) ∧ w'.cell? ⟨eb, eoff + lo * 8 + 3, none⟩ = some (.int .i64 v3) ∧ w'.cell? ⟨eb, eoff + lo * 8 + 4, none⟩ = some (.int .i64 v4) ∧ w'.cell? ⟨eb, eoff + lo * 8 + 5, none⟩ = some (.int .i64 v5) ∧ w'.cell? ⟨eb, eoff + lo * 8 + 6, none⟩ = some (.int .i64 v6) ∧ w'.cell? ⟨eb, eoff + lo * 8 + 7, none⟩ = some (.int .i64 v7) ∧ w'.cell? ⟨w.heap.size, 0, none⟩ = some (.int .i64 sl) ∧ w'.cell? ⟨w.heap.size, 1, none⟩ = some (.int .i64 br) ∧ w'.cell? ⟨w.heap.size, 2, none⟩ = some (.int .i64 bn) ∧ w'.cell? ⟨w.heap.size, 3, none⟩ = some (.int .i64 ck) ∧ w'.cell? ⟨w.heap.size, 4, none⟩ = some (.int .i64 ccl) ∧ w'.cell? ⟨w.heap.size, 5, none⟩ = some (.int .i64 csq) ∧ w'.cell? ⟨w.heap.size, 6, none⟩ = some (.int .i64 cnm) ∧ w'.cell? ⟨w.heap.size, 7, none⟩ = some (.int .i64 cvl)) (first | exact S5 | go_keep) (first
            | (first | go_at_call 25 | go_at_fn 25); refine (slotCmp_to _ _ _ _ _ _ _ _ _ _ _ _ _ _ _ _ _ _ HC).mono ?_; rintro e w2 ⟨rfl, hb2⟩; have c5 : ∀ p : Addr, p.block < wr.heap.size → w2.cell? p = wr.cell? p := fun p hp => World.cell?_of_block (w := wr) (hb2.block p.block hp); have B2 := Lib.hid (show Below wr.heap.size wr w2 from (Below.refl wr.heap.size wr).drew.trans hb2); have S5 : w2.cell? ⟨eb, eoff + lo * 8, none⟩ = some (.int .i64 vs) ∧ w2.cell? ⟨eb, eoff + lo * 8 + 1, none⟩ = some (.int .i64 v1) ∧ w2.cell? ⟨eb, eoff + lo * 8 + 2, none⟩ = some (.int .i64 v2) ∧ w2.cell? ⟨eb, eoff + lo * 8 + 3, none⟩ = some (.int .i64 v3) ∧ w2.cell? ⟨eb, eoff + lo * 8 + 4, none⟩ = some (.int .i64 v4) ∧ w2.cell? ⟨eb, eoff + lo * 8 + 5, none⟩ = some (.int .i64 v5) ∧ w2.cell? ⟨eb, eoff + lo * 8 + 6, none⟩ = some (.int .i64 v6) ∧ w2.cell? ⟨eb, eoff + lo * 8 + 7, none⟩ = some (.int .i64 v7) ∧ w2.cell? ⟨w.heap.size, 0, none⟩ = some (.int .i64 sl) ∧ w2.cell? ⟨w.heap.size, 1, none⟩ = some (.int .i64 br) ∧ w2.cell? ⟨w.heap.size, 2, none⟩ = some (.int .i64 bn) ∧ w2.cell? ⟨w.heap.size, 3, none⟩ = some (.int .i64 ck) ∧ w2.cell? ⟨w.heap.size, 4, none⟩ = some (.int .i64 ccl) ∧ w2.cell? ⟨w.heap.size, 5, none⟩ = some (.int .i64 csq) ∧ w2.cell? ⟨w.heap.size, 6, none⟩ = some (.int .i64 cnm) ∧ w2.cell? ⟨w.heap.size, 7, none⟩ = some (.int .i64 cvl) := ⟨(c5 _ (Nat.lt_of_lt_of_le hel BR.out.size)).trans X0.out, (c5 _ (Nat.lt_of_lt_of_le hel BR.out.size)).trans X1.out, (c5 _ (Nat.lt_of_lt_of_le hel BR.out.size)).trans X2.out, (c5 _ (Nat.lt_of_lt_of_le hel BR.out.size)).trans X3.out, (c5 _ (Nat.lt_of_lt_of_le hel BR.out.size)).trans X4.out, (c5 _ (Nat.lt_of_lt_of_le hel BR.out.size)).trans X5.out, (c5 _ (Nat.lt_of_lt_of_le hel BR.out.size)).trans X6.out, (c5 _ (Nat.lt_of_lt_of_le hel BR.out.size)).trans X7.out, (c5 _ (lt_of_heap hzr.out)).trans Y0.out, (c5 _ (lt_of_heap hzr.out)).trans Y1.out, (c5 _ (lt_of_heap hzr.out)).trans Y2.out, (c5 _ (lt_of_heap hzr.out)).trans Y3.out, (c5 _ (lt_of_heap hzr.out)).trans Y4.out, (c5 _ (lt_of_heap hzr.out)).trans Y5.out, (c5 _ (lt_of_heap hzr.out)).trans Y6.out, (c5 _ (lt_of_heap hzr.out)).trans Y7.out⟩; clear hb2 c5)
          go_wp2_with fail
          go_ret2
          exact ⟨lo, ⟨by rw [← HN.out]; exact hin, HI.out.1, by rw [← HN.out]; exact HI.out.2.1⟩, by
            have h3 := congrArg Vot.slot HY.out
            have h4 := HVS.out
            dsimp only at h3
            rw [decide_eq_false (show ¬ (lo < n ∧ (l.getD lo Vot.zero).slot = sl) from fun h => by omega)]; rfl, BR.out.trans (B2.out.mono BR.out.size)⟩
      · have hdl : decide ((lo : Int) < n) = false := by rw [decide_eq_false_iff_not]; omega
        have hdln : decide (lo < n) = false := by rw [decide_eq_false_iff_not]; omega
        go_wp2_with fail
        refine wp_region_quiet_lit (by kernel_rfl) (by kernel_rfl) ?_
        repeat (go_big_quiet_step (fail))
        refine wpQuiet_nil ?_
        intro w9 hw9
        obtain ⟨nq, rfl⟩ := hw9
        go_wp2_with fail
        go_ret2
        exact ⟨lo, ⟨by rw [← HN.out]; exact hin, HI.out.1, by rw [← HN.out]; exact HI.out.2.1⟩, by
          rw [decide_eq_false (show ¬ (lo < n ∧ (l.getD lo Vot.zero).slot = sl) from fun h => hln h.1)]; rfl, below_drewN BR.out nq⟩
end Go.Proofs.Ytdkbajdnckmckaa

set_option linter.unusedVariables false
set_option linter.unusedSimpArgs false
namespace Go.Con
open Go
theorem cmpI_flip {a b : Int} : cmpI a b < 0 ↔ a < b := by
  rcases cmpI_cases a b with ⟨h, hr⟩ | ⟨h, hr⟩ | ⟨h, hr⟩ <;> rw [hr] <;> omega
theorem cmpB_low {a b : Int × Int} : cmpB a b < 0 ↔ a.1 < b.1 ∨ (a.1 = b.1 ∧ a.2 < b.2) := by
  unfold cmpB
  rcases cmpI_cases a.1 b.1 with ⟨h, hr⟩ | ⟨h, hr⟩ | ⟨h, hr⟩
  · rw [hr, if_pos (by decide)]; omega
  · rw [hr, if_neg (by decide), cmpI_flip]; omega
  · rw [hr, if_pos (by decide)]; omega
theorem cmpB_most {a b : Int × Int} : cmpB a b ≤ 0 ↔ a.1 < b.1 ∨ (a.1 = b.1 ∧ a.2 ≤ b.2) := by
  have hI : ∀ x y : Int, cmpI x y ≤ 0 ↔ x ≤ y := fun x y => by
    rcases cmpI_cases x y with ⟨h, hr⟩ | ⟨h, hr⟩ | ⟨h, hr⟩ <;> rw [hr] <;> omega
  unfold cmpB
  rcases cmpI_cases a.1 b.1 with ⟨h, hr⟩ | ⟨h, hr⟩ | ⟨h, hr⟩
  · rw [hr, if_pos (by decide)]; omega
  · rw [hr, if_neg (by decide), hI]; omega
  · rw [hr, if_pos (by decide)]; omega
/-- what is allowed under a promise is so under a higher one -/
theorem okVs_higher {p b : Int × Int} (h : ¬ cmpB b p < 0) : ∀ (l : List Vot) (last : Int), okVs p last l = true → okVs b last l = true
  | [], _, _ => rfl
  | v :: l, last, hl => by
    show (okV v && decide (last < v.slot) && decide (cmpB v.bal b ≤ 0) && okVs b v.slot l) = true
    have hl' : (okV v && decide (last < v.slot) && decide (cmpB v.bal p ≤ 0) && okVs p v.slot l) = true := hl
    simp only [Bool.and_eq_true, decide_eq_true_eq] at hl' ⊢
    refine ⟨⟨hl'.1.1, ?_⟩, okVs_higher h l v.slot hl'.2⟩
    have h2 := hl'.1.2
    rw [cmpB_most] at h2 ⊢
    rw [cmpB_low] at h
    omega
theorem okA_higher {p b : Int × Int} {l : List Vot} (h : okA p l = true) (hb : okB b = true) (hc : ¬ cmpB b p < 0) : okA b l = true := by
  unfold okA at h ⊢
  simp only [Bool.and_eq_true] at h ⊢
  exact ⟨by rw [hb, Bool.or_true], okVs_higher hc l _ h.2⟩
end Go.Con
namespace Go.Proofs.Ytdkbajdnckmckaa
open Go.RowKit Go.Con
/-- votes of an acceptor: shown, and nil or not -/
def Votes (w : World) (v : Value) (l : List Vot) : Prop := RdV w v l ∧ (v = .slice none 0 0 ∨ ∃ a n c, v = .slice (some a) n c)
theorem Votes.stay {w w' : World} {v : Value} {l : List Vot} (h : Votes w v l) (hb : Below w.heap.size w w') : Votes w' v l := ⟨RdRow.stay h.1 hb, h.2⟩
theorem OwnV.votes {w : World} {base : Nat} {v : Value} {l : List Vot} (h : OwnV w base v l) : Votes w v l := by
  refine ⟨h.row, ?_⟩
  obtain ⟨-, h2⟩ := h
  rcases h2 with ⟨rfl, -⟩ | ⟨g, cap, cur, rfl, -⟩
  · exact .inl rfl
  · exact .inr ⟨_, _, _, rfl⟩
theorem accCheck_to (r n c : Int) (v : Value) (l : List Vot) (w : World) (hv : RdV w v l) (h : Hid ((if okA (r, n) l then (0 : Int) else 5) = c)) :
    Calls Try.prog 12 #[.agg #[.int .i64 r, .int .i64 n, v]] w fun e w' => e = .returned (.int .i64 c) ∧ Below w.heap.size w w' := by
  rw [← h.out]; exact accCheck_any (r, n) v l w hv
theorem ownV_move {w w' : World} {base base' : Nat} {v : Value} {l : List Vot} (h : OwnV w base v l) (hb : base' ≤ base) (hh : ∀ k, base ≤ k → k < w.heap.size → w'.heap[k]? = w.heap[k]?) : OwnV w' base' v l :=
  row_mono (row_ofHeap h (fun k hk => hh k (row_lt h k hk).1 (row_lt h k hk).2)) hb
theorem alloc3Q {w w0 : World} {A B C : Obj} (h : ((w.alloc A).alloc B).alloc C = w0) : w0.heap[w.heap.size]? = some A ∧ w0.heap[w.heap.size + 1]? = some B ∧ w0.heap[w.heap.size + 1 + 1]? = some C ∧ Below w.heap.size w w0 ∧ w0.heap.size = w.heap.size + 3 := alloc3P h
set_option maxRecDepth 100000 in
set_option maxHeartbeats 4000000 in
theorem Promise_any (p b : Int × Int) (v : Value) (l : List Vot) (w : World) (hv : Votes w v l) (hok : okA p l = true) (hb : okB b = true) (hl : l.length ≤ 1000) :
    Calls Try.prog 14 #[accV p v, .agg #[.int .i64 b.1, .int .i64 b.2]] w fun e w' => Below w.heap.size w w' ∧ ((cmpB b p < 0 ∧ e = .returned (.tuple #[accV (0, 0) (.slice none 0 0), .slice none 0 0, .int .i64 7])) ∨ (¬ cmpB b p < 0 ∧ ∃ v1 v2, e = .returned (.tuple #[accV b v1, v2, .int .i64 0]) ∧ OwnV w' w.heap.size v1 l ∧ OwnV w' w.heap.size v2 l)) := by
  obtain ⟨pr, pn⟩ := p
  obtain ⟨br, bn⟩ := b
  obtain ⟨ea, ec, rfl, hle, hcm, -⟩ := id hv.1
  show Calls Try.prog 14 #[.agg #[.int .i64 pr, .int .i64 pn, .slice ea l.length ec], .agg #[.int .i64 br, .int .i64 bn]] w _
  obtain ⟨n, hn⟩ : ∃ n, n = l.length := ⟨_, rfl⟩
  rw [← hn] at hv hle hl ⊢
  have HV := Lib.hid hv
  have HN := Lib.hid hn
  have HOK := Lib.hid (show (if okA (pr, pn) l then (0 : Int) else 5) = 0 by rw [hok]; rfl)
  have HB := Lib.hid hb
  obtain ⟨c, hc⟩ : ∃ c, c = cmpB (br, bn) (pr, pn) := ⟨_, rfl⟩
  rw [← hc]
  have HC := Lib.hid hc.symm
  clear hv hn hok hb hc
  go_enter Try.func14, Try.ntmps14
  go_upto_region 1 with fail
  generalize hW : World.alloc _ _ = w0
  have G := Lib.hid (alloc3Q hW)
  have a0 := cellAt G.out.1 0 rfl
  have a1 := cellAt G.out.1 1 rfl
  have a2 := cellAt G.out.1 2 rfl
  clear hW
  go_upto_region 4 with (go_at_call 12; refine (accCheck_to _ _ _ _ l _ ((HV.out.stay G.out.2.2.2.1).1) HOK).mono ?_; rintro e w1 ⟨rfl, hb1⟩; have B1 := Lib.hid hb1; have g3 := (hb1.block _ (lt_of_heap G.out.2.1)).trans G.out.2.1; have b0 := cellAt g3 0 rfl; have b1 := cellAt g3 1 rfl; clear hb1 g3)
  clear a0 a1 a2
  go_upto_region 6 with (go_at_call 22; refine (ballot_to _ _ _ _ HB).mono ?_; rintro e w2 ⟨rfl, hb2⟩; have B2 := Lib.hid (B1.out.trans (hb2.mono B1.out.size)); clear hb2)
  clear b0 b1
  have g2 := (B2.out.block _ (lt_of_heap G.out.1)).trans G.out.1
  have g3 := (B2.out.block _ (lt_of_heap G.out.2.1)).trans G.out.2.1
  have g4 := (B2.out.block _ (lt_of_heap G.out.2.2.1)).trans G.out.2.2.1
  have G2 := Lib.hid g2
  have G3 := Lib.hid g3
  have G4 := Lib.hid g4
  have BW2 := Lib.hid (G.out.2.2.2.1.trans (B2.out.mono G.out.2.2.2.1.size))
  have a0 := cellAt g2 0 rfl
  have a1 := cellAt g2 1 rfl
  have b0 := cellAt g3 0 rfl
  have b1 := cellAt g3 1 rfl
  clear g2 g3 g4
  by_cases hc0 : c < 0
  · have hcd : decide (c < 0) = true := by rw [decide_eq_true_eq]; exact hc0
    go_wp2_with (go_at_call 21; refine (compare_to _ _ _ _ _ _ HC).mono ?_; rintro e w3 ⟨rfl, hb3⟩; have B3 := Lib.hid (BW2.out.trans (hb3.mono BW2.out.size)); have g4 := (hb3.block _ (lt_of_heap G4.out)).trans G4.out; have Z4 := Lib.hid g4; have z0 := cellAt g4 0 rfl; have z1 := cellAt g4 1 rfl; have z2 := cellAt g4 2 rfl; have zf := freeAt g4; clear hb3 g4)
    generalize hW : World.setCell _ _ _ = w5
    have z5 : w5.heap[w.heap.size + 1 + 1]? = some (.cells #[.int .i64 0, .int .i64 0, .slice none 0 0] 39 (0, 0)) := by
      rw [← hW]; exact heapSet (heapSet (heapSet Z4.out _) _) _
    have hle2 : w.heap.size ≤ w.heap.size + 1 + 1 := by omega
    have b5 : Below w.heap.size w w5 := by rw [← hW]; exact ((B3.out.setCell hle2 _).setCell hle2 _).setCell hle2 _
    clear hW z0 z1 z2 zf
    have e0 : w5.cell? ⟨w.heap.size + 1 + 1, 0, none⟩ = some (.int .i64 0) := cellAt z5 0 rfl
    have e1 : w5.cell? ⟨w.heap.size + 1 + 1, 1, none⟩ = some (.int .i64 0) := cellAt z5 1 rfl
    have e2 : w5.cell? ⟨w.heap.size + 1 + 1, 2, none⟩ = some (.slice none 0 0) := cellAt z5 2 rfl
    refine bodyPost_ret (v := .tuple #[.agg #[.int .i64 0, .int .i64 0, .slice none 0 0], .slice none 0 0, .int .i64 7]) ?_ rfl ⟨b5, .inl rfl⟩
    simp [results, Try.results14, go_sem, e0, e1, e2]
  · have hcd : decide (c < 0) = false := by rw [decide_eq_false_iff_not]; exact hc0
    go_wp2_with (go_at_call 21; refine (compare_to _ _ _ _ _ _ HC).mono ?_; rintro e w3 ⟨rfl, hb3⟩; have B3 := Lib.hid (BW2.out.trans (hb3.mono BW2.out.size)); have g4 := (hb3.block _ (lt_of_heap G4.out)).trans G4.out; have Z4 := Lib.hid g4; have g3 := (hb3.block _ (lt_of_heap G3.out)).trans G3.out; have Z3 := Lib.hid g3; have g2 := (hb3.block _ (lt_of_heap G2.out)).trans G2.out; have Z2 := Lib.hid g2; clear hb3 g4 g3 g2)
    have s0 : w3.cell? ⟨w.heap.size, 2, none⟩ = some (.slice ea n ec) := cellAt Z2.out 2 rfl
    have s1 : w3.cell? ⟨w.heap.size + 1, 0, none⟩ = some (.int .i64 br) := cellAt Z3.out 0 rfl
    have s2 : w3.cell? ⟨w.heap.size + 1, 1, none⟩ = some (.int .i64 bn) := cellAt Z3.out 1 rfl
    have hne1 : ¬ (w.heap.size + 1 + 1 = w.heap.size) := by omega
    have hne2 : ¬ (w.heap.size = w.heap.size + 1 + 1) := by omega
    have hne3 : w.heap.size ≠ w.heap.size + 2 := by omega
    have S0 := Lib.hid s0
    have S1 := Lib.hid s1
    have S2 := Lib.hid s2
    go_region_held3 (fun w' => w'.cell? ⟨w.heap.size, 2, none⟩ = some (.slice ea n ec) ∧ w'.cell? ⟨w.heap.size + 1, 0, none⟩ = some (.int .i64 br) ∧ w'.cell? ⟨w.heap.size + 1, 1, none⟩ = some (.int .i64 bn)) (first | exact SS2 | exact SS | go_keep) (first
      | (have o1 := O1; clear o1; go_at_call 23; refine (clnV_any _ l _ ((HV.out.stay (B3.out.trans (B5.out.mono B3.out.size))).1) HV.out.2 (by rw [← HN.out]; omega)).mono ?_; rintro e w6 ⟨v2, rfl, ho6, hb6⟩; have O2 := Lib.hid ho6; obtain ⟨ta, tc, rfl, -⟩ := id ho6.row; have B65 := Lib.hid hb6; have B6 := Lib.hid (B5.out.trans (hb6.mono B5.out.size)); have SS2 : w6.cell? ⟨w.heap.size, 2, none⟩ = some (.slice ea n ec) ∧ w6.cell? ⟨w.heap.size + 1, 0, none⟩ = some (.int .i64 br) ∧ w6.cell? ⟨w.heap.size + 1, 1, none⟩ = some (.int .i64 bn) := ⟨(World.cell?_of_block (w := w3) (B6.out.block _ (lt_of_heap Z2.out))).trans S0.out, (World.cell?_of_block (w := w3) (B6.out.block _ (lt_of_heap Z3.out))).trans S1.out, (World.cell?_of_block (w := w3) (B6.out.block _ (lt_of_heap Z3.out))).trans S2.out⟩; have y4 := (B6.out.block _ (lt_of_heap Z4.out)).trans Z4.out; have Y4 := Lib.hid y4; have z0 : w6.cell? ⟨w.heap.size + 1 + 1, 0, none⟩ = some (.int .i64 0) := cellAt y4 0 rfl; have z1 : w6.cell? ⟨w.heap.size + 1 + 1, 1, none⟩ = some (.int .i64 0) := cellAt y4 1 rfl; have z2 : w6.cell? ⟨w.heap.size + 1 + 1, 2, none⟩ = some (.slice none 0 0) := cellAt y4 2 rfl; have zf := freeAt y4; clear ho6 hb6 y4)
      | (go_at_call 23; refine (clnV_any _ l _ ((HV.out.stay B3.out.drew).1) HV.out.2 (by rw [← HN.out]; omega)).mono ?_; rintro e w5 ⟨v1, rfl, ho5, hb5⟩; have O1 := Lib.hid ho5; obtain ⟨sa, sc, rfl, -⟩ := id ho5.row; have B5 := Lib.hid (show Below w3.heap.size w3 w5 from (Below.refl w3.heap.size w3).drew.trans hb5); have SS : w5.cell? ⟨w.heap.size, 2, none⟩ = some (.slice ea n ec) ∧ w5.cell? ⟨w.heap.size + 1, 0, none⟩ = some (.int .i64 br) ∧ w5.cell? ⟨w.heap.size + 1, 1, none⟩ = some (.int .i64 bn) := ⟨(World.cell?_of_block (w := w3) (B5.out.block _ (lt_of_heap Z2.out))).trans S0.out, (World.cell?_of_block (w := w3) (B5.out.block _ (lt_of_heap Z3.out))).trans S1.out, (World.cell?_of_block (w := w3) (B5.out.block _ (lt_of_heap Z3.out))).trans S2.out⟩; clear ho5 hb5))
    all_goals go_wp2_with fail
    generalize hW : World.setCell _ _ _ = w7
    have z7 : w7.heap[w.heap.size + 1 + 1]? = some (.cells #[.int .i64 br, .int .i64 bn, .slice sa l.length sc] 39 (0, 0)) := by
      rw [← hW]; exact heapSet (heapSet (heapSet Y4.out _) _) _
    have hle2 : w.heap.size ≤ w.heap.size + 1 + 1 := by omega
    have b7 : Below w.heap.size w w7 := by rw [← hW]; exact (((B3.out.trans (B6.out.mono B3.out.size)).setCell hle2 _).setCell hle2 _).setCell hle2 _
    have h43 : w.heap.size + 1 + 1 < w3.heap.size := lt_of_heap Z4.out
    have h56 := B65.out.size
    have h35 := B5.out.size
    have hq : ∀ k, k ≠ w.heap.size + 1 + 1 → w7.heap[k]? = w6.heap[k]? := fun k hk => by
      rw [← hW, heapSet_ne _ _ hk, heapSet_ne _ _ hk, heapSet_ne _ _ hk]
    have o1 : OwnV w7 w.heap.size (.slice sa l.length sc) l := ownV_move O1.out (Nat.le_trans (by omega) (Nat.le_refl w3.heap.size)) (fun k hk hk2 => by
      have hk' : w3.heap.size ≤ k := hk
      rw [hq k (by omega)]; exact B65.out.block k hk2)
    have o2 : OwnV w7 w.heap.size (.slice ta l.length tc) l := ownV_move O2.out (by omega) (fun k hk hk2 => hq k (by omega))
    clear hW z0 z1 z2 zf hq SS SS2 s0 s1 s2
    have e0 : w7.cell? ⟨w.heap.size + 1 + 1, 0, none⟩ = some (.int .i64 br) := cellAt z7 0 rfl
    have e1 : w7.cell? ⟨w.heap.size + 1 + 1, 1, none⟩ = some (.int .i64 bn) := cellAt z7 1 rfl
    have e2 : w7.cell? ⟨w.heap.size + 1 + 1, 2, none⟩ = some (.slice sa l.length sc) := cellAt z7 2 rfl
    refine bodyPost_ret (v := .tuple #[.agg #[.int .i64 br, .int .i64 bn, .slice sa l.length sc], .slice ta l.length tc, .int .i64 0]) ?_ rfl ⟨b7, .inr ⟨_, _, rfl, o1, o2⟩⟩
    simp [results, Try.results14, go_sem, e0, e1, e2]
end Go.Proofs.Ytdkbajdnckmckaa
