/-
  The store as plain data, and what commands make of it (no program in sight).
-/
import Derived.Test.YtocdnochnjlhlaaDoorCmd
set_option linter.unusedVariables false
set_option linter.unusedSimpArgs false
namespace Go.Con
/-- A store: 32 numbers (values by names, last by clients, answers by clients: code and value), and 8 marks. -/
structure Sto where
  n : List Int
  r : List Bool
  deriving DecidableEq
def Sto.zero : Sto := ⟨List.replicate 32 0, List.replicate 8 false⟩
def Sto.val (s : Sto) (i : Nat) : Int := s.n.getD i 0
def Sto.last (s : Sto) (c : Nat) : Int := s.n.getD (8 + c) 0
def Sto.code (s : Sto) (c : Nat) : Int := s.n.getD (16 + 2 * c) 0
def Sto.aval (s : Sto) (c : Nat) : Int := s.n.getD (17 + 2 * c) 0
def Sto.rev (s : Sto) (c : Nat) : Bool := s.r.getD c false
/-- its forty cells -/
def Sto.cells (s : Sto) : List Value := s.n.map (Value.int .i64) ++ s.r.map Value.bool
/-- a store that may be -/
structure Sto.Ok (s : Sto) : Prop where
  ln : s.n.length = 32
  lr : s.r.length = 8
  val0 : ∀ i, i < 8 → 0 ≤ s.val i
  val1 : ∀ i, i < 8 → s.val i ≤ 1073741824
  last0 : ∀ c, c < 8 → 0 ≤ s.last c
  last1 : ∀ c, c < 8 → s.last c ≤ 1048577
  none : ∀ c, c < 8 → s.last c = 0 → s.code c = 0 ∧ s.aval c = 0
  code0 : ∀ c, c < 8 → s.code c = 0
  av0 : ∀ c, c < 8 → 0 ≤ s.aval c
  av1 : ∀ c, c < 8 → s.aval c ≤ 1073741824

/-- is it done anew? -/
def Sto.fresh (s : Sto) (c : Cmd) : Bool := decide (c.kind ≠ 0) && (decide (s.last c.client.toNat ≤ c.seq) && !s.rev c.client.toNat)
/-- the value that its answer tells -/
def Sto.told (s : Sto) (c : Cmd) : Int := if c.kind = 1 then c.value else if c.kind = 2 then s.val c.name.toNat else 0
/-- the store behind a command that is done anew -/
def Sto.done (s : Sto) (c : Cmd) : Sto :=
  ⟨(((if c.kind = 1 then (s.n.set (8 + c.client.toNat) (c.seq + 1)).set c.name.toNat c.value else s.n.set (8 + c.client.toNat) (c.seq + 1)).set (16 + 2 * c.client.toNat) 0).set (17 + 2 * c.client.toNat) (s.told c)),
   if c.kind = 3 then s.r.set c.name.toNat true else s.r⟩
def Sto.next (s : Sto) (c : Cmd) : Sto := if s.fresh c then s.done c else s
/-- the answer: a code and a value -/
def Sto.answer (s : Sto) (c : Cmd) : Int × Int :=
  if c.kind = 0 then (0, 0)
  else if c.seq + 1 = s.last c.client.toNat then (s.code c.client.toNat, s.aval c.client.toNat)
  else if c.seq < s.last c.client.toNat then (7, 0)
  else if s.rev c.client.toNat = true then (11, 0)
  else (0, s.told c)

theorem Sto.zero_ok : Sto.zero.Ok := by
  refine ⟨rfl, rfl, ?_, ?_, ?_, ?_, ?_, ?_, ?_, ?_⟩ <;> decide

/-- a command that may be, and is no Noop -/
structure Cmd.Real (c : Cmd) : Prop where
  k1 : 1 ≤ c.kind
  k3 : c.kind ≤ 3
  c0 : 0 ≤ c.client
  c7 : c.client ≤ 7
  s0 : 0 ≤ c.seq
  s1 : c.seq ≤ 1048576
  n0 : 0 ≤ c.name
  n7 : c.name ≤ 7
  v0 : 0 ≤ c.value
  v1 : c.value ≤ 1073741824
theorem checkC_real {c : Cmd} (h : checkC c = 0) : c = Cmd.zero ∨ c.Real := by
  unfold checkC at h
  by_cases h0 : c.kind = 0
  · rw [if_pos h0] at h
    by_cases hz : c = Cmd.zero
    · exact Or.inl hz
    · rw [if_neg hz] at h; exact absurd h (by decide)
  · rw [if_neg h0] at h
    by_cases h1 : 1 ≤ c.kind ∧ c.kind ≤ 3
    · rw [if_pos h1] at h
      by_cases hr : inRange c = false
      · rw [if_pos hr] at h; exact absurd h (by decide)
      · have hr' : inRange c = true := by simpa using hr
        unfold inRange at hr'
        rw [decide_eq_true_eq] at hr'
        exact Or.inr ⟨h1.1, h1.2, hr'.1, hr'.2.1, hr'.2.2.1, hr'.2.2.2.1, hr'.2.2.2.2.1, hr'.2.2.2.2.2.1, hr'.2.2.2.2.2.2.1, hr'.2.2.2.2.2.2.2⟩
    · rw [if_neg h1] at h; exact absurd h (by decide)

theorem getD_set {α : Type} (l : List α) (i j : Nat) (x d : α) : (l.set i x).getD j d = if i = j ∧ j < l.length then x else l.getD j d := by
  by_cases h : i = j
  · subst h
    by_cases hl : i < l.length
    · simp [hl]
    · simp [hl]
  · simp [h, List.getElem?_set]

theorem Sto.done_n (s : Sto) (h : s.Ok) (c : Cmd) (hc : c.Real) (j : Nat) : (s.done c).n.getD j 0 =
    if j = 17 + 2 * c.client.toNat then s.told c else if j = 16 + 2 * c.client.toNat then 0 else if c.kind = 1 ∧ j = c.name.toNat then c.value else if j = 8 + c.client.toNat then c.seq + 1 else s.n.getD j 0 := by
  have h1 := hc.c0
  have h2 := hc.c7
  have h3 := hc.n0
  have h4 := hc.n7
  have hl := h.ln
  unfold Sto.done
  dsimp only
  by_cases hk : c.kind = 1
  · simp only [hk, if_true, true_and]
    repeat rw [getD_set]
    simp only [List.length_set, hl]
    by_cases a1 : j = 17 + 2 * c.client.toNat
    · rw [if_pos ⟨a1.symm, by omega⟩, if_pos a1]
    rw [if_neg (by intro h; exact a1 h.1.symm), if_neg a1]
    by_cases a2 : j = 16 + 2 * c.client.toNat
    · rw [if_pos ⟨a2.symm, by omega⟩, if_pos a2]
    rw [if_neg (by intro h; exact a2 h.1.symm), if_neg a2]
    by_cases a3 : j = c.name.toNat
    · rw [if_pos ⟨a3.symm, by omega⟩, if_pos a3]
    rw [if_neg (by intro h; exact a3 h.1.symm), if_neg a3]
    by_cases a4 : j = 8 + c.client.toNat
    · rw [if_pos ⟨a4.symm, by omega⟩, if_pos a4]
    rw [if_neg (by intro h; exact a4 h.1.symm), if_neg a4]
  · simp only [hk, if_false, false_and]
    repeat rw [getD_set]
    simp only [List.length_set, hl]
    by_cases a1 : j = 17 + 2 * c.client.toNat
    · rw [if_pos ⟨a1.symm, by omega⟩, if_pos a1]
    rw [if_neg (by intro h; exact a1 h.1.symm), if_neg a1]
    by_cases a2 : j = 16 + 2 * c.client.toNat
    · rw [if_pos ⟨a2.symm, by omega⟩, if_pos a2]
    rw [if_neg (by intro h; exact a2 h.1.symm), if_neg a2]
    by_cases a4 : j = 8 + c.client.toNat
    · rw [if_pos ⟨a4.symm, by omega⟩, if_pos a4]
    rw [if_neg (by intro h; exact a4 h.1.symm), if_neg a4]

theorem Sto.done_r (s : Sto) (h : s.Ok) (c : Cmd) (hc : c.Real) (j : Nat) : (s.done c).rev j = if c.kind = 3 ∧ j = c.name.toNat then true else s.rev j := by
  have h3 := hc.n0
  have h4 := hc.n7
  have hl := h.lr
  unfold Sto.rev Sto.done
  dsimp only
  by_cases hk : c.kind = 3
  · simp only [hk, if_true, true_and]
    rw [getD_set]
    simp only [hl]
    by_cases a : j = c.name.toNat
    · rw [if_pos ⟨a.symm, by omega⟩, if_pos a]
    · rw [if_neg (by intro h; exact a h.1.symm), if_neg a]
  · simp only [hk, if_false, false_and]

theorem Sto.done_val (s : Sto) (h : s.Ok) (c : Cmd) (hc : c.Real) (i : Nat) (hi : i < 8) : (s.done c).val i = if c.kind = 1 ∧ i = c.name.toNat then c.value else s.val i := by
  unfold Sto.val
  rw [Sto.done_n s h c hc, if_neg (by omega), if_neg (by omega)]
  by_cases a : c.kind = 1 ∧ i = c.name.toNat
  · rw [if_pos a, if_pos a]
  · rw [if_neg a, if_neg a, if_neg (by omega)]
theorem Sto.done_last (s : Sto) (h : s.Ok) (c : Cmd) (hc : c.Real) (k : Nat) (hk : k < 8) : (s.done c).last k = if k = c.client.toNat then c.seq + 1 else s.last k := by
  have h1 := hc.c0
  have h2 := hc.c7
  have h3 := hc.n0
  have h4 := hc.n7
  unfold Sto.last
  rw [Sto.done_n s h c hc, if_neg (by omega), if_neg (by omega), if_neg (by omega)]
  by_cases a : k = c.client.toNat
  · rw [if_pos (by omega), if_pos a]
  · rw [if_neg (by omega), if_neg a]
theorem Sto.done_code (s : Sto) (h : s.Ok) (c : Cmd) (hc : c.Real) (k : Nat) (hk : k < 8) : (s.done c).code k = if k = c.client.toNat then 0 else s.code k := by
  have h1 := hc.c0
  have h2 := hc.c7
  have h3 := hc.n0
  have h4 := hc.n7
  unfold Sto.code
  rw [Sto.done_n s h c hc, if_neg (by omega)]
  by_cases a : k = c.client.toNat
  · rw [if_pos (by omega), if_pos a]
  · rw [if_neg (by omega), if_neg (by omega), if_neg (by omega), if_neg a]
theorem Sto.done_aval (s : Sto) (h : s.Ok) (c : Cmd) (hc : c.Real) (k : Nat) (hk : k < 8) : (s.done c).aval k = if k = c.client.toNat then s.told c else s.aval k := by
  have h1 := hc.c0
  have h2 := hc.c7
  have h3 := hc.n0
  have h4 := hc.n7
  unfold Sto.aval
  rw [Sto.done_n s h c hc]
  by_cases a : k = c.client.toNat
  · rw [if_pos (by omega), if_pos a]
  · rw [if_neg (by omega), if_neg (by omega), if_neg (by omega), if_neg (by omega), if_neg a]
theorem Sto.done_ok (s : Sto) (h : s.Ok) (c : Cmd) (hc : c.Real) : (s.done c).Ok := by
  have hs0 := hc.s0
  have hs1 := hc.s1
  have ht0 : 0 ≤ s.told c ∧ s.told c ≤ 1073741824 := by
    have hn0 := hc.n0
    have hn7 := hc.n7
    unfold Sto.told
    split
    · exact ⟨hc.v0, hc.v1⟩
    · split
      · exact ⟨h.val0 _ (by omega), h.val1 _ (by omega)⟩
      · exact ⟨by omega, by omega⟩
  refine ⟨?_, ?_, fun i hi => ?_, fun i hi => ?_, fun k hk => ?_, fun k hk => ?_, fun k hk h0 => ?_, fun k hk => ?_, fun k hk => ?_, fun k hk => ?_⟩
  · unfold Sto.done; dsimp only; split <;> simp [h.ln]
  · unfold Sto.done; dsimp only; split <;> simp [h.lr]
  · rw [Sto.done_val s h c hc i hi]; split
    · exact hc.v0
    · exact h.val0 i hi
  · rw [Sto.done_val s h c hc i hi]; split
    · exact hc.v1
    · exact h.val1 i hi
  · rw [Sto.done_last s h c hc k hk]; split
    · omega
    · exact h.last0 k hk
  · rw [Sto.done_last s h c hc k hk]; split
    · omega
    · exact h.last1 k hk
  · rw [Sto.done_last s h c hc k hk] at h0
    by_cases a : k = c.client.toNat
    · rw [if_pos a] at h0; omega
    · rw [if_neg a] at h0
      rw [Sto.done_code s h c hc k hk, Sto.done_aval s h c hc k hk, if_neg a, if_neg a]
      exact h.none k hk h0
  · rw [Sto.done_code s h c hc k hk]; split
    · rfl
    · exact h.code0 k hk
  · rw [Sto.done_aval s h c hc k hk]; split
    · exact ht0.1
    · exact h.av0 k hk
  · rw [Sto.done_aval s h c hc k hk]; split
    · exact ht0.2
    · exact h.av1 k hk
theorem Sto.next_ok (s : Sto) (h : s.Ok) (c : Cmd) (hc : checkC c = 0) : (s.next c).Ok := by
  unfold Sto.next
  by_cases hf : s.fresh c = true
  · rw [if_pos hf]
    rcases checkC_real hc with rfl | hr
    · simp [Sto.fresh, Cmd.zero] at hf
    · exact Sto.done_ok s h c hr
  · rw [if_neg hf]; exact h
/-- commands, one behind the other -/
def Sto.all (s : Sto) : List Cmd → Sto
  | [] => s
  | c :: l => (s.next c).all l
theorem Sto.all_ok (s : Sto) (h : s.Ok) : ∀ (l : List Cmd), (∀ c ∈ l, checkC c = 0) → (s.all l).Ok
  | [], _ => h
  | c :: l, hl => Sto.all_ok (s.next c) (s.next_ok h c (hl c (by simp))) l (fun d hd => hl d (by simp [hd]))
theorem Sto.all_snoc (s : Sto) (l : List Cmd) (c : Cmd) : s.all (l ++ [c]) = (s.all l).next c := by
  induction l generalizing s with
  | nil => rfl
  | cons d l ih => exact ih (s.next d)
end Go.Con
