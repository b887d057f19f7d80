/-
  Texts put together: VotP, Mat, VoW, Blw, Pgr.
-/
import Derived.Test.YtdkbajdnckmckaaMg10
import Derived.Test.YtdkbajdnckmckaaMg7
import Derived.Test.YtdkbajdnckmckaaMg2
import Derived.Test.YtdkbajdnckmckaaMg8
set_option linter.unusedVariables false
set_option linter.unusedSimpArgs false
namespace Go.Con
open Go
theorem cmpI_le {a b : Int} : cmpI a b ≤ 0 ↔ a ≤ b := by
  rcases cmpI_cases a b with ⟨h, hr⟩ | ⟨h, hr⟩ | ⟨h, hr⟩ <;> rw [hr] <;> omega
theorem cmpB_le {a b : Int × Int} : cmpB a b ≤ 0 ↔ a.1 < b.1 ∨ (a.1 = b.1 ∧ a.2 ≤ b.2) := by
  unfold cmpB
  rcases cmpI_cases a.1 b.1 with ⟨h, hr⟩ | ⟨h, hr⟩ | ⟨h, hr⟩
  · rw [hr, if_pos (by decide)]; omega
  · rw [hr, if_neg (by decide), cmpI_le]; omega
  · rw [hr, if_pos (by decide)]; omega
theorem cmpB_lt {a b : Int × Int} : 0 < cmpB a b ↔ b.1 < a.1 ∨ (a.1 = b.1 ∧ b.2 < a.2) := by
  have h := @cmpB_le a b
  constructor
  · intro h1
    have : ¬ cmpB a b ≤ 0 := by omega
    rw [h] at this; omega
  · intro h1
    have : ¬ cmpB a b ≤ 0 := by rw [h]; omega
    omega
/-- what the best of votes is -/
def IsBest (s : Int) (l : List Vot) (r : Vot) : Prop :=
  (r = Vot.zero ∧ ∀ v ∈ l, v.slot ≠ s) ∨ (r ∈ l ∧ r.slot = s ∧ ∀ v ∈ l, v.slot = s → cmpB v.bal r.bal ≤ 0)
theorem bestV_is (s : Int) (l : List Vot) (hl : ∀ v ∈ l, 1 ≤ v.bal.1) : IsBest s l (bestV s Vot.zero l) := by
  have key : ∀ k, k ≤ l.length → IsBest s (l.take k) (bestV s Vot.zero (l.take k)) := by
    intro k
    induction k with
    | zero => intro _; exact .inl ⟨rfl, fun v hv => by simp at hv⟩
    | succ k ih =>
      intro hk
      have ih := ih (by omega)
      have hkl : k < l.length := by omega
      have e : l.take (k + 1) = l.take k ++ [l[k]] := by rw [List.take_add_one, List.getElem?_eq_getElem hkl]; rfl
      rw [e, bestV_snoc]
      have h1 : 1 ≤ (l[k]).bal.1 := hl _ (List.getElem_mem hkl)
      generalize bestV s Vot.zero (l.take k) = b at ih ⊢
      generalize l[k] = v at h1 ⊢
      unfold better
      by_cases hs : v.slot = s
      · by_cases hc : 0 < cmpB v.bal b.bal
        · rw [if_pos ⟨hs, hc⟩]
          refine .inr ⟨by simp, hs, fun u hu hus => ?_⟩
          rcases List.mem_append.1 hu with hu | hu
          · rcases ih with ⟨-, h⟩ | ⟨-, -, h⟩
            · exact absurd hus (h u hu)
            · have h2 := h u hu hus
              rw [cmpB_le] at h2 ⊢
              rw [cmpB_lt] at hc
              omega
          · rw [List.mem_singleton.1 hu, cmpB_le]; omega
        · rw [if_neg (fun h => hc h.2)]
          rcases ih with ⟨rfl, h⟩ | ⟨h, h2, h3⟩
          · exfalso; apply hc; rw [cmpB_lt]; left; show (0 : Int) < _; omega
          · refine .inr ⟨by simp [h], h2, fun u hu hus => ?_⟩
            rcases List.mem_append.1 hu with hu | hu
            · exact h3 u hu hus
            · rw [List.mem_singleton.1 hu]; omega
      · rw [if_neg (fun h => hs h.1)]
        rcases ih with ⟨rfl, h⟩ | ⟨h, h2, h3⟩
        · refine .inl ⟨rfl, fun u hu => ?_⟩
          rcases List.mem_append.1 hu with hu | hu
          · exact h u hu
          · rw [List.mem_singleton.1 hu]; exact hs
        · refine .inr ⟨by simp [h], h2, fun u hu hus => ?_⟩
          rcases List.mem_append.1 hu with hu | hu
          · exact h3 u hu hus
          · rw [List.mem_singleton.1 hu] at hus; exact absurd hus hs
  have h := key l.length (Nat.le_refl _)
  rwa [List.take_length] at h
theorem isBest_one {s : Int} {l m : List Vot} {r r' : Vot} (h : IsBest s l r) (h' : IsBest s m r') (hm : ∀ v, v ∈ l ↔ v ∈ m) (hd : ∀ u ∈ l, ∀ v ∈ l, u.bal = v.bal → u = v) : r = r' := by
  rcases h with ⟨h1, h2⟩ | ⟨h1, h2, h3⟩ <;> rcases h' with ⟨g1, g2⟩ | ⟨g1, g2, g3⟩
  · rw [h1, g1]
  · exact absurd g2 (h2 _ ((hm _).2 g1))
  · exact absurd h2 (g2 _ ((hm _).1 h1))
  · have a := h3 r' ((hm _).2 g1) g2
    have b := g3 r ((hm _).1 h1) h2
    rw [cmpB_le] at a b
    refine hd r h1 r' ((hm _).2 g1) ?_
    have e1 : r.bal.1 = r'.bal.1 := by omega
    have e2 : r.bal.2 = r'.bal.2 := by omega
    exact Prod.ext e1 e2
/-- a ply as a vote -/
def plyVote (i : Nat) (x : Cmd) : Vot := ⟨pick x.name 3, (1 + ((i : Int) * 7) % 20, pick x.client 5), ⟨2, 0, pick x.value 50, 0, 0⟩⟩
def votesTo (l : List Cmd) (q : Nat) : List Vot := (List.range q).map fun p => plyVote p (l.getD p Cmd.zero)
theorem votesTo_succ (l : List Cmd) (q : Nat) : votesTo l (q + 1) = votesTo l q ++ [plyVote q (l.getD q Cmd.zero)] := by
  unfold votesTo; rw [List.range_succ, List.map_append]; rfl
theorem votesTo_length (l : List Cmd) (q : Nat) : (votesTo l q).length = q := by unfold votesTo; simp
theorem plyVote_ok (i : Nat) (x : Cmd) : okV (plyVote i x) = true ∧ 1 ≤ (plyVote i x).bal.1 := by
  have h1 := pick_nonneg x.name 3 (by omega)
  have h2 := pick_lt x.name 3 (by omega)
  have h3 := pick_nonneg x.client 5 (by omega)
  have h4 := pick_lt x.client 5 (by omega)
  have h5 := pick_nonneg x.value 50 (by omega)
  have h6 := pick_lt x.value 50 (by omega)
  have h7 : 0 ≤ ((i : Int) * 7) % 20 := Int.emod_nonneg _ (by decide)
  have h8 : ((i : Int) * 7) % 20 < 20 := Int.emod_lt_of_pos _ (by decide)
  refine ⟨?_, by show 1 ≤ 1 + ((i : Int) * 7) % 20; omega⟩
  have hc : checkC ⟨2, 0, pick x.value 50, 0, 0⟩ = 0 := by
    unfold checkC
    rw [if_neg (show ¬ ((2 : Int) = 0) by decide), if_pos (show (1 : Int) ≤ 2 ∧ (2 : Int) ≤ 3 by decide)]
    have hr : inRange ⟨2, 0, pick x.value 50, 0, 0⟩ = true := by unfold inRange; rw [decide_eq_true_eq]; simp; omega
    rw [if_neg (by rw [hr]; decide), if_neg (show ¬ ((2 : Int) ≠ 1 ∧ (0 : Int) ≠ 0) by decide)]
  unfold okV okB plyVote
  dsimp only
  rw [hc]
  simp
  omega
theorem votesTo_ok (l : List Cmd) (q : Nat) : ∀ v ∈ votesTo l q, okV v = true ∧ 1 ≤ v.bal.1 := by
  intro v hv
  unfold votesTo at hv
  obtain ⟨p, _, rfl⟩ := List.mem_map.1 hv
  exact plyVote_ok _ _
theorem votesTo_apart (l : List Cmd) (q : Nat) (hq : q ≤ 20) : ∀ u ∈ votesTo l q, ∀ v ∈ votesTo l q, u.bal = v.bal → u = v := by
  intro u hu v hv h
  unfold votesTo at hu hv
  obtain ⟨i, hi, rfl⟩ := List.mem_map.1 hu
  obtain ⟨j, hj, rfl⟩ := List.mem_map.1 hv
  have hi := List.mem_range.1 hi
  have hj := List.mem_range.1 hj
  have h1 := congrArg Prod.fst h
  have h2 : 1 + ((i : Int) * 7) % 20 = 1 + ((j : Int) * 7) % 20 := h1
  have : i = j := by omega
  rw [this]
end Go.Con

set_option linter.unusedVariables false
set_option linter.unusedSimpArgs false
namespace Go.Con
open Go
/-- a bidder: its ballot, what it was told, what it has asked for -/
structure Bid where
  bal : Int × Int
  told : Nat → Option (List Vot)
  what : Nat → Option Cmd
structure Mat where
  node : Nat → Apr
  bid : Nat → Option Bid
  rounds : Nat
  chosen : Nat → Option Cmd
def Bid.new (b : Int × Int) : Bid := ⟨b, fun _ => none, fun _ => none⟩
/-- one of a family is changed -/
def put1 {α : Type} (f : Nat → α) (k : Nat) (x : α) : Nat → α := fun j => if j = k then x else f j
theorem put1_same {α : Type} (f : Nat → α) (k : Nat) (x : α) : put1 f k x k = x := if_pos rfl
theorem put1_ne {α : Type} (f : Nat → α) {k j : Nat} (x : α) (h : j ≠ k) : put1 f k x j = f j := if_neg h
def Mat.begin (M : Mat) (n : Int) (k : Nat) : Mat := { M with rounds := M.rounds + 1, bid := put1 M.bid k (some (Bid.new (((M.rounds + 1 : Nat) : Int), n))) }
def Mat.promise (M : Mat) (n k : Nat) (B : Bid) : Mat := { M with node := put1 M.node n ⟨B.bal, (M.node n).l⟩, bid := put1 M.bid k (some { B with told := put1 B.told n (some (M.node n).l) }) }
def Mat.ask (M : Mat) (k s : Nat) (B : Bid) (c : Cmd) : Mat := { M with bid := put1 M.bid k (some { B with what := put1 B.what s (some c) }) }
def Mat.vote (M : Mat) (n s : Nat) (B : Bid) (c : Cmd) : Mat := { M with node := put1 M.node n ⟨B.bal, putV ⟨(s : Int), B.bal, c⟩ (M.node n).l⟩ }
def Mat.choose (M : Mat) (s : Nat) (c : Cmd) : Mat := { M with chosen := put1 M.chosen s (some c) }
/-- the ballot of a round -/
def bl (nd : Nat → Int) (r : Nat) : Int × Int := ((r : Int), nd r)
theorem cmpB_bl (nd : Nat → Int) (r q : Nat) : cmpB (bl nd r) (bl nd q) < 0 ↔ r < q := by
  rw [cmpB_low]
  unfold bl
  dsimp only
  constructor
  · rintro (h | ⟨h1, h2⟩)
    · omega
    · have : r = q := by omega
      subst this
      omega
  · intro h; left; omega
theorem cmpB_bl_le (nd : Nat → Int) (r q : Nat) : cmpB (bl nd r) (bl nd q) ≤ 0 ↔ r ≤ q := by
  rw [cmpB_le]
  unfold bl
  dsimp only
  constructor
  · rintro (h | ⟨h1, h2⟩) <;> omega
  · intro h
    rcases Nat.lt_or_eq_of_le h with h | h
    · left; omega
    · subst h; right; exact ⟨rfl, Int.le_refl _⟩
/-- a list tells what a node has voted for in a slot, below a round -/
structure Tells (nd : Nat → Int) (s : PxS Cmd) (slot : Nat) (a r : Nat) (l : List Vot) : Prop where
  has : ∀ v ∈ l, v.slot = slot → ∃ d, d < r ∧ v.bal = bl nd d ∧ s.h a d = some v.what ∧ ∀ d', d < d' → d' < r → s.h a d' = none
  no : (∀ v ∈ l, v.slot ≠ slot) → ∀ d, d < r → s.h a d = none
/-- what a bidder has, is so -/
structure BidOk (nd : Nat → Int) (S : Nat → PxS Cmd) (r : Nat) (B : Bid) : Prop where
  bal : B.bal = bl nd r
  asked : ∀ s, s < 3 → B.what s = (S s).v r
  fit : ∀ s c, s < 3 → B.what s = some c → checkC c = 0
  votes : ∀ a l, a < 5 → B.told a = some l → ∀ v ∈ l, okV v = true
  held : ∀ a l s, a < 5 → s < 3 → B.told a = some l → r ≤ (S s).p a
  tells : ∀ a l s, a < 5 → s < 3 → B.told a = some l → (S s).v r = none → Tells nd (S s) s a r l
structure MInv (M : Mat) (nd : Nat → Int) (S : Nat → PxS Cmd) : Prop where
  nd0 : nd 0 = 0
  ndr : ∀ r, 0 ≤ nd r ∧ nd r < 5
  ok : ∀ s, s < 3 → (S s).Ok
  pr : ∀ s a, s < 3 → a < 5 → (M.node a).p = bl nd ((S s).p a) ∧ (S s).p a ≤ M.rounds
  fit : ∀ a, a < 5 → (M.node a).ok = true
  vs : ∀ s a, s < 3 → a < 5 → Tells nd (S s) s a (M.rounds + 1) (M.node a).l
  new : ∀ s r, s < 3 → M.rounds < r → (S s).v r = none
  bid : ∀ k B, k < 3 → M.bid k = some B → ∃ r, 1 ≤ r ∧ r ≤ M.rounds ∧ BidOk nd S r B
  apart : ∀ k k' B B', k < 3 → k' < 3 → k ≠ k' → M.bid k = some B → M.bid k' = some B' → B.bal.1 ≠ B'.bal.1
  chosen : ∀ s c, s < 3 → M.chosen s = some c → ∃ b Q, Maj Q ∧ ∀ a ∈ Q, (S s).h a b = some c
theorem MInv.fresh {M : Mat} {nd : Nat → Int} {S : Nat → PxS Cmd} (h : MInv M nd S) {s a d : Nat} (hs : s < 3) (ha : a < 5) (hd : M.rounds < d) : (S s).h a d = none := by
  cases hh : (S s).h a d with
  | none => rfl
  | some x =>
    have h1 := (h.ok s hs).low a d x hh
    have h2 := (h.pr s a hs ha).2
    omega
/-- at the start -/
def Mat.zero : Mat := ⟨fun _ => ⟨(0, 0), []⟩, fun _ => none, 0, fun _ => none⟩
theorem MInv.zero : MInv Mat.zero (fun _ => 0) (fun _ => ⟨fun _ _ => none, fun _ => 0, fun _ => none⟩) where
  nd0 := rfl
  ndr := fun _ => ⟨by decide, by decide⟩
  ok := fun s hs => ⟨fun a b x h => (by cases h), fun a b x h => (by cases h), fun b x h => (by cases h)⟩
  pr := fun s a hs ha => ⟨rfl, Nat.le_refl _⟩
  fit := fun a ha => by
    show Apr.ok ⟨(0, 0), []⟩ = true
    decide
  vs := fun s a hs ha => ⟨fun v hv => (by cases hv), fun _ d _ => rfl⟩
  new := fun s r hs hr => rfl
  bid := fun k B hk h => by cases h
  apart := fun k k' B B' _ _ _ h => by cases h
  chosen := fun s c hs h => by cases h
theorem Tells.nd {nd nd' : Nat → Int} {s : PxS Cmd} {slot a r : Nat} {l : List Vot} (h : Tells nd s slot a r l) (hn : ∀ d, d < r → nd' d = nd d) : Tells nd' s slot a r l :=
  ⟨fun v hv hs => by
    obtain ⟨d, h1, h2, h3, h4⟩ := h.has v hv hs
    exact ⟨d, h1, by rw [h2]; unfold bl; rw [hn d h1], h3, h4⟩, h.no⟩
/-- a ballot begins -/
theorem MInv.begin {M : Mat} {nd : Nat → Int} {S : Nat → PxS Cmd} (h : MInv M nd S) (n : Int) (h0 : 0 ≤ n) (h5 : n < 5) (k : Nat) (hk : k < 3) : MInv (M.begin n k) (fun r => if r = M.rounds + 1 then n else nd r) S := by
  have hnd : ∀ d, d < M.rounds + 1 → (if d = M.rounds + 1 then n else nd d) = nd d := fun d hd => if_neg (by omega)
  refine ⟨?_, ?_, h.ok, fun s a hs ha => ?_, h.fit, fun s a hs ha => ?_, fun s r hs hr => h.new s r hs ?_, fun j B hj hB => ?_, fun j j' B B' hj hj' hne hB hB' => ?_, h.chosen⟩
  · rw [hnd 0 (by omega)]; exact h.nd0
  · intro r
    split
    · exact ⟨h0, h5⟩
    · exact h.ndr r
  · obtain ⟨h1, h2⟩ := h.pr s a hs ha
    refine ⟨?_, Nat.le_succ_of_le h2⟩
    show (M.node a).p = _
    rw [h1]; unfold bl; dsimp only; rw [hnd _ (by omega)]
  · have h1 := (h.vs s a hs ha).nd hnd
    refine ⟨fun v hv hvs => ?_, fun hv d hd => ?_⟩
    · obtain ⟨d, g1, g2, g3, g4⟩ := h1.has v hv hvs
      refine ⟨d, Nat.lt_succ_of_lt g1, g2, g3, fun d' q1 q2 => ?_⟩
      rcases Nat.lt_or_ge d' (M.rounds + 1) with q | q
      · exact g4 d' q1 q
      · exact h.fresh hs ha (by omega)
    · rcases Nat.lt_or_ge d (M.rounds + 1) with q | q
      · exact h1.no hv d q
      · exact h.fresh hs ha (by omega)
  · have hr' : M.rounds + 1 < r := hr
    omega
  · have hB' : put1 M.bid k (some (Bid.new (((M.rounds + 1 : Nat) : Int), n))) j = some B := hB
    by_cases e : j = k
    · subst e
      rw [put1_same] at hB'
      injection hB' with hB'
      subst hB'
      refine ⟨M.rounds + 1, by omega, Nat.le_refl _, ⟨?_, fun s hs => ?_, fun s c hs hc => (by cases hc), fun a l ha hl => (by cases hl), fun a l s ha hs hl => (by cases hl), fun a l s ha hs hl => (by cases hl)⟩⟩
      · show (((M.rounds + 1 : Nat) : Int), n) = bl _ _
        unfold bl
        dsimp only
        rw [if_pos rfl]
      · exact (h.new s _ hs (by omega)).symm
    · rw [put1_ne _ _ e] at hB'
      obtain ⟨r, h1, h2, h3⟩ := h.bid j B hj hB'
      refine ⟨r, h1, Nat.le_succ_of_le h2, ⟨?_, h3.asked, h3.fit, h3.votes, h3.held, fun a l s ha hs hl hn => (h3.tells a l s ha hs hl hn).nd (fun d hd => hnd d (by omega))⟩⟩
      rw [h3.bal]; unfold bl; dsimp only; rw [hnd _ (by omega)]
  · have key : ∀ {i : Nat} {C : Bid}, i < 3 → i ≠ k → M.bid i = some C → C.bal.1 ≠ ((M.rounds + 1 : Nat) : Int) := fun {i C} hi hik hC => by
      obtain ⟨r, h1, h2, h3⟩ := h.bid i C hi hC
      rw [h3.bal]
      show (r : Int) ≠ _
      omega
    have hB1 : put1 M.bid k (some (Bid.new (((M.rounds + 1 : Nat) : Int), n))) j = some B := hB
    have hB2 : put1 M.bid k (some (Bid.new (((M.rounds + 1 : Nat) : Int), n))) j' = some B' := hB'
    by_cases e : j = k
    · subst e
      rw [put1_same] at hB1
      injection hB1 with hB1
      subst hB1
      rw [put1_ne _ _ (fun e => hne e.symm)] at hB2
      exact (key hj' (fun e => hne e.symm) hB2).symm
    · rw [put1_ne _ _ e] at hB1
      by_cases e' : j' = k
      · subst e'
        rw [put1_same] at hB2
        injection hB2 with hB2
        subst hB2
        exact key hj e hB1
      · rw [put1_ne _ _ e'] at hB2
        exact h.apart j j' B B' hj hj' hne hB1 hB2
/-- a bidder's round -/
theorem MInv.round {M : Mat} {nd : Nat → Int} {S : Nat → PxS Cmd} (h : MInv M nd S) {k : Nat} {B : Bid} (hk : k < 3) (hB : M.bid k = some B) : ∃ r, 1 ≤ r ∧ r ≤ M.rounds ∧ BidOk nd S r B := h.bid k B hk hB
theorem okB_bl {nd : Nat → Int} {r R : Nat} (hn : 0 ≤ nd r ∧ nd r < 5) (h1 : 1 ≤ r) (h2 : r ≤ R) (h3 : R ≤ 65536) : okB (bl nd r) = true := by
  unfold okB bl
  simp
  omega
/-- a node promises -/
theorem MInv.promise {M : Mat} {nd : Nat → Int} {S : Nat → PxS Cmd} (h : MInv M nd S) (hR : M.rounds ≤ 65536) {n k : Nat} {B : Bid} (hn : n < 5) (hk : k < 3) (hB : M.bid k = some B) (hc : ¬ cmpB B.bal (M.node n).p < 0) :
    ∃ S', MInv (M.promise n k B) nd S' := by
  obtain ⟨r, r1, r2, hb⟩ := h.bid k B hk hB
  have hle : ∀ s, s < 3 → (S s).p n ≤ r := fun s hs => by
    rw [hb.bal, (h.pr s n hs hn).1, cmpB_bl] at hc
    omega
  have hmono : ∀ s a, s < 3 → (S s).p a ≤ (if a = n then r else (S s).p a) := fun s a hs => by
    split
    · rename_i e; rw [e]; exact hle s hs
    · exact Nat.le_refl _
  refine ⟨fun s => { S s with p := fun c => if c = n then r else (S s).p c }, h.nd0, h.ndr, fun s hs => (h.ok s hs).raise n r (hle s hs), fun s a hs ha => ?_, fun a ha => ?_, fun s a hs ha => ?_, h.new, fun j C hj hC => ?_, fun j j' C C' hj hj' hne hC hC' => ?_, h.chosen⟩
  · show (put1 M.node n ⟨B.bal, (M.node n).l⟩ a).p = bl nd (if a = n then r else (S s).p a) ∧ (if a = n then r else (S s).p a) ≤ M.rounds
    by_cases e : a = n
    · rw [e, put1_same, if_pos rfl]
      exact ⟨hb.bal, r2⟩
    · rw [put1_ne _ _ e, if_neg e]
      exact h.pr s a hs ha
  · show (put1 M.node n ⟨B.bal, (M.node n).l⟩ a).ok = true
    by_cases e : a = n
    · rw [e, put1_same]
      have h1 := h.fit n hn
      unfold Apr.ok at h1 ⊢
      rw [okA_iff] at h1 ⊢
      obtain ⟨g1, g2, g3⟩ := h1
      refine ⟨.inr ?_, fun v hv => ⟨(g2 v hv).1, ?_⟩, g3⟩
      · show okB B.bal = true
        rw [hb.bal]; exact okB_bl (h.ndr r) r1 r2 hR
      · have h4 := (g2 v hv).2
        show cmpB v.bal B.bal ≤ 0
        rw [cmpB_le] at h4 ⊢
        rw [cmpB_low] at hc
        omega
    · rw [put1_ne _ _ e]
      exact h.fit a ha
  · have h1 : (put1 M.node n ⟨B.bal, (M.node n).l⟩ a).l = (M.node a).l := by
      by_cases e : a = n
      · rw [e, put1_same]
      · rw [put1_ne _ _ e]
    have h2 := h.vs s a hs ha
    show Tells nd _ s a (M.rounds + 1) (put1 M.node n ⟨B.bal, (M.node n).l⟩ a).l
    rw [h1]
    exact ⟨h2.has, h2.no⟩
  · have hC1 : put1 M.bid k (some { B with told := put1 B.told n (some (M.node n).l) }) j = some C := hC
    by_cases e : j = k
    · subst e
      rw [put1_same] at hC1
      injection hC1 with hC1
      subst hC1
      refine ⟨r, r1, r2, ⟨hb.bal, hb.asked, hb.fit, fun a l ha hl => ?_, fun a l s ha hs hl => ?_, fun a l s ha hs hl hv => ?_⟩⟩
      · have hl : put1 B.told n (some (M.node n).l) a = some l := hl
        by_cases e : a = n
        · rw [e, put1_same] at hl
          injection hl with hl
          rw [← hl]
          exact fun v hv => ((okA_iff (p := (M.node n).p)).1 (h.fit n hn)).2.1 v hv |>.1
        · rw [put1_ne _ _ e] at hl
          exact hb.votes a l ha hl
      · have hl : put1 B.told n (some (M.node n).l) a = some l := hl
        show r ≤ if a = n then r else (S s).p a
        by_cases e : a = n
        · rw [if_pos e]; exact Nat.le_refl _
        · rw [put1_ne _ _ e] at hl
          rw [if_neg e]
          exact hb.held a l s ha hs hl
      · have hl : put1 B.told n (some (M.node n).l) a = some l := hl
        have hv : (S s).v r = none := hv
        by_cases e : a = n
        · rw [e, put1_same] at hl
          injection hl with hl
          have h2 := h.vs s n hs hn
          rw [hl] at h2
          rw [e]
          refine ⟨fun v hm hvs => ?_, fun hm d hd => h2.no hm d (by omega)⟩
          obtain ⟨d, g1, g2, g3, g4⟩ := h2.has v hm hvs
          have g5 := (h.ok s hs).low n d _ g3
          have g6 := hle s hs
          have g7 : d ≠ r := fun e => by
            have := (h.ok s hs).val n d _ g3
            rw [e, hv] at this
            cases this
          exact ⟨d, by omega, g2, g3, fun d' q1 q2 => g4 d' q1 (by omega)⟩
        · rw [put1_ne _ _ e] at hl
          have h2 := hb.tells a l s ha hs hl hv
          exact ⟨h2.has, h2.no⟩
    · rw [put1_ne _ _ e] at hC1
      obtain ⟨q, q1, q2, hc2⟩ := h.bid j C hj hC1
      refine ⟨q, q1, q2, ⟨hc2.bal, hc2.asked, hc2.fit, hc2.votes, fun a l s ha hs hl => Nat.le_trans (hc2.held a l s ha hs hl) (hmono s a hs), fun a l s ha hs hl hv => ?_⟩⟩
      have h2 := hc2.tells a l s ha hs hl hv
      exact ⟨h2.has, h2.no⟩
  · have key : ∀ {i : Nat} {C : Bid}, put1 M.bid k (some { B with told := put1 B.told n (some (M.node n).l) }) i = some C → ∃ C0, M.bid i = some C0 ∧ C0.bal = C.bal := fun {i C} hC => by
      by_cases e : i = k
      · rw [e, put1_same] at hC
        injection hC with hC
        exact ⟨B, e ▸ hB, by rw [← hC]⟩
      · rw [put1_ne _ _ e] at hC
        exact ⟨C, hC, rfl⟩
    obtain ⟨C0, g1, g2⟩ := key hC
    obtain ⟨C1, g3, g4⟩ := key hC'
    rw [← g2, ← g4]
    exact h.apart j j' C0 C1 hj hj' hne g1 g3
/-- a bidder asks for what it may -/
theorem MInv.ask {M : Mat} {nd : Nat → Int} {S : Nat → PxS Cmd} (h : MInv M nd S) {k s : Nat} {B : Bid} (hk : k < 3) (hs : s < 3) (hB : M.bid k = some B) (hn : B.what s = none) {c : Cmd} (hc : checkC c = 0)
    (hS : ∀ r, BidOk nd S r B → (S s).Safe r c) : ∃ S', MInv (M.ask k s B c) nd S' := by
  obtain ⟨r, r1, r2, hb⟩ := h.bid k B hk hB
  have hv : (S s).v r = none := by rw [← hb.asked s hs]; exact hn
  have hsafe := hS r hb
  refine ⟨put1 S s { S s with v := fun d => if d = r then some c else (S s).v d }, h.nd0, h.ndr, fun t ht => ?_, fun t a ht ha => ?_, h.fit, fun t a ht ha => ?_, fun t q ht hq => ?_, fun j C hj hC => ?_, fun j j' C C' hj hj' hne hC hC' => ?_, fun t x ht hx => ?_⟩
  · by_cases e : t = s
    · rw [e, put1_same]
      exact (h.ok s hs).ask r c hv hsafe
    · rw [put1_ne _ _ e]; exact h.ok t ht
  · by_cases e : t = s
    · rw [e, put1_same]; exact h.pr s a hs ha
    · rw [put1_ne _ _ e]; exact h.pr t a ht ha
  · by_cases e : t = s
    · rw [e, put1_same]
      have h2 := h.vs s a hs ha
      exact ⟨h2.has, h2.no⟩
    · rw [put1_ne _ _ e]; exact h.vs t a ht ha
  · have hq' : M.rounds < q := hq
    by_cases e : t = s
    · rw [e, put1_same]
      show (if q = r then some c else (S s).v q) = none
      rw [if_neg (by omega)]
      exact h.new s q hs hq'
    · rw [put1_ne _ _ e]; exact h.new t q ht hq'
  · have hC1 : put1 M.bid k (some { B with what := put1 B.what s (some c) }) j = some C := hC
    have hp : ∀ t a, (put1 S s { S s with v := fun d => if d = r then some c else (S s).v d } t).p a = (S t).p a := fun t a => by
      by_cases e : t = s
      · rw [e, put1_same]
      · rw [put1_ne _ _ e]
    have hT : ∀ t a q l, Tells nd (S t) t a q l → Tells nd (put1 S s { S s with v := fun d => if d = r then some c else (S s).v d } t) t a q l := fun t a q l g => by
      by_cases e : t = s
      · rw [e] at g ⊢
        rw [put1_same]; exact ⟨g.has, g.no⟩
      · rw [put1_ne _ _ e]; exact g
    have hvv : ∀ t q, (put1 S s { S s with v := fun d => if d = r then some c else (S s).v d } t).v q = none → (S t).v q = none := fun t q g => by
      by_cases e : t = s
      · rw [e, put1_same] at g
        have g : (if q = r then some c else (S s).v q) = none := g
        rw [e]
        split at g
        · cases g
        · exact g
      · rw [put1_ne _ _ e] at g; exact g
    by_cases e : j = k
    · subst e
      rw [put1_same] at hC1
      injection hC1 with hC1
      subst hC1
      refine ⟨r, r1, r2, ⟨hb.bal, fun t ht => ?_, fun t x ht hx => ?_, hb.votes, fun a l t ha ht hl => ?_, fun a l t ha ht hl g => hT t a r l (hb.tells a l t ha ht hl (hvv t r g))⟩⟩
      · show put1 B.what s (some c) t = _
        by_cases e : t = s
        · rw [e, put1_same, put1_same]
          show some c = if r = r then some c else _
          rw [if_pos rfl]
        · rw [put1_ne _ _ e, put1_ne _ _ e]; exact hb.asked t ht
      · have hx : put1 B.what s (some c) t = some x := hx
        by_cases e : t = s
        · rw [e, put1_same] at hx
          injection hx with hx
          rw [← hx]; exact hc
        · rw [put1_ne _ _ e] at hx; exact hb.fit t x ht hx
      · rw [hp]; exact hb.held a l t ha ht hl
    · rw [put1_ne _ _ e] at hC1
      obtain ⟨q, q1, q2, hc2⟩ := h.bid j C hj hC1
      have hqr : q ≠ r := fun g => by
        have := h.apart j k C B hj hk e hC1 hB
        rw [hc2.bal, hb.bal, g] at this
        exact this rfl
      refine ⟨q, q1, q2, ⟨hc2.bal, fun t ht => ?_, hc2.fit, hc2.votes, fun a l t ha ht hl => ?_, fun a l t ha ht hl g => hT t a q l (hc2.tells a l t ha ht hl (hvv t q g))⟩⟩
      · rw [hc2.asked t ht]
        by_cases e : t = s
        · rw [e, put1_same]
          show _ = if q = r then some c else (S s).v q
          rw [if_neg hqr]
        · rw [put1_ne _ _ e]
      · rw [hp]; exact hc2.held a l t ha ht hl
  · have key : ∀ {i : Nat} {C : Bid}, put1 M.bid k (some { B with what := put1 B.what s (some c) }) i = some C → ∃ C0, M.bid i = some C0 ∧ C0.bal = C.bal := fun {i C} hC => by
      by_cases e : i = k
      · rw [e, put1_same] at hC
        injection hC with hC
        exact ⟨B, e ▸ hB, by rw [← hC]⟩
      · rw [put1_ne _ _ e] at hC
        exact ⟨C, hC, rfl⟩
    obtain ⟨C0, g1, g2⟩ := key hC
    obtain ⟨C1, g3, g4⟩ := key hC'
    rw [← g2, ← g4]
    exact h.apart j j' C0 C1 hj hj' hne g1 g3
  · obtain ⟨b, Q, g1, g2⟩ := h.chosen t x ht hx
    refine ⟨b, Q, g1, fun a ha => ?_⟩
    by_cases e : t = s
    · rw [e] at g2 ⊢
      rw [put1_same]; exact g2 a ha
    · rw [put1_ne _ _ e]; exact g2 a ha
/-- a node votes for what is asked -/
theorem MInv.vote {M : Mat} {nd : Nat → Int} {S : Nat → PxS Cmd} (h : MInv M nd S) (hR : M.rounds ≤ 65536) {n k s : Nat} {B : Bid} (hn : n < 5) (hk : k < 3) (hs : s < 3) (hB : M.bid k = some B) {c : Cmd} (hw : B.what s = some c) (hc : ¬ cmpB B.bal (M.node n).p < 0) :
    ∃ S', MInv (M.vote n s B c) nd S' := by
  obtain ⟨r, r1, r2, hb⟩ := h.bid k B hk hB
  have hv : (S s).v r = some c := by rw [← hb.asked s hs]; exact hw
  have hle : ∀ t, t < 3 → (S t).p n ≤ r := fun t ht => by
    rw [hb.bal, (h.pr t n ht hn).1, cmpB_bl] at hc
    omega
  have hokv : okV ⟨(s : Int), B.bal, c⟩ = true := by
    have h1 : okB B.bal = true := by rw [hb.bal]; exact okB_bl (h.ndr r) r1 r2 hR
    unfold okV
    dsimp only
    rw [h1, hb.fit s c hs hw]
    simp
    omega
  obtain ⟨S', hS'⟩ : ∃ S' : Nat → PxS Cmd, S' = fun t => if t = s then { S s with h := fun a d => if a = n ∧ d = r then some c else (S s).h a d, p := fun a => if a = n then r else (S s).p a } else { S t with p := fun a => if a = n then r else (S t).p a } := ⟨_, rfl⟩
  have hp : ∀ t a, (S' t).p a = if a = n then r else (S t).p a := fun t a => by
    rw [hS']; dsimp only; split
    · rename_i e; rw [e]
    · rfl
  have hv' : ∀ t d, (S' t).v d = (S t).v d := fun t d => by
    rw [hS']; dsimp only; split
    · rename_i e; rw [e]
    · rfl
  have hh : ∀ t a d, (S' t).h a d = if t = s ∧ a = n ∧ d = r then some c else (S t).h a d := fun t a d => by
    rw [hS']; dsimp only; split
    · rename_i e
      show (if a = n ∧ d = r then some c else (S s).h a d) = _
      rw [e]
      by_cases q : a = n ∧ d = r
      · rw [if_pos q, if_pos ⟨rfl, q⟩]
      · rw [if_neg q, if_neg (fun g => q g.2)]
    · rename_i e
      rw [if_neg (fun g => e g.1)]
  have hmono : ∀ t a, t < 3 → (S t).p a ≤ (S' t).p a := fun t a ht => by
    rw [hp]; split
    · rename_i e; rw [e]; exact hle t ht
    · exact Nat.le_refl _
  have hok : ∀ t, t < 3 → (S' t).Ok := fun t ht => by
    rw [hS']; dsimp only; split
    · exact (h.ok s hs).vote n r c hv (hle s hs)
    · exact (h.ok t ht).raise n r (hle t ht)
  clear hS'
  refine ⟨S', h.nd0, h.ndr, hok, fun t a ht ha => ?_, fun a ha => ?_, fun t a ht ha => ?_, fun t q ht hq => by rw [hv']; exact h.new t q ht hq, fun j C hj hC => ?_, h.apart, fun t x ht hx => ?_⟩
  · show (put1 M.node n ⟨B.bal, putV ⟨(s : Int), B.bal, c⟩ (M.node n).l⟩ a).p = bl nd ((S' t).p a) ∧ (S' t).p a ≤ M.rounds
    rw [hp]
    by_cases e : a = n
    · rw [e, put1_same, if_pos rfl]
      exact ⟨hb.bal, r2⟩
    · rw [put1_ne _ _ e, if_neg e]
      exact h.pr t a ht ha
  · show (put1 M.node n ⟨B.bal, putV ⟨(s : Int), B.bal, c⟩ (M.node n).l⟩ a).ok = true
    by_cases e : a = n
    · rw [e, put1_same]
      exact okA_put (p := (M.node n).p) (l := (M.node n).l) (h.fit n hn) hokv hc
    · rw [put1_ne _ _ e]
      exact h.fit a ha
  · show Tells nd (S' t) t a (M.rounds + 1) (put1 M.node n ⟨B.bal, putV ⟨(s : Int), B.bal, c⟩ (M.node n).l⟩ a).l
    have h2 := h.vs t a ht ha
    by_cases e : a = n
    · subst e
      rw [put1_same]
      refine ⟨fun v hm hvs => ?_, fun hm d hd => ?_⟩
      · rcases mem_putV.1 hm with rfl | ⟨hm, hms⟩
        · have hvs : (s : Int) = (t : Int) := hvs
          have e2 : t = s := by omega
          subst e2
          refine ⟨r, by omega, hb.bal, by rw [hh, if_pos ⟨rfl, rfl, rfl⟩], fun d' q1 q2 => ?_⟩
          rw [hh, if_neg (fun g => by omega)]
          cases g : (S t).h a d' with
          | none => rfl
          | some x =>
            have g1 := (h.ok t ht).low a d' x g
            have g2 := hle t ht
            omega
        · have hms : v.slot ≠ (s : Int) := hms
          have e2 : t ≠ s := fun g => hms (by rw [hvs, g])
          obtain ⟨d, g1, g2, g3, g4⟩ := h2.has v hm hvs
          exact ⟨d, g1, g2, by rw [hh, if_neg (fun g => e2 g.1)]; exact g3, fun d' q1 q2 => by rw [hh, if_neg (fun g => e2 g.1)]; exact g4 d' q1 q2⟩
      · have e2 : t ≠ s := fun g => hm ⟨(s : Int), B.bal, c⟩ (mem_putV.2 (.inl rfl)) (by rw [g])
        rw [hh, if_neg (fun g => e2 g.1)]
        exact h2.no (fun v hv hvs => hm v (mem_putV.2 (.inr ⟨hv, fun g => e2 (by
          have g : v.slot = (s : Int) := g
          omega)⟩)) hvs) d hd
    · rw [put1_ne _ _ e]
      refine ⟨fun v hm hvs => ?_, fun hm d hd => ?_⟩
      · obtain ⟨d, g1, g2, g3, g4⟩ := h2.has v hm hvs
        exact ⟨d, g1, g2, by rw [hh, if_neg (fun g => e g.2.1)]; exact g3, fun d' q1 q2 => by rw [hh, if_neg (fun g => e g.2.1)]; exact g4 d' q1 q2⟩
      · rw [hh, if_neg (fun g => e g.2.1)]
        exact h2.no hm d hd
  · obtain ⟨q, q1, q2, hc2⟩ := h.bid j C hj hC
    refine ⟨q, q1, q2, ⟨hc2.bal, fun t ht => by rw [hv']; exact hc2.asked t ht, hc2.fit, hc2.votes, fun a l t ha ht hl => Nat.le_trans (hc2.held a l t ha ht hl) (hmono t a ht), fun a l t ha ht hl g => ?_⟩⟩
    rw [hv'] at g
    have h2 := hc2.tells a l t ha ht hl g
    have h3 := hc2.held a l t ha ht hl
    have h4 : ∀ d, d < q → (S' t).h a d = (S t).h a d := fun d hd => by
      rw [hh, if_neg]
      rintro ⟨e1, e2, e3⟩
      have := hle t ht
      rw [e2] at h3
      omega
    refine ⟨fun v hm hvs => ?_, fun hm d hd => by rw [h4 d hd]; exact h2.no hm d hd⟩
    obtain ⟨d, g1, g2, g3, g4⟩ := h2.has v hm hvs
    exact ⟨d, g1, g2, by rw [h4 d g1]; exact g3, fun d' u1 u2 => by rw [h4 d' u2]; exact g4 d' u1 u2⟩
  · obtain ⟨b, Q, g1, g2⟩ := h.chosen t x ht hx
    refine ⟨b, Q, g1, fun a ha => ?_⟩
    rw [hh]
    split
    · rename_i e
      have g3 := (h.ok t ht).val a b x (g2 a ha)
      rw [e.1, e.2.2, hv] at g3
      exact g3
    · exact g2 a ha
/-- the lists that a bidder was told, in the nodes' order -/
def Bid.lists (B : Bid) (n : Nat) : List (List Vot) := (List.range n).filterMap B.told
theorem Bid.lists_succ (B : Bid) (n : Nat) : B.lists (n + 1) = B.lists n ++ (B.told n).toList := by
  unfold Bid.lists
  rw [List.range_succ, List.filterMap_append]
  cases h : B.told n <;> simp [h]
/-- who has told -/
def Bid.who (B : Bid) (n : Nat) : List Nat := (List.range n).filter fun a => (B.told a).isSome
theorem Bid.who_length (B : Bid) (n : Nat) : (B.who n).length = (B.lists n).length := by
  induction n with
  | zero => rfl
  | succ n ih =>
    rw [B.lists_succ]
    unfold Bid.who at ih ⊢
    rw [List.range_succ, List.filter_append, List.length_append, List.length_append, ih]
    cases h : B.told n <;> simp [h]
theorem Bid.mem_who {B : Bid} {n a : Nat} (h : a ∈ B.who n) : a < n ∧ ∃ l, B.told a = some l := by
  unfold Bid.who at h
  rw [List.mem_filter, List.mem_range] at h
  exact ⟨h.1, Option.isSome_iff_exists.1 h.2⟩
theorem Bid.mem_lists {B : Bid} {n : Nat} {l : List Vot} : l ∈ B.lists n ↔ ∃ a, a < n ∧ B.told a = some l := by
  unfold Bid.lists
  rw [List.mem_filterMap]
  constructor
  · rintro ⟨a, h1, h2⟩; exact ⟨a, List.mem_range.1 h1, h2⟩
  · rintro ⟨a, h1, h2⟩; exact ⟨a, List.mem_range.2 h1, h2⟩
theorem MInv.lists_ok {M : Mat} {nd : Nat → Int} {S : Nat → PxS Cmd} (h : MInv M nd S) {k : Nat} {B : Bid} (hk : k < 3) (hB : M.bid k = some B) : ∀ l ∈ B.lists 5, ∀ x ∈ l, okV x = true := by
  intro l hl
  obtain ⟨r, r1, r2, hb⟩ := h.bid k B hk hB
  obtain ⟨a, h1, h2⟩ := Bid.mem_lists.1 hl
  exact hb.votes a l h1 h2
/-- what Pick tells may be asked for -/
theorem MInv.pick {M : Mat} {nd : Nat → Int} {S : Nat → PxS Cmd} (h : MInv M nd S) {k s : Nat} {B : Bid} (hk : k < 3) (hs : s < 3) (hB : M.bid k = some B) (hn : B.what s = none) (hm : 5 < 2 * (B.lists 5).length) {R : Vot} (hR : R = bestV s Vot.zero (B.lists 5).flatten) {c0 : Cmd} (h0 : checkC c0 = 0) :
    ∃ S', MInv (M.ask k s B (if 0 < R.bal.1 then R.what else c0)) nd S' := by
  have hokl := h.lists_ok hk hB
  have hbest : IsBest s (B.lists 5).flatten R := by
    rw [hR]
    refine bestV_is s _ fun v hv => ?_
    obtain ⟨l, h1, h2⟩ := List.mem_flatten.1 hv
    have h3 := (okV_parts (hokl l h1 v h2)).2.2.1
    unfold okB at h3
    simp only [Bool.and_eq_true, decide_eq_true_eq] at h3
    exact h3.1
  have hfit : checkC (if 0 < R.bal.1 then R.what else c0) = 0 := by
    split
    · rename_i hp
      rcases hbest with ⟨e, -⟩ | ⟨e, -, -⟩
      · rw [e] at hp; exact absurd hp (by decide)
      · obtain ⟨l, h1, h2⟩ := List.mem_flatten.1 e
        exact (okV_parts (hokl l h1 R h2)).2.2.2
    · exact h0
  refine h.ask hk hs hB hn hfit fun r hb => ?_
  have hv : (S s).v r = none := by rw [← hb.asked s hs]; exact hn
  have hQ : Maj (B.who 5) := ⟨List.nodup_range.filter _, fun a ha => (Bid.mem_who ha).1, by rw [B.who_length]; exact hm⟩
  refine (h.ok s hs).told r (B.who 5) hQ (fun a ha => ?_) _ ?_
  · obtain ⟨h1, l, h2⟩ := Bid.mem_who ha
    exact hb.held a l s h1 hs h2
  · rcases hbest with ⟨e, h1⟩ | ⟨h1, h2, h3⟩
    · left
      intro a ha d hd
      obtain ⟨g1, l, g2⟩ := Bid.mem_who ha
      exact (hb.tells a l s g1 hs g2 hv).no (fun v hm => h1 v (List.mem_flatten.2 ⟨l, Bid.mem_lists.2 ⟨a, g1, g2⟩, hm⟩)) d hd
    · right
      obtain ⟨l, g1, g2⟩ := List.mem_flatten.1 h1
      obtain ⟨a, g3, g4⟩ := Bid.mem_lists.1 g1
      obtain ⟨m, m1, m2, m3, m4⟩ := (hb.tells a l s g3 hs g4 hv).has R g2 h2
      have hpos : 0 < R.bal.1 := by
        have h3 := (okV_parts (hokl l g1 R g2)).2.2.1
        unfold okB at h3
        simp only [Bool.and_eq_true, decide_eq_true_eq] at h3
        have := h3.1
        omega
      rw [if_pos hpos]
      refine ⟨m, m1, (h.ok s hs).val a m _ m3, fun a' ha' d hd1 hd2 => ?_⟩
      obtain ⟨q1, l', q2⟩ := Bid.mem_who ha'
      have ht := hb.tells a' l' s q1 hs q2 hv
      rcases Classical.em (∀ v ∈ l', v.slot ≠ s) with hno | hyes
      · exact ht.no hno d hd2
      · rw [Classical.not_forall] at hyes
        obtain ⟨v, hyes⟩ := hyes
        rw [Classical.not_imp] at hyes
        obtain ⟨hv1, hv2⟩ := hyes
        have hv2 := Classical.not_not.1 hv2
        obtain ⟨e, e1, e2, e3, e4⟩ := ht.has v hv1 hv2
        have hcmp := h3 v (List.mem_flatten.2 ⟨l', Bid.mem_lists.2 ⟨a', q1, q2⟩, hv1⟩) hv2
        rw [e2, m2, cmpB_bl_le] at hcmp
        exact e4 d (by omega) hd2
/-- a vote that more than half of the nodes keep -/
theorem MInv.maj {M : Mat} {nd : Nat → Int} {S : Nat → PxS Cmd} (h : MInv M nd S) {s : Nat} (hs : s < 3) {y : Vot} {Q : List Nat} (hQ : Maj Q) (hy : ∀ a ∈ Q, y ∈ (M.node a).l ∧ y.slot = s) :
    (∀ c, M.chosen s = some c → c = y.what) ∧ MInv (M.choose s y.what) nd S := by
  have hb : ∃ d, ∀ a ∈ Q, (S s).h a d = some y.what := by
    refine ⟨y.bal.1.toNat, fun a ha => ?_⟩
    obtain ⟨h1, h2⟩ := hy a ha
    obtain ⟨d, g1, g2, g3, g4⟩ := (h.vs s a hs (hQ.2.1 a ha)).has y h1 h2
    have : y.bal.1.toNat = d := by rw [g2]; unfold bl; exact Int.toNat_natCast d
    rw [this]; exact g3
  obtain ⟨d, hd⟩ := hb
  refine ⟨fun c hc => ?_, h.nd0, h.ndr, h.ok, h.pr, h.fit, h.vs, h.new, h.bid, h.apart, fun t c ht hc => ?_⟩
  · obtain ⟨b, Q', q1, q2⟩ := h.chosen s c hs hc
    exact (h.ok s hs).one q1 hQ q2 hd
  · have hc : put1 M.chosen s (some y.what) t = some c := hc
    by_cases e : t = s
    · rw [e, put1_same] at hc
      injection hc with hc
      rw [e, ← hc]
      exact ⟨d, Q, hQ, hd⟩
    · rw [put1_ne _ _ e] at hc
      exact h.chosen t c ht hc
/-- a count over lists that hold each at most once -/
theorem count_flat (y : Vot) (f : Nat → List Vot) (hf : ∀ a, (f a).count y ≤ 1) : ∀ l : List Nat, (l.flatMap f).count y ≤ (l.filter fun a => decide (y ∈ f a)).length
  | [] => Nat.le_refl _
  | a :: l => by
    have ih := count_flat y f hf l
    rw [List.flatMap_cons, List.count_append]
    by_cases hm : y ∈ f a
    · rw [List.filter_cons, if_pos (by simp [hm]), List.length_cons]
      have := hf a
      omega
    · rw [List.filter_cons, if_neg (by simp [hm]), List.count_eq_zero_of_not_mem hm]
      omega
theorem pairwise_count {l : List Vot} (h : l.Pairwise (fun a b => a.slot < b.slot)) (y : Vot) : l.count y ≤ 1 := by
  have hn : l.Nodup := h.imp (fun {a b} hab e => by rw [e] at hab; omega)
  exact List.nodup_iff_count.1 hn y
/-- the five acceptors, as a row -/
def Mat.row (M : Mat) (ad : Nat → Option Addr) (c : Nat → Nat) : List Acr := (List.range 5).map fun a => ⟨M.node a, ad a, (M.node a).l.length, c a⟩
theorem MInv.seen {M : Mat} {nd : Nat → Int} {S : Nat → PxS Cmd} (h : MInv M nd S) {s : Nat} (hs : s < 3) (ad : Nat → Option Addr) (c : Nat → Nat) {y : Vot} (hy : 5 < 2 * (slotV s (M.row ad c)).count y) :
    (∀ c, M.chosen s = some c → c = y.what) ∧ MInv (M.choose s y.what) nd S := by
  obtain ⟨f, hf⟩ : ∃ f : Nat → List Vot, f = fun a => if a < 5 then (M.node a).l.filter (fun y => decide (y.slot = (s : Int))) else [] := ⟨_, rfl⟩
  have e : slotV s (M.row ad c) = (List.range 5).flatMap f := by
    unfold slotV Mat.row
    rw [List.flatMap_map, hf]
    rfl
  rw [e] at hy
  have h1 := count_flat y f (fun a => by
    rw [hf]
    dsimp only
    split
    · rename_i ha
      have h2 := h.fit a ha
      unfold Apr.ok at h2
      rw [okA_iff] at h2
      exact pairwise_count (h2.2.2.filter _) y
    · simp) (List.range 5)
  refine h.maj hs (Q := (List.range 5).filter fun a => decide (y ∈ f a)) ⟨List.nodup_range.filter _, fun a ha => List.mem_range.1 (List.mem_filter.1 ha).1, by omega⟩ fun a ha => ?_
  have h2 := of_decide_eq_true (List.mem_filter.1 ha).2
  rw [hf] at h2
  dsimp only at h2
  split at h2
  · rw [List.mem_filter] at h2
    exact ⟨h2.1, of_decide_eq_true h2.2⟩
  · cases h2
end Go.Con

set_option linter.unusedVariables false
set_option linter.unusedSimpArgs false
namespace Go.Proofs.Ytdkbajdnckmckaa
open Go.RowKit Go.Con
structure Later (T : Prop) : Prop where
  out : T
theorem cutTo {T G : Prop} (h : Later T → G) (t : T) : G := h ⟨t⟩
theorem alloc2Q {w w0 : World} {A B : Obj} (h : (w.alloc A).alloc B = w0) : w0.heap[w.heap.size]? = some A ∧ w0.heap[w.heap.size + 1]? = some B ∧ Below w.heap.size w w0 ∧ w0.heap.size = w.heap.size + 2 := by
  subst h
  have e1 : (w.alloc A).heap.size = w.heap.size + 1 := by simp
  refine ⟨by rw [heapOld _ _ _ (by simp)]; exact heapNew _ _, ?_, ((Below.refl w.heap.size w).alloc (Nat.le_refl _) _).alloc (by simp) _, by simp⟩
  have := heapNew (w.alloc A) B
  rwa [e1] at this
set_option maxRecDepth 100000 in
set_option maxHeartbeats 8000000 in
theorem voted_any (v : Value) (l : List Cmd) (w : World) (hv : RdWishes w v l) :
    Calls Try.prog 13 #[v] w (VodPost w) := by
  obtain ⟨ea, ec, rfl, hle, hcm, hwok, hcell⟩ := hv
  obtain ⟨n, hn⟩ : ∃ n, n = l.length := ⟨_, rfl⟩
  rw [← hn] at hle hcell ⊢
  have hcm2 : ec ≤ 9223372036854775807 := hcm
  have HWOK := Lib.hid hwok
  have HCELL := Lib.hid hcell
  have HN := Lib.hid hn
  obtain ⟨m, hm⟩ : ∃ m, m = min n 30 := ⟨_, rfl⟩
  have hmn : m ≤ n := by omega
  have hm30 : m ≤ 30 := by omega
  have HM := Lib.hid hm
  clear hwok hcell hn hm
  go_enter Try.func13, Try.ntmps13
  go_wp2_with fail
  generalize hW : World.alloc _ _ = w1
  have inv0 : Hid (∃ p vs L, VodInv w w1 0 p vs L) := Lib.hid (by
    obtain ⟨g1, g2, g3, g4⟩ := alloc2Q hW
    exact ⟨(0, 0), .slice none 0 0, [], g1, g2, World.ownsRow_nil _ _ _ _, rfl, by decide, Nat.le_refl _, g3⟩)
  clear hW
  go_loopw [5, 6, 7, 8, 11] (fun ok i _ _ _ wr => ∃ q : Nat, q ≤ m ∧ i = .int .i64 q ∧ ok = .bool true ∧ Hid (∃ p vs L, VodInv w wr q p vs L)) (fun _ i _ _ _ _ => m - (intOf i).toNat)
  case atStart => exact ⟨0, by omega, rfl, rfl, inv0⟩
  case round =>
    clear inv0
    obtain ⟨q, hqm, rfl, rfl, HI⟩ := hrel
    by_cases h1 : q < m
    · have hd1 : decide ((q : Int) < n) = true := by rw [decide_eq_true_eq]; omega
      have hd1n : decide (q < n) = true := by rw [decide_eq_true_eq]; omega
      have hd2 : decide ((q : Int) < 30) = true := by rw [decide_eq_true_eq]; omega
      have hd2n : decide (q < 30) = true := by rw [decide_eq_true_eq]; omega
      have hqn : q < n := by omega
      have hql : q < l.length := by rw [← HN.out]; omega
      obtain ⟨eb, eoff, rfl, hc⟩ := HCELL.out (by intro h; rw [h] at hql; cases hql)
      obtain ⟨y, hy⟩ : ∃ y, y = l.getD q Cmd.zero := ⟨_, rfl⟩
      have hebl : eb < w.heap.size := by
        have h2 := hc q (by omega) 0 (by decide)
        exact World.block_lt_of_cell? w _ h2
      have hyok : WishOk y := HWOK.out y (by rw [hy, List.getD_eq_getElem?_getD, List.getElem?_eq_getElem hql]; exact List.getElem_mem _)
      obtain ⟨⟨pr, pn⟩, vs, L, hinv⟩ := HI.out
      have INV := Lib.hid hinv
      have hcr : ∀ p, p < 5 → wr.cell? ⟨eb, eoff + (5 * q + p), none⟩ = (wishCells y)[p]? := fun p hp => by
        have h2 := hc q (by omega) p hp
        rw [← hy] at h2
        rw [← h2]
        exact World.cell?_of_block (w := w) (hinv.below.block eb hebl)
      obtain ⟨pk, pno, pp, ps, pv⟩ := y
      have x0 : wr.cell? ⟨eb, eoff + q * 5, none⟩ = some (.int .i64 pk) := by rw [show eoff + q * 5 = eoff + (5 * q + 0) by omega]; exact hcr 0 (by decide)
      have x1 : wr.cell? ⟨eb, eoff + q * 5 + 1, none⟩ = some (.int .i64 pno) := by rw [show eoff + q * 5 + 1 = eoff + (5 * q + 1) by omega]; exact hcr 1 (by decide)
      have x2 : wr.cell? ⟨eb, eoff + q * 5 + 2, none⟩ = some (.int .i64 pp) := by rw [show eoff + q * 5 + 2 = eoff + (5 * q + 2) by omega]; exact hcr 2 (by decide)
      have x3 : wr.cell? ⟨eb, eoff + q * 5 + 3, none⟩ = some (.int .i64 ps) := by rw [show eoff + q * 5 + 3 = eoff + (5 * q + 3) by omega]; exact hcr 3 (by decide)
      have x4 : wr.cell? ⟨eb, eoff + q * 5 + 4, none⟩ = some (.int .i64 pv) := by rw [show eoff + q * 5 + 4 = eoff + (5 * q + 4) by omega]; exact hcr 4 (by decide)
      obtain ⟨⟨k1, k2⟩, ⟨n1, n2⟩, ⟨p1, p2⟩, ⟨s1, s2⟩, ⟨v1, v2⟩⟩ := hyok
      dsimp only at k1 k2 n1 n2 p1 p2 s1 s2 v1 v2
      obtain ⟨an, han⟩ : ∃ x, x = pick pno 5 := ⟨_, rfl⟩
      obtain ⟨asl, has⟩ : ∃ x, x = pick ps 5 := ⟨_, rfl⟩
      obtain ⟨av, hav⟩ : ∃ x, x = pick pv 50 := ⟨_, rfl⟩
      obtain ⟨ap, hap⟩ : ∃ x, x = pick pp 9 := ⟨_, rfl⟩
      obtain ⟨ak, hak⟩ : ∃ x, x = pick pk 2 := ⟨_, rfl⟩
      have an0 : 0 ≤ an := by rw [han]; exact pick_nonneg pno 5 (by omega)
      have an5 : an < 5 := by rw [han]; exact pick_lt pno 5 (by omega)
      have as0 : 0 ≤ asl := by rw [has]; exact pick_nonneg ps 5 (by omega)
      have as5 : asl < 5 := by rw [has]; exact pick_lt ps 5 (by omega)
      have av0 : 0 ≤ av := by rw [hav]; exact pick_nonneg pv 50 (by omega)
      have av5 : av < 50 := by rw [hav]; exact pick_lt pv 50 (by omega)
      have ap0 : 0 ≤ ap := by rw [hap]; exact pick_nonneg pp 9 (by omega)
      have ap9 : ap < 9 := by rw [hap]; exact pick_lt pp 9 (by omega)
      have ak0 : 0 ≤ ak := by rw [hak]; exact pick_nonneg pk 2 (by omega)
      have ak2 : ak < 2 := by rw [hak]; exact pick_lt pk 2 (by omega)
      have PAN := Lib.hid han.symm
      have PAS := Lib.hid has.symm
      have PAV := Lib.hid hav.symm
      have PAP := Lib.hid hap.symm
      have PAK := Lib.hid hak.symm
      have hbs := hinv.below.size
      have hroom : w.heap.size + 1 < wr.heap.size := lt_of_heap hinv.acc
      have hw1 : IntKind.i64.wrap (1 + ap) = 1 + ap := IntWalk.i64_in _ (by omega)
      have X0 := Lib.hid x0
      have X3 := Lib.hid x3
      have X4 := Lib.hid x4
      clear hc hcr hy han has hav hap hak hql x0 x3 x4 hinv
      go_wp2_with fail
      refine' cutTo (fun key => _) _
      rotate_left 1
      · skip
        go_region_held3 (fun w' => w'.cell? ⟨eb, eoff + q * 5 + 1, none⟩ = some (.int .i64 pno) ∧ w'.cell? ⟨eb, eoff + q * 5 + 2, none⟩ = some (.int .i64 pp)) (go_keep) (first
          | (go_at_call 10; refine (picked_toP _ _ _ _ (by assumption) (by assumption) (by decide) (by assumption)).mono ?_; rintro e _ ⟨rfl, rfl⟩))
        all_goals exact key.out
      · generalize hW : World.drew _ = w2
        have T7 := Lib.hid (show w2.heap[wr.heap.size]? = some (.cells #[.int .i64 (1 + ap), .int .i64 an] 28 (0, 0)) by rw [← hW]; exact heapNew wr _)
        have B2 := Lib.hid (show Below wr.heap.size wr w2 by rw [← hW]; exact ((Below.refl _ _).alloc (Nat.le_refl _) _).drew)
        clear hW
        obtain ⟨va, vc, hvs, -⟩ := id INV.out.own.row
        subst hvs
        have A2 := Lib.hid ((B2.out.block _ hroom).trans INV.out.acc)
        have O2 := Lib.hid ((B2.out.block _ (by omega)).trans INV.out.out)
        have VT := Lib.hid (INV.out.own.votes.stay B2.out)
        have WV := Lib.hid (ownV_move INV.out.own (Nat.le_refl _) (fun k _ hk2 => B2.out.block k hk2))
        have LEN := Lib.hid (show L.length ≤ 1000 by have := INV.out.len; omega)
        have OKB := Lib.hid (show okB (1 + ap, an) = true by unfold okB; simp; omega)
        have B02 := Lib.hid (INV.out.below.trans (B2.out.mono hbs))
        have h2s := B2.out.size
        have hT7 := lt_of_heap T7.out
        have hxe : ∀ o, w2.cell? ⟨eb, o, none⟩ = wr.cell? ⟨eb, o, none⟩ := fun o => World.cell?_of_block (w := wr) (B2.out.block eb (by omega))
        have x0 : w2.cell? ⟨eb, eoff + q * 5, none⟩ = some (.int .i64 pk) := (hxe _).trans X0.out
        have x3 : w2.cell? ⟨eb, eoff + q * 5 + 3, none⟩ = some (.int .i64 ps) := (hxe _).trans X3.out
        have x4 : w2.cell? ⟨eb, eoff + q * 5 + 4, none⟩ = some (.int .i64 pv) := (hxe _).trans X4.out
        have a0 : w2.cell? ⟨w.heap.size + 1, 0, none⟩ = some (.int .i64 pr) := cellAt A2.out 0 rfl
        have a1 : w2.cell? ⟨w.heap.size + 1, 1, none⟩ = some (.int .i64 pn) := cellAt A2.out 1 rfl
        have a2 : w2.cell? ⟨w.heap.size + 1, 2, none⟩ = some (.slice va L.length vc) := cellAt A2.out 2 rfl
        have t0 : w2.cell? ⟨wr.heap.size, 0, none⟩ = some (.int .i64 (1 + ap)) := cellAt T7.out 0 rfl
        have t1 : w2.cell? ⟨wr.heap.size, 1, none⟩ = some (.int .i64 an) := cellAt T7.out 1 rfl
        clear x1 x2 hxe
        have hkc : ak = 0 ∨ ak = 1 := by omega
        clear ak0 ak2
        rcases hkc with rfl | rfl
        · by_cases hlow : cmpB (1 + ap, an) (pr, pn) < 0
          · have LOW := Lib.hid hlow
            clear hlow
            go_upto_region 9 with (first
              | (go_at_call 10; refine (picked_toP _ _ _ _ (by assumption) (by assumption) (by decide) (by assumption)).mono ?_; rintro e _ ⟨rfl, rfl⟩)
              | (go_at_call 14; refine (Promise_low _ _ _ _ _ L _ VT.out INV.out.ok OKB.out LEN.out LOW).mono ?_; rintro e w3 ⟨rfl, hb3⟩; have B3 := Lib.hid hb3; clear hb3))
            generalize hW : World.alloc _ _ = w4
            have B4 := Lib.hid (show Below wr.heap.size wr w4 by rw [← hW]; exact (B2.out.trans (B3.out.mono h2s)).alloc (Nat.le_trans h2s B3.out.size) _)
            have NEW : Hid (∃ p vs L, VodInv w w4 (q + 1) p vs L) := Lib.hid ⟨_, _, _, INV.out.keep B4.out⟩
            clear hW x0 x3 x4 a0 a1 a2 t0 t1
            go_wp2_with fail
            go_roundw
            case rel => exact ⟨q + 1, by omega, by go_num, rfl, NEW⟩
            case measure => simp [intOf]; omega
          · have LOW := Lib.hid (Int.not_lt.1 hlow)
            clear hlow
            go_upto_region 9 with (first
              | (go_at_call 10; refine (picked_toP _ _ _ _ (by assumption) (by assumption) (by decide) (by assumption)).mono ?_; rintro e _ ⟨rfl, rfl⟩)
              | (go_at_call 14; refine (Promise_high _ _ _ _ _ L _ VT.out INV.out.ok OKB.out LEN.out LOW).mono ?_; rintro e w3 ⟨sa, sc, ta, tc, rfl, ho3, -, hb3⟩; have B3 := Lib.hid hb3; have O3 := Lib.hid ho3; clear hb3 ho3))
            generalize hW : World.alloc _ _ = w4
            have B4 := Lib.hid (show Below wr.heap.size wr w4 by rw [← hW]; exact (B2.out.trans (B3.out.mono h2s)).alloc (Nat.le_trans h2s B3.out.size) _)
            have T8 := Lib.hid (show w4.heap[w3.heap.size]? = some (.cells #[.int .i64 (1 + ap), .int .i64 an, .slice sa L.length sc] 39 (0, 0)) by rw [← hW]; exact heapNew _ _)
            have OW4 := Lib.hid (show OwnV w4 wr.heap.size (.slice sa L.length sc) (L) from ownV_move O3.out h2s (fun k _ hk => by rw [← hW]; exact heapOld _ _ _ hk))
            have A4 := Lib.hid ((B4.out.block _ hroom).trans INV.out.acc)
            clear hW x0 x3 x4 a0 a1 a2 t0 t1
            have e0 : w4.cell? ⟨w3.heap.size, 0, none⟩ = some (.int .i64 (1 + ap)) := cellAt T8.out 0 rfl
            have e1 : w4.cell? ⟨w3.heap.size, 1, none⟩ = some (.int .i64 an) := cellAt T8.out 1 rfl
            have e2 : w4.cell? ⟨w3.heap.size, 2, none⟩ = some (.slice sa L.length sc) := cellAt T8.out 2 rfl
            have a0 : w4.cell? ⟨w.heap.size + 1, 0, none⟩ = some (.int .i64 pr) := cellAt A4.out 0 rfl
            have a1 : w4.cell? ⟨w.heap.size + 1, 1, none⟩ = some (.int .i64 pn) := cellAt A4.out 1 rfl
            have a2 : w4.cell? ⟨w.heap.size + 1, 2, none⟩ = some (.slice va L.length vc) := cellAt A4.out 2 rfl
            have af := freeAt A4.out
            have hne : ¬ (w3.heap.size = w.heap.size + 1) := by have := B3.out.size; omega
            have hne' : ¬ (w.heap.size + 1 = w3.heap.size) := by have := B3.out.size; omega
            have NEW0 := Lib.hid (INV.out.turn (b := (1 + ap, an)) (L1 := L) B4.out OW4.out (okA_higher INV.out.ok OKB.out (Int.not_lt.2 LOW.out)) (by show 1 + ap ≤ 9; omega) (by have := INV.out.len; omega))
            go_wp2_with fail
            generalize hW : World.setCell _ _ _ = w5
            have NEW : Hid (∃ p vs L, VodInv w w5 (q + 1) p vs L) := Lib.hid (by rw [← hW]; exact ⟨_, _, _, NEW0.out⟩)
            clear hW NEW0 e0 e1 e2 a0 a1 a2 af hne hne'
            go_roundw
            case rel => exact ⟨q + 1, by omega, by go_num, rfl, NEW⟩
            case measure => simp [intOf]; omega
        · have OKY := Lib.hid (show okV ⟨asl, (1 + ap, an), ⟨2, 0, av, 0, 0⟩⟩ = true by
            have hcc : checkC ⟨2, 0, av, 0, 0⟩ = 0 := by
              unfold checkC
              rw [if_neg (show ¬ ((2 : Int) = 0) by decide), if_pos (show (1 : Int) ≤ 2 ∧ (2 : Int) ≤ 3 by decide)]
              have hr : inRange ⟨2, 0, av, 0, 0⟩ = true := by unfold inRange; rw [decide_eq_true_eq]; simp; omega
              rw [if_neg (by rw [hr]; decide), if_neg (show ¬ ((2 : Int) ≠ 1 ∧ (0 : Int) ≠ 0) by decide)]
            unfold okV
            dsimp only
            rw [OKB.out, hcc]
            simp
            omega)
          by_cases hlow : cmpB (1 + ap, an) (pr, pn) < 0
          · have LOW := Lib.hid hlow
            clear hlow
            have hnA : ¬ (w2.heap.size = eb) := by omega
            have hnA' : ¬ (eb = w2.heap.size) := by omega
            have hnB : ¬ (w2.heap.size = w.heap.size + 1) := by omega
            have hnB' : ¬ (w.heap.size + 1 = w2.heap.size) := by omega
            have hnC : ¬ (w2.heap.size = wr.heap.size) := by omega
            have hnC' : ¬ (wr.heap.size = w2.heap.size) := by omega
            have Y3 := Lib.hid x3
            have Y4 := Lib.hid x4
            have U0 := Lib.hid a0
            have U1 := Lib.hid a1
            have U2 := Lib.hid a2
            have V0 := Lib.hid t0
            have V1 := Lib.hid t1
            go_upto_region 12 with (go_at_call 10; refine (picked_toP _ _ _ _ (by assumption) (by assumption) (by decide) (by assumption)).mono ?_; rintro e _ ⟨rfl, rfl⟩)
            go_region_held3 (fun w' => w'.cell? ⟨eb, eoff + q * 5 + 3, none⟩ = some (.int .i64 ps) ∧ w'.cell? ⟨eb, eoff + q * 5 + 4, none⟩ = some (.int .i64 pv) ∧ w'.cell? ⟨w.heap.size + 1, 0, none⟩ = some (.int .i64 pr) ∧ w'.cell? ⟨w.heap.size + 1, 1, none⟩ = some (.int .i64 pn) ∧ w'.cell? ⟨w.heap.size + 1, 2, none⟩ = some (.slice va L.length vc) ∧ w'.cell? ⟨wr.heap.size, 0, none⟩ = some (.int .i64 (1 + ap)) ∧ w'.cell? ⟨wr.heap.size, 1, none⟩ = some (.int .i64 an)) (first | exact SS | go_keep) (first
              | (go_at_call 10; refine (picked_toP _ _ _ _ (by assumption) (by assumption) (by decide) (by assumption)).mono ?_; rintro e _ ⟨rfl, rfl⟩)
              | (go_at_call 15; refine (Accept_low _ _ _ _ _ _ _ _ _ _ _ L _ (VT.out.stay (by first | exact (Below.refl _ _).drew | exact ((Below.refl _ _).alloc (Nat.le_refl _) _).drew)) INV.out.ok OKY.out LEN.out LOW).mono ?_; rintro e w3 ⟨rfl, hb3⟩; have B3 := Lib.hid (show Below w2.heap.size w2 w3 by first | exact (Below.refl w2.heap.size w2).drew.trans hb3 | exact ((Below.refl w2.heap.size w2).alloc (Nat.le_refl _) _).drew.trans (hb3.mono (by simp))); have c5 : ∀ p : Addr, p.block < w2.heap.size → w3.cell? p = w2.cell? p := fun p hp => World.cell?_of_block (w := w2) (B3.out.block p.block hp); (first | (have nz : w3.heap[w2.heap.size]? = some (.cells #[.int .i64 0, .int .i64 0, .slice none 0 0] 39 (0, 0)) := (hb3.block w2.heap.size (by simp)).trans (heapNew w2 _); have NZ := Lib.hid nz; have n0 := cellAt nz 0 rfl; have n1 := cellAt nz 1 rfl; have n2 := cellAt nz 2 rfl; have nf := freeAt nz; clear nz) | skip); have SS : w3.cell? ⟨eb, eoff + q * 5 + 3, none⟩ = some (.int .i64 ps) ∧ w3.cell? ⟨eb, eoff + q * 5 + 4, none⟩ = some (.int .i64 pv) ∧ w3.cell? ⟨w.heap.size + 1, 0, none⟩ = some (.int .i64 pr) ∧ w3.cell? ⟨w.heap.size + 1, 1, none⟩ = some (.int .i64 pn) ∧ w3.cell? ⟨w.heap.size + 1, 2, none⟩ = some (.slice va L.length vc) ∧ w3.cell? ⟨wr.heap.size, 0, none⟩ = some (.int .i64 (1 + ap)) ∧ w3.cell? ⟨wr.heap.size, 1, none⟩ = some (.int .i64 an) := ⟨(c5 _ (show eb < _ by omega)).trans Y3.out, (c5 _ (show eb < _ by omega)).trans Y4.out, (c5 _ (lt_of_heap A2.out)).trans U0.out, (c5 _ (lt_of_heap A2.out)).trans U1.out, (c5 _ (lt_of_heap A2.out)).trans U2.out, (c5 _ hT7).trans V0.out, (c5 _ hT7).trans V1.out⟩; clear hb3 c5))
            all_goals clear x3 x4 a0 a1 a2 t0 t1 SS
            all_goals first
            | (have hnz := NZ
               clear hnz n0 n1 n2 nf
               generalize hW : World.setCell _ _ _ = w4
               have B4 := Lib.hid (show Below wr.heap.size wr w4 by rw [← hW]; exact (((B2.out.trans (B3.out.mono h2s)).setCell h2s _).setCell h2s _).setCell h2s _)
               have NEW : Hid (∃ p vs L, VodInv w w4 (q + 1) p vs L) := Lib.hid ⟨_, _, _, INV.out.keep B4.out⟩
               clear hW
               go_wp2_with fail
               go_roundw
               case rel => exact ⟨q + 1, by omega, by go_num, rfl, NEW⟩
               case measure => simp [intOf]; omega)
            | (generalize hW : World.alloc _ _ = w4
               have B4 := Lib.hid (show Below wr.heap.size wr w4 by rw [← hW]; exact (B2.out.trans (B3.out.mono h2s)).alloc (Nat.le_trans h2s B3.out.size) _)
               have NEW : Hid (∃ p vs L, VodInv w w4 (q + 1) p vs L) := Lib.hid ⟨_, _, _, INV.out.keep B4.out⟩
               clear hW
               go_wp2_with fail
               go_roundw
               case rel => exact ⟨q + 1, by omega, by go_num, rfl, NEW⟩
               case measure => simp [intOf]; omega)
          · have LOW := Lib.hid (Int.not_lt.1 hlow)
            clear hlow
            have hnA : ¬ (w2.heap.size = eb) := by omega
            have hnA' : ¬ (eb = w2.heap.size) := by omega
            have hnB : ¬ (w2.heap.size = w.heap.size + 1) := by omega
            have hnB' : ¬ (w.heap.size + 1 = w2.heap.size) := by omega
            have hnC : ¬ (w2.heap.size = wr.heap.size) := by omega
            have hnC' : ¬ (wr.heap.size = w2.heap.size) := by omega
            have Y3 := Lib.hid x3
            have Y4 := Lib.hid x4
            have U0 := Lib.hid a0
            have U1 := Lib.hid a1
            have U2 := Lib.hid a2
            have V0 := Lib.hid t0
            have V1 := Lib.hid t1
            go_upto_region 12 with (go_at_call 10; refine (picked_toP _ _ _ _ (by assumption) (by assumption) (by decide) (by assumption)).mono ?_; rintro e _ ⟨rfl, rfl⟩)
            go_region_held3 (fun w' => w'.cell? ⟨eb, eoff + q * 5 + 3, none⟩ = some (.int .i64 ps) ∧ w'.cell? ⟨eb, eoff + q * 5 + 4, none⟩ = some (.int .i64 pv) ∧ w'.cell? ⟨w.heap.size + 1, 0, none⟩ = some (.int .i64 pr) ∧ w'.cell? ⟨w.heap.size + 1, 1, none⟩ = some (.int .i64 pn) ∧ w'.cell? ⟨w.heap.size + 1, 2, none⟩ = some (.slice va L.length vc) ∧ w'.cell? ⟨wr.heap.size, 0, none⟩ = some (.int .i64 (1 + ap)) ∧ w'.cell? ⟨wr.heap.size, 1, none⟩ = some (.int .i64 an)) (first | exact SS | go_keep) (first
              | (go_at_call 10; refine (picked_toP _ _ _ _ (by assumption) (by assumption) (by decide) (by assumption)).mono ?_; rintro e _ ⟨rfl, rfl⟩)
              | (go_at_call 15; refine (Accept_high _ _ _ _ _ _ _ _ _ _ _ L _ (VT.out.stay (by first | exact (Below.refl _ _).drew | exact ((Below.refl _ _).alloc (Nat.le_refl _) _).drew)) INV.out.ok OKY.out LEN.out LOW).mono ?_; rintro e w3 ⟨sa, sc, sn, hsn, rfl, ho3, hb3⟩; have O3 := Lib.hid ho3; have SN := Lib.hid hsn; clear ho3 hsn; have B3 := Lib.hid (show Below w2.heap.size w2 w3 by first | exact (Below.refl w2.heap.size w2).drew.trans hb3 | exact ((Below.refl w2.heap.size w2).alloc (Nat.le_refl _) _).drew.trans (hb3.mono (by simp))); have c5 : ∀ p : Addr, p.block < w2.heap.size → w3.cell? p = w2.cell? p := fun p hp => World.cell?_of_block (w := w2) (B3.out.block p.block hp); (first | (have nz : w3.heap[w2.heap.size]? = some (.cells #[.int .i64 0, .int .i64 0, .slice none 0 0] 39 (0, 0)) := (hb3.block w2.heap.size (by simp)).trans (heapNew w2 _); have NZ := Lib.hid nz; have n0 := cellAt nz 0 rfl; have n1 := cellAt nz 1 rfl; have n2 := cellAt nz 2 rfl; have nf := freeAt nz; clear nz) | skip); have SS : w3.cell? ⟨eb, eoff + q * 5 + 3, none⟩ = some (.int .i64 ps) ∧ w3.cell? ⟨eb, eoff + q * 5 + 4, none⟩ = some (.int .i64 pv) ∧ w3.cell? ⟨w.heap.size + 1, 0, none⟩ = some (.int .i64 pr) ∧ w3.cell? ⟨w.heap.size + 1, 1, none⟩ = some (.int .i64 pn) ∧ w3.cell? ⟨w.heap.size + 1, 2, none⟩ = some (.slice va L.length vc) ∧ w3.cell? ⟨wr.heap.size, 0, none⟩ = some (.int .i64 (1 + ap)) ∧ w3.cell? ⟨wr.heap.size, 1, none⟩ = some (.int .i64 an) := ⟨(c5 _ (show eb < _ by omega)).trans Y3.out, (c5 _ (show eb < _ by omega)).trans Y4.out, (c5 _ (lt_of_heap A2.out)).trans U0.out, (c5 _ (lt_of_heap A2.out)).trans U1.out, (c5 _ (lt_of_heap A2.out)).trans U2.out, (c5 _ hT7).trans V0.out, (c5 _ hT7).trans V1.out⟩; clear hb3 c5))
            all_goals clear x3 x4 a0 a1 a2 t0 t1 SS
            all_goals first
            | (have hnz := NZ
               clear hnz n0 n1 n2 nf
               generalize hW : World.setCell _ _ _ = w4
               have B4 := Lib.hid (show Below wr.heap.size wr w4 by rw [← hW]; exact (((B2.out.trans (B3.out.mono h2s)).setCell h2s _).setCell h2s _).setCell h2s _)
               have T8 := Lib.hid (show w4.heap[w2.heap.size]? = some (.cells #[.int .i64 (1 + ap), .int .i64 an, .slice sa sn sc] 39 (0, 0)) by rw [← hW]; exact heapSet (heapSet (heapSet NZ.out _) _) _)
               have OW4 := Lib.hid (show OwnV w4 wr.heap.size (.slice sa sn sc) (putV ⟨asl, (1 + ap, an), ⟨2, 0, av, 0, 0⟩⟩ L) from ownV_move O3.out (by simp; omega) (fun k hk0 hk => by
                 have hkk : k ≠ w2.heap.size := by simp at hk0; omega
                 rw [← hW, heapSet_ne _ _ hkk, heapSet_ne _ _ hkk, heapSet_ne _ _ hkk]))
               have A4 := Lib.hid ((B4.out.block _ hroom).trans INV.out.acc)
               clear hW
               have e0 : w4.cell? ⟨w2.heap.size, 0, none⟩ = some (.int .i64 (1 + ap)) := cellAt T8.out 0 rfl
               have e1 : w4.cell? ⟨w2.heap.size, 1, none⟩ = some (.int .i64 an) := cellAt T8.out 1 rfl
               have e2 : w4.cell? ⟨w2.heap.size, 2, none⟩ = some (.slice sa sn sc) := cellAt T8.out 2 rfl
               have a0 : w4.cell? ⟨w.heap.size + 1, 0, none⟩ = some (.int .i64 pr) := cellAt A4.out 0 rfl
               have a1 : w4.cell? ⟨w.heap.size + 1, 1, none⟩ = some (.int .i64 pn) := cellAt A4.out 1 rfl
               have a2 : w4.cell? ⟨w.heap.size + 1, 2, none⟩ = some (.slice va L.length vc) := cellAt A4.out 2 rfl
               have af := freeAt A4.out
               have hne : ¬ (w2.heap.size = w.heap.size + 1) := by have := B3.out.size; omega
               have hne' : ¬ (w.heap.size + 1 = w2.heap.size) := by have := B3.out.size; omega
               have NEW0 := Lib.hid (INV.out.turn (b := (1 + ap, an)) (L1 := putV ⟨asl, (1 + ap, an), ⟨2, 0, av, 0, 0⟩⟩ L) B4.out OW4.out (okA_put INV.out.ok OKY.out (Int.not_lt.2 LOW.out)) (by show 1 + ap ≤ 9; omega) (by have h1 := INV.out.len; have h2 := putV_length ⟨asl, (1 + ap, an), ⟨2, 0, av, 0, 0⟩⟩ L; omega))
               go_wp2_with fail
               generalize hW : World.setCell _ _ _ = w5
               have NEW : Hid (∃ p vs L, VodInv w w5 (q + 1) p vs L) := Lib.hid (by rw [← hW]; exact ⟨_, _, _, NEW0.out⟩)
               clear hW NEW0 e0 e1 e2 a0 a1 a2 af hne hne'
               go_roundw
               case rel => exact ⟨q + 1, by omega, by go_num, rfl, NEW⟩
               case measure => simp [intOf]; omega)
            | (generalize hW : World.alloc _ _ = w4
               have B4 := Lib.hid (show Below wr.heap.size wr w4 by rw [← hW]; exact (B2.out.trans (B3.out.mono h2s)).alloc (Nat.le_trans h2s B3.out.size) _)
               have T8 := Lib.hid (show w4.heap[w3.heap.size]? = some (.cells #[.int .i64 (1 + ap), .int .i64 an, .slice sa sn sc] 39 (0, 0)) by rw [← hW]; exact heapNew _ _)
               have OW4 := Lib.hid (show OwnV w4 wr.heap.size (.slice sa sn sc) (putV ⟨asl, (1 + ap, an), ⟨2, 0, av, 0, 0⟩⟩ L) from ownV_move O3.out h2s (fun k _ hk => by rw [← hW]; exact heapOld _ _ _ hk))
               have A4 := Lib.hid ((B4.out.block _ hroom).trans INV.out.acc)
               clear hW
               have e0 : w4.cell? ⟨w3.heap.size, 0, none⟩ = some (.int .i64 (1 + ap)) := cellAt T8.out 0 rfl
               have e1 : w4.cell? ⟨w3.heap.size, 1, none⟩ = some (.int .i64 an) := cellAt T8.out 1 rfl
               have e2 : w4.cell? ⟨w3.heap.size, 2, none⟩ = some (.slice sa sn sc) := cellAt T8.out 2 rfl
               have a0 : w4.cell? ⟨w.heap.size + 1, 0, none⟩ = some (.int .i64 pr) := cellAt A4.out 0 rfl
               have a1 : w4.cell? ⟨w.heap.size + 1, 1, none⟩ = some (.int .i64 pn) := cellAt A4.out 1 rfl
               have a2 : w4.cell? ⟨w.heap.size + 1, 2, none⟩ = some (.slice va L.length vc) := cellAt A4.out 2 rfl
               have af := freeAt A4.out
               have hne : ¬ (w3.heap.size = w.heap.size + 1) := by have := B3.out.size; omega
               have hne' : ¬ (w.heap.size + 1 = w3.heap.size) := by have := B3.out.size; omega
               have NEW0 := Lib.hid (INV.out.turn (b := (1 + ap, an)) (L1 := putV ⟨asl, (1 + ap, an), ⟨2, 0, av, 0, 0⟩⟩ L) B4.out OW4.out (okA_put INV.out.ok OKY.out (Int.not_lt.2 LOW.out)) (by show 1 + ap ≤ 9; omega) (by have h1 := INV.out.len; have h2 := putV_length ⟨asl, (1 + ap, an), ⟨2, 0, av, 0, 0⟩⟩ L; omega))
               go_wp2_with fail
               generalize hW : World.setCell _ _ _ = w5
               have NEW : Hid (∃ p vs L, VodInv w w5 (q + 1) p vs L) := Lib.hid (by rw [← hW]; exact ⟨_, _, _, NEW0.out⟩)
               clear hW NEW0 e0 e1 e2 a0 a1 a2 af hne hne'
               go_roundw
               case rel => exact ⟨q + 1, by omega, by go_num, rfl, NEW⟩
               case measure => simp [intOf]; omega)
    · have hex : (decide (q < n) = false ∧ decide ((q : Int) < n) = false) ∨ (decide (q < n) = true ∧ decide ((q : Int) < n) = true ∧ decide (q < 30) = false ∧ decide ((q : Int) < 30) = false) := by
        have := HM.out
        simp only [decide_eq_true_eq, decide_eq_false_iff_not]
        omega
      obtain ⟨⟨pr, pn⟩, vs, L, hinv⟩ := HI.out
      obtain ⟨va, vc, hvs, -⟩ := id hinv.own.row
      subst hvs
      have INV := Lib.hid hinv
      have o0 : wr.cell? ⟨w.heap.size, 0, none⟩ = some (.int .i64 0) := cellAt hinv.out 0 rfl
      have o1 : wr.cell? ⟨w.heap.size, 1, none⟩ = some (.int .i64 0) := cellAt hinv.out 1 rfl
      have o2 : wr.cell? ⟨w.heap.size, 2, none⟩ = some (.slice none 0 0) := cellAt hinv.out 2 rfl
      have of := freeAt hinv.out
      have a0 : wr.cell? ⟨w.heap.size + 1, 0, none⟩ = some (.int .i64 pr) := cellAt hinv.acc 0 rfl
      have a1 : wr.cell? ⟨w.heap.size + 1, 1, none⟩ = some (.int .i64 pn) := cellAt hinv.acc 1 rfl
      have a2 : wr.cell? ⟨w.heap.size + 1, 2, none⟩ = some (.slice va L.length vc) := cellAt hinv.acc 2 rfl
      clear hinv HI
      rcases hex with ⟨he1, he2⟩ | ⟨he1, he2, he3, he4⟩
      all_goals
        go_wp2_with fail
        generalize hW : World.setCell _ _ _ = w5
        have z5 : w5.heap[w.heap.size]? = some (.cells #[.int .i64 pr, .int .i64 pn, .slice va L.length vc] 39 (0, 0)) := by
          rw [← hW]; exact heapSet (heapSet (heapSet INV.out.out _) _) _
        have b5 : Below w.heap.size w w5 := by
          have hle : w.heap.size ≤ w.heap.size := Nat.le_refl _
          rw [← hW]; exact ((INV.out.below.setCell hle _).setCell hle _).setCell hle _
        have o5 : OwnV w5 w.heap.size (.slice va L.length vc) L := ownV_move INV.out.own (by omega) (fun k hk _ => by
          have hkk : k ≠ w.heap.size := by omega
          rw [← hW, heapSet_ne _ _ hkk, heapSet_ne _ _ hkk, heapSet_ne _ _ hkk])
        clear hW o0 o1 o2 of a0 a1 a2
        have e0 : w5.cell? ⟨w.heap.size, 0, none⟩ = some (.int .i64 pr) := cellAt z5 0 rfl
        have e1 : w5.cell? ⟨w.heap.size, 1, none⟩ = some (.int .i64 pn) := cellAt z5 1 rfl
        have e2 : w5.cell? ⟨w.heap.size, 2, none⟩ = some (.slice va L.length vc) := cellAt z5 2 rfl
        refine bodyPost_ret (v := .tuple #[.agg #[.int .i64 pr, .int .i64 pn, .slice va L.length vc], .bool true]) ?_ rfl ⟨(pr, pn), _, L, rfl, o5, INV.out.ok, INV.out.few, by have := INV.out.len; omega, b5⟩
        simp [results, Try.results13, go_sem, e0, e1, e2]
end Go.Proofs.Ytdkbajdnckmckaa

set_option linter.unusedVariables false
set_option linter.unusedSimpArgs false
namespace Go.Proofs.Ytdkbajdnckmckaa
open Go.RowKit Go.Con
set_option maxRecDepth 100000 in
set_option maxHeartbeats 1000000 in
theorem below_to (r n s m : Int) (c : Bool) (w : World) (h : Hid (decide (cmpB (r, n) (s, m) < 0) = c)) :
    Calls Try.prog 16 #[.agg #[.int .i64 r, .int .i64 n], .agg #[.int .i64 s, .int .i64 m]] w fun e w' => e = .returned (.bool c) ∧ Below w.heap.size w w' := by
  have hc : (decide (r < s) = true ∧ c = true) ∨ (decide (r < s) = false ∧ (r == s) = false ∧ c = false) ∨ (decide (r < s) = false ∧ (r == s) = true ∧ decide (n < m) = true ∧ c = true) ∨ (decide (r < s) = false ∧ (r == s) = true ∧ decide (n < m) = false ∧ c = false) := by
    have h2 := h.out
    rw [← h2]
    simp only [decide_eq_true_eq, decide_eq_false_iff_not, beq_iff_eq, beq_eq_false_iff_ne, ne_eq, cmpB_low]
    omega
  rcases hc with ⟨h1, rfl⟩ | ⟨h1, h2, rfl⟩ | ⟨h1, h2, h3, rfl⟩ | ⟨h1, h2, h3, rfl⟩
  all_goals
    go_enter Try.func16, Try.ntmps16
    go_wp2_with fail
    go_ret
    exact ⟨rfl, ((Below.refl _ _).alloc (Nat.le_refl _) _).alloc (by simp) _⟩
theorem okV_zero {s : Int} {b : Int × Int} (h0 : 0 ≤ s) (h1 : s < 40) (hb : okB b = true) : okV ⟨s, b, Cmd.zero⟩ = true := by
  unfold okV
  have hc : checkC Cmd.zero = 0 := by decide
  rw [hb, hc]
  simp
  omega
theorem okV_get {s q : Int} {b : Int × Int} (h0 : 0 ≤ s) (h1 : s < 40) (hb : okB b = true) (hq0 : 0 ≤ q) (hq : q < 1000) : okV ⟨s, b, ⟨2, 0, q, 0, 0⟩⟩ = true := by
  have hcc : checkC ⟨2, 0, q, 0, 0⟩ = 0 := by
    unfold checkC
    rw [if_neg (show ¬ ((2 : Int) = 0) by decide), if_pos (show (1 : Int) ≤ 2 ∧ (2 : Int) ≤ 3 by decide)]
    have hr : inRange ⟨2, 0, q, 0, 0⟩ = true := by unfold inRange; rw [decide_eq_true_eq]; simp; omega
    rw [if_neg (by rw [hr]; decide), if_neg (show ¬ ((2 : Int) ≠ 1 ∧ (0 : Int) ≠ 0) by decide)]
  unfold okV
  rw [hb, hcc]
  simp
  omega
/-- voted, its value opened -/
theorem voted_to (v : Value) (l : List Cmd) (w : World) (hv : RdWishes w v l) :
    Calls Try.prog 13 #[v] w fun e w' => ∃ pr pn va vc L, e = .returned (.tuple #[.agg #[.int .i64 pr, .int .i64 pn, .slice va L.length vc], .bool true]) ∧ OwnV w' w.heap.size (.slice va L.length vc) L ∧ okA (pr, pn) L = true ∧ pr ≤ 9 ∧ L.length ≤ 30 ∧ Below w.heap.size w w' :=
  (voted_any v l w hv).mono fun e w' ⟨p, vs, L, h1, h2, h3, h4, h5, h6⟩ => by
    obtain ⟨va, vc, rfl, -⟩ := id h2.row
    exact ⟨p.1, p.2, va, vc, L, h1, h2, h3, h4, h5, h6⟩
/-- an acceptor in a variable -/
def AccIn (w : World) (b : Nat) (r n : Int) (v : Value) : Prop := w.heap[b]? = some (.cells #[.int .i64 r, .int .i64 n, v] 39 (0, 0))
theorem AccIn.cells {w : World} {b : Nat} {r n : Int} {v : Value} (h : AccIn w b r n v) : w.cell? ⟨b, 0, none⟩ = some (.int .i64 r) ∧ w.cell? ⟨b, 1, none⟩ = some (.int .i64 n) ∧ w.cell? ⟨b, 2, none⟩ = some v := ⟨cellAt h 0 rfl, cellAt h 1 rfl, cellAt h 2 rfl⟩
theorem AccIn.stay {w w' : World} {b : Nat} {r n : Int} {v : Value} (h : AccIn w b r n v) (hb : Below w.heap.size w w') : AccIn w' b r n v := (hb.block b (lt_of_heap h)).trans h
def BalIn (w : World) (b : Nat) (r n : Int) : Prop := w.heap[b]? = some (.cells #[.int .i64 r, .int .i64 n] 28 (0, 0))
theorem BalIn.cells {w : World} {b : Nat} {r n : Int} (h : BalIn w b r n) : w.cell? ⟨b, 0, none⟩ = some (.int .i64 r) ∧ w.cell? ⟨b, 1, none⟩ = some (.int .i64 n) := ⟨cellAt h 0 rfl, cellAt h 1 rfl⟩
theorem BalIn.stay {w w' : World} {b : Nat} {r n : Int} (h : BalIn w b r n) (hb : Below w.heap.size w w') : BalIn w' b r n := (hb.block b (lt_of_heap h)).trans h
theorem RdWishes.stay {w w' : World} {v : Value} {l : List Cmd} (h : RdWishes w v l) (hb : Below w.heap.size w w') : RdWishes w' v l := by
  obtain ⟨a, c, rfl, h1, h2, h3, h4⟩ := h
  refine ⟨a, c, rfl, h1, h2, h3, fun hl => ?_⟩
  obtain ⟨b, off, rfl, hc⟩ := h4 hl
  refine ⟨b, off, rfl, fun i hi j hj => ?_⟩
  have h5 := hc i hi j hj
  rw [← h5]
  have h6 : (wishCells (l.getD i Cmd.zero))[j]? = some ((wishCells (l.getD i Cmd.zero))[j]'hj) := List.getElem?_eq_getElem hj
  rw [h6] at h5
  exact World.cell?_of_block (w := w) (hb.block b (World.block_lt_of_cell? w _ h5))
end Go.Proofs.Ytdkbajdnckmckaa

set_option linter.unusedVariables false
set_option linter.unusedSimpArgs false
namespace Go.Con
open Go
theorem cmpB_flip {a b : Int × Int} : 0 < cmpB a b ↔ cmpB b a < 0 := by
  rw [cmpB_lt, cmpB_low]; omega
end Go.Con
namespace Go.Proofs.Ytdkbajdnckmckaa
open Go.RowKit Go.Con
theorem PickR (v : Value) (ls : List (List Vot)) (s sl r n k cl sq nm vl : Int) (rb : Bool) (w : World) (hv : RdLs w v ls) (hs0 : 0 ≤ s) (hs1 : s < 40) (hok : ∀ l ∈ ls, ∀ x ∈ l, okV x = true) (hb : Hid (bestV s Vot.zero ls.flatten = ⟨sl, (r, n), ⟨k, cl, sq, nm, vl⟩⟩)) (hr : Hid (decide (0 < r) = rb)) :
    Calls Try.prog 11 #[v, .int .i64 s] w fun e w' => e = .returned (.tuple #[.agg #[.int .i64 k, .int .i64 cl, .int .i64 sq, .int .i64 nm, .int .i64 vl], .bool rb, .int .i64 0]) ∧ Below w.heap.size w w' := by
  have h := Pick_any v ls s w hv hs0 hs1 hok
  rw [hb.out] at h
  rw [← hr.out]
  exact h
theorem newLs2 {W : World} {v1 v2 : Value} {l1 l2 : List Vot} (h1 : RdV W v1 l1) (h2 : RdV W v2 l2) : RdLs (W.alloc (.cells #[v1, v2] 23)) (.slice (some ⟨W.heap.size, 0, none⟩) 2 2) [l1, l2] := by
  refine ⟨_, _, rfl, Nat.le_refl _, by decide, fun _ => ⟨_, _, rfl, by simp, fun i hi => ?_⟩⟩
  have hi2 : i = 0 ∨ i = 1 := by have : i < 2 := hi; omega
  rcases hi2 with rfl | rfl
  · exact ⟨v1, cellAt (heapNew W _) 0 rfl, RdRow.stay h1 ((Below.refl _ _).alloc (Nat.le_refl _) _)⟩
  · exact ⟨v2, cellAt (heapNew W _) 1 rfl, RdRow.stay h2 ((Below.refl _ _).alloc (Nat.le_refl _) _)⟩
section
variable {ops : Array Oper} {o : Oper} {a : Act} {w : World} {K : Act → World → Prop} {Q : Exit → Act → World → Prop} {E : Prop}
/-- append(own votes, shown ones...), as one step of a region that draws -/
theorem step_apVs (hg : o.guard = none) (s x : Operand) (ho : o.op = .call { callee := .builtin .append, args := #[s, x], argTypes := #[23, 23] })
    (base : Nat) (v : Value) (l m : List Vot) (ea : Option Addr) (k c : Nat) (hs : a.eval s = v) (hown : OwnV w base v l) (hx : a.eval x = .slice ea k c) (hsrc : RdV w (.slice ea k c) m) (hnone : ea = none → c = 0) (hlen : l.length + m.length ≤ 1000000) (hbase : base ≤ w.heap.size)
    (h : ∀ v' w', OwnV w' base v' (l ++ m) → w.grownBy w' v.ownBlock → K (a.put o.dst v') w') : if Region.wanted o (yielded ops a.tmps) = true then Oper.wp Try.prog o a w K Q else E := by
  have hw : Region.wanted o (yielded ops a.tmps) = true := by simp [Region.wanted, hg]
  rw [if_pos hw]
  obtain ⟨i, hi, hz, hsz, hb⟩ := info_part infoVot
  obtain ⟨hk, hkc, hcells⟩ := hsrc.cells
  cases ea with
  | none =>
    have hk0 : k = 0 := by
      rcases Nat.eq_zero_or_pos k with h | h
      · exact h
      · obtain ⟨b, off, he, -⟩ := hcells 0 h; cases he
    have hm : m = [] := List.eq_nil_of_length_eq_zero (by omega)
    rw [hk0, hnone rfl] at hx
    subst hm
    have hr : (Builtin.append_ #[23, 23] o.type #[v, .slice none 0 0]).run Try.prog w = .ok v w := run_append_owned_none (P := Try.prog) (w := w) base 23 o.type 32 i 8 Try.underlying23 hi v l.length _ hown
    exact Lib.wp_append_run w s x _ _ ho _ _ hs hx v w hr (h v w (by simpa using hown) ⟨rfl, rfl, rfl, Nat.le_refl _, fun _ _ _ => rfl⟩)
  | some ad =>
    obtain ⟨v', w', hr, h2, h3, h4, h5⟩ := run_append_own_at (P := Try.prog) w base 23 o.type 32 i _ 8 64 Try.underlying23 hi hz hsz hb rfl (by decide) v l.length (l.flatMap votCells) hown ad k c (m.flatMap votCells) (by rw [flatMap_len votCells 8 (fun _ => rfl), hk]) (rdV_cells hsrc ad rfl) (votCells_one m) (by unfold maxLen; omega) (by omega) hbase
    refine Lib.wp_append_run w s x _ _ ho _ _ hs hx v' w' hr (h v' w' ?_ h3)
    unfold OwnV
    rw [List.length_append, List.flatMap_append, ← hk]
    exact h2
end
theorem grownNil {w w' : World} (h : w.drew.grownBy w' (Value.slice none 0 0).ownBlock) : Below w.heap.size w w' :=
  ((Below.refl w.heap.size w).drew).grown h (Nat.le_refl _) (fun k hk => by cases hk)
theorem votTake {P : List Vot} {q : Nat} (h : q < P.length) : P.take (q + 1) = P.take q ++ [P.getD q Vot.zero] := by
  rw [List.take_add_one, List.getElem?_eq_getElem h, List.getD_eq_getElem?_getD, List.getElem?_eq_getElem h]; rfl
/-- two votes, number by number -/
theorem vot_cases (b0 b1 b2 b3 b4 b5 b6 b7 p0 p1 p2 p3 p4 p5 p6 p7 : Int) : (b0 = p0 ∧ b1 = p1 ∧ b2 = p2 ∧ b3 = p3 ∧ b4 = p4 ∧ b5 = p5 ∧ b6 = p6 ∧ b7 = p7) ∨ ((⟨b0, (b1, b2), ⟨b3, b4, b5, b6, b7⟩⟩ : Vot) ≠ ⟨p0, (p1, p2), ⟨p3, p4, p5, p6, p7⟩⟩ ∧ (((b0 == p0) = false) ∨ (b0 = p0 ∧ (b1 == p1) = false) ∨ (b0 = p0 ∧ b1 = p1 ∧ (b2 == p2) = false) ∨ (b0 = p0 ∧ b1 = p1 ∧ b2 = p2 ∧ (b3 == p3) = false) ∨ (b0 = p0 ∧ b1 = p1 ∧ b2 = p2 ∧ b3 = p3 ∧ (b4 == p4) = false) ∨ (b0 = p0 ∧ b1 = p1 ∧ b2 = p2 ∧ b3 = p3 ∧ b4 = p4 ∧ (b5 == p5) = false) ∨ (b0 = p0 ∧ b1 = p1 ∧ b2 = p2 ∧ b3 = p3 ∧ b4 = p4 ∧ b5 = p5 ∧ (b6 == p6) = false) ∨ (b0 = p0 ∧ b1 = p1 ∧ b2 = p2 ∧ b3 = p3 ∧ b4 = p4 ∧ b5 = p5 ∧ b6 = p6 ∧ (b7 == p7) = false))) := by
  by_cases h : b0 = p0 ∧ b1 = p1 ∧ b2 = p2 ∧ b3 = p3 ∧ b4 = p4 ∧ b5 = p5 ∧ b6 = p6 ∧ b7 = p7
  · exact .inl h
  · refine .inr ⟨fun e => h ?_, ?_⟩
    · injection e with e1 e2 e3
      injection e2 with e4 e5
      injection e3 with e6 e7 e8 e9 e10
      exact ⟨e1, e4, e5, e6, e7, e8, e9, e10⟩
    · by_cases h0 : b0 = p0
      case neg => exact .inl (by simpa using h0)
      by_cases h1 : b1 = p1
      case neg => exact .inr (.inl ⟨h0, by simpa using h1⟩)
      by_cases h2 : b2 = p2
      case neg => exact .inr (.inr (.inl ⟨h0, h1, by simpa using h2⟩))
      by_cases h3 : b3 = p3
      case neg => exact .inr (.inr (.inr (.inl ⟨h0, h1, h2, by simpa using h3⟩)))
      by_cases h4 : b4 = p4
      case neg => exact .inr (.inr (.inr (.inr (.inl ⟨h0, h1, h2, h3, by simpa using h4⟩))))
      by_cases h5 : b5 = p5
      case neg => exact .inr (.inr (.inr (.inr (.inr (.inl ⟨h0, h1, h2, h3, h4, by simpa using h5⟩)))))
      by_cases h6 : b6 = p6
      case neg => exact .inr (.inr (.inr (.inr (.inr (.inr (.inl ⟨h0, h1, h2, h3, h4, h5, by simpa using h6⟩))))))
      by_cases h7 : b7 = p7
      case neg => exact .inr (.inr (.inr (.inr (.inr (.inr (.inr ⟨h0, h1, h2, h3, h4, h5, h6, by simpa using h7⟩))))))
      exact absurd ⟨h0, h1, h2, h3, h4, h5, h6, h7⟩ h
end Go.Proofs.Ytdkbajdnckmckaa
