/-
  Texts put together: MaW, MaC, Trn, MaL, Qui.
-/
import Derived.Test.YtdkbajdnckmckaaMg11
import Derived.Test.YtdkbajdnckmckaaMg8
import Derived.Deep.RegionLaw
import Derived.Test.YtdkbajdnckmckaaMg1
import Derived.BigQuiet
import Derived.Deep.Quiet
set_option linter.unusedVariables false
set_option linter.unusedSimpArgs false
namespace Go.Con
open Go
theorem setCells_out {w : World} {g o : Nat} {vs : List Value} {b j : Nat} (h : b ≠ g ∨ j < o ∨ o + vs.length ≤ j) : (w.setCells g o vs).cell? ⟨b, j, none⟩ = w.cell? ⟨b, j, none⟩ :=
  World.cell?_setCells_out g vs o w ⟨b, j, none⟩ (fun h1 _ => by
    have h1 : b = g := h1
    show j < o ∨ o + vs.length ≤ j
    omega)
theorem setCells_heap_ne {g k : Nat} (hk : k ≠ g) : ∀ (vs : List Value) (o : Nat) (w : World), (w.setCells g o vs).heap[k]? = w.heap[k]?
  | [], _, _ => rfl
  | v :: vs, o, w => by
    show ((w.setCell ⟨g, o, none⟩ v).setCells g (o + 1) vs).heap[k]? = _
    rw [setCells_heap_ne hk vs, heapSet_ne _ _ hk]
/-- a block of so many cells -/
def Blk (w : World) (g : Nat) (t : TypeId) (n : Nat) : Prop := ∃ cs : Array Value, w.heap[g]? = some (.cells cs t (0, 0)) ∧ cs.size = n
theorem Blk.set {g : Nat} {t : TypeId} {n : Nat} : ∀ (vs : List Value) (o : Nat) (w : World), Blk w g t n → Blk (w.setCells g o vs) g t n
  | [], _, _, h => h
  | v :: vs, o, w, ⟨cs, h1, h2⟩ => Blk.set vs (o + 1) _ ⟨_, heapSet h1 v, by simp [h2]⟩
theorem Blk.setNe {k g : Nat} {t : TypeId} {n : Nat} {w : World} (h : Blk w k t n) (hk : k ≠ g) (vs : List Value) (o : Nat) : Blk (w.setCells g o vs) k t n := by
  obtain ⟨cs, h1, h2⟩ := h
  exact ⟨cs, by rw [setCells_heap_ne hk]; exact h1, h2⟩
theorem Blk.cell {g : Nat} {t : TypeId} {n : Nat} {w : World} (h : Blk w g t n) {j : Nat} (hj : j < n) : ∃ u, w.cell? ⟨g, j, none⟩ = some u := by
  obtain ⟨cs, h1, h2⟩ := h
  exact ⟨cs[j]'(by omega), cellAt h1 j (Array.getElem?_eq_getElem (by omega))⟩
theorem Blk.free {g : Nat} {t : TypeId} {n : Nat} {w : World} (h : Blk w g t n) : ∀ o, w.frozen? ⟨g, o, none⟩ = false := by
  obtain ⟨cs, h1, h2⟩ := h
  exact freeAt h1
theorem Blk.lt {g : Nat} {t : TypeId} {n : Nat} {w : World} (h : Blk w g t n) : g < w.heap.size := by
  obtain ⟨cs, h1, h2⟩ := h
  exact lt_of_heap h1
theorem Blk.stay {g : Nat} {t : TypeId} {n : Nat} {w w' : World} (h : Blk w g t n) (hh : w'.heap[g]? = w.heap[g]?) : Blk w' g t n := by
  obtain ⟨cs, h1, h2⟩ := h
  exact ⟨cs, hh.trans h1, h2⟩
theorem Blk.in {g : Nat} {t : TypeId} {n : Nat} {w : World} (h : Blk w g t n) {o : Nat} {vs : List Value} (ho : o + vs.length ≤ n) (i : Nat) (hi : i < vs.length) {j : Nat} (hj : j = o + i) : (w.setCells g o vs).cell? ⟨g, j, none⟩ = some vs[i] := by
  subst hj
  refine World.cell?_setCells_in g vs o w (fun j hj => ?_) i hi
  obtain ⟨u, hu⟩ := h.cell (j := o + j) (by omega)
  rw [hu]; rfl
theorem setCells_size (g : Nat) : ∀ (vs : List Value) (o : Nat) (w : World), (w.setCells g o vs).heap.size = w.heap.size
  | [], _, _ => rfl
  | v :: vs, o, w => by
    show ((w.setCell ⟨g, o, none⟩ v).setCells g (o + 1) vs).heap.size = _
    rw [setCells_size g vs]
    simp [World.setCell]
end Go.Con
namespace Go.Proofs.Ytdkbajdnckmckaa
open Go.RowKit Go.Con
/-- a row of votes is not touched by a store into a block of another type -/
theorem OwnV.setCells {w : World} {base g n : Nat} {t : TypeId} {v : Value} {l : List Vot} (h : OwnV w base v l) (hb : Blk w g t n) (ht : t ≠ 32) (o : Nat) (vs : List Value) : OwnV (w.setCells g o vs) base v l :=
  row_ofHeap h (fun k hk => setCells_heap_ne (fun e => by
    obtain ⟨cs, h1, h2⟩ := hb
    obtain ⟨-, h3⟩ := id h
    rcases h3 with ⟨rfl, -⟩ | ⟨g', cap, cur, rfl, -, h4, -⟩
    · cases hk
    · have hk := Option.some.inj hk
      have hk : g' = k := hk
      subst hk
      subst e
      rw [h4] at h1
      have h1 := Option.some.inj h1
      injection h1 with h5 h6 h7
      exact ht h6.symm) vs o w)
/-- a bidder in its block -/
structure BidW (w : World) (b : Nat) (B : Bid) : Prop where
  blk : Blk w b 77 30
  b0 : w.cell? ⟨b, 0, none⟩ = some (.int .i64 B.bal.1)
  b1 : w.cell? ⟨b, 1, none⟩ = some (.int .i64 B.bal.2)
  has : ∀ a, a < 5 → w.cell? ⟨b, 7 + a, none⟩ = some (.bool (B.told a).isSome)
  told : ∀ a l, a < 5 → B.told a = some l → ∃ v, w.cell? ⟨b, 2 + a, none⟩ = some v ∧ OwnV w 0 v l
  asked : ∀ s, s < 3 → w.cell? ⟨b, 12 + s, none⟩ = some (.bool (B.what s).isSome)
  what : ∀ s c, s < 3 → B.what s = some c → ∀ j, j < 5 → w.cell? ⟨b, 15 + s * 5 + j, none⟩ = (wishCells c)[j]?
/-- the match in its block, and its bidders -/
structure MatW (w : World) (g : Nat) (M : Mat) (ad : Nat → Option Addr) (c pb : Nat → Nat) : Prop where
  blk : Blk w g 62 38
  n0 : ∀ a, a < 5 → w.cell? ⟨g, a * 3, none⟩ = some (.int .i64 (M.node a).p.1)
  n1 : ∀ a, a < 5 → w.cell? ⟨g, a * 3 + 1, none⟩ = some (.int .i64 (M.node a).p.2)
  n2 : ∀ a, a < 5 → w.cell? ⟨g, a * 3 + 2, none⟩ = some (.slice (ad a) (M.node a).l.length (c a))
  own : ∀ a, a < 5 → OwnV w 0 (.slice (ad a) (M.node a).l.length (c a)) (M.node a).l
  ptr : ∀ k, k < 3 → w.cell? ⟨g, 15 + k, none⟩ = some (.pointer (if (M.bid k).isSome then some ⟨pb k, 0, none⟩ else none))
  bid : ∀ k B, k < 3 → M.bid k = some B → BidW w (pb k) B
  apart : ∀ k k' B B', k < 3 → k' < 3 → k ≠ k' → M.bid k = some B → M.bid k' = some B' → pb k ≠ pb k'
  rnd : w.cell? ⟨g, 18, none⟩ = some (.int .i64 M.rounds)
  cho : ∀ s x, s < 3 → M.chosen s = some x → ∀ j, j < 5 → w.cell? ⟨g, 19 + s * 5 + j, none⟩ = (wishCells x)[j]?
  done : ∀ s, s < 3 → w.cell? ⟨g, 34 + s, none⟩ = some (.bool (M.chosen s).isSome)
  fine : w.cell? ⟨g, 37, none⟩ = some (.bool true)
theorem typ_ne : (77 : TypeId) ≠ 32 ∧ (62 : TypeId) ≠ 32 ∧ (62 : TypeId) ≠ 77 := by decide
theorem BidW.heap {w w' : World} {b : Nat} {B : Bid} (h : BidW w b B) (hb : w'.heap[b]? = w.heap[b]?) (ho : ∀ v l, OwnV w 0 v l → OwnV w' 0 v l) : BidW w' b B := by
  have hc : ∀ o, w'.cell? ⟨b, o, none⟩ = w.cell? ⟨b, o, none⟩ := fun o => World.cell?_of_block (w := w) hb
  refine ⟨h.blk.stay hb, by rw [hc]; exact h.b0, by rw [hc]; exact h.b1, fun a ha => by rw [hc]; exact h.has a ha, fun a l ha hl => ?_, fun s hs => by rw [hc]; exact h.asked s hs, fun s c hs hw j hj => by rw [hc]; exact h.what s c hs hw j hj⟩
  obtain ⟨v, h1, h2⟩ := h.told a l ha hl
  exact ⟨v, by rw [hc]; exact h1, ho v l h2⟩
theorem MatW.heap {w w' : World} {g : Nat} {M : Mat} {ad : Nat → Option Addr} {c pb : Nat → Nat} (h : MatW w g M ad c pb) (hh : ∀ k, k < w.heap.size → w'.heap[k]? = w.heap[k]?) : MatW w' g M ad c pb := by
  have hc : ∀ o, w'.cell? ⟨g, o, none⟩ = w.cell? ⟨g, o, none⟩ := fun o => World.cell?_of_block (w := w) (hh g h.blk.lt)
  have ho : ∀ v l, OwnV w 0 v l → OwnV w' 0 v l := fun v l h1 => ownV_move h1 (Nat.le_refl _) (fun k _ hk => hh k hk)
  exact ⟨h.blk.stay (hh g h.blk.lt), fun a ha => by rw [hc]; exact h.n0 a ha, fun a ha => by rw [hc]; exact h.n1 a ha, fun a ha => by rw [hc]; exact h.n2 a ha, fun a ha => ho _ _ (h.own a ha), fun k hk => by rw [hc]; exact h.ptr k hk,
    fun k B hk hB => (h.bid k B hk hB).heap (hh _ (h.bid k B hk hB).blk.lt) ho, h.apart, by rw [hc]; exact h.rnd, fun s x hs hx j hj => by rw [hc]; exact h.cho s x hs hx j hj, fun s hs => by rw [hc]; exact h.done s hs, by rw [hc]; exact h.fine⟩
theorem MatW.stay {w w' : World} {g : Nat} {M : Mat} {ad : Nat → Option Addr} {c pb : Nat → Nat} (h : MatW w g M ad c pb) (hb : Below w.heap.size w w') : MatW w' g M ad c pb := h.heap (fun k hk => hb.block k hk)
theorem MatW.ne {w : World} {g : Nat} {M : Mat} {ad : Nat → Option Addr} {c pb : Nat → Nat} (h : MatW w g M ad c pb) {k : Nat} {B : Bid} (hk : k < 3) (hB : M.bid k = some B) : pb k ≠ g := by
  intro e
  obtain ⟨cs, h1, -⟩ := (h.bid k B hk hB).blk
  obtain ⟨cs', h2, -⟩ := h.blk
  rw [e, h2] at h1
  have h1 := Option.some.inj h1
  injection h1 with h5 h6 h7
  exact typ_ne.2.2 h6
/-- a store into the match leaves the bidders -/
theorem MatW.bidSet {w : World} {g : Nat} {M : Mat} {ad : Nat → Option Addr} {c pb : Nat → Nat} (h : MatW w g M ad c pb) (o : Nat) (vs : List Value) : ∀ k B, k < 3 → M.bid k = some B → BidW (w.setCells g o vs) (pb k) B := fun k B hk hB =>
  (h.bid k B hk hB).heap (setCells_heap_ne (h.ne hk hB) vs o w) (fun v l h1 => h1.setCells h.blk typ_ne.2.1 o vs)
set_option maxHeartbeats 2000000 in
/-- a node is changed -/
theorem MatW.setNode {w : World} {g : Nat} {M : Mat} {ad : Nat → Option Addr} {c pb : Nat → Nat} (h : MatW w g M ad c pb) {n : Nat} (hn : n < 5) (x : Apr) (a' : Option Addr) (c' : Nat) (ho : OwnV w 0 (.slice a' x.l.length c') x.l) :
    MatW (w.setCells g (n * 3) [.int .i64 x.p.1, .int .i64 x.p.2, .slice a' x.l.length c']) g { M with node := put1 M.node n x } (put1 ad n a') (put1 c n c') pb := by
  have hi := h.blk.in (o := n * 3) (vs := [.int .i64 x.p.1, .int .i64 x.p.2, .slice a' x.l.length c']) (by simp; omega)
  have hout : ∀ j, j < n * 3 ∨ n * 3 + 3 ≤ j → (w.setCells g (n * 3) [.int .i64 x.p.1, .int .i64 x.p.2, .slice a' x.l.length c']).cell? ⟨g, j, none⟩ = w.cell? ⟨g, j, none⟩ := fun j hj => setCells_out (.inr hj)
  refine ⟨h.blk.set _ _ _, fun a ha => ?_, fun a ha => ?_, fun a ha => ?_, fun a ha => ?_, fun k hk => ?_, h.bidSet _ _, h.apart, ?_, fun s y hs hy j hj => ?_, fun s hs => ?_, ?_⟩
  · show _ = some (Value.int .i64 (put1 M.node n x a).p.1)
    by_cases e : a = n
    · rw [e, put1_same]; exact hi 0 (by simp) rfl
    · rw [put1_ne _ _ e, hout _ (by omega)]; exact h.n0 a ha
  · show _ = some (Value.int .i64 (put1 M.node n x a).p.2)
    by_cases e : a = n
    · rw [e, put1_same]; exact hi 1 (by simp) rfl
    · rw [put1_ne _ _ e, hout _ (by omega)]; exact h.n1 a ha
  · show _ = some (Value.slice (put1 ad n a' a) (put1 M.node n x a).l.length (put1 c n c' a))
    by_cases e : a = n
    · rw [e, put1_same, put1_same, put1_same]; exact hi 2 (by simp) rfl
    · rw [put1_ne _ _ e, put1_ne _ _ e, put1_ne _ _ e, hout _ (by omega)]; exact h.n2 a ha
  · show OwnV _ 0 (.slice (put1 ad n a' a) (put1 M.node n x a).l.length (put1 c n c' a)) (put1 M.node n x a).l
    by_cases e : a = n
    · rw [e, put1_same, put1_same, put1_same]; exact ho.setCells h.blk typ_ne.2.1 _ _
    · rw [put1_ne _ _ e, put1_ne _ _ e, put1_ne _ _ e]; exact (h.own a ha).setCells h.blk typ_ne.2.1 _ _
  · rw [hout _ (by omega)]; exact h.ptr k hk
  · rw [hout _ (by omega)]; exact h.rnd
  · rw [hout _ (by omega)]; exact h.cho s y hs hy j hj
  · rw [hout _ (by omega)]; exact h.done s hs
  · rw [hout _ (by omega)]; exact h.fine
/-- fine stays so -/
theorem MatW.setFine {w : World} {g : Nat} {M : Mat} {ad : Nat → Option Addr} {c pb : Nat → Nat} (h : MatW w g M ad c pb) : MatW (w.setCells g 37 [.bool true]) g M ad c pb := by
  have hi := h.blk.in (o := 37) (vs := [.bool true]) (by simp)
  have hout : ∀ j, j < 37 → (w.setCells g 37 [.bool true]).cell? ⟨g, j, none⟩ = w.cell? ⟨g, j, none⟩ := fun j hj => setCells_out (.inr (.inl hj))
  refine ⟨h.blk.set _ _ _, fun a ha => ?_, fun a ha => ?_, fun a ha => ?_, fun a ha => (h.own a ha).setCells h.blk typ_ne.2.1 _ _, fun k hk => ?_, h.bidSet _ _, h.apart, ?_, fun s y hs hy j hj => ?_, fun s hs => ?_, hi 0 (by simp) rfl⟩
  · rw [hout _ (by omega)]; exact h.n0 a ha
  · rw [hout _ (by omega)]; exact h.n1 a ha
  · rw [hout _ (by omega)]; exact h.n2 a ha
  · rw [hout _ (by omega)]; exact h.ptr k hk
  · rw [hout _ (by omega)]; exact h.rnd
  · rw [hout _ (by omega)]; exact h.cho s y hs hy j hj
  · rw [hout _ (by omega)]; exact h.done s hs
set_option maxHeartbeats 2000000 in
/-- something is chosen -/
theorem MatW.setDone {w : World} {g : Nat} {M : Mat} {ad : Nat → Option Addr} {c pb : Nat → Nat} (h : MatW w g M ad c pb) {s : Nat} (hs : s < 3) (x : Cmd) :
    MatW ((w.setCells g (34 + s) [.bool true]).setCells g (19 + s * 5) (wishCells x)) g (M.choose s x) ad c pb := by
  have hlen : (wishCells x).length = 5 := rfl
  have hi := h.blk.in (o := 34 + s) (vs := [.bool true]) (by simp; omega)
  have hb1 := h.blk.set [.bool true] (34 + s) w
  have hi2 := hb1.in (o := 19 + s * 5) (vs := wishCells x) (by rw [hlen]; omega)
  have hout : ∀ j, j ≠ 34 + s → j < 19 + s * 5 ∨ 19 + s * 5 + 5 ≤ j → ((w.setCells g (34 + s) [.bool true]).setCells g (19 + s * 5) (wishCells x)).cell? ⟨g, j, none⟩ = w.cell? ⟨g, j, none⟩ := fun j hj1 hj2 => by
    rw [setCells_out (.inr (by rw [hlen]; exact hj2)), setCells_out (.inr (by simp; omega))]
  have ho : ∀ v l, OwnV w 0 v l → OwnV ((w.setCells g (34 + s) [.bool true]).setCells g (19 + s * 5) (wishCells x)) 0 v l := fun v l h1 => (h1.setCells h.blk typ_ne.2.1 _ _).setCells hb1 typ_ne.2.1 _ _
  refine ⟨hb1.set _ _ _, fun a ha => ?_, fun a ha => ?_, fun a ha => ?_, fun a ha => ho _ _ (h.own a ha), fun k hk => ?_, fun k B hk hB => (h.bid k B hk hB).heap ?_ ho, h.apart, ?_, fun t y ht hy j hj => ?_, fun t ht => ?_, ?_⟩
  · rw [hout _ (by omega) (by omega)]; exact h.n0 a ha
  · rw [hout _ (by omega) (by omega)]; exact h.n1 a ha
  · rw [hout _ (by omega) (by omega)]; exact h.n2 a ha
  · rw [hout _ (by omega) (by omega)]; exact h.ptr k hk
  · rw [setCells_heap_ne (h.ne hk hB), setCells_heap_ne (h.ne hk hB)]
  · rw [hout _ (by omega) (by omega)]; exact h.rnd
  · have hy : put1 M.chosen s (some x) t = some y := hy
    by_cases e : t = s
    · rw [e, put1_same] at hy
      have hy := Option.some.inj hy
      subst hy
      rw [e]
      have hj' : j < (wishCells x).length := by rw [hlen]; exact hj
      rw [hi2 j hj' rfl, List.getElem?_eq_getElem hj']
    · rw [put1_ne _ _ e] at hy
      rw [hout _ (by omega) (by omega)]; exact h.cho t y ht hy j hj
  · show _ = some (Value.bool (put1 M.chosen s (some x) t).isSome)
    by_cases e : t = s
    · rw [e, put1_same, setCells_out (.inr (by rw [hlen]; omega))]
      exact hi 0 (by simp) rfl
    · rw [put1_ne _ _ e, hout _ (by omega) (by omega)]; exact h.done t ht
  · rw [hout _ (by omega) (by omega)]; exact h.fine
set_option maxHeartbeats 2000000 in
/-- a new ballot -/
theorem MatW.setBegin {w w' : World} {g : Nat} {M : Mat} {ad : Nat → Option Addr} {c pb : Nat → Nat} (h : MatW w g M ad c pb) {k : Nat} (hk : k < 3) (n : Int) {b : Nat} (hB : BidW w' b (Bid.new (((M.rounds + 1 : Nat) : Int), n))) (hb : w.heap.size ≤ b) (hg : Blk w' g 62 38)
    (hh : ∀ q, q < w.heap.size → q ≠ g → w'.heap[q]? = w.heap[q]?) (hc : ∀ j, j ≠ 18 → j ≠ 15 + k → w'.cell? ⟨g, j, none⟩ = w.cell? ⟨g, j, none⟩) (h18 : w'.cell? ⟨g, 18, none⟩ = some (.int .i64 ((M.rounds : Int) + 1))) (hp : w'.cell? ⟨g, 15 + k, none⟩ = some (.pointer (some ⟨b, 0, none⟩))) :
    MatW w' g (M.begin n k) ad c (put1 pb k b) := by
  have ho : ∀ v l, OwnV w 0 v l → OwnV w' 0 v l := fun v l h1 => row_ofHeap h1 (fun q hq => hh q (row_lt h1 q hq).2 (fun e => by
    obtain ⟨cs, g1, g2⟩ := h.blk
    obtain ⟨-, h3⟩ := id h1
    rcases h3 with ⟨rfl, -⟩ | ⟨g', cap, cur, rfl, -, h4, -⟩
    · cases hq
    · have hq := Option.some.inj hq
      have hq : g' = q := hq
      subst hq
      subst e
      rw [h4] at g1
      injection g1 with g1
      injection g1 with h5 h6 h7
      exact typ_ne.2.1 h6.symm))
  refine ⟨hg, fun a ha => ?_, fun a ha => ?_, fun a ha => ?_, fun a ha => ho _ _ (h.own a ha), fun j hj => ?_, fun j B hj hB' => ?_, fun j j' B B' hj hj' hne hB1 hB2 => ?_, ?_, fun s y hs hy j hj => ?_, fun s hs => ?_, ?_⟩
  · rw [hc _ (by omega) (by omega)]; exact h.n0 a ha
  · rw [hc _ (by omega) (by omega)]; exact h.n1 a ha
  · rw [hc _ (by omega) (by omega)]; exact h.n2 a ha
  · show _ = some (Value.pointer (if (put1 M.bid k (some (Bid.new (((M.rounds + 1 : Nat) : Int), n))) j).isSome then some ⟨put1 pb k b j, 0, none⟩ else none))
    by_cases e : j = k
    · rw [e, put1_same, put1_same]; exact hp
    · rw [put1_ne _ _ e, put1_ne _ _ e, hc _ (by omega) (by omega)]; exact h.ptr j hj
  · have hB1 : put1 M.bid k (some (Bid.new (((M.rounds + 1 : Nat) : Int), n))) j = some B := hB'
    by_cases e : j = k
    · rw [e, put1_same] at hB1
      have hB1 := Option.some.inj hB1
      rw [e, put1_same, ← hB1]; exact hB
    · rw [put1_ne _ _ e] at hB1
      rw [put1_ne _ _ e]
      exact (h.bid j B hj hB1).heap (hh _ (h.bid j B hj hB1).blk.lt (h.ne hj hB1)) ho
  · have hB1 : put1 M.bid k (some (Bid.new (((M.rounds + 1 : Nat) : Int), n))) j = some B := hB1
    have hB2 : put1 M.bid k (some (Bid.new (((M.rounds + 1 : Nat) : Int), n))) j' = some B' := hB2
    have key : ∀ {i : Nat} {C : Bid}, i < 3 → i ≠ k → M.bid i = some C → pb i ≠ b := fun {i C} hi hik hC => by
      have := (h.bid i C hi hC).blk.lt
      omega
    by_cases e : j = k
    · have e' : j' ≠ k := fun q => hne (e.trans q.symm)
      rw [put1_ne _ _ e'] at hB2
      rw [e, put1_same, put1_ne _ _ e']
      exact (key hj' e' hB2).symm
    · rw [put1_ne _ _ e] at hB1
      rw [put1_ne _ _ e]
      by_cases e' : j' = k
      · rw [e', put1_same]; exact key hj e hB1
      · rw [put1_ne _ _ e'] at hB2
        rw [put1_ne _ _ e']
        exact h.apart j j' B B' hj hj' hne hB1 hB2
  · exact h18.trans (by show some (Value.int .i64 ((M.rounds : Int) + 1)) = some (Value.int .i64 ((M.rounds + 1 : Nat) : Int)); rw [Int.natCast_add]; rfl)
  · rw [hc _ (by omega) (by omega)]; exact h.cho s y hs hy j hj
  · rw [hc _ (by omega) (by omega)]; exact h.done s hs
  · rw [hc _ (by omega) (by omega)]; exact h.fine
/-- a bidder is changed -/
theorem MatW.setBid {w : World} {g : Nat} {M : Mat} {ad : Nat → Option Addr} {c pb : Nat → Nat} (h : MatW w g M ad c pb) {k : Nat} {B B' : Bid} (hk : k < 3) (hB : M.bid k = some B) {w' : World} (hh : ∀ q, q ≠ pb k → w'.heap[q]? = w.heap[q]?) (hB' : BidW w' (pb k) B') (ho : ∀ v l, OwnV w 0 v l → OwnV w' 0 v l) :
    MatW w' g { M with bid := put1 M.bid k (some B') } ad c pb := by
  have hg : w'.heap[g]? = w.heap[g]? := hh g (h.ne hk hB).symm
  have hc : ∀ o, w'.cell? ⟨g, o, none⟩ = w.cell? ⟨g, o, none⟩ := fun o => World.cell?_of_block (w := w) hg
  refine ⟨h.blk.stay hg, fun a ha => by rw [hc]; exact h.n0 a ha, fun a ha => by rw [hc]; exact h.n1 a ha, fun a ha => by rw [hc]; exact h.n2 a ha, fun a ha => ho _ _ (h.own a ha), fun j hj => ?_, fun j C hj hC => ?_, fun j j' C C' hj hj' hne hC hC' => ?_, by rw [hc]; exact h.rnd, fun s y hs hy j hj => by rw [hc]; exact h.cho s y hs hy j hj, fun s hs => by rw [hc]; exact h.done s hs, by rw [hc]; exact h.fine⟩
  · rw [hc, h.ptr j hj]
    show _ = some (Value.pointer (if (put1 M.bid k (some B') j).isSome then some ⟨pb j, 0, none⟩ else none))
    by_cases e : j = k
    · rw [e, put1_same, hB]; rfl
    · rw [put1_ne _ _ e]
  · have hC : put1 M.bid k (some B') j = some C := hC
    by_cases e : j = k
    · rw [e, put1_same] at hC
      have hC := Option.some.inj hC
      rw [e, ← hC]; exact hB'
    · rw [put1_ne _ _ e] at hC
      exact (h.bid j C hj hC).heap (hh _ (h.apart j k C B hj hk e hC hB)) ho
  · have key : ∀ {i : Nat} {C : Bid}, put1 M.bid k (some B') i = some C → ∃ C0, M.bid i = some C0 := fun {i C} hC => by
      by_cases e : i = k
      · exact ⟨B, e ▸ hB⟩
      · rw [put1_ne _ _ e] at hC
        exact ⟨C, hC⟩
    obtain ⟨C0, g1⟩ := key hC
    obtain ⟨C1, g2⟩ := key hC'
    exact h.apart j j' C0 C1 hj hj' hne g1 g2
set_option maxHeartbeats 2000000 in
theorem BidW.setTold {w : World} {b : Nat} {B : Bid} (h : BidW w b B) {n : Nat} (hn : n < 5) {v : Value} {l : List Vot} (ho : OwnV w 0 v l) :
    BidW ((w.setCells b (7 + n) [.bool true]).setCells b (2 + n) [v]) b { B with told := put1 B.told n (some l) } := by
  have hb1 := h.blk.set [.bool true] (7 + n) w
  have hi := h.blk.in (o := 7 + n) (vs := [.bool true]) (by simp; omega)
  have hi2 := hb1.in (o := 2 + n) (vs := [v]) (by simp; omega)
  have hout : ∀ j, j ≠ 7 + n → j ≠ 2 + n → ((w.setCells b (7 + n) [.bool true]).setCells b (2 + n) [v]).cell? ⟨b, j, none⟩ = w.cell? ⟨b, j, none⟩ := fun j hj1 hj2 => by
    rw [setCells_out (.inr (by simp; omega)), setCells_out (.inr (by simp; omega))]
  have hO : ∀ v' l', OwnV w 0 v' l' → OwnV ((w.setCells b (7 + n) [.bool true]).setCells b (2 + n) [v]) 0 v' l' := fun v' l' h1 => (h1.setCells h.blk typ_ne.1 _ _).setCells hb1 typ_ne.1 _ _
  refine ⟨hb1.set _ _ _, ?_, ?_, fun a ha => ?_, fun a m ha hm => ?_, fun s hs => ?_, fun s c hs hc j hj => ?_⟩
  · rw [hout _ (by omega) (by omega)]; exact h.b0
  · rw [hout _ (by omega) (by omega)]; exact h.b1
  · show _ = some (Value.bool (put1 B.told n (some l) a).isSome)
    by_cases e : a = n
    · rw [e, put1_same, setCells_out (.inr (by simp; omega))]; exact hi 0 (by simp) rfl
    · rw [put1_ne _ _ e, setCells_out (.inr (by simp; omega)), setCells_out (.inr (by simp; omega))]; exact h.has a ha
  · have hm : put1 B.told n (some l) a = some m := hm
    by_cases e : a = n
    · rw [e, put1_same] at hm
      have hm := Option.some.inj hm
      rw [e, ← hm]
      exact ⟨v, hi2 0 (by simp) rfl, hO _ _ ho⟩
    · rw [put1_ne _ _ e] at hm
      obtain ⟨v', h1, h2⟩ := h.told a m ha hm
      exact ⟨v', by rw [setCells_out (.inr (by simp; omega)), setCells_out (.inr (by simp; omega))]; exact h1, hO _ _ h2⟩
  · rw [hout _ (by omega) (by omega)]; exact h.asked s hs
  · rw [hout _ (by omega) (by omega)]; exact h.what s c hs hc j hj
set_option maxHeartbeats 2000000 in
theorem BidW.setWhat {w : World} {b : Nat} {B : Bid} (h : BidW w b B) {s : Nat} (hs : s < 3) (x : Cmd) :
    BidW ((w.setCells b (12 + s) [.bool true]).setCells b (15 + s * 5) (wishCells x)) b { B with what := put1 B.what s (some x) } := by
  have hlen : (wishCells x).length = 5 := rfl
  have hb1 := h.blk.set [.bool true] (12 + s) w
  have hi := h.blk.in (o := 12 + s) (vs := [.bool true]) (by simp; omega)
  have hi2 := hb1.in (o := 15 + s * 5) (vs := wishCells x) (by rw [hlen]; omega)
  have hout : ∀ j, j ≠ 12 + s → j < 15 + s * 5 ∨ 15 + s * 5 + 5 ≤ j → ((w.setCells b (12 + s) [.bool true]).setCells b (15 + s * 5) (wishCells x)).cell? ⟨b, j, none⟩ = w.cell? ⟨b, j, none⟩ := fun j hj1 hj2 => by
    rw [setCells_out (.inr (by rw [hlen]; exact hj2)), setCells_out (.inr (by simp; omega))]
  have hO : ∀ v' l', OwnV w 0 v' l' → OwnV ((w.setCells b (12 + s) [.bool true]).setCells b (15 + s * 5) (wishCells x)) 0 v' l' := fun v' l' h1 => (h1.setCells h.blk typ_ne.1 _ _).setCells hb1 typ_ne.1 _ _
  refine ⟨hb1.set _ _ _, ?_, ?_, fun a ha => ?_, fun a m ha hm => ?_, fun t ht => ?_, fun t y ht hy j hj => ?_⟩
  · rw [hout _ (by omega) (by omega)]; exact h.b0
  · rw [hout _ (by omega) (by omega)]; exact h.b1
  · rw [hout _ (by omega) (by omega)]; exact h.has a ha
  · obtain ⟨v', h1, h2⟩ := h.told a m ha hm
    exact ⟨v', by rw [hout _ (by omega) (by omega)]; exact h1, hO _ _ h2⟩
  · show _ = some (Value.bool (put1 B.what s (some x) t).isSome)
    by_cases e : t = s
    · rw [e, put1_same, setCells_out (.inr (by rw [hlen]; omega))]; exact hi 0 (by simp) rfl
    · rw [put1_ne _ _ e, hout _ (by omega) (by omega)]; exact h.asked t ht
  · have hy : put1 B.what s (some x) t = some y := hy
    by_cases e : t = s
    · rw [e, put1_same] at hy
      have hy := Option.some.inj hy
      subst hy
      rw [e]
      have hj' : j < (wishCells x).length := by rw [hlen]; exact hj
      rw [hi2 j hj' rfl, List.getElem?_eq_getElem hj']
    · rw [put1_ne _ _ e] at hy
      rw [hout _ (by omega) (by omega)]; exact h.what t y ht hy j hj
end Go.Proofs.Ytdkbajdnckmckaa

set_option linter.unusedVariables false
set_option linter.unusedSimpArgs false
namespace Go.Proofs.Ytdkbajdnckmckaa
open Go.RowKit Go.Con
set_option maxRecDepth 100000 in
set_option maxHeartbeats 1000000 in
theorem count_any (b : Nat) (B : Bid) (w : World) (hb : BidW w b B) :
    Calls Try.prog 28 #[.pointer (some ⟨b, 0, none⟩)] w fun e w' => e = .returned (.int .i64 (B.lists 5).length) ∧ w' = w := by
  have HB := Lib.hid hb
  clear hb
  go_enter Try.func28, Try.ntmps28
  go_wp2_with fail
  go_loopw [3, 4] (fun n i wr => ∃ q : Nat, q ≤ 5 ∧ i = .int .i64 q ∧ n = .int .i64 ((B.lists q).length : Int) ∧ wr = w) (fun _ i _ => 5 - (intOf i).toNat)
  case atStart => exact ⟨0, by omega, rfl, rfl, rfl⟩
  case round =>
    obtain ⟨q, hq, rfl, rfl, rfl⟩ := hrel
    by_cases hq5 : q < 5
    · have hd1 : decide ((q : Int) < 5) = true := by rw [decide_eq_true_eq]; omega
      have hd1n : decide (q < 5) = true := by rw [decide_eq_true_eq]; omega
      have h0 := HB.out.has q hq5
      have hs := B.lists_succ q
      cases ht : B.told q with
      | none =>
        rw [ht] at h0 hs
        have HS : Hid (((B.lists q).length : Int) = ((B.lists (q + 1)).length : Int)) := Lib.hid (by rw [hs]; simp)
        clear hs ht
        go_wp2_with fail
        exact ⟨⟨q + 1, by omega, by go_num, by rw [HS.out], trivial⟩, by simp [intOf]; omega⟩
      | some l =>
        rw [ht] at h0 hs
        have HS : Hid (((B.lists q).length : Int) + 1 = ((B.lists (q + 1)).length : Int)) := Lib.hid (by rw [hs]; simp)
        have hll : (B.lists q).length ≤ q := by unfold Bid.lists; exact Nat.le_trans (List.length_filterMap_le ..) (by simp)
        clear hs ht
        go_wp2_with fail
        refine ⟨⟨q + 1, by omega, by go_num, ?_, trivial⟩, by simp [intOf]; omega⟩
        rw [← HS.out]
    · have hq6 : q = 5 := by omega
      subst hq6
      go_wp2_with fail
      go_ret
      exact ⟨rfl, rfl⟩
end Go.Proofs.Ytdkbajdnckmckaa

set_option linter.unusedVariables false
set_option linter.unusedSimpArgs false
namespace Go.Con
open Go
/-- votes, the last one first -/
def revTo (V : List Vot) (q : Nat) : List Vot := (List.range q).map fun p => V.getD (V.length - 1 - p) Vot.zero
theorem revTo_succ (V : List Vot) (q : Nat) : revTo V (q + 1) = revTo V q ++ [V.getD (V.length - 1 - q) Vot.zero] := by
  unfold revTo; rw [List.range_succ, List.map_append]; rfl
theorem revTo_length (V : List Vot) (q : Nat) : (revTo V q).length = q := by unfold revTo; simp
theorem revTo_mem (V : List Vot) (v : Vot) : v ∈ revTo V V.length ↔ v ∈ V := by
  unfold revTo
  constructor
  · intro h
    obtain ⟨p, hp, rfl⟩ := List.mem_map.1 h
    have hp := List.mem_range.1 hp
    have hl : V.length - 1 - p < V.length := by omega
    rw [List.getD_eq_getElem?_getD, List.getElem?_eq_getElem hl]; exact List.getElem_mem _
  · intro h
    obtain ⟨i, hi, rfl⟩ := List.getElem_of_mem h
    refine List.mem_map.2 ⟨V.length - 1 - i, List.mem_range.2 (by omega), ?_⟩
    rw [show V.length - 1 - (V.length - 1 - i) = i by omega, List.getD_eq_getElem?_getD, List.getElem?_eq_getElem hi]; rfl
end Go.Con
namespace Go.Proofs.Ytdkbajdnckmckaa
open Go.RowKit Go.Con
theorem newd1 (w : World) (C : Obj) : (w.alloc C).drew.heap[w.heap.size]? = some C := heapNew w C
theorem OwnV.next {w : World} {base : Nat} {v : Value} {l : List Vot} (h : OwnV w base v l) (C : Obj) : OwnV (w.alloc C).drew base v l :=
  row_ofHeap h (fun k hk => heapOld w C k (row_lt h k hk).2)
/-- a fresh row of one vote -/
theorem newVr (W : World) (v : Vot) : RdV (W.alloc (.cells (votCells v).toArray 32)) (.slice (some ⟨W.heap.size, 0, none⟩) 1 1) [v] := by
  refine ⟨_, _, rfl, Nat.le_refl _, by decide, fun _ => ⟨_, _, rfl, by simp, fun i hi j hj => ?_⟩⟩
  have hi0 : i = 0 := by simpa using hi
  subst hi0
  rw [Nat.mul_zero, Nat.zero_add, Nat.zero_add]
  have hlt : j < (votCells v).length := hj
  have : (([v] : List Vot).getD 0 Vot.zero) = v := rfl
  rw [this, List.getElem?_eq_getElem hlt]
  exact cellAt (heapNew W _) j (by simp [hlt])
theorem infoVs : (Try.prog.info? 23).map (fun i => (i.zero, i.size, i.bytes)) = some (some (.slice none 0 0), 1, 24) := by kernel_rfl
section
variable {ops : Array Oper} {rest : List Oper} {o : Oper} {a : Act} {Q : Exit → Act → World → Prop} {w : World}
/-- append(own rows of votes, one more) -/
theorem apL (hgd : o.guard = none) (s x : Operand) (ho : o.op = .call { callee := .builtin .append, args := #[s, x], argTypes := #[33, 33] })
    (base : Nat) (v : Value) (n : Nat) (xs : List Value) (c : Value) (g : Nat) (hs : a.eval s = v) (hown : w.ownsRow base 23 1 v n xs) (hx : a.eval x = .slice (some ⟨g, 0, none⟩) 1 1) (hsrc : w.heap[g]? = some (.cells #[c] 23 (0, 0))) (h1c : c.oneCell' = true) (hlen : n ≤ 1000000) (hbase : base ≤ w.heap.size)
    (h : ∀ v' w', w'.ownsRow base 23 1 v' (n + 1) (xs ++ [c]) → w.grownBy w' v.ownBlock → (v'.ownBlock = v.ownBlock ∨ v'.ownBlock = some w.heap.size) → wpList Try.prog ops Q rest (a.put o.dst v') w') : wpList Try.prog ops Q (o :: rest) a w := by
  obtain ⟨i, hi, hz, hsz, hb⟩ := info_part infoVs
  refine wpList_append_own_at w hgd s x 33 ho base 23 i _ 1 24 Try.underlying33 hi hz hsz hb rfl (by decide) v n xs hs hown ⟨g, 0, none⟩ 1 1 [c] hx rfl (fun j u hu => ?_) (fun u hu => ?_) (by unfold maxLen; omega) (by omega) hbase ?_
  · have hj := cellAt hsrc j (by simpa using hu)
    rw [Addr.add_mid, Nat.zero_add]; exact hj
  · rw [List.mem_singleton.1 hu]; exact h1c
  · intro v' w' h1 h2 _ h4
    exact h v' w' h1 h2 h4
end
/-- what the second loop keeps -/
structure TurnInv (w1 wr : World) (V : List Vot) (q : Nat) (v7 v8 : Value) (xs : List Value) : Prop where
  bk : OwnV wr w1.heap.size v7 (revTo V q)
  ls : wr.ownsRow w1.heap.size 23 1 v8 q xs
  each : ∀ p x, xs[p]? = some x → ∃ g, x = .slice (some ⟨g, 0, none⟩) 1 1 ∧ wr.heap[g]? = some (.cells (votCells (V.getD (V.length - 1 - p) Vot.zero)).toArray 32 (0, 0)) ∧ w1.heap.size ≤ g ∧ v7.ownBlock ≠ some g ∧ v8.ownBlock ≠ some g
  apart : ∀ k, v7.ownBlock = some k → v8.ownBlock ≠ some k
  below : Below w1.heap.size w1 wr
theorem snocL {α : Type} {l : List α} {x e : α} {i : Nat} (h : (l ++ [x])[i]? = some e) : (i < l.length ∧ l[i]? = some e) ∨ (i = l.length ∧ e = x) := by
  rcases Nat.lt_trichotomy i l.length with h1 | h1 | h1
  · rw [List.getElem?_append_left h1] at h; exact .inl ⟨h1, h⟩
  · subst h1
    rw [List.getElem?_append_right (Nat.le_refl _), Nat.sub_self] at h
    injection h with h
    exact .inr ⟨rfl, h.symm⟩
  · rw [List.getElem?_append_right (by omega), List.getElem?_eq_none (by simp; omega)] at h
    cases h
theorem TurnInv.more {w1 wr w5 w6 : World} {V : List Vot} {q : Nat} {v7 v8 v7' v8' : Value} {xs : List Value} {x : Vot} {C1 D2 : Obj} (HI : TurnInv w1 wr V q v7 v8 xs) (hx : x = V.getD (V.length - 1 - q) Vot.zero)
    (oe : OwnV w5 w1.heap.size v7' (revTo V q ++ [x])) (ge : (wr.alloc C1).grownBy w5 v7.ownBlock) (at7 : v7'.ownBlock = v7.ownBlock ∨ v7'.ownBlock = some (wr.alloc C1).heap.size)
    (ol : w6.ownsRow w1.heap.size 23 1 v8' (q + 1) (xs ++ [.slice (some ⟨w5.heap.size, 0, none⟩) 1 1])) (gl : ((w5.alloc (.cells (votCells x).toArray 32)).alloc D2).grownBy w6 v8.ownBlock) (at8 : v8'.ownBlock = v8.ownBlock ∨ v8'.ownBlock = some ((w5.alloc (.cells (votCells x).toArray 32)).alloc D2).heap.size) :
    TurnInv w1 w6 V (q + 1) v7' v8' (xs ++ [.slice (some ⟨w5.heap.size, 0, none⟩) 1 1]) := by
  have sA : (wr.alloc C1).heap.size = wr.heap.size + 1 := by simp
  have sB : ((w5.alloc (.cells (votCells x).toArray 32)).alloc D2).heap.size = w5.heap.size + 2 := by simp
  have s5 : wr.heap.size + 1 ≤ w5.heap.size := by rw [← sA]; exact ge.size
  have l7 := row_lt HI.bk
  have l8 := row_lt HI.ls
  have l7' := row_lt oe
  have hw1 := HI.below.size
  have xl : xs.length = q := by have := HI.ls.1; omega
  have st5 : ∀ k, k < wr.heap.size → v7.ownBlock ≠ some k → w5.heap[k]? = wr.heap[k]? := fun k h1 h2 => (ge.block k (by omega) (fun e => h2 e.symm)).trans (heapOld _ _ _ h1)
  have st6 : ∀ k, k < w5.heap.size → v8.ownBlock ≠ some k → w6.heap[k]? = w5.heap[k]? := fun k h1 h2 =>
    (gl.block k (by omega) (fun e => h2 e.symm)).trans ((heapOld _ _ _ (by simp; omega)).trans (heapOld _ _ _ h1))
  refine ⟨?_, ol, ?_, ?_, ?_⟩
  · rw [revTo_succ, ← hx]
    refine row_ofHeap oe (fun k hk => st6 k (l7' k hk).2 (fun h8 => ?_))
    rcases at7 with h | h
    · exact HI.apart k (h.symm.trans hk) h8
    · rw [h] at hk; injection hk with hk; have := (l8 k h8).2; omega
  · intro p y hy
    rcases snocL hy with ⟨hp, hy⟩ | ⟨rfl, rfl⟩
    · obtain ⟨g, rfl, hg, hb, g7, g8⟩ := HI.each p y hy
      have hgl := lt_of_heap hg
      refine ⟨g, rfl, (st6 g (by omega) g8).trans ((st5 g hgl g7).trans hg), hb, ?_, ?_⟩
      · intro h
        rcases at7 with e | e
        · exact g7 (e.symm.trans h)
        · rw [e] at h; injection h with h; omega
      · intro h
        rcases at8 with e | e
        · exact g8 (e.symm.trans h)
        · rw [e] at h; injection h with h; omega
    · refine ⟨w5.heap.size, rfl, ?_, by omega, fun h => ?_, fun h => ?_⟩
      · rw [xl, ← hx]
        refine (gl.block _ (by omega) (fun e => ?_)).trans ((heapOld _ _ _ (by simp)).trans (heapNew _ _))
        have := (l8 _ e.symm).2; omega
      · have := (l7' _ h).2; omega
      · rcases at8 with e | e
        · have := (l8 _ (e.symm.trans h)).2; omega
        · rw [e] at h; injection h with h; omega
  · intro k h7 h8
    have hk := (l7' k h7).2
    rcases at8 with e | e
    · have h8' := (l8 k (e.symm.trans h8)).2
      rcases at7 with f | f
      · exact HI.apart k (f.symm.trans h7) (e.symm.trans h8)
      · rw [f] at h7; injection h7 with h7; omega
    · rw [e] at h8; injection h8 with h8; omega
  · have b5 : Below w1.heap.size w1 w5 := (HI.below.alloc hw1 _).grown ge (by rw [sA]; omega) (fun k hk => (l7 k hk).1)
    exact ((b5.alloc (by omega) _).alloc (by simp; omega) _).grown gl (by rw [sB]; omega) (fun k hk => (l8 k hk).1)
/-- a row of one vote that lies in a block -/
theorem rowOne {W : World} {g : Nat} {v : Vot} (h : W.heap[g]? = some (.cells (votCells v).toArray 32 (0, 0))) : RdV W (.slice (some ⟨g, 0, none⟩) 1 1) [v] := by
  refine ⟨_, _, rfl, Nat.le_refl _, by decide, fun _ => ⟨_, _, rfl, lt_of_heap h, fun i hi j hj => ?_⟩⟩
  have hi0 : i = 0 := by simpa using hi
  subst hi0
  rw [Nat.mul_zero, Nat.zero_add, Nat.zero_add]
  have hlt : j < (votCells v).length := hj
  have : (([v] : List Vot).getD 0 Vot.zero) = v := rfl
  rw [this, List.getElem?_eq_getElem hlt]
  exact cellAt h j (by simp [hlt])
/-- a fresh row of one row -/
theorem newLs {W : World} {v : Value} {l : List Vot} (h : RdV W v l) : RdLs (W.alloc (.cells #[v] 23)) (.slice (some ⟨W.heap.size, 0, none⟩) 1 1) [l] := by
  refine ⟨_, _, rfl, Nat.le_refl _, by decide, fun _ => ⟨_, _, rfl, by simp, fun i hi => ?_⟩⟩
  have hi0 : i = 0 := by simpa using hi
  subst hi0
  exact ⟨v, cellAt (heapNew W _) 0 rfl, RdRow.stay h ((Below.refl _ _).alloc (Nat.le_refl _) _)⟩
theorem TurnInv.lists {w1 wr : World} {V : List Vot} {q : Nat} {v7 v8 : Value} {xs : List Value} (HI : TurnInv w1 wr V q v7 v8 xs) : RdLs wr v8 ((revTo V q).map fun v => [v]) := by
  have hx : xs.length = q := by have := HI.ls.1; omega
  have hfl : xs.flatMap (fun x => [x]) = xs := by induction xs with
    | nil => rfl
    | cons a l ih => simp
  have hrow : RdRow 1 (fun x : Value => [x]) (.slice none 0 0) wr v8 xs := RdRow.ofOwn (fun _ => rfl) (base := w1.heap.size) (t := 23) (by rw [hfl, hx]; exact HI.ls)
  obtain ⟨a, c, rfl, h1, h2, h3⟩ := hrow
  have hl : ((revTo V q).map fun v => [v]).length = q := by rw [List.length_map, revTo_length]
  refine ⟨a, c, by rw [hl, hx], by rw [hl, ← hx]; exact h1, h2, fun hne => ?_⟩
  obtain ⟨b, off, rfl, hb, hc⟩ := h3 (by intro h; rw [h] at hx; apply hne; apply List.eq_nil_of_length_eq_zero; rw [hl]; exact hx.symm)
  refine ⟨b, off, rfl, hb, fun i hi => ?_⟩
  rw [hl] at hi
  have hix : i < xs.length := by omega
  have h4 := hc i hix 0 (by decide)
  have hxi : xs[i]? = some (xs.getD i (.slice none 0 0)) := by rw [List.getD_eq_getElem?_getD, List.getElem?_eq_getElem hix]; rfl
  obtain ⟨g, hg, hgh, -⟩ := HI.each i _ hxi
  refine ⟨xs.getD i (.slice none 0 0), by rw [show off + i = off + (1 * i + 0) by omega]; exact h4, ?_⟩
  have e : ((revTo V q).map fun v => [v]).getD i [] = [V.getD (V.length - 1 - i) Vot.zero] := by
    unfold revTo
    simp [hi]
  rw [e, hg]
  exact rowOne hgh
theorem flatten_ones {α : Type} (l : List α) : (l.map fun v => [v]).flatten = l := by
  induction l with
  | nil => rfl
  | cons a l ih => simpa using ih
theorem new2b (W : World) (C D : Obj) : ((W.alloc C).alloc D).heap[W.heap.size + 1]? = some D := by
  have h := heapNew (W.alloc C) D
  have e : (W.alloc C).heap.size = W.heap.size + 1 := by simp
  rwa [e] at h
end Go.Proofs.Ytdkbajdnckmckaa

set_option linter.unusedVariables false
set_option linter.unusedSimpArgs false
namespace Go.Proofs.Ytdkbajdnckmckaa
open Go.RowKit Go.Con
/-- what the loop keeps -/
structure LsInv (w wr : World) (B : Bid) (q : Nat) (v : Value) (xs : List Value) : Prop where
  own : wr.ownsRow w.heap.size 23 1 v (B.lists q).length xs
  each : ∀ i x, xs[i]? = some x → RdV w x ((B.lists q).getD i [])
  below : Below w.heap.size w wr
theorem LsInv.same {w wr : World} {B : Bid} {q : Nat} {v : Value} {xs : List Value} (h : LsInv w wr B q v xs) (ht : B.told q = none) : LsInv w wr B (q + 1) v xs := by
  have e : B.lists (q + 1) = B.lists q := by rw [B.lists_succ, ht]; simp
  obtain ⟨h1, h2, h3⟩ := h
  exact ⟨by rw [e]; exact h1, by rw [e]; exact h2, h3⟩
theorem LsInv.more {w wr w' : World} {B : Bid} {q : Nat} {v v' x : Value} {xs : List Value} {l : List Vot} {C : Obj} (h : LsInv w wr B q v xs) (ht : B.told q = some l) (hx : RdV w x l) (ho : w'.ownsRow w.heap.size 23 1 v' ((B.lists q).length + 1) (xs ++ [x])) (hg : (wr.alloc C).grownBy w' v.ownBlock) : LsInv w w' B (q + 1) v' (xs ++ [x]) := by
  have e : B.lists (q + 1) = B.lists q ++ [l] := by rw [B.lists_succ, ht]; rfl
  have hxl : xs.length = (B.lists q).length := by have := h.own.1; omega
  refine ⟨by rw [e, List.length_append]; exact ho, fun i y hy => ?_, (h.below.alloc h.below.size C).grown hg (by have := h.below.size; simp; omega) (fun k hk => (row_lt h.own k hk).1)⟩
  rw [e]
  rcases snocL hy with ⟨hp, hy⟩ | ⟨rfl, rfl⟩
  · have h1 := h.each i y hy
    have e2 : (B.lists q ++ [l]).getD i [] = (B.lists q).getD i [] := by
      rw [List.getD_eq_getElem?_getD, List.getD_eq_getElem?_getD, List.getElem?_append_left (by omega)]
    rw [e2]; exact h1
  · have e2 : (B.lists q ++ [l]).getD xs.length [] = l := by
      rw [List.getD_eq_getElem?_getD, List.getElem?_append_right (by omega), hxl, Nat.sub_self]; rfl
    rw [e2]; exact hx
theorem LsInv.ls {w wr : World} {B : Bid} {q : Nat} {v : Value} {xs : List Value} (h : LsInv w wr B q v xs) : RdLs wr v (B.lists q) := by
  obtain ⟨h1, h2⟩ := id h.own
  rcases h2 with ⟨rfl, hn⟩ | ⟨g, cap, cur, rfl, hb, hg, hnc, hcm, hcs, htake⟩
  · have e := List.eq_nil_of_length_eq_zero hn
    rw [e]
    exact ⟨none, 0, rfl, Nat.le_refl _, Nat.zero_le _, fun h => absurd rfl h⟩
  · refine ⟨_, _, rfl, hnc, hcm, fun _ => ⟨g, 0, rfl, lt_of_heap hg, fun i hi => ?_⟩⟩
    have hi2 : i < xs.length := by omega
    have h3 := h.own.cells (g := g) rfl i xs[i] (List.getElem?_eq_getElem hi2)
    rw [Addr.add_mid, Nat.zero_add] at h3
    refine ⟨xs[i], by rw [Nat.zero_add]; exact h3, RdRow.stay (h.each i _ (List.getElem?_eq_getElem hi2)) h.below⟩
set_option maxRecDepth 100000 in
set_option maxHeartbeats 1000000 in
theorem lists_any (b : Nat) (B : Bid) (w : World) (hb : BidW w b B) :
    Calls Try.prog 29 #[.pointer (some ⟨b, 0, none⟩)] w fun e w' => ∃ a c, e = .returned (.slice a (B.lists 5).length c) ∧ RdLs w' (.slice a (B.lists 5).length c) (B.lists 5) ∧ Below w.heap.size w w' := by
  have HB := Lib.hid hb
  clear hb
  go_enter Try.func29, Try.ntmps29
  go_wp2_with fail
  go_loopw [3, 4] (fun v i wr => ∃ q : Nat, q ≤ 5 ∧ i = .int .i64 q ∧ Hid (∃ xs, LsInv w wr B q v xs)) (fun _ i _ => 5 - (intOf i).toNat)
  case atStart => exact ⟨0, by omega, rfl, Lib.hid ⟨[], World.ownsRow_nil _ _ _ _, fun i x hx => by simp at hx, Below.refl _ _⟩⟩
  case round =>
    obtain ⟨q, hq, rfl, HI⟩ := hrel
    by_cases hq5 : q < 5
    · have hd1 : decide ((q : Int) < 5) = true := by rw [decide_eq_true_eq]; omega
      have hd1n : decide (q < 5) = true := by rw [decide_eq_true_eq]; omega
      have hbl := HB.out.blk.lt
      have hcr : ∀ o, wr.cell? ⟨b, o, none⟩ = w.cell? ⟨b, o, none⟩ := fun o => by
        obtain ⟨xs, hi⟩ := HI.out
        exact World.cell?_of_block (w := w) (hi.below.block b hbl)
      have h0 := (hcr _).trans (HB.out.has q hq5)
      cases ht : B.told q with
      | none =>
        rw [ht] at h0
        have NEW : Hid (∃ xs, LsInv w wr B (q + 1) _ xs) := Lib.hid (by obtain ⟨xs, hi⟩ := HI.out; exact ⟨xs, hi.same ht⟩)
        clear ht hcr HI
        go_wp2_with fail
        exact ⟨⟨q + 1, by omega, by go_num, NEW⟩, by simp [intOf]; omega⟩
      | some l =>
        rw [ht] at h0
        obtain ⟨x, hx1, hx2⟩ := HB.out.told q l hq5 ht
        have h1 := (hcr _).trans hx1
        obtain ⟨xa, xc, rfl, -⟩ := id hx2.row
        obtain ⟨xs, hinv⟩ := HI.out
        have INV := Lib.hid hinv
        have XR := Lib.hid hx2.row
        have HT := Lib.hid ht
        have hll : (B.lists q).length ≤ q := by unfold Bid.lists; exact Nat.le_trans (List.length_filterMap_le ..) (by simp)
        have hsz := hinv.below.size
        clear hx1 hx2 hinv ht hcr HI
        go_wp2_with (at_builtin; refine apL rfl (.tmp 15) (.tmp 22) rfl w.heap.size _ (B.lists q).length xs (.slice xa l.length xc) wr.heap.size rfl (World.ownsRow.alloc INV.out.own _) rfl (heapNew _ _) rfl (by omega) (by simp; omega) ?_; intro v' w' ho hg _; have NEW : Hid (∃ xs, LsInv w w' B (q + 1) v' xs) := Lib.hid ⟨_, INV.out.more HT.out XR.out ho hg⟩; clear ho hg)
        exact ⟨⟨q + 1, by omega, by go_num, NEW⟩, by simp [intOf]; omega⟩
    · have hq6 : q = 5 := by omega
      subst hq6
      obtain ⟨xs, hinv⟩ := HI.out
      obtain ⟨a, c, rfl, -⟩ := id hinv.ls
      have INV := Lib.hid hinv
      clear hinv HI
      go_wp2_with fail
      go_ret
      exact ⟨_, _, rfl, INV.out.ls, INV.out.below⟩
end Go.Proofs.Ytdkbajdnckmckaa

set_option linter.unusedVariables false
set_option linter.unusedSimpArgs false
namespace Go.Con
open Go Go.RowKit
/-- a world in which what was in 'w' stays -/
structure BelW (w : World) where
  out : World
  bel : Below w.heap.size w out
instance (w : World) : Nonempty (BelW w) := ⟨⟨w, Below.refl _ _⟩⟩
/-- The region's operations are written out; the class is that of the worlds in which what was there stays. -/
theorem wp_region_below {P : Program} {id : Nat} {Q : Exit → Act → World → Prop} {a : Act} {w : World} {l : List Oper} (hm : P.follows .mixedOrders = true) (hB : Region.lexB .any l.toArray = true)
    (h : wpQuiet P l.toArray (fun w' => ∃ n : BelW w, w' = n.out) (fun a' => ∀ w', (∃ n : BelW w, w' = n.out) → Q .normal a' w') l a) : (Code.region id l.toArray true).wp P Q a w :=
  wp_region_quiet (C := fun w' => ∃ n : BelW w, w' = n.out) hm hB ⟨⟨_, below_drewN (Below.refl _ _) 1⟩, rfl⟩ (by simpa using h)
theorem calls_below {P : Program} {f : FuncId} {args : Array Value} {v : Value} {w0 : World} {n : BelW w0} (h : Calls P f args n.out fun e w' => e = .returned v ∧ Below n.out.heap.size n.out w') : Calls P f args n.out fun e w' => e = .returned v ∧ ∃ m : BelW w0, w' = m.out :=
  h.mono fun _ _ ⟨h1, h2⟩ => ⟨h1, ⟨_, n.bel.trans (h2.mono n.bel.size)⟩, rfl⟩
end Go.Con
