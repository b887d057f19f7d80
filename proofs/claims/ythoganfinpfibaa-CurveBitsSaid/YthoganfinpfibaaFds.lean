/-
  What curve's ladder keeps in memory.
-/
import Derived.Test.YthoganfinpfibaaFdr
import Derived.Test.YthoganfinpfibaaBit
import Derived.Test.YthoganfinpfibaaRgM
set_option linter.unusedVariables false
set_option linter.unusedSimpArgs false
namespace Go.Con.Cv
theorem nm_one : Nm true [1, 0, 0, 0, 0, 0, 0, 0, 0, 0, 0, 0, 0, 0, 0, 0] 1 := Nm.of_red (Norm.red ⟨rfl, by decide⟩) ⟨0, by decide⟩
theorem nm_none : Nm true [0, 0, 0, 0, 0, 0, 0, 0, 0, 0, 0, 0, 0, 0, 0, 0] 0 := Nm.of_red (Norm.red ⟨rfl, by decide⟩) ⟨0, by decide⟩
theorem nm_a24 : Nm true [56129, 1, 0, 0, 0, 0, 0, 0, 0, 0, 0, 0, 0, 0, 0, 0] 121665 := Nm.of_red (Norm.red ⟨rfl, by decide⟩) ⟨0, by decide⟩
end Go.Con.Cv
namespace Go.Proofs.Ythoganfinpfibaa
open Go.RowKit Go.Con
theorem nm_sel {so x y : Int} {xs ys : List Int} (hx : Cv.Nm true xs x) (hy : Cv.Nm true ys y) : Cv.Nm true (sel so ys xs) (if so = 1 then y else x) := by
  unfold sel; split
  · exact hy
  · exact hx
theorem lt_setCells {W : World} {c k : Nat} {vs : List Value} (h : k < W.heap.size) : k < (W.setCells c 0 vs).heap.size := Nat.lt_of_lt_of_le h (below_setCells (Nat.zero_le _) _ _ _ (Below.refl 0 W)).size
theorem Own.setC {w : World} {base g n c : Nat} {l : List UInt8} (h : Own w base (.slice (some ⟨g, 0, none⟩) n c) l) (k : Nat) (x : UInt8) : Own (w.setCell ⟨g, k, none⟩ (.int .u8 x.toNat)) base (.slice (some ⟨g, 0, none⟩) n c) (l.set k x) := by
  unfold Own at h ⊢
  rw [List.length_set]
  have hl : n = l.length := by
    rcases h.2 with ⟨h3, _⟩ | ⟨g', cap, cur, h3, _⟩
    · cases h3
    · injection h3
  subst hl
  have h1 := (World.ownsRow.stored h k (.int .u8 x.toNat)).1
  have e : (l.map u8v).set k (.int .u8 x.toNat) = (l.set k x).map u8v := by rw [List.map_set]; rfl
  rw [e] at h1
  exact h1
theorem Own.cellC {w : World} {base g n c : Nat} {l : List UInt8} (h : Own w base (.slice (some ⟨g, 0, none⟩) n c) l) (k : Nat) (hk : k < l.length) : w.cell? ⟨g, k, none⟩ = some (.int .u8 (l.getD k 0).toNat) := by
  obtain ⟨a', c', e, _, _, _, h⟩ := h.rd
  injection e with e1 e2 e3
  subst e1
  obtain ⟨b, off, e4, h2⟩ := h (by intro h; rw [h] at hk; cases hk)
  injection e4 with e4
  injection e4 with e5 e6
  subst e5 e6
  have h3 := h2 k hk
  rw [Nat.zero_add] at h3
  exact h3
theorem Own.freeC {w : World} {base g n c : Nat} {l : List UInt8} (h : Own w base (.slice (some ⟨g, 0, none⟩) n c) l) (k : Nat) : w.frozen? ⟨g, k, none⟩ = false := by
  obtain ⟨hl, h2⟩ := h
  rcases h2 with ⟨h3, hn⟩ | ⟨g', cap, cur, h3, hb, hg, r⟩
  · cases h3
  · injection h3 with e1 e2 e3
    injection e1 with e1
    injection e1 with e4
    subst e4
    exact freeAt hg k
theorem Num.kept {w w' : World} {r : Bool} {b : Nat} {v : Int} {S : Nat → Prop} (h : Num w r b v) (hk : Kept w.heap.size S w w') (hs : ¬ S b) : Num w' r b v := by
  obtain ⟨xs, h1, h2⟩ := h; exact ⟨xs, h1.kept hk (lt_of_heap h1) hs, h2⟩
/-- the world of the ladder: the secret's row, and blocks with numbers in limbs, all apart -/
structure St (w : World) (g cap : Nat) (K : List UInt8) (L : List (Bool × Nat × Int)) (w1 : World) : Prop where
  own : ∀ i, i < 32 → w1.cell? ⟨g, i, none⟩ = some (.int .u8 (K.getD i 0).toNat)
  glt : g < w1.heap.size
  live : ∀ e ∈ L, Num w1 e.1 e.2.1 e.2.2
  apart : (g :: L.map (fun e => e.2.1)).Nodup
  below : Below w.heap.size w w1
  base : ∀ e ∈ L, w.heap.size ≤ e.2.1
variable {w w1 w2 : World} {g cap : Nat} {K : List UInt8} {L L' : List (Bool × Nat × Int)}
theorem St.stay (h : St w g cap K L w1) (hb : Below w1.heap.size w1 w2) : St w g cap K L w2 :=
  ⟨fun i hi => by rw [hb.cell (p := ⟨g, i, none⟩) h.glt]; exact h.own i hi, Nat.lt_of_lt_of_le h.glt hb.size, fun e he => (h.live e he).stay hb, h.apart, h.below.trans (hb.mono h.below.size), h.base⟩
theorem cell_sets {W : World} {c b o : Nat} {vs : List Value} (hne : b ≠ c) : (W.setCells c 0 vs).cell? ⟨b, o, none⟩ = W.cell? ⟨b, o, none⟩ :=
  World.cell?_of_block (heap_setCells_ne hne _ _ _)
/-- a number is stored into a new block -/
theorem St.new {r : Bool} {c : Nat} {v : Int} {zs : List Int} (h : St w g cap K L w1) (hc : Rom w1 c 16 39) (hn : c ∉ g :: L.map (fun e => e.2.1)) (hb : w.heap.size ≤ c) (hz : Cv.Nm r zs v) :
    St w g cap K ((r, c, v) :: L) (w1.setCells c 0 (zs.map i64v)) := by
  have hg : g ≠ c := fun e => hn (by rw [e]; simp)
  refine ⟨fun i hi => by rw [cell_sets hg]; exact h.own i hi, lt_setCells h.glt, fun e he => ?_, ?_, below_setCells hb _ _ _ h.below, fun e he => ?_⟩
  · rcases List.mem_cons.1 he with rfl | he
    · exact Num.stored hc hz
    · exact (h.live e he).sets (fun e2 => hn (by rw [← e2]; exact List.mem_cons_of_mem _ (List.mem_map_of_mem he)))
  · have h1 := h.apart
    rw [List.nodup_cons] at h1
    rw [List.map_cons, List.nodup_cons, List.nodup_cons]
    rw [List.mem_cons, not_or] at hn
    exact ⟨fun h2 => by rcases List.mem_cons.1 h2 with h3 | h3; exact hg h3; exact h1.1 h3, hn.2, h1.2⟩
  · rcases List.mem_cons.1 he with rfl | he
    · exact hb
    · exact h.base e he
/-- a number is stored into a block that holds another one -/
theorem St.put {r q : Bool} {c : Nat} {v u : Int} {zs : List Int} (h : St w g cap K ((q, c, u) :: L) w1) (hz : Cv.Nm r zs v) : St w g cap K ((r, c, v) :: L) (w1.setCells c 0 (zs.map i64v)) := by
  have h1 := h.apart
  rw [List.nodup_cons, List.map_cons, List.nodup_cons] at h1
  have hg : g ≠ c := fun e => h1.1 (by rw [e]; simp)
  refine ⟨fun i hi => by rw [cell_sets hg]; exact h.own i hi, lt_setCells h.glt, fun e he => ?_, h.apart, below_setCells (h.base _ (List.mem_cons_self ..)) _ _ _ h.below, fun e he => ?_⟩
  · rcases List.mem_cons.1 he with rfl | he
    · exact Num.stored (h.live _ (List.mem_cons_self ..)).rom hz
    · exact (h.live e (List.mem_cons_of_mem _ he)).sets (fun e2 => h1.2.1 (show c ∈ L.map (fun e => e.2.1) from List.mem_map.2 ⟨e, he, e2⟩))
  · rcases List.mem_cons.1 he with rfl | he
    · exact h.base (q, c, u) (List.mem_cons_self ..)
    · exact h.base e (List.mem_cons_of_mem _ he)
/-- others, or fewer, in another order -/
theorem St.perm (h : St w g cap K L w1) (hs : ∀ e ∈ L', e ∈ L) (hn : (g :: L.map (fun e => e.2.1)).Nodup → (g :: L'.map (fun e => e.2.1)).Nodup) : St w g cap K L' w1 :=
  ⟨h.own, h.glt, fun e he => h.live e (hs e he), hn h.apart, h.below, fun e he => h.base e (hs e he)⟩
def fr {α : Type} : Nat → List α → List α
  | 0, l => l
  | _ + 1, [] => []
  | i + 1, a :: r => match fr i r with
    | [] => [a]
    | x :: q => x :: a :: q
theorem fr_perm {α : Type} : ∀ (i : Nat) (l : List α), (fr i l).Perm l
  | 0, l => List.Perm.refl l
  | i + 1, [] => List.Perm.refl _
  | i + 1, a :: r => by
    have ih := fr_perm i r
    rw [fr]
    cases h : fr i r with
    | nil => rw [h] at ih; exact (List.Perm.cons a ih)
    | cons x q => rw [h] at ih; exact (List.Perm.swap a x q).trans (List.Perm.cons a ih)
theorem St.front (i : Nat) (h : St w g cap K L w1) : St w g cap K (fr i L) w1 :=
  h.perm (fun e he => (fr_perm i L).mem_iff.1 he) (fun hn => (((fr_perm i L).map _).cons g).nodup_iff.2 hn)
theorem St.take (k : Nat) (h : St w g cap K L w1) : St w g cap K (L.take k) w1 :=
  h.perm (fun e he => List.mem_of_mem_take he) (fun hn => (((List.take_sublist k L).map _).cons_cons g).nodup hn)
theorem St.neq {q1 q2 r : Bool} {c d b : Nat} {x y v : Int} (h : St w g cap K ((q1, c, x) :: (q2, d, y) :: L) w1) (hm : (r, b, v) ∈ L) : b ≠ c ∧ b ≠ d := by
  have ha := h.apart
  rw [List.nodup_cons, List.map_cons, List.map_cons, List.nodup_cons, List.nodup_cons] at ha
  have hb : b ∈ L.map (fun e => e.2.1) := List.mem_map.2 ⟨_, hm, rfl⟩
  exact ⟨fun e => ha.2.1 (by rw [← e]; exact List.mem_cons_of_mem _ hb), fun e => ha.2.2.1 (by rw [← e]; exact hb)⟩
theorem St.neq2 {q1 q2 : Bool} {c d : Nat} {x y : Int} (h : St w g cap K ((q1, c, x) :: (q2, d, y) :: L) w1) : c ≠ d := by
  have ha := h.apart
  rw [List.nodup_cons, List.map_cons, List.map_cons, List.nodup_cons, List.nodup_cons] at ha
  exact fun e => ha.2.1 (by rw [e]; simp)
theorem St.old (h : St w g cap K L w1) {c : Nat} (hc : w1.heap.size ≤ c) : c ∉ g :: L.map (fun e => e.2.1) := by
  intro hm
  rcases List.mem_cons.1 hm with rfl | hm
  · have := h.glt; omega
  · obtain ⟨e, he, rfl⟩ := List.mem_map.1 hm
    have := (h.live e he).lt; omega
theorem St.ne (h : St w g cap K L w1) {c : Nat} {e : Bool × Nat × Int} (he : e ∈ L) (hc : w1.heap.size ≤ c) : e.2.1 ≠ c := fun e2 => by have := (h.live e he).lt; omega
/-- two new ones -/
theorem St.new2 {r q : Bool} {c d : Nat} {v u : Int} {zs ys : List Int} (h : St w g cap K L w1) (hb : Below w1.heap.size w1 w2) (hc : Rom w2 c 16 39) (hd : Rom w2 d 16 39) (hcb : w1.heap.size ≤ c) (hdb : w1.heap.size ≤ d) (hcd : c ≠ d)
    (hz : Cv.Nm r zs v) (hy : Cv.Nm q ys u) : St w g cap K ((q, d, u) :: (r, c, v) :: L) ((w2.setCells c 0 (zs.map i64v)).setCells d 0 (ys.map i64v)) := by
  have hs := h.below.size
  refine ((h.stay hb).new hc (h.old hcb) (by omega) hz).new (hd.sets (fun e => hcd e.symm)) (fun hm => ?_) (by omega) hy
  have ho := h.old hdb
  rw [List.map_cons] at hm
  rcases List.mem_cons.1 hm with e | hm
  · exact ho (by rw [e]; simp)
  · rcases List.mem_cons.1 hm with e | hm
    · exact hcd e.symm
    · exact ho (List.mem_cons_of_mem _ hm)
theorem St.new1 {r : Bool} {c : Nat} {v : Int} {zs : List Int} (h : St w g cap K L w1) (hb : Below w1.heap.size w1 w2) (hc : Rom w2 c 16 39) (hcb : w1.heap.size ≤ c)
    (hz : Cv.Nm r zs v) : St w g cap K ((r, c, v) :: L) (w2.setCells c 0 (zs.map i64v)) :=
  (h.stay hb).new hc (h.old hcb) (by have := h.below.size; omega) hz
theorem St.add {r : Bool} {c : Nat} {v : Int} (h : St w g cap K L w2) (hc : Num w2 r c v) (hn : c ∉ g :: L.map (fun e => e.2.1)) (hb : w.heap.size ≤ c) : St w g cap K ((r, c, v) :: L) w2 := by
  have hg : g ≠ c := fun e => hn (by rw [e]; simp)
  refine ⟨h.own, h.glt, fun e he => ?_, ?_, h.below, fun e he => ?_⟩
  · rcases List.mem_cons.1 he with rfl | he
    · exact hc
    · exact h.live e he
  · have h1 := h.apart
    rw [List.nodup_cons] at h1
    rw [List.map_cons, List.nodup_cons, List.nodup_cons]
    rw [List.mem_cons, not_or] at hn
    exact ⟨fun h2 => by rcases List.mem_cons.1 h2 with h3 | h3; exact hg h3; exact h1.1 h3, hn.2, h1.2⟩
  · rcases List.mem_cons.1 he with rfl | he
    · exact hb
    · exact h.base e he
/-- new variables -/
theorem St.more1 {r : Bool} {c : Nat} {v : Int} (h : St w g cap K L w1) (hb : Below w1.heap.size w1 w2) (hc : Num w2 r c v) (hcb : w1.heap.size ≤ c) : St w g cap K ((r, c, v) :: L) w2 :=
  (h.stay hb).add hc (h.old hcb) (by have := h.below.size; omega)
theorem St.notin {c d : Nat} {r : Bool} {v : Int} (h : d ∉ g :: L.map (fun e => e.2.1)) (hcd : c ≠ d) : d ∉ g :: ((r, c, v) :: L).map (fun e => e.2.1) := by
  rw [List.mem_cons, not_or] at h ⊢
  refine ⟨h.1, ?_⟩
  rw [List.map_cons, List.mem_cons, not_or]
  exact ⟨fun e => hcd e.symm, h.2⟩
theorem St.more2 {r q : Bool} {c d : Nat} {v u : Int} (h : St w g cap K L w1) (hb : Below w1.heap.size w1 w2) (hc : Num w2 r c v) (hd : Num w2 q d u) (hcb : w1.heap.size ≤ c) (hdb : w1.heap.size ≤ d) (hcd : c ≠ d) : St w g cap K ((q, d, u) :: (r, c, v) :: L) w2 :=
  (h.more1 hb hc hcb).add hd (St.notin (h.old hdb) hcd) (by have := h.below.size; omega)
theorem St.more4 {r1 r2 r3 r4 : Bool} {c1 c2 c3 c4 : Nat} {v1 v2 v3 v4 : Int} (h : St w g cap K L w1) (hb : Below w1.heap.size w1 w2) (h1 : Num w2 r1 c1 v1) (h2 : Num w2 r2 c2 v2) (h3 : Num w2 r3 c3 v3) (h4 : Num w2 r4 c4 v4)
    (b1 : w1.heap.size ≤ c1) (b2 : w1.heap.size ≤ c2) (b3 : w1.heap.size ≤ c3) (b4 : w1.heap.size ≤ c4) (n12 : c1 ≠ c2) (n13 : c1 ≠ c3) (n14 : c1 ≠ c4) (n23 : c2 ≠ c3) (n24 : c2 ≠ c4) (n34 : c3 ≠ c4) :
    St w g cap K ((r4, c4, v4) :: (r3, c3, v3) :: (r2, c2, v2) :: (r1, c1, v1) :: L) w2 :=
  (((h.more2 hb h1 h2 b1 b2 n12).add h3 (St.notin (St.notin (h.old b3) n13) n23) (by have := h.below.size; omega)).add h4 (St.notin (St.notin (St.notin (h.old b4) n14) n24) n34) (by have := h.below.size; omega))
/-- two of them turn -/
theorem St.turn2 {r1 r2 q1 q2 : Bool} {c d : Nat} {v u x y : Int} {S : Nat → Prop} (h : St w g cap K ((q1, c, x) :: (q2, d, y) :: L) w1) (hk : Kept w1.heap.size S w1 w2) (hS : ∀ b, S b → b = c ∨ b = d) (hc : Num w2 r1 c v) (hd : Num w2 r2 d u) :
    St w g cap K ((r1, c, v) :: (r2, d, u) :: L) w2 := by
  have ha := h.apart
  rw [List.nodup_cons, List.map_cons, List.map_cons, List.nodup_cons, List.nodup_cons] at ha
  have hbc : w.heap.size ≤ c := h.base (q1, c, x) (List.mem_cons_self ..)
  have hbd : w.heap.size ≤ d := h.base (q2, d, y) (List.mem_cons_of_mem _ (List.mem_cons_self ..))
  refine ⟨fun i hi => ?_, Nat.lt_of_lt_of_le h.glt hk.size, fun e he => ?_, h.apart, ?_, fun e he => ?_⟩
  · rw [hk.cell (p := ⟨g, i, none⟩) h.glt (fun hh => ha.1 (by rcases hS _ hh with hh | hh <;> simp [show g = _ from hh]))]
    exact h.own i hi
  · rcases List.mem_cons.1 he with rfl | he
    · exact hc
    · rcases List.mem_cons.1 he with rfl | he
      · exact hd
      · obtain ⟨zs, hz1, hz2⟩ := h.live e (List.mem_cons_of_mem _ (List.mem_cons_of_mem _ he))
        have hm := List.mem_map_of_mem (f := fun e : Bool × Nat × Int => e.2.1) he
        exact ⟨zs, hz1.kept hk (lt_of_heap hz1) (fun hh => by rcases hS _ hh with hh | hh; exact ha.2.1 (List.mem_cons_of_mem _ (hh ▸ hm)); exact ha.2.2.1 (hh ▸ hm)), hz2⟩
  · exact h.below.trans ((hk.mono (B' := w.heap.size) (S' := fun _ => False) h.below.size (fun k hk e => by rcases hS _ e with e | e <;> omega)).below (fun _ _ h => h))
  · rcases List.mem_cons.1 he with rfl | he
    · exact hbc
    · rcases List.mem_cons.1 he with rfl | he
      · exact hbd
      · exact h.base e (List.mem_cons_of_mem _ (List.mem_cons_of_mem _ he))
theorem kept_none {B : Nat} {S : Nat → Prop} {a b : World} (h : Kept B S a b) (hS : ∀ k, ¬ S k) : Below B a b := h.below (fun k _ => hS k)
theorem swap_st {bx bz : Nat} {x y so : Int} (hso : so = 0 ∨ so = 1) (h : St w g cap K ((true, bx, x) :: (true, bz, y) :: L) w1) :
    Calls Try.prog 19 #[.pointer (some ⟨bx, 0, none⟩), .pointer (some ⟨bz, 0, none⟩), .int .i64 so] w1
      fun e w' => e = .returned (.tuple #[]) ∧ St w g cap K ((true, bx, if so = 1 then y else x) :: (true, bz, if so = 1 then x else y) :: L) w' := by
  obtain ⟨xs, hx1, hx2⟩ := h.live _ (List.mem_cons_self ..)
  obtain ⟨ys, hy1, hy2⟩ := h.live _ (List.mem_cons_of_mem _ (List.mem_cons_self ..))
  have ha := h.apart
  rw [List.nodup_cons, List.map_cons, List.map_cons, List.nodup_cons, List.nodup_cons] at ha
  have hne : bx ≠ bz := fun e => ha.2.1 (by rw [e]; simp)
  have hbx := h.base _ (List.mem_cons_self ..)
  have hby := h.base _ (List.mem_cons_of_mem _ (List.mem_cons_self ..))
  refine (swap_any bx bz 39 xs ys so w1 hne hso hx2.len hy2.len hx2.bd hy2.bd hx1 hy1).mono ?_
  rintro e w' ⟨rfl, h1, h2, hk⟩
  refine ⟨rfl, fun i hi => ?_, Nat.lt_of_lt_of_le h.glt hk.size, fun e he => ?_, h.apart, ?_, fun e he => ?_⟩
  · rw [hk.cell (p := ⟨g, i, none⟩) h.glt (fun hh => ha.1 (by rcases hh with hh | hh <;> simp [show g = _ from hh]))]
    exact h.own i hi
  · rcases List.mem_cons.1 he with rfl | he
    · exact ⟨_, h1, nm_sel hx2 hy2⟩
    · rcases List.mem_cons.1 he with rfl | he
      · exact ⟨_, h2, nm_sel hy2 hx2⟩
      · obtain ⟨zs, hz1, hz2⟩ := h.live e (List.mem_cons_of_mem _ (List.mem_cons_of_mem _ he))
        have hm := List.mem_map_of_mem (f := fun e : Bool × Nat × Int => e.2.1) he
        exact ⟨zs, hz1.kept hk (lt_of_heap hz1) (fun hh => by rcases hh with hh | hh; exact ha.2.1 (List.mem_cons_of_mem _ (hh ▸ hm)); exact ha.2.2.1 (hh ▸ hm)), hz2⟩
  · exact h.below.trans ((hk.mono (B' := w.heap.size) (S' := fun _ => False) h.below.size (fun k hk e => by rcases e with e | e <;> (simp at hbx hby; omega))).below (fun _ _ h => h))
  · rcases List.mem_cons.1 he with rfl | he
    · exact hbx
    · rcases List.mem_cons.1 he with rfl | he
      · exact hby
      · exact h.base e (List.mem_cons_of_mem _ (List.mem_cons_of_mem _ he))
theorem turned_nm (xs : List Int) (z : Int) (w : World) (hx : Cv.Nm true xs z) :
    Calls Try.prog 23 #[limV xs] w fun e w' => (∃ zs, e = .returned (limV zs) ∧ Cv.Nm true zs (Cv.turn z 254)) ∧ Below w.heap.size w w' :=
  (turned_any xs z w hx.red hx.cg).mono fun e w' ⟨⟨zs, h1, h2, h3⟩, hb⟩ => ⟨⟨zs, h1, Cv.Nm.of_red h2 h3⟩, hb⟩
theorem wpAny_world {P : Program} {md : Region.Mode} {ops : Array Oper} {Q : Exit → Act → World → Prop} {f : Nat} {L : Array Bool} {a : Act} {W W' : World} (h : W = W') (g : wpAny P md ops Q f L a W) : wpAny P md ops Q f L a W' := h ▸ g
theorem op_build {ops : Array Oper} {Q : Exit → Act → World → Prop} {a : Act} {i dd : Nat} {o : Oper} {R : List Int → Prop} {zs : List Int} (hi : ops[i]? = some o) (hg : o.guard = none) (hd : o.dst = some dd)
    (hrun : (execOp a.eval o).run Try.prog w = .ok (.value (limV zs)) w) (hR : R zs) : wpOp Try.prog ops Q i (fun a' w' => ∃ zs, a' = a.put (some dd) (limV zs) ∧ R zs ∧ Below w.heap.size w w') a w :=
  wpOp_run hi hg _ hrun ⟨zs, by rw [hd], hR, Below.refl _ _⟩
end Go.Proofs.Ythoganfinpfibaa
