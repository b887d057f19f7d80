/-
  The walk of lines.line: an act's line.
-/
import Derived.Test.YtcbmmkhbfookjaaDoorBld
import Derived.Test.YtcbmmkhbfookjaaDoorShf
import Derived.Test.YtcbmmkhbfookjaaDoorLnK
import Derived.Shelf.Abstract
import Derived.Lib.AppendIntMem
import Derived.Lib.ItoaLen
set_option linter.unusedVariables false
set_option linter.unusedSimpArgs false
namespace Go.Con
open Go
/-- the words of the kinds -/
def wordsL : List (List UInt8) := [[], [115, 117, 98, 109, 105, 116], [108, 101, 97, 100], [115, 116, 101, 112], [99, 97, 114, 114, 121], [108, 111, 115, 101], [100, 111, 117, 98, 108, 101], [97, 108, 108], [99, 114, 97, 115, 104], [115, 116, 97, 114, 116]]
def hexD (n : Nat) : UInt8 := ([48, 49, 50, 51, 52, 53, 54, 55, 56, 57, 97, 98, 99, 100, 101, 102] : List UInt8).getD n 0
def hex2 (c : UInt8) : List UInt8 := [hexD (c.toNat / 16), hexD (c.toNat % 16)]
/-- the numbers of a line -/
def numsL (C : List Int) (l : List (Nat × Int)) : List UInt8 := l.flatMap fun x => 32 :: Lib.itoa (C.getD x.1 0)
/-- an act's line -/
def lineL (k : Int) (C : List Int) (d : List UInt8) : List UInt8 := wordsL.getD k.toNat [] ++ numsL C (slotsOf k) ++ (if k = 1 then 32 :: d.flatMap hex2 else []) ++ [10]
theorem numsL_snoc (C : List Int) (l : List (Nat × Int)) (x : Nat × Int) : numsL C (l ++ [x]) = numsL C l ++ (32 :: Lib.itoa (C.getD x.1 0)) := by
  unfold numsL; rw [List.flatMap_append]; simp
end Go.Con
namespace Go.Proofs.YtcbmmkhbfookjaaDoor
open Go.RowKit Go.Con
theorem hex_cut (h : Nat) (hh : h < 16) : ((⟨#[48, 49, 50, 51, 52, 53, 54, 55, 56, 57, 97, 98, 99, 100, 101, 102]⟩ : ByteArray).extract h (h + 1)).data.toList = [hexD h] := by
  have h16 : h = 0 ∨ h = 1 ∨ h = 2 ∨ h = 3 ∨ h = 4 ∨ h = 5 ∨ h = 6 ∨ h = 7 ∨ h = 8 ∨ h = 9 ∨ h = 10 ∨ h = 11 ∨ h = 12 ∨ h = 13 ∨ h = 14 ∨ h = 15 := by omega
  rcases h16 with rfl | rfl | rfl | rfl | rfl | rfl | rfl | rfl | rfl | rfl | rfl | rfl | rfl | rfl | rfl | rfl <;> rfl
theorem hex2_take (d : List UInt8) (q : Nat) (hq : q < d.length) : (d.take (q + 1)).flatMap hex2 = (d.take q).flatMap hex2 ++ hex2 (d.getD q 0) := by
  rw [List.take_add_one, List.getElem?_eq_getElem hq, List.flatMap_append, List.getD_eq_getElem?_getD, List.getElem?_eq_getElem hq]; simp
theorem hex2_len (d : List UInt8) : (d.flatMap hex2).length = 2 * d.length := by
  induction d with
  | nil => rfl
  | cons c d ih => rw [List.flatMap_cons, List.length_append, ih, List.length_cons]; show 2 + _ = _; omega
/-- what the package's variables hold -/
structure LnV (w : World) : Prop where
  words : ∀ i, i < 10 → w.cell? ⟨0, i, none⟩ = some (.string ⟨(wordsL.getD i []).toArray⟩)
  pow : Lib.TabIs Tryd.prog w "internal/strconv.uint64pow10" .u64 Lib.pow10Tab
theorem IsBld.heap {B b : Nat} {bs : List Value} {w w' : World} (h : IsBld B b bs w) (hb : Below w.heap.size w w') : IsBld B b bs w' := by
  have hg : w.grownBy w' none := ⟨hb.os, hb.tape, hb.output, hb.size, fun k hk _ => hb.block k hk⟩
  have key : ∀ p, Lib.BuilderAtF 44 5 B b p bs w → Lib.BuilderAtF 44 5 B b p bs w' := fun p ⟨h1, v, h2, h3, h4⟩ =>
    ⟨h1, v, (hb.block b (lt_of_heap h2)).trans h2, h3.kept hg (by cases hv : v.ownBlock <;> simp), h4⟩
  exact h.elim (fun h => .inl (key _ h)) (fun h => .inr (key _ h))
theorem IsBld.lt {B b : Nat} {bs : List Value} {w : World} (h : IsBld B b bs w) : B ≤ b ∧ b < w.heap.size := h.elim (fun h => ⟨h.1, h.lt⟩) (fun h => ⟨h.1, h.lt⟩)
/-- a builder at its place: what it holds, and what stayed as it was -/
structure BldW (w1 wr : World) (b : Nat) (bs : List UInt8) : Prop where
  bld : IsBld b b (Lib.byteCells bs) wr
  below : Below b w1 wr
theorem BldW.stay {w1 wr w' : World} {b : Nat} {bs : List UInt8} (h : BldW w1 wr b bs) (hb : Below wr.heap.size wr w') : BldW w1 w' b bs := ⟨h.bld.heap hb, h.below.trans (hb.mono (by have := h.bld.lt; omega))⟩
theorem put_any {w1 wr : World} {b : Nat} {bs : List UInt8} (h : BldW w1 wr b bs) (s : ByteArray) (hlen : bs.length + s.size ≤ 140737488355328) :
    Calls Tryd.prog 13 #[.pointer (some ⟨b, 0, none⟩), .string s] wr fun e w' => e = .returned (.tuple #[.int .i64 s.size, .nilIface]) ∧ BldW w1 w' b (bs ++ s.data.toList) ∧ Kep8 b wr w' :=
  (writeS_k b b _ s wr h.bld (by rw [Lib.byteCells_length]; exact hlen) (by have := h.bld.lt; omega)).mono fun e w' ⟨h1, h2, h3, h4⟩ =>
    ⟨h1, ⟨.inr (by rw [Lib.byteCells_append, ← Lib.strCells_eq]; exact h2), h.below.trans h3⟩, h4⟩
theorem itoa_any {w wr : World} (n : Int) (h0 : -9223372036854775808 ≤ n) (h1 : n ≤ 9223372036854775807) (hp : Lib.TabIs Tryd.prog w "internal/strconv.uint64pow10" .u64 Lib.pow10Tab) (hb : Below w.heap.size w wr) :
    Calls Tryd.prog 21 #[.int .i64 n] wr fun e w' => e = .returned (.string ⟨(Lib.itoa n).toArray⟩) ∧ Below wr.heap.size wr w' :=
  (Tryd.strconv_Itoa n h0 h1 wr (Lib.tabBelow_of_tabIs hp wr hb)).mono fun e w' ⟨h2, q, os, h3⟩ => ⟨h2, by rw [h3]; exact Lib.below_grow _ _ (Nat.le_refl _) _ _⟩
theorem SlotsAt.below {w w' : World} {v : Value} {b lo : Nat} {l : List (Nat × Int)} (h : SlotsAt w v b lo l) (hb : Below w.heap.size w w') : SlotsAt w' v b lo l := by
  rcases h with h | ⟨s, h1, h2, h3⟩
  · exact .inl h
  · exact .inr ⟨s, h1, h2, (hb.block s (lt_of_heap h3)).trans h3⟩
theorem typ_slot : (63 : TypeId) ≠ 5 := by decide
theorem SlotsAt.kep {w w' : World} {v : Value} {b lo q : Nat} {l : List (Nat × Int)} (h : SlotsAt w v b lo l) (hb : Kep8 q w w') (hq : q < lo) : SlotsAt w' v b lo l := by
  rcases h with h | ⟨s, h1, h2, h3⟩
  · exact .inl h
  · refine .inr ⟨s, h1, h2, hb s _ h3 (fun e => by injection e with e; omega) (fun c fz e => ?_)⟩
    injection e with e1 e2 e3
    exact typ_slot e2
/-- what the loop over the numbers keeps -/
structure LpInv (w1 wr : World) (ab lo : Nat) (v : Value) (pre : List UInt8) (l : List (Nat × Int)) : Prop where
  bw : BldW w1 wr (ab + 1) pre
  sl : SlotsAt wr v ab lo l
theorem take_snocI {l : List (Nat × Int)} {j : Nat} (h : j < l.length) : l.take (j + 1) = l.take j ++ [l.getD j (0, 0)] := by
  rw [List.take_add_one, List.getElem?_eq_getElem h, List.getD_eq_getElem?_getD, List.getElem?_eq_getElem h]; rfl
theorem numsL_len (C : List Int) (hC : ∀ x ∈ C, -9223372036854775808 ≤ x ∧ x ≤ 9223372036854775807) (l : List (Nat × Int)) : (numsL C l).length ≤ 22 * l.length := by
  unfold numsL
  induction l with
  | nil => simp
  | cons x l ih =>
    rw [List.flatMap_cons, List.length_append, List.length_cons, List.length_cons]
    have h1 : (Lib.itoa (C.getD x.1 0)).length ≤ 21 := by
      have h2 : -9223372036854775808 ≤ C.getD x.1 0 ∧ C.getD x.1 0 ≤ 9223372036854775807 := by
        rw [List.getD_eq_getElem?_getD]
        cases h : C[x.1]? with
        | none => exact ⟨by decide, by decide⟩
        | some y => exact hC y (List.mem_of_getElem? h)
      exact Lib.itoa_length_le _ h2.1 h2.2
    omega
set_option maxRecDepth 100000 in
set_option maxHeartbeats 4000000 in
theorem line_any (k n a p : Int) (dv : Value) (d : List UInt8) (w : World) (hk : 1 ≤ k) (hk9 : k ≤ 9) (hd : Rd w dv d) (hd2 : d.length ≤ 2000) (hr : ∀ x ∈ [k, n, a, p], -9223372036854775808 ≤ x ∧ x ≤ 9223372036854775807) (hw : LnV w) :
    Calls Tryd.prog 14 #[.agg #[.int .i64 k, .int .i64 n, .int .i64 a, .int .i64 p, dv]] w fun e w' => e = .returned (.string ⟨(lineL k [k, n, a, p] d).toArray⟩) ∧ Below w.heap.size w w' := by
  obtain ⟨da, dc, rfl, hdc, hdm⟩ := hd.slice
  have HD := Lib.hid hd
  have HV := Lib.hid hw
  have HR := Lib.hid hr
  have HBW := Lib.hid (Below.refl w.heap.size w)
  obtain ⟨K, hK⟩ : ∃ K : Nat, k = K := ⟨k.toNat, by omega⟩
  subst hK
  clear hd hw hr
  go_enter Tryd.func14, Tryd.ntmps14
  go_upto_region 3 with fail
  generalize hW : World.alloc _ _ = w1
  obtain ⟨ab, hab⟩ : ∃ x, x = w.heap.size := ⟨_, rfl⟩
  have A1 := Lib.hid (show w1.heap[ab]? = some (.cells #[.int .i64 K, .int .i64 n, .int .i64 a, .int .i64 p, .slice da d.length dc] 32 (0, 0)) by rw [← hW, hab]; exact heapNew0 _ _ _)
  have B1 := Lib.hid (show Below ab w w1 by rw [← hW, hab]; exact ((Below.refl _ _).alloc (Nat.le_refl _) _).alloc (by simp) _)
  have S1 := Lib.hid (show w1.heap.size = ab + 2 by rw [← hW, hab]; simp)
  have W1 := Lib.hid (show BldW w1 w1 (ab + 1) [] from ⟨by
    have h1 := Lib.IsBuilderF.of (Lib.fresh_isBuilder 44 5 (w.alloc (.cells #[.int .i64 K, .int .i64 n, .int .i64 a, .int .i64 p, .slice da d.length dc] 32)))
    rw [hW] at h1
    have e1 : (w.alloc (.cells #[.int .i64 K, .int .i64 n, .int .i64 a, .int .i64 p, .slice da d.length dc] 32)).heap.size = ab + 1 := by rw [hab]; simp
    rw [e1] at h1
    exact h1, Below.refl _ _⟩)
  rw [← hab]
  have HAB := Lib.hid hab
  clear hW hab
  have hK10 : K < 10 := by omega
  have hk0 : (0 : Int) ≤ K := by omega
  have hk10 : (K : Int) < 10 := by omega
  have x0 := cellAt A1.out 0 rfl
  have hg0 : 0 < w.heap.size := World.block_lt_of_cell? w _ (HV.out.words 0 (by decide))
  have V1 : ∀ i, i < 10 → w1.cell? ⟨0, i, none⟩ = some (.string ⟨(wordsL.getD i []).toArray⟩) := fun i hi => (World.cell?_of_block (w := w) (B1.out.block _ (by rw [HAB.out]; exact hg0))).trans (HV.out.words i hi)
  have v0 := V1 K hK10
  obtain ⟨wd, hwd⟩ : ∃ x, x = wordsL.getD K [] := ⟨_, rfl⟩
  rw [← hwd] at v0
  have HWD := Lib.hid hwd
  have hwl : wd.length ≤ 6 := by
    rw [hwd]
    have h10 : K = 0 ∨ K = 1 ∨ K = 2 ∨ K = 3 ∨ K = 4 ∨ K = 5 ∨ K = 6 ∨ K = 7 ∨ K = 8 ∨ K = 9 := by omega
    rcases h10 with rfl | rfl | rfl | rfl | rfl | rfl | rfl | rfl | rfl | rfl <;> decide
  clear hwd V1
  go_upto_region 4 with (go_at_call 13; refine (put_any W1.out _ (by show 0 + ByteArray.size ⟨wd.toArray⟩ ≤ _; simp [ByteArray.size]; omega)).mono ?_; rintro e w2 ⟨rfl, h1, -⟩; have W2 := Lib.hid h1; clear h1)
  have A2 := Lib.hid ((W2.out.below.block ab (by omega)).trans A1.out)
  have hs2 := W2.out.bld.lt
  clear x0 v0
  go_upto_region 5 with (go_at_call 19; refine (slots_any ab _ _ _ _ _ _ A2.out hk hk9).mono ?_; rintro e w3 ⟨sv, rfl, h1, h2⟩; obtain ⟨sa, sc, hsv⟩ : ∃ sa sc, sv = .slice sa (slotsOf K).length sc := (by rcases h1 with ⟨e1, e2⟩ | ⟨s, e2, -⟩; exact ⟨none, 0, by rw [e1, e2]; rfl⟩; exact ⟨_, _, e2⟩); subst hsv; have SL := Lib.hid h1; have W3 := Lib.hid (W2.out.stay h2); clear h1 h2)
  have A3 := Lib.hid ((W3.out.below.block ab (by omega)).trans A1.out)
  obtain ⟨L, hL⟩ : ∃ L, L = slotsOf K := ⟨_, rfl⟩
  rw [← hL] at SL ⊢
  have hL2 : L.length ≤ 2 ∧ ∀ x ∈ L, 1 ≤ x.1 ∧ x.1 ≤ 3 := by rw [hL]; exact slotsOf_ok K
  have hl2 := hL2.1
  have HL2 := Lib.hid hL2.2
  obtain ⟨nl, hnl⟩ : ∃ x, x = L.length := ⟨_, rfl⟩
  rw [← hnl] at SL hl2 ⊢
  have HNL := Lib.hid hnl
  have HL := Lib.hid hL
  clear hL hL2 hnl
  have inv0 : Hid (LpInv w1 w3 ab w2.heap.size (.slice sa nl sc) (wd ++ numsL [(K : Int), n, a, p] (L.take 0)) L) := Lib.hid ⟨by have h1 := W3.out; simpa [numsL] using h1, SL.out⟩
  go_upto_region 6 with fail
  go_loopw [24] (fun i wr => ∃ j : Nat, j ≤ nl ∧ i = .int .i64 j ∧ Hid (LpInv w1 wr ab w2.heap.size (.slice sa nl sc) (wd ++ numsL [(K : Int), n, a, p] (L.take j)) L)) (fun i _ => nl - (intOf i).toNat)
  case atStart => exact ⟨0, by omega, rfl, inv0⟩
  case round =>
    clear inv0
    obtain ⟨j, hjn, rfl, HI⟩ := hrel
    by_cases hj : j < nl
    · have hd1 : decide ((j : Int) < nl) = true := by rw [decide_eq_true_eq]; omega
      have hd1n : decide (j < nl) = true := by rw [decide_eq_true_eq]; omega
      have hjL : j < L.length := by rw [← HNL.out]; exact hj
      obtain ⟨f, m, hfm⟩ : ∃ f m, L.getD j (0, 0) = (f, m) := ⟨_, _, rfl⟩
      have hf3 : f = 1 ∨ f = 2 ∨ f = 3 := by
        have h1 := HL2.out (L.getD j (0, 0)) (by rw [List.getD_eq_getElem?_getD, List.getElem?_eq_getElem hjL]; exact List.getElem_mem _)
        rw [hfm] at h1
        have h2 : 1 ≤ f ∧ f ≤ 3 := h1
        omega
      obtain ⟨sb, hsb, hlo, hsl⟩ : ∃ sb, sa = some ⟨sb, 0, none⟩ ∧ w2.heap.size ≤ sb ∧ wr.heap[sb]? = some (.cells (slotCells ab L).toArray 63 (0, 0)) := by
        rcases HI.out.sl with ⟨h1, -⟩ | ⟨sb, h1, h2, h3⟩
        · rw [h1] at hjL; cases hjL
        · injection h1 with h4
          exact ⟨sb, h4, h2, h3⟩
      subst hsb
      obtain ⟨g0, g1⟩ := slotCells_at ab L j hjL
      rw [hfm] at g0 g1
      have s0 : wr.cell? ⟨sb, j * 2, none⟩ = some (.pointer (some ⟨ab, f, none⟩)) := cellAt hsl _ (by rw [List.getElem?_toArray]; exact g0)
      have s1 : wr.cell? ⟨sb, j * 2 + 1, none⟩ = some (.int .i64 m) := cellAt hsl _ (by rw [List.getElem?_toArray]; exact g1)
      have AR := (HI.out.bw.below.block ab (by omega)).trans A1.out
      obtain ⟨y, hy⟩ : ∃ y, y = ([(K : Int), n, a, p] : List Int).getD f 0 := ⟨_, rfl⟩
      have a0 : wr.cell? ⟨ab, f, none⟩ = some (.int .i64 y) := by
        rw [hy]
        rcases hf3 with rfl | rfl | rfl <;> exact cellAt AR _ rfl
      have hyr : -9223372036854775808 ≤ y ∧ y ≤ 9223372036854775807 := by
        rw [hy]
        refine HR.out _ ?_
        rcases hf3 with rfl | rfl | rfl <;> simp
      have hsbl : sb < wr.heap.size := lt_of_heap hsl
      have habl : ab < wr.heap.size := lt_of_heap AR
      have HY := Lib.hid hy
      have HFM := Lib.hid hfm
      have hn0 : ¬ (wr.heap.size = ab) := by omega
      have hn1 : ¬ (ab = wr.heap.size) := by omega
      clear g0 g1 AR hsl hfm hy
      have HWR := Lib.hid (show Below w.heap.size w wr by rw [← HAB.out]; exact B1.out.trans (HI.out.bw.below.mono (by omega)))
      have EQ := Lib.hid (show (wd ++ numsL [(K : Int), n, a, p] (L.take j)) ++ ((⟨#[32]⟩ : ByteArray) ++ ⟨(Lib.itoa y).toArray⟩).data.toList = wd ++ numsL [(K : Int), n, a, p] (L.take (j + 1)) by
        rw [take_snocI hjL, numsL_snoc, HFM.out, ← HY.out]
        simp [List.append_assoc])
      have LEN := Lib.hid (show (wd ++ numsL [(K : Int), n, a, p] (L.take j)).length + ((⟨#[32]⟩ : ByteArray) ++ ⟨(Lib.itoa y).toArray⟩).size ≤ 140737488355328 by
        have h1 := numsL_len [(K : Int), n, a, p] HR.out (L.take (j + 1))
        have h2 := congrArg List.length EQ.out
        rw [List.length_append, List.length_append] at h2
        rw [List.length_append] at h2 ⊢
        have h3 : (L.take (j + 1)).length ≤ 2 := by rw [List.length_take]; omega
        have h4 : ((⟨#[32]⟩ : ByteArray) ++ ⟨(Lib.itoa y).toArray⟩).size = ((⟨#[32]⟩ : ByteArray) ++ ⟨(Lib.itoa y).toArray⟩).data.toList.length := by rw [Array.length_toList]; rfl
        omega)
      go_wp2_with (first
        | (go_at_call 21; refine (itoa_any (w := w) y hyr.1 hyr.2 HV.out.pow (HWR.out.alloc HWR.out.size _)).mono ?_; rintro e w4 ⟨rfl, h1⟩; have B4 := Lib.hid (show Below wr.heap.size wr w4 from ((Below.refl _ _).alloc (Nat.le_refl _) _).trans (h1.mono (by simp))); clear h1)
        | (go_at_call 13; refine (put_any (HI.out.bw.stay B4.out) _ LEN.out).mono ?_; rintro e w5 ⟨rfl, h1, h2⟩; have NEW : Hid (LpInv w1 w5 ab w2.heap.size (.slice (some ⟨sb, 0, none⟩) nl sc) (wd ++ numsL [(K : Int), n, a, p] (L.take (j + 1))) L) := Lib.hid ⟨by rw [← EQ.out]; exact h1, (HI.out.sl.below B4.out).kep h2 (by omega)⟩; clear h1 h2))
      case roundEnd => exact ⟨⟨j + 1, by omega, by go_num, NEW⟩, by simp [intOf]; omega⟩
      case isTrue h =>
        exfalso
        have h2 := Lib.itoa_length_le y hyr.1 hyr.2
        revert h
        simp
        omega
    · have hj2 : j = nl := by omega
      subst hj2
      have hd1 : decide ((j : Int) < j) = false := by simp
      have hd1n : decide (j < j) = false := by simp
      have WR := Lib.hid (show BldW w1 wr (ab + 1) (wd ++ numsL [(K : Int), n, a, p] L) by
        have h1 := HI.out.bw
        rw [HNL.out, List.take_length] at h1
        exact h1)
      clear HI
      have AR := (WR.out.below.block ab (by omega)).trans A1.out
      have x0 := cellAt AR 0 rfl
      clear AR
      obtain ⟨pre, hpre⟩ : ∃ x, x = wd ++ numsL [(K : Int), n, a, p] L := ⟨_, rfl⟩
      rw [← hpre] at WR
      have hpl : pre.length ≤ 50 := by
        have h1 := numsL_len [(K : Int), n, a, p] HR.out L
        rw [hpre, List.length_append]
        rw [← HNL.out] at h1
        omega
      have HPRE := Lib.hid hpre
      clear hpre
      have hbl := WR.out.bld.lt
      by_cases hk1 : K = 1
      · have ek : ((K : Int) == 1) = true := by rw [beq_iff_eq]; omega
        have HRES := Lib.hid (show lineL K [(K : Int), n, a, p] d = pre ++ 32 :: (d.flatMap hex2 ++ [10]) by
          rw [lineL, if_pos (by omega), ← HL.out, Int.toNat_natCast, ← HWD.out, ← HPRE.out]
          simp [List.append_assoc])
        have AR := (WR.out.below.block ab (by omega)).trans A1.out
        have x4 := cellAt AR 4 rfl
        clear AR
        obtain ⟨nd, hnd⟩ : ∃ x, x = d.length := ⟨_, rfl⟩
        rw [← hnd] at hd2 hdc x4 ⊢
        have HND := Lib.hid hnd
        clear hnd
        go_upto_region 12 with (go_at_call 13; refine (put_any WR.out _ (by show pre.length + 1 ≤ _; omega)).mono ?_; rintro e w4 ⟨rfl, h1, -⟩; have W4 := Lib.hid h1; clear h1)
        have AR := (W4.out.below.block ab (by omega)).trans A1.out
        have x4 := cellAt AR 4 rfl
        rw [← HND.out] at x4
        clear AR
        have inv1 : Hid (BldW w1 w4 (ab + 1) (pre ++ [32] ++ (d.take 0).flatMap hex2)) := Lib.hid (by simpa using W4.out)
        go_upto_region 13 with fail
        go_loopw [45] (fun i wr => ∃ q : Nat, q ≤ nd ∧ i = .int .i64 q ∧ Hid (BldW w1 wr (ab + 1) (pre ++ [32] ++ (d.take q).flatMap hex2))) (fun i _ => nd - (intOf i).toNat)
        case atStart => exact ⟨0, by omega, rfl, inv1⟩
        case round =>
          clear inv1 x4 x0
          obtain ⟨q, hqn, rfl, HI⟩ := hrel
          by_cases hq : q < nd
          · have hd3 : decide ((q : Int) < nd) = true := by rw [decide_eq_true_eq]; omega
            have hd3n : decide (q < nd) = true := by rw [decide_eq_true_eq]; omega
            have hqd : q < d.length := by rw [← HND.out]; exact hq
            obtain ⟨db, doff, hdb, hdc2⟩ : ∃ b off, da = some ⟨b, off, none⟩ ∧ ∀ i, i < d.length → w.cell? ⟨b, off + i, none⟩ = some (u8v (d.getD i 0)) := by
              obtain ⟨a', c', h1, -, -, -, h2⟩ := HD.out
              injection h1 with h3
              obtain ⟨b, off, h4, h5⟩ := h2 (fun e => by rw [e] at hqd; cases hqd)
              exact ⟨b, off, h3.trans h4, h5⟩
            subst hdb
            obtain ⟨cb, hcb⟩ : ∃ x, x = d.getD q 0 := ⟨_, rfl⟩
            have hcx := hdc2 q hqd
            rw [← hcb] at hcx
            have hdbl := World.block_lt_of_cell? w _ hcx
            have hdbl : db < w.heap.size := hdbl
            have x5 : wr.cell? ⟨db, doff + q, none⟩ = some (.int .u8 (cb.toNat : Int)) := ((World.cell?_of_block (w := w1) (HI.out.below.block db (by rw [HAB.out]; omega))).trans (World.cell?_of_block (w := w) (B1.out.block db (by rw [HAB.out]; exact hdbl)))).trans hcx
            have HCB := Lib.hid hcb
            clear hcb hcx hdc2
            have hc256 := cb.toNat_lt
            have hfl : ((d.take q).flatMap hex2).length ≤ 4000 := by rw [hex2_len, List.length_take]; omega
            have hh1 : cb.toNat / 16 < 16 := by omega
            have hh2 : cb.toNat % 16 < 16 := by omega
            have E1 := Lib.hid (hex_cut (cb.toNat / 16) hh1)
            have E2 := Lib.hid (hex_cut (cb.toNat % 16) hh2)
            have L1 := Lib.hid (show (pre ++ [32] ++ (d.take q).flatMap hex2).length + ((⟨#[48, 49, 50, 51, 52, 53, 54, 55, 56, 57, 97, 98, 99, 100, 101, 102]⟩ : ByteArray).extract (cb.toNat / 16) (cb.toNat / 16 + 1)).size ≤ 140737488355328 by
              have h1 := congrArg List.length E1.out
              rw [Array.length_toList] at h1
              have h2 : ((⟨#[48, 49, 50, 51, 52, 53, 54, 55, 56, 57, 97, 98, 99, 100, 101, 102]⟩ : ByteArray).extract (cb.toNat / 16) (cb.toNat / 16 + 1)).size = 1 := h1
              rw [h2, List.length_append, List.length_append]; simp only [List.length_singleton]; omega)
            have L2 := Lib.hid (show (pre ++ [32] ++ (d.take q).flatMap hex2 ++ [hexD (cb.toNat / 16)]).length + ((⟨#[48, 49, 50, 51, 52, 53, 54, 55, 56, 57, 97, 98, 99, 100, 101, 102]⟩ : ByteArray).extract (cb.toNat % 16) (cb.toNat % 16 + 1)).size ≤ 140737488355328 by
              have h1 := congrArg List.length E2.out
              rw [Array.length_toList] at h1
              have h2 : ((⟨#[48, 49, 50, 51, 52, 53, 54, 55, 56, 57, 97, 98, 99, 100, 101, 102]⟩ : ByteArray).extract (cb.toNat % 16) (cb.toNat % 16 + 1)).size = 1 := h1
              rw [h2, List.length_append, List.length_append, List.length_append]; simp only [List.length_singleton]; omega)
            have EQ := Lib.hid (show pre ++ [32] ++ (d.take q).flatMap hex2 ++ [hexD (cb.toNat / 16)] ++ [hexD (cb.toNat % 16)] = pre ++ [32] ++ (d.take (q + 1)).flatMap hex2 by
              rw [hex2_take d q hqd, ← HCB.out]
              simp [hex2, List.append_assoc])
            go_upto_region 16 with (go_at_call 13; refine (put_any HI.out _ L1.out).mono ?_; rintro e w5 ⟨rfl, h1, -⟩; have W5 : Hid (BldW w1 w5 (ab + 1) (pre ++ [32] ++ (d.take q).flatMap hex2 ++ [hexD (cb.toNat / 16)])) := Lib.hid (by rw [← E1.out]; exact h1); clear h1)
            go_wp2_with (go_at_call 13; refine (put_any W5.out _ L2.out).mono ?_; rintro e w6 ⟨rfl, h1, -⟩; have NEW : Hid (BldW w1 w6 (ab + 1) (pre ++ [32] ++ (d.take (q + 1)).flatMap hex2)) := Lib.hid (by rw [← EQ.out, ← E2.out]; exact h1); clear h1)
            exact ⟨⟨q + 1, by omega, by go_num, NEW⟩, by simp [intOf]; omega⟩
          · have hq2 : q = nd := by omega
            subst hq2
            have hd3 : decide ((q : Int) < q) = false := by simp
            have hd3n : decide (q < q) = false := by simp
            have WF := Lib.hid (show BldW w1 wr (ab + 1) (pre ++ [32] ++ d.flatMap hex2) by
              have h1 := HI.out
              rw [HND.out, List.take_length] at h1
              exact h1)
            clear HI
            have L1 := Lib.hid (show (pre ++ [32] ++ d.flatMap hex2).length + 1 ≤ 140737488355328 by rw [List.length_append, List.length_append, hex2_len, ← HND.out]; simp only [List.length_singleton]; omega)
            go_wp2_with (first
              | (go_at_call 13; refine (put_any WF.out _ (by exact L1.out)).mono ?_; rintro e w6 ⟨rfl, h1, -⟩; have W6 := Lib.hid h1; clear h1)
              | (go_at_call 15; refine (Tryd.Builder_String_any_k (ab + 1) (ab + 1) _ _ W6.out.bld (by have := W6.out.bld.lt; omega)).mono ?_; rintro e w7 ⟨rfl, -, h1, -⟩; have B7 := Lib.hid h1; clear h1))
            have FIN := Lib.hid (show Below w.heap.size w w7 by rw [← HAB.out]; exact (B1.out.trans (W6.out.below.mono (by omega))).trans (B7.out.mono (by omega)))
            go_ret
            exact ⟨by rw [HRES.out]; rfl, FIN.out⟩
      · have ek : ((K : Int) == 1) = false := by rw [beq_eq_false_iff_ne]; omega
        have HRES := Lib.hid (show lineL K [(K : Int), n, a, p] d = pre ++ [10] by
          rw [lineL, if_neg (by omega), ← HL.out, Int.toNat_natCast, ← HWD.out, ← HPRE.out, List.append_nil])
        go_wp2_with (first
          | (go_at_call 13; refine (put_any WR.out _ (by show pre.length + 1 ≤ _; omega)).mono ?_; rintro e w6 ⟨rfl, h1, -⟩; have W6 := Lib.hid h1; clear h1)
          | (go_at_call 15; refine (Tryd.Builder_String_any_k (ab + 1) (ab + 1) _ _ W6.out.bld (by have := W6.out.bld.lt; omega)).mono ?_; rintro e w7 ⟨rfl, -, h1, -⟩; have B7 := Lib.hid h1; clear h1))
        have FIN := Lib.hid (show Below w.heap.size w w7 by rw [← HAB.out]; exact (B1.out.trans (W6.out.below.mono (by omega))).trans (B7.out.mono (by omega)))
        go_ret
        exact ⟨by rw [HRES.out]; rfl, FIN.out⟩
end Go.Proofs.YtcbmmkhbfookjaaDoor
