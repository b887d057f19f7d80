/-
  Texts put together: Stg, KnF, NdF, Cut, Join.
-/
import Derived.Test.YtpkfbmafbkgcmaaDoorMg1
import Derived.Deep.Cut
import Derived.Test.YtpkfbmafbkgcmaaDoorMg7
import Derived.Test.YtpkfbmafbkgcmaaDoorMg2
import Derived.Lib.LaidTab
import Derived.Test.YtpkfbmafbkgcmaaDoorMg4
set_option linter.unusedVariables false
set_option linter.unusedSimpArgs false
namespace Go.Con
open Go Go.RowKit
theorem stageC' {W v w1 : World} {C : Obj} (hb : Below W.heap.size W v) (hW : v.alloc C = w1) : Below W.heap.size W w1 ∧ w1.heap[v.heap.size]? = some C ∧ W.heap.size ≤ v.heap.size := by
  subst hW
  exact ⟨hb.alloc hb.size _, heapNew _ _, hb.size⟩
end Go.Con

set_option linter.unusedVariables false
set_option linter.unusedSimpArgs false
namespace Go.Proofs.YtpkfbmafbkgcmaaDoor
open Go.RowKit Go.Con

theorem numbers_tab : (Rows.laid_conclave_sha_numbers : DataW Unit) = Lib.tabData .u32 (Sha.kn.map fun x => (x.toNat : Int)) := by kernel_rfl

theorem kn_of_laid {W : World} {rest : List (String × DataW Unit)} (hp : laidMet Tryd.prog (("conclave/sha.numbers", Rows.laid_conclave_sha_numbers) :: rest) W) : Kn W := by
  rw [numbers_tab] at hp
  have hg : Tryd.prog.globalNamed "conclave/sha.numbers" = some 1 := by kernel_rfl
  have ht := Lib.tabIs_of_head (t := 89) (e := 80) (n := 64) hg (by kernel_rfl) Tryd.underlying89 Tryd.underlying80 (by kernel_rfl) (by kernel_rfl) hp
  intro i hi
  have := ht.cell hg i (by rw [List.length_map]; exact hi)
  rw [this]
  congr 2
  have hl : i < Sha.kn.length := hi
  simp [hl]
end Go.Proofs.YtpkfbmafbkgcmaaDoor

set_option linter.unusedVariables false
set_option linter.unusedSimpArgs false
namespace Go.Proofs.YtpkfbmafbkgcmaaDoor
open Go.RowKit Go.Con
theorem need_tab : (Rows.laid_conclave_order_need : DataW Unit) = Lib.tabData .i64 [0, 2, 1, 4] := by kernel_rfl
theorem need_of_laid {W : World} {rest : List (String × DataW Unit)} (hp : laidMet Tryd.prog (("conclave/order.need", Rows.laid_conclave_order_need) :: rest) W) : Nd W := by
  rw [need_tab] at hp
  have hg : Tryd.prog.globalNamed "conclave/order.need" = some 0 := by kernel_rfl
  have ht := Lib.tabIs_of_head (t := 70) (e := 3) (n := 4) hg (by kernel_rfl) Tryd.underlying70 Tryd.underlying3 (by kernel_rfl) (by kernel_rfl) hp
  intro i hi
  have := ht.cell hg i (by simpa using hi)
  rw [this]
  have h4 : i = 0 ∨ i = 1 ∨ i = 2 ∨ i = 3 := by omega
  rcases h4 with rfl | rfl | rfl | rfl <;> rfl
end Go.Proofs.YtpkfbmafbkgcmaaDoor

set_option linter.unusedVariables false
set_option linter.unusedSimpArgs false
namespace Go.Con
open Go
theorem wordsSigns_cons (c : Char) (r : List Char) (h : c ≠ Char.ofNat 32) : wordsSigns (c :: r) = match wordsSigns r with | w :: ws => (c :: w) :: ws | [] => [[c]] := by
  rw [wordsSigns]
  · rfl
  · exact h
theorem wordsSigns_word (w : List Char) (r : List Char) (h : ∀ c ∈ w, c ≠ Char.ofNat 32) : wordsSigns (w ++ Char.ofNat 32 :: r) = w :: wordsSigns r := by
  induction w with
  | nil => rfl
  | cons c w ih =>
    rw [List.cons_append, wordsSigns_cons c _ (h c (by simp)), ih (fun d hd => h d (by simp [hd]))]
theorem sum_plain {s : List Char} (h : isSumSigns s = true) : ∀ c ∈ s, c ≠ Char.ofNat 32 := by
  intro c hc e
  unfold isSumSigns at h
  rw [Bool.and_eq_true] at h
  have h1 := List.all_eq_true.1 h.2 c hc
  subst e
  exact absurd h1 (by decide)
theorem head_cut (P : Program) (c0 c1 c2 c3 c4 c5 c6 c7 c8 c9 c10 c11 c12 c13 c14 c15 c16 c17 c18 c19 c20 c21 c22 c23 c24 c25 c26 c27 c28 c29 c30 c31 c32 c33 c34 c35 c36 c37 c38 c39 c40 c41 c42 c43 c44 c45 c46 c47 c48 c49 c50 c51 c52 c53 c54 c55 c56 c57 c58 c59 c60 c61 c62 c63 : Char) (R : List Char) (h : P.initOrder = String.ofList (Char.ofNat 104 :: Char.ofNat 97 :: Char.ofNat 114 :: Char.ofNat 110 :: Char.ofNat 101 :: Char.ofNat 115 :: Char.ofNat 115 :: Char.ofNat 32 :: c0 :: c1 :: c2 :: c3 :: c4 :: c5 :: c6 :: c7 :: c8 :: c9 :: c10 :: c11 :: c12 :: c13 :: c14 :: c15 :: c16 :: c17 :: c18 :: c19 :: c20 :: c21 :: c22 :: c23 :: c24 :: c25 :: c26 :: c27 :: c28 :: c29 :: c30 :: c31 :: c32 :: c33 :: c34 :: c35 :: c36 :: c37 :: c38 :: c39 :: c40 :: c41 :: c42 :: c43 :: c44 :: c45 :: c46 :: c47 :: c48 :: c49 :: c50 :: c51 :: c52 :: c53 :: c54 :: c55 :: c56 :: c57 :: c58 :: c59 :: c60 :: c61 :: c62 :: c63 :: Char.ofNat 32 :: Char.ofNat 99 :: Char.ofNat 117 :: Char.ofNat 116 :: Char.ofNat 32 :: R)) (hs : isSumSigns [c0, c1, c2, c3, c4, c5, c6, c7, c8, c9, c10, c11, c12, c13, c14, c15, c16, c17, c18, c19, c20, c21, c22, c23, c24, c25, c26, c27, c28, c29, c30, c31, c32, c33, c34, c35, c36, c37, c38, c39, c40, c41, c42, c43, c44, c45, c46, c47, c48, c49, c50, c51, c52, c53, c54, c55, c56, c57, c58, c59, c60, c61, c62, c63] = true) :
    behindMainWord (wordsSigns P.initOrder.toList) = "cut".toList :: wordsSigns R := by
  rw [h, String.toList_ofList]
  have e1 : wordsSigns (Char.ofNat 104 :: Char.ofNat 97 :: Char.ofNat 114 :: Char.ofNat 110 :: Char.ofNat 101 :: Char.ofNat 115 :: Char.ofNat 115 :: Char.ofNat 32 :: c0 :: c1 :: c2 :: c3 :: c4 :: c5 :: c6 :: c7 :: c8 :: c9 :: c10 :: c11 :: c12 :: c13 :: c14 :: c15 :: c16 :: c17 :: c18 :: c19 :: c20 :: c21 :: c22 :: c23 :: c24 :: c25 :: c26 :: c27 :: c28 :: c29 :: c30 :: c31 :: c32 :: c33 :: c34 :: c35 :: c36 :: c37 :: c38 :: c39 :: c40 :: c41 :: c42 :: c43 :: c44 :: c45 :: c46 :: c47 :: c48 :: c49 :: c50 :: c51 :: c52 :: c53 :: c54 :: c55 :: c56 :: c57 :: c58 :: c59 :: c60 :: c61 :: c62 :: c63 :: Char.ofNat 32 :: Char.ofNat 99 :: Char.ofNat 117 :: Char.ofNat 116 :: Char.ofNat 32 :: R) = [Char.ofNat 104, Char.ofNat 97, Char.ofNat 114, Char.ofNat 110, Char.ofNat 101, Char.ofNat 115, Char.ofNat 115] :: wordsSigns (c0 :: c1 :: c2 :: c3 :: c4 :: c5 :: c6 :: c7 :: c8 :: c9 :: c10 :: c11 :: c12 :: c13 :: c14 :: c15 :: c16 :: c17 :: c18 :: c19 :: c20 :: c21 :: c22 :: c23 :: c24 :: c25 :: c26 :: c27 :: c28 :: c29 :: c30 :: c31 :: c32 :: c33 :: c34 :: c35 :: c36 :: c37 :: c38 :: c39 :: c40 :: c41 :: c42 :: c43 :: c44 :: c45 :: c46 :: c47 :: c48 :: c49 :: c50 :: c51 :: c52 :: c53 :: c54 :: c55 :: c56 :: c57 :: c58 :: c59 :: c60 :: c61 :: c62 :: c63 :: Char.ofNat 32 :: Char.ofNat 99 :: Char.ofNat 117 :: Char.ofNat 116 :: Char.ofNat 32 :: R) :=
    wordsSigns_word [Char.ofNat 104, Char.ofNat 97, Char.ofNat 114, Char.ofNat 110, Char.ofNat 101, Char.ofNat 115, Char.ofNat 115] _ (by decide)
  have e2 : wordsSigns (c0 :: c1 :: c2 :: c3 :: c4 :: c5 :: c6 :: c7 :: c8 :: c9 :: c10 :: c11 :: c12 :: c13 :: c14 :: c15 :: c16 :: c17 :: c18 :: c19 :: c20 :: c21 :: c22 :: c23 :: c24 :: c25 :: c26 :: c27 :: c28 :: c29 :: c30 :: c31 :: c32 :: c33 :: c34 :: c35 :: c36 :: c37 :: c38 :: c39 :: c40 :: c41 :: c42 :: c43 :: c44 :: c45 :: c46 :: c47 :: c48 :: c49 :: c50 :: c51 :: c52 :: c53 :: c54 :: c55 :: c56 :: c57 :: c58 :: c59 :: c60 :: c61 :: c62 :: c63 :: Char.ofNat 32 :: Char.ofNat 99 :: Char.ofNat 117 :: Char.ofNat 116 :: Char.ofNat 32 :: R) = [c0, c1, c2, c3, c4, c5, c6, c7, c8, c9, c10, c11, c12, c13, c14, c15, c16, c17, c18, c19, c20, c21, c22, c23, c24, c25, c26, c27, c28, c29, c30, c31, c32, c33, c34, c35, c36, c37, c38, c39, c40, c41, c42, c43, c44, c45, c46, c47, c48, c49, c50, c51, c52, c53, c54, c55, c56, c57, c58, c59, c60, c61, c62, c63] :: wordsSigns (Char.ofNat 99 :: Char.ofNat 117 :: Char.ofNat 116 :: Char.ofNat 32 :: R) :=
    wordsSigns_word [c0, c1, c2, c3, c4, c5, c6, c7, c8, c9, c10, c11, c12, c13, c14, c15, c16, c17, c18, c19, c20, c21, c22, c23, c24, c25, c26, c27, c28, c29, c30, c31, c32, c33, c34, c35, c36, c37, c38, c39, c40, c41, c42, c43, c44, c45, c46, c47, c48, c49, c50, c51, c52, c53, c54, c55, c56, c57, c58, c59, c60, c61, c62, c63] _ (sum_plain hs)
  have e3 : wordsSigns (Char.ofNat 99 :: Char.ofNat 117 :: Char.ofNat 116 :: Char.ofNat 32 :: R) = [Char.ofNat 99, Char.ofNat 117, Char.ofNat 116] :: wordsSigns R := wordsSigns_word [Char.ofNat 99, Char.ofNat 117, Char.ofNat 116] _ (by decide)
  rw [e1, e2, e3]
  have hh : ([Char.ofNat 104, Char.ofNat 97, Char.ofNat 114, Char.ofNat 110, Char.ofNat 101, Char.ofNat 115, Char.ofNat 115] == "harness".toList) = true := by decide
  show (if (([Char.ofNat 104, Char.ofNat 97, Char.ofNat 114, Char.ofNat 110, Char.ofNat 101, Char.ofNat 115, Char.ofNat 115] == "harness".toList || [Char.ofNat 104, Char.ofNat 97, Char.ofNat 114, Char.ofNat 110, Char.ofNat 101, Char.ofNat 115, Char.ofNat 115] == "ownmain".toList) && isSumSigns [c0, c1, c2, c3, c4, c5, c6, c7, c8, c9, c10, c11, c12, c13, c14, c15, c16, c17, c18, c19, c20, c21, c22, c23, c24, c25, c26, c27, c28, c29, c30, c31, c32, c33, c34, c35, c36, c37, c38, c39, c40, c41, c42, c43, c44, c45, c46, c47, c48, c49, c50, c51, c52, c53, c54, c55, c56, c57, c58, c59, c60, c61, c62, c63]) = true then _ else _) = _
  rw [hh, hs]
  rfl
theorem may_of {P : Program} {X : List (List Char)} (h : behindMainWord (wordsSigns P.initOrder.toList) = "cut".toList :: X) (h1 : P.laysLater = false) (h2 : P.bearsReflect = false) (h3 : P.doorFits [] = true) : P.mayEnter = true := by
  have e : stripLifts liftWords ("cut".toList :: X) = ([], "cut".toList :: X) := rfl
  have e0 : (some "cut".toList == some "cut".toList) = true := by decide
  unfold Program.mayEnter
  rw [h]
  dsimp only
  rw [e]
  simp [h1, h2, h3]
theorem lifts_of {P : Program} {X : List (List Char)} (h : behindMainWord (wordsSigns P.initOrder.toList) = "cut".toList :: X) : P.liftsFinal = false := by
  have e : stripLifts liftWords ("cut".toList :: X) = ([], "cut".toList :: X) := rfl
  have e0 : (some "cut".toList == some "carried".toList) = false := by decide
  have e1 : P.headLifts = [] := by
    unfold Program.headLifts
    rw [h]
    dsimp only
    rw [e]
    simp
  unfold Program.liftsFinal
  rw [h, e1]
  simp
theorem make_of {P : Program} {X : List (List Char)} (h : behindMainWord (wordsSigns P.initOrder.toList) = "cut".toList :: X) : P.make = some .cut := by
  have e1 : ("cut".toList == "gc".toList || "cut".toList == "spec".toList) = false := by decide
  unfold Program.make
  rw [h]
  dsimp only
  rw [e1]
  simp
end Go.Con
namespace Go.Proofs.YtpkfbmafbkgcmaaDoor
open Go.RowKit Go.Con
set_option maxRecDepth 100000 in
theorem headCut : ∃ X, behindMainWord (wordsSigns Tryd.prog.initOrder.toList) = "cut".toList :: X :=
  ⟨_, head_cut Tryd.prog _ _ _ _ _ _ _ _ _ _ _ _ _ _ _ _ _ _ _ _ _ _ _ _ _ _ _ _ _ _ _ _ _ _ _ _ _ _ _ _ _ _ _ _ _ _ _ _ _ _ _ _ _ _ _ _ _ _ _ _ _ _ _ _ _ rfl (by as_aux_lemma => kernel_rfl)⟩
set_option maxRecDepth 100000 in
theorem may : Tryd.prog.mayEnter = true := by
  obtain ⟨X, h⟩ := headCut
  exact may_of h (by as_aux_lemma => kernel_rfl) (by as_aux_lemma => kernel_rfl) (by as_aux_lemma => kernel_rfl)
theorem lifts : Tryd.prog.liftsFinal = false := by
  obtain ⟨X, h⟩ := headCut
  exact lifts_of h
theorem makeIs : Tryd.prog.make = some .cut := by
  obtain ⟨X, h⟩ := headCut
  exact make_of h
end Go.Proofs.YtpkfbmafbkgcmaaDoor

set_option linter.unusedVariables false
set_option linter.unusedSimpArgs false
namespace Go.Con
theorem flatten_len {α : Type} (q : Nat) : ∀ l : List (List α), (∀ x ∈ l, x.length ≤ q) → l.flatten.length ≤ l.length * q
  | [], _ => by simp
  | x :: l, h => by
    have h1 := h x (by simp)
    have h2 := flatten_len q l (fun y hy => h y (by simp [hy]))
    simp only [List.flatten_cons, List.length_append, List.length_cons, Nat.add_mul, Nat.one_mul]
    omega
theorem flatten_take_succ {α : Type} (l : List (List α)) (k : Nat) (h : k < l.length) : (l.take (k + 1)).flatten = (l.take k).flatten ++ l.getD k [] := by
  rw [List.take_succ_eq_append_getElem h, List.flatten_append]
  simp [h]
end Go.Con
namespace Go.Proofs.YtpkfbmafbkgcmaaDoor
open Go.RowKit Go.Con
set_option maxHeartbeats 400000 in
theorem joined_any (b n : Nat) (vs : List Value) (ls : List (List UInt8)) (w : World) (hn : n ≤ 100) (hv : vs.length = n) (hl : ls.length = n)
    (hb : w.heap[b]? = some (.cells vs.toArray 31 (0, 0))) (hr : ∀ i, i < n → Rd w (vs.getD i undef) (ls.getD i [])) (hs : ∀ l ∈ ls, l.length ≤ 100000) :
    Calls Tryd.prog 16 #[.slice (some ⟨b, 0, none⟩) n n] w (FreshB w ls.flatten) := by
  have HV := Lib.hid hv
  have HL := Lib.hid hl
  have HB0 := Lib.hid hb
  have HR := Lib.hid hr
  have HS := Lib.hid hs
  clear hv hl hb hr hs
  go_enter Tryd.func16, Tryd.ntmps16
  go_wp2
  go_loopw [3, 4] (fun v i wr => ∃ k : Nat, k ≤ n ∧ i = .int .i64 k ∧ Own wr w.heap.size v (ls.take k).flatten ∧ Below w.heap.size w wr) (fun _ i _ => n - (intOf i).toNat)
  case atStart => exact ⟨0, Nat.zero_le _, rfl, Own.nil _ _, Below.refl _ _⟩
  case round =>
    obtain ⟨k, hk, rfl, hO, hB⟩ := hrel
    have HO := Lib.hid hO
    have HB := Lib.hid hB
    clear hO hB
    by_cases hlt : k < n
    · obtain ⟨vk, hvk⟩ : ∃ vk, vk = vs.getD k undef := ⟨_, rfl⟩
      have hc : wr.cell? ⟨b, k, none⟩ = some vk := by
        rw [hvk, HB.out.cell (p := ⟨b, k, none⟩) (lt_of_heap HB0.out)]
        refine cellAt HB0.out k ?_
        have : k < vs.length := by rw [HV.out]; exact hlt
        simp [this]
      have hrk : Rd wr vk (ls.getD k []) := by rw [hvk]; exact (HR.out k hlt).stay HB.out
      have hlen : (ls.take k).flatten.length + (ls.getD k []).length ≤ 140737488355328 := by
        have h1 := flatten_len 100000 (ls.take k) (fun x hx => HS.out x (List.mem_of_mem_take hx))
        have h2 : (ls.getD k []).length ≤ 100000 := by
          have : k < ls.length := by rw [HL.out]; exact hlt
          have h3 : ls.getD k [] = ls[k] := by simp [this]
          rw [h3]; exact HS.out _ (List.getElem_mem this)
        have h3 : (ls.take k).length ≤ 100 := by simp; omega
        have h4 : (ls.take k).length * 100000 ≤ 100 * 100000 := Nat.mul_le_mul_right _ h3
        omega
      have HRK := Lib.hid hrk
      have HLEN := Lib.hid hlen
      have hfl : (ls.take (k + 1)).flatten = (ls.take k).flatten ++ ls.getD k [] := flatten_take_succ ls k (by rw [HL.out]; exact hlt)
      have HFL := Lib.hid hfl
      clear hvk hrk hlen hfl
      go_wp2_with (at_builtin; refine apB rfl (.tmp 11) (.tmp 15) rfl w.heap.size _ vk _ (ls.getD k []) rfl HO.out rfl HRK.out HLEN.out HB.out.size ?_; intro v3 w3 hown3 hg3; have HO3 := Lib.hid hown3; have HG3 := Lib.hid hg3; clear hown3 hg3)
      go_roundw
      case rel => exact ⟨k + 1, by omega, by go_num, by rw [HFL.out]; exact HO3.out, HB.out.grown HG3.out HB.out.size (fun j hj => (HO.out.lt j hj).1)⟩
      case measure => simp [intOf]; omega
    · go_wp2
      go_ret
      have hkn : k = n := by omega
      have h := HO.out
      rw [hkn, List.take_of_length_le (by rw [HL.out]; exact Nat.le_refl _)] at h
      exact ⟨_, rfl, h, HB.out⟩
/-- a row of two, of three -/
theorem rows2 {w : World} {v0 v1 : Value} {l0 l1 : List UInt8} (h0 : Rd w v0 l0) (h1 : Rd w v1 l1) : ∀ i, i < 2 → Rd w (([v0, v1] : List Value).getD i undef) (([l0, l1] : List (List UInt8)).getD i []) := by
  intro i hi
  have : i = 0 ∨ i = 1 := by omega
  rcases this with rfl | rfl
  · exact h0
  · exact h1
theorem rows3 {w : World} {v0 v1 v2 : Value} {l0 l1 l2 : List UInt8} (h0 : Rd w v0 l0) (h1 : Rd w v1 l1) (h2 : Rd w v2 l2) : ∀ i, i < 3 → Rd w (([v0, v1, v2] : List Value).getD i undef) (([l0, l1, l2] : List (List UInt8)).getD i []) := by
  intro i hi
  have : i = 0 ∨ i = 1 ∨ i = 2 := by omega
  rcases this with rfl | rfl | rfl
  · exact h0
  · exact h1
  · exact h2
theorem joined2 (W : World) (v0 v1 : Value) (l0 l1 : List UInt8) (h0 : Rd W v0 l0) (h1 : Rd W v1 l1) (s0 : l0.length ≤ 100000) (s1 : l1.length ≤ 100000) :
    Calls Tryd.prog 16 #[.slice (some ⟨W.heap.size, 0, none⟩) 2 2] (W.alloc (.cells #[v0, v1] 31)) (FreshB (W.alloc (.cells #[v0, v1] 31)) (l0 ++ l1)) := by
  have h := joined_any W.heap.size 2 [v0, v1] [l0, l1] _ (by decide) rfl rfl (heapNew W (.cells #[v0, v1] 31)) (rows2 (h0.alloc _) (h1.alloc _)) (by intro l hl; simp at hl; rcases hl with rfl | rfl <;> assumption)
  simpa using h
theorem joined3 (W : World) (v0 v1 v2 : Value) (l0 l1 l2 : List UInt8) (h0 : Rd W v0 l0) (h1 : Rd W v1 l1) (h2 : Rd W v2 l2) (s0 : l0.length ≤ 100000) (s1 : l1.length ≤ 100000) (s2 : l2.length ≤ 100000) :
    Calls Tryd.prog 16 #[.slice (some ⟨W.heap.size, 0, none⟩) 3 3] (W.alloc (.cells #[v0, v1, v2] 31)) (FreshB (W.alloc (.cells #[v0, v1, v2] 31)) (l0 ++ (l1 ++ l2))) := by
  have h := joined_any W.heap.size 3 [v0, v1, v2] [l0, l1, l2] _ (by decide) rfl rfl (heapNew W (.cells #[v0, v1, v2] 31)) (rows3 (h0.alloc _) (h1.alloc _) (h2.alloc _)) (by intro l hl; simp at hl; rcases hl with rfl | rfl | rfl <;> assumption)
  simpa using h
theorem joined2b (W : World) (b : Nat) (v0 v1 : Value) (l0 l1 : List UInt8) (hb : b = W.heap.size) (h0 : Rd W v0 l0) (h1 : Rd W v1 l1) (s0 : l0.length ≤ 100000) (s1 : l1.length ≤ 100000) :
    Calls Tryd.prog 16 #[.slice (some ⟨b, 0, none⟩) 2 2] (W.alloc (.cells #[v0, v1] 31)) (FreshB (W.alloc (.cells #[v0, v1] 31)) (l0 ++ l1)) := by
  subst hb; exact joined2 W v0 v1 l0 l1 h0 h1 s0 s1
theorem joined3b (W : World) (b : Nat) (v0 v1 v2 : Value) (l0 l1 l2 : List UInt8) (hb : b = W.heap.size) (h0 : Rd W v0 l0) (h1 : Rd W v1 l1) (h2 : Rd W v2 l2) (s0 : l0.length ≤ 100000) (s1 : l1.length ≤ 100000) (s2 : l2.length ≤ 100000) :
    Calls Tryd.prog 16 #[.slice (some ⟨b, 0, none⟩) 3 3] (W.alloc (.cells #[v0, v1, v2] 31)) (FreshB (W.alloc (.cells #[v0, v1, v2] 31)) (l0 ++ (l1 ++ l2))) := by
  subst hb; exact joined3 W v0 v1 v2 l0 l1 l2 h0 h1 h2 s0 s1 s2
end Go.Proofs.YtpkfbmafbkgcmaaDoor
