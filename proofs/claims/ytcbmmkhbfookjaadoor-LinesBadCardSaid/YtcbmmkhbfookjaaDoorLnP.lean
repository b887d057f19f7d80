/-
  The lines of acts, plainly: the act of a line that was made of an act is the act; lines that may not be; a text cut into lines.
-/
import Derived.Test.YtcbmmkhbfookjaaDoorLnA
import Derived.Lib.AtoiTie
import Derived.Lib.ItoaLen
set_option linter.unusedVariables false
set_option linter.unusedSimpArgs false
namespace Go.Con
open Go
/-- words with blanks between -/
def joinW (p : List UInt8) (ps : List (List UInt8)) : List UInt8 := p ++ ps.flatMap (32 :: ·)
theorem index32_none {p : List UInt8} (h : (32 : UInt8) ∉ p) : Lib.index p [32] = -1 := by
  refine Lib.index_none (fun j hj => ?_)
  unfold Lib.occAt
  cases hd : p.drop j with
  | nil => rfl
  | cons b t =>
    have hb : b ∈ p := List.mem_of_mem_drop (by rw [hd]; exact List.mem_cons_self ..)
    have : (32 : UInt8) ≠ b := fun e => h (e ▸ hb)
    simp [List.isPrefixOf, this]
theorem index32_some {p r : List UInt8} (h : (32 : UInt8) ∉ p) : Lib.index (p ++ 32 :: r) [32] = p.length := by
  refine Lib.index_first (by simp) (by simp [Lib.occAt, List.isPrefixOf]) (fun j hj => ?_)
  unfold Lib.occAt
  rw [List.drop_append_of_le_length (by omega)]
  cases hd : p.drop j with
  | nil => have := congrArg List.length hd; simp at this; omega
  | cons b t =>
    have hb : b ∈ p := List.mem_of_mem_drop (by rw [hd]; exact List.mem_cons_self ..)
    have : (32 : UInt8) ≠ b := fun e => h (e ▸ hb)
    simp [List.isPrefixOf, this]
theorem count_none {p : List UInt8} (h : (32 : UInt8) ∉ p) : Lib.count p [32] = 0 := by
  rw [Lib.count_one]; exact List.count_eq_zero.2 h
theorem splitK_joinW : ∀ (ps : List (List UInt8)) (p : List UInt8), (∀ q ∈ p :: ps, (32 : UInt8) ∉ q) → Lib.splitK [32] 0 (Lib.count (joinW p ps) [32]) (joinW p ps) = p :: ps
  | [], p, h => by
    have hp := h p (List.mem_cons_self ..)
    have e : joinW p [] = p := by simp [joinW]
    rw [e, count_none hp]; rfl
  | q :: ps, p, h => by
    have hp := h p (List.mem_cons_self ..)
    have e : joinW p (q :: ps) = p ++ 32 :: joinW q ps := by simp [joinW]
    have ih := splitK_joinW ps q (fun x hx => h x (List.mem_cons_of_mem _ hx))
    have hc : Lib.count (p ++ 32 :: joinW q ps) [32] = Lib.count (joinW q ps) [32] + 1 := by
      rw [Lib.count_one, Lib.count_one, List.count_append, List.count_eq_zero.2 hp]; simp
    rw [e, hc, Lib.splitK, index32_some hp]
    rw [if_neg (by simp)]
    have e2 : (p ++ 32 :: joinW q ps).drop (((p.length : Int)).toNat + ([32] : List UInt8).length) = joinW q ps := by
      rw [Int.toNat_natCast, show ([32] : List UInt8).length = 1 from rfl, List.drop_append, List.drop_of_length_le (by omega), show p.length + 1 - p.length = 1 by omega]; rfl
    have e3 : (p ++ 32 :: joinW q ps).take (((p.length : Int)).toNat + 0) = p := by
      rw [Int.toNat_natCast, Nat.add_zero, List.take_left]
    rw [e2, e3, ih]
theorem trim10 (b : List UInt8) : Lib.trimSuffix (b ++ [10]) [10] = b := by
  unfold Lib.trimSuffix
  have h : Lib.hasSuffix (b ++ [10]) [10] = true := by simp [Lib.hasSuffix]
  rw [if_pos h]; simp
theorem bytes_data (l : List UInt8) : (⟨l.toArray⟩ : ByteArray).data.toList = l := rfl
theorem parts_joinW (ps : List (List UInt8)) (p : List UInt8) (h : ∀ q ∈ p :: ps, (32 : UInt8) ∉ q) : (partsL (joinW p ps ++ [10])).map (·.data.toList) = p :: ps := by
  unfold partsL
  rw [trim10, Lib.splitB_data]
  exact splitK_joinW ps p h
theorem parts_len_of {s : List UInt8} {L : List (List UInt8)} (h : (partsL s).map (·.data.toList) = L) : (partsL s).length = L.length := by rw [← h, List.length_map]
theorem parts_get {s : List UInt8} {L : List (List UInt8)} (h : (partsL s).map (·.data.toList) = L) (i : Nat) (hi : i < L.length) : ((partsL s).getD i default).data.toList = L.getD i [] := by
  have hl := parts_len_of h
  rw [← h, List.getD_eq_getElem?_getD, List.getD_eq_getElem?_getD, List.getElem?_map, List.getElem?_eq_getElem (by omega)]; rfl
theorem kindOf_of {s : List UInt8} {p : List UInt8} {ps : List (List UInt8)} (h : (partsL s).map (·.data.toList) = p :: ps) : kindOf s = kindTo p 10 := by
  have h1 := parts_get h 0 (by simp)
  have e : ((partsL s).getD 0 default).toList = ((partsL s).getD 0 default).data.toList := Lib.toList_data _
  unfold kindOf
  rw [e, h1]; rfl
theorem kindTo_word (k : Nat) (h1 : 1 ≤ k) (h9 : k ≤ 9) : kindTo (wordsL.getD k []) 10 = k := by
  have h : k = 1 ∨ k = 2 ∨ k = 3 ∨ k = 4 ∨ k = 5 ∨ k = 6 ∨ k = 7 ∨ k = 8 ∨ k = 9 := by omega
  rcases h with rfl | rfl | rfl | rfl | rfl | rfl | rfl | rfl | rfl <;> decide
/-- digits are read as they were written -/
theorem dec_snoc (l : List UInt8) (c : UInt8) : ∀ acc, Lib.decFrom acc (l ++ [c]) = (Lib.decFrom acc l).bind fun m => Lib.decFrom m [c] := by
  induction l with
  | nil => intro acc; rfl
  | cons b l ih =>
    intro acc
    simp only [List.cons_append, Lib.decFrom]
    cases Lib.digitVal b with
    | none => rfl
    | some d => exact ih _
theorem digit_byte (d : Nat) (h : d < 10) : Lib.digitVal (UInt8.ofNat (48 + d)) = some d := by
  have h10 : d = 0 ∨ d = 1 ∨ d = 2 ∨ d = 3 ∨ d = 4 ∨ d = 5 ∨ d = 6 ∨ d = 7 ∨ d = 8 ∨ d = 9 := by omega
  rcases h10 with rfl | rfl | rfl | rfl | rfl | rfl | rfl | rfl | rfl | rfl <;> decide
theorem dec_digits (u : Nat) : Lib.decFrom 0 (Lib.decDigits u) = some u := by
  induction u using Nat.strongRecOn with
  | _ u ih =>
    by_cases h : u < 10
    · rw [Lib.decDigits_one h]
      have hd := digit_byte u h
      simp only [Lib.decFrom, hd, Nat.zero_mul, Nat.zero_add]
    · rw [Lib.decDigits, dif_neg h, dec_snoc, ih (u / 10) (by omega)]
      simp only [Option.bind_some, Lib.decFrom, digit_byte (u % 10) (by omega)]
      congr 1
      omega
theorem digits_ne (u : Nat) : Lib.decDigits u ≠ [] := fun e => by
  have h1 := Lib.decDigits_length u
  have h2 := Lib.nDigits_pos u
  rw [e] at h1
  simp at h1
  omega
theorem digits_range (u : Nat) : ∀ c ∈ Lib.decDigits u, 48 ≤ c.toNat ∧ c.toNat ≤ 57 := by
  induction u using Nat.strongRecOn with
  | _ u ih =>
    intro c hc
    have key : ∀ d : Nat, d < 10 → 48 ≤ (UInt8.ofNat (48 + d)).toNat ∧ (UInt8.ofNat (48 + d)).toNat ≤ 57 := fun d hd => by
      rw [UInt8.toNat_ofNat']; omega
    by_cases h : u < 10
    · rw [Lib.decDigits_one h] at hc
      rw [List.mem_singleton.1 hc]
      exact key u h
    · rw [Lib.decDigits, dif_neg h] at hc
      rcases List.mem_append.1 hc with hc | hc
      · exact ih (u / 10) (by omega) c hc
      · rw [List.mem_singleton.1 hc]
        exact key _ (by omega)
theorem itoa_range {n : Int} (h : 0 ≤ n) : ∀ c ∈ Lib.itoa n, 48 ≤ c.toNat ∧ c.toNat ≤ 57 := by
  unfold Lib.itoa
  rw [if_neg (by omega)]
  exact digits_range _
theorem itoa_no32 {n : Int} (h : 0 ≤ n) : (32 : UInt8) ∉ Lib.itoa n := fun hc => by
  have := itoa_range h 32 hc
  revert this; decide
theorem nDigits_le : ∀ (k u : Nat), u < 10 ^ (k + 1) → Lib.nDigits u ≤ k + 1
  | 0, u, h => by rw [Lib.nDigits_small (by simpa using h)]; omega
  | k + 1, u, h => by
    by_cases hu : u < 10
    · rw [Lib.nDigits_small hu]; omega
    · rw [Lib.nDigits_big hu]
      have := nDigits_le k (u / 10) (by rw [Nat.div_lt_iff_lt_mul (by decide)]; rw [Nat.pow_succ] at h; exact h)
      omega
theorem atoi_itoa {n : Int} (h0 : 0 ≤ n) (h1 : n ≤ 1048576) : atoiV (Lib.itoa n) = n := by
  have hlen : (Lib.itoa n).length ≤ 18 := by
    unfold Lib.itoa
    rw [if_neg (by omega), Lib.decDigits_length]
    have h2 := nDigits_le 17 n.toNat (by have : (10 : Nat) ^ (17 + 1) = 1000000000000000000 := by decide
                                         omega)
    omega
  unfold atoiV
  rw [Lib.atoiAll_short _ hlen]
  have hd := dec_digits n.toNat
  have hr := itoa_range h0
  have e : Lib.itoa n = Lib.decDigits n.toNat := by unfold Lib.itoa; rw [if_neg (by omega)]
  rw [e] at hr ⊢
  have hne := digits_ne n.toNat
  have hat : Lib.atoi (Lib.decDigits n.toNat) = some n := by
    cases hl : Lib.decDigits n.toNat with
    | nil => exact absurd hl hne
    | cons c r =>
      rw [hl] at hr hd
      have hc := hr c (List.mem_cons_self ..)
      have h45 : c ≠ 45 := fun e => by rw [e] at hc; revert hc; decide
      have h43 : c ≠ 43 := fun e => by rw [e] at hc; revert hc; decide
      have hdn : Lib.decNat (c :: r) = some n.toNat := by unfold Lib.decNat; simpa using hd
      simp [Lib.atoi, h45, h43, hdn]
      omega
  rw [hat]
  rfl
theorem hex_fin : ∀ c : Fin 256, hexV (hexD (c.val / 16)) (hexD (c.val % 16)) = UInt8.ofNat c.val := by decide +kernel
theorem hexV_hexD (c : UInt8) : hexV (hexD (c.toNat / 16)) (hexD (c.toNat % 16)) = c := by
  have h := hex_fin ⟨c.toNat, c.toNat_lt⟩
  simpa using h
theorem unhex_hex : ∀ d : List UInt8, unhexL (d.flatMap hex2) = d
  | [] => rfl
  | c :: d => by
    rw [List.flatMap_cons]
    show hexV _ _ :: unhexL (d.flatMap hex2) = c :: d
    rw [hexV_hexD, unhex_hex d]
theorem hexD_fin : ∀ n : Fin 16, hexD n.val ≠ 32 ∧ hexD n.val ≠ 10 := by decide
theorem hex_no (x : UInt8) (hx : x = 32 ∨ x = 10) (d : List UInt8) : x ∉ d.flatMap hex2 := fun h => by
  obtain ⟨c, -, hc⟩ := List.mem_flatMap.1 h
  have h1 := hexD_fin ⟨c.toNat / 16, by have := c.toNat_lt; omega⟩
  have h2 := hexD_fin ⟨c.toNat % 16, by omega⟩
  simp [hex2] at hc h1 h2
  rcases hx with rfl | rfl <;> rcases hc with hc | hc <;> simp_all
theorem actCode_zero {k n a p : Int} {len : Nat} (h : actCode k n a p len = 0) (h1 : 1 ≤ k) (h9 : k ≤ 9) : (0 ≤ n ∧ n ≤ 1048576) ∧ (0 ≤ a ∧ a ≤ 1048576) ∧ (0 ≤ p ∧ p ≤ 1048576) ∧ (k ≠ 1 → len = 0) ∧ len ≤ 2000 ∧
    (((k = 1 ∨ k = 2 ∨ k = 3 ∨ k = 9) ∧ a = 0 ∧ p = 0) ∨ ((k = 4 ∨ k = 5 ∨ k = 6) ∧ n = 0 ∧ p = 0) ∨ (k = 7 ∧ n = 0 ∧ a = 0 ∧ p = 0) ∨ (k = 8 ∧ a = 0)) := by
  have hk : k = 1 ∨ k = 2 ∨ k = 3 ∨ k = 4 ∨ k = 5 ∨ k = 6 ∨ k = 7 ∨ k = 8 ∨ k = 9 := by omega
  rcases hk with rfl | rfl | rfl | rfl | rfl | rfl | rfl | rfl | rfl
  all_goals
    unfold actCode at h
    split at h
    · cases h
    split at h
    · cases h
    split at h
    · cases h
    rename_i g1 g2 g3
    simp [slotsOf, slotBad, zeros] at g1 g3
    omega
/-- the words of an act's line -/
def lineWs (k : Int) (C : List Int) (d : List UInt8) : List (List UInt8) := (slotsOf k).map (fun x => Lib.itoa (C.getD x.1 0)) ++ (if k = 1 then [d.flatMap hex2] else [])
theorem lineL_join (k : Int) (C : List Int) (d : List UInt8) : lineL k C d = joinW (wordsL.getD k.toNat []) (lineWs k C d) ++ [10] := by
  unfold lineL joinW lineWs numsL
  rw [List.flatMap_append, List.flatMap_map]
  split <;> simp
theorem words_no (x : UInt8) (hx : x = 32 ∨ x = 10) (k : Nat) : x ∉ wordsL.getD k [] := fun h => by
  rcases Nat.lt_or_ge k 10 with hk | hk
  · have h10 : k = 0 ∨ k = 1 ∨ k = 2 ∨ k = 3 ∨ k = 4 ∨ k = 5 ∨ k = 6 ∨ k = 7 ∨ k = 8 ∨ k = 9 := by omega
    rcases hx with rfl | rfl <;> rcases h10 with rfl | rfl | rfl | rfl | rfl | rfl | rfl | rfl | rfl | rfl <;> revert h <;> decide
  · rw [List.getD_eq_getElem?_getD, List.getElem?_eq_none (by exact hk)] at h; cases h
/-- an act that may be -/
structure Fit (k n a p : Int) (d : List UInt8) : Prop where
  k1 : 1 ≤ k
  k9 : k ≤ 9
  code : actCode k n a p d.length = 0
theorem Fit.no {k n a p : Int} {d : List UInt8} (h : Fit k n a p d) (x : UInt8) (hx : x = 32 ∨ x = 10) : ∀ q ∈ wordsL.getD k.toNat [] :: lineWs k [k, n, a, p] d, x ∉ q := by
  intro q hq
  obtain ⟨hn, ha, hp, -⟩ := actCode_zero h.code h.k1 h.k9
  have hk := h.k1
  rcases List.mem_cons.1 hq with rfl | hq
  · exact words_no x hx _
  unfold lineWs at hq
  rcases List.mem_append.1 hq with hq | hq
  · obtain ⟨y, hy, rfl⟩ := List.mem_map.1 hq
    intro hc
    have h0 : 0 ≤ ([k, n, a, p] : List Int).getD y.1 0 := by
      rcases y with ⟨f, m⟩
      match f with
      | 0 => show 0 ≤ k; omega
      | 1 => exact hn.1
      | 2 => exact ha.1
      | 3 => exact hp.1
      | _ + 4 => exact Int.le_refl _
    have := itoa_range h0 x hc
    rcases hx with rfl | rfl <;> revert this <;> decide
  · split at hq
    · rw [List.mem_singleton.1 hq]; exact hex_no x hx d
    · cases hq
theorem Fit.parts {k n a p : Int} {d : List UInt8} (h : Fit k n a p d) : (partsL (lineL k [k, n, a, p] d)).map (·.data.toList) = wordsL.getD k.toNat [] :: lineWs k [k, n, a, p] d := by
  rw [lineL_join]
  exact parts_joinW _ _ (h.no 32 (.inl rfl))
/-- the act of the line of an act that may be is the act -/
theorem Fit.back {k n a p : Int} {d : List UInt8} (h : Fit k n a p d) : kindOf (lineL k [k, n, a, p] d) = k.toNat ∧ actC (lineL k [k, n, a, p] d) = [k, n, a, p] ∧ actD (lineL k [k, n, a, p] d) = d := by
  have hp := h.parts
  have hc := actCode_zero h.code h.k1 h.k9
  have h1 := h.k1
  have h9 := h.k9
  generalize lineL k [k, n, a, p] d = s at hp ⊢
  have hk : kindOf s = k.toNat := by rw [kindOf_of hp]; exact kindTo_word _ (by omega) (by omega)
  have hkk : ((kindOf s : Nat) : Int) = k := by rw [hk]; omega
  have hl := parts_len_of hp
  have g1 := parts_get hp 1
  have g2 := parts_get hp 2
  refine ⟨hk, ?_, ?_⟩
  · unfold actC
    rw [hkk]
    obtain ⟨hn, ha, hpp, -, -, hcase⟩ := hc
    rcases hcase with ⟨hk, rfl, rfl⟩ | ⟨hk, rfl, rfl⟩ | ⟨rfl, rfl, rfl, rfl⟩ | ⟨rfl, rfl⟩
    · have hs : slotsOf k = [(1, 4)] := by unfold slotsOf; rw [if_pos hk]
      unfold lineWs at hl g1
      rw [hs] at hl g1 ⊢
      have g := g1 (by simp)
      simp only [List.map_cons, List.map_nil, List.cons_append, List.getD_cons_succ, List.getD_cons_zero] at g
      simp only [numsTo, List.length_cons, List.length_nil]
      rw [if_pos (by rw [hl]; simp), g, atoi_itoa hn.1 hn.2]; rfl
    · have hs : slotsOf k = [(2, 1048576)] := by unfold slotsOf; rw [if_neg (by omega), if_pos hk]
      unfold lineWs at hl g1
      rw [hs] at hl g1 ⊢
      have g := g1 (by simp)
      simp only [List.map_cons, List.map_nil, List.cons_append, List.getD_cons_succ, List.getD_cons_zero] at g
      simp only [numsTo, List.length_cons, List.length_nil]
      rw [if_pos (by rw [hl]; simp), g, atoi_itoa ha.1 ha.2]; rfl
    · rfl
    · unfold lineWs at hl g1 g2
      rw [show slotsOf 8 = [(1, 4), (3, 100000)] from rfl] at hl g1 g2 ⊢
      have gg := g1 (by simp)
      have gh := g2 (by simp)
      simp only [List.map_cons, List.map_nil, List.cons_append, List.getD_cons_succ, List.getD_cons_zero] at gg gh
      simp only [numsTo, List.length_cons, List.length_nil]
      rw [if_pos (by rw [hl]; simp), if_pos (by rw [hl]; simp)]
      rw [show (0 : Nat) + 1 = 1 from rfl, show (0 : Nat) + 1 + 1 = 2 from rfl, gg, gh, atoi_itoa hn.1 hn.2, atoi_itoa hpp.1 hpp.2]; rfl
  · unfold actD
    by_cases hk1 : k = 1
    · subst hk1
      unfold lineWs at hl g2
      rw [show slotsOf 1 = [(1, 4)] from rfl, if_pos rfl] at hl g2
      rw [if_pos ⟨by rw [hk]; rfl, by rw [hl]; simp⟩, g2 (by simp)]
      exact unhex_hex d
    · rw [if_neg (fun e => hk1 (by omega))]
      have := hc.2.2.2.1 hk1
      cases d with
      | nil => rfl
      | cons _ _ => cases this
/-- a line that may be -/
def GoodL (s : List UInt8) : Prop := 1 ≤ kindOf s ∧ kindOf s ≤ 9 ∧ ∃ n a p, actC s = [(kindOf s : Int), n, a, p] ∧ actCode (kindOf s) n a p (actD s).length = 0 ∧ lineL (kindOf s) [(kindOf s : Int), n, a, p] (actD s) = s
theorem Fit.good {k n a p : Int} {d : List UInt8} (h : Fit k n a p d) : GoodL (lineL k [k, n, a, p] d) := by
  obtain ⟨h1, h2, h3⟩ := h.back
  have hk := h.k1
  have hk9 := h.k9
  have e : ((kindOf (lineL k [k, n, a, p] d) : Nat) : Int) = k := by rw [h1]; omega
  refine ⟨by rw [h1]; omega, by rw [h1]; omega, n, a, p, ?_, ?_, ?_⟩
  · rw [e]; exact h2
  · rw [e, h3]; exact h.code
  · rw [e, h3]
/-- the lines of a text, each with its end -/
def linesAcc : List UInt8 → List UInt8 → List (List UInt8)
  | acc, [] => if acc = [] then [] else [acc]
  | acc, c :: r => if c = 10 then (acc ++ [c]) :: linesAcc [] r else linesAcc (acc ++ [c]) r
def linesOf (s : List UInt8) : List (List UInt8) := linesAcc [] s
theorem linesAcc_hit : ∀ (p acc r : List UInt8), (10 : UInt8) ∉ p → linesAcc acc (p ++ 10 :: r) = (acc ++ p ++ [10]) :: linesOf r
  | [], acc, r, _ => by show (if (10 : UInt8) = 10 then _ else _) = _; rw [if_pos rfl]; simp [linesOf]
  | c :: p, acc, r, h => by
    have hc : c ≠ 10 := fun e => h (e ▸ List.mem_cons_self ..)
    show (if c = 10 then _ else _) = _
    rw [if_neg hc]
    have e := linesAcc_hit p (acc ++ [c]) r (fun hx => h (List.mem_cons_of_mem _ hx))
    refine e.trans ?_
    simp
theorem linesAcc_miss : ∀ (p acc : List UInt8), (10 : UInt8) ∉ p → linesAcc acc p = if acc ++ p = [] then [] else [acc ++ p]
  | [], acc, _ => by simp [linesAcc]
  | c :: p, acc, h => by
    have hc : c ≠ 10 := fun e => h (e ▸ List.mem_cons_self ..)
    show (if c = 10 then _ else _) = _
    rw [if_neg hc, linesAcc_miss p _ (fun hx => h (List.mem_cons_of_mem _ hx))]
    simp
theorem linesOf_line (p r : List UInt8) (h : (10 : UInt8) ∉ p) : linesOf (p ++ 10 :: r) = (p ++ [10]) :: linesOf r := by
  unfold linesOf; rw [linesAcc_hit p [] r h]; rfl
theorem linesOf_last (p : List UInt8) (h : (10 : UInt8) ∉ p) (hp : p ≠ []) : linesOf p = [p] := by
  unfold linesOf; rw [linesAcc_miss p [] h]; simp [hp]
theorem linesAcc_flat : ∀ (s acc : List UInt8), (linesAcc acc s).flatten = acc ++ s
  | [], acc => by unfold linesAcc; split <;> simp_all
  | c :: s, acc => by
    unfold linesAcc
    split
    · rw [List.flatten_cons, linesAcc_flat s []]; simp
    · rw [linesAcc_flat s]; simp
theorem linesOf_flat (s : List UInt8) : (linesOf s).flatten = s := linesAcc_flat s []
/-- a text of whole lines ahead -/
def Whole (q : List UInt8) : Prop := ∃ p, q = p ++ [10] ∧ (10 : UInt8) ∉ p
theorem linesOf_app : ∀ (qs : List (List UInt8)) (r : List UInt8), (∀ q ∈ qs, Whole q) → linesOf (qs.flatten ++ r) = qs ++ linesOf r
  | [], r, _ => rfl
  | q :: qs, r, h => by
    obtain ⟨p, rfl, hp⟩ := h q (List.mem_cons_self ..)
    have e : ((p ++ [10]) :: qs).flatten ++ r = p ++ 10 :: (qs.flatten ++ r) := by simp
    rw [e, linesOf_line p _ hp, linesOf_app qs r (fun x hx => h x (List.mem_cons_of_mem _ hx))]; rfl
theorem joinW_no (x : UInt8) (hx : x ≠ 32) (p : List UInt8) (ps : List (List UInt8)) (h : ∀ q ∈ p :: ps, x ∉ q) : x ∉ joinW p ps := fun hc => by
  unfold joinW at hc
  rcases List.mem_append.1 hc with hc | hc
  · exact h p (List.mem_cons_self ..) hc
  · obtain ⟨q, hq, hm⟩ := List.mem_flatMap.1 hc
    rcases List.mem_cons.1 hm with e | hm
    · exact hx e
    · exact h q (List.mem_cons_of_mem _ hq) hm
theorem Fit.whole {k n a p : Int} {d : List UInt8} (h : Fit k n a p d) : Whole (lineL k [k, n, a, p] d) :=
  ⟨_, lineL_join _ _ _, joinW_no 10 (by decide) _ _ (h.no 10 (.inr rfl))⟩
/-- lines that may not be -/
def badL : List (List UInt8) := [[97, 108, 108, 32, 49, 10], [115, 116, 101, 112, 10], [115, 116, 101, 112, 32, 53, 10], [115, 117, 98, 109, 105, 116, 32, 48, 10], [10], [115, 117, 98, 109, 105, 116, 32, 48, 32, 48, 10], [115, 117, 98, 109, 105, 116, 32, 48, 32, 48, 71, 10], [115, 117, 98, 109, 105, 116, 32, 48, 32, 48, 65, 10], [99, 97, 114, 114, 121, 32, 48, 49, 10], [99, 114, 97, 115, 104, 32, 49, 32, 49, 48, 48, 48, 48, 49, 10], [65, 108, 108, 10]]
def goodB (s : List UInt8) : Bool := decide (1 ≤ kindOf s) && decide (actCode (kindOf s) ((actC s).getD 1 0) ((actC s).getD 2 0) ((actC s).getD 3 0) (actD s).length = 0) && decide (lineL (kindOf s) (actC s) (actD s) = s)
theorem GoodL.b {s : List UInt8} (h : GoodL s) : goodB s = true := by
  obtain ⟨h1, h9, n, a, p, h2, h3, h4⟩ := h
  unfold goodB
  rw [h2]
  simp only [Bool.and_eq_true, decide_eq_true_eq]
  exact ⟨⟨h1, h3⟩, h4⟩
theorem bad_all : ∀ s ∈ badL, goodB s = false := by decide +kernel
end Go.Con
