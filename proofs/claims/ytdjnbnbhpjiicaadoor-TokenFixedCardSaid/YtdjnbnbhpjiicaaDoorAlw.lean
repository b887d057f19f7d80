/-
  Tokens as plain data; the walks of order.token and order.Allows.
-/
import Derived.Test.YtdjnbnbhpjiicaaDoorOrd
namespace Go.Con
open Go
/-- a token; and what a pass is made of -/
structure Tok where
  client : Int
  rights : Int
  til : Int
  deriving DecidableEq
def Tok.zero : Tok := ⟨0, 0, 0⟩
def tokV (t : Tok) : Value := .agg #[.int .i64 t.client, .int .i64 t.rights, .int .i64 t.til]
structure Tok.Ok (t : Tok) : Prop where
  c0 : 0 ≤ t.client
  c1 : t.client ≤ 7
  r0 : 0 ≤ t.rights
  r1 : t.rights ≤ 7
  u0 : 0 ≤ t.til
  u1 : t.til ≤ 1048576
def tokB (t : Tok) : Bool := decide (0 ≤ t.client ∧ t.client ≤ 7 ∧ 0 ≤ t.rights ∧ t.rights ≤ 7 ∧ 0 ≤ t.til ∧ t.til ≤ 1048576)
theorem tokB_ok {t : Tok} (h : tokB t = true) : t.Ok := by
  unfold tokB at h
  rw [decide_eq_true_eq] at h
  exact ⟨h.1, h.2.1, h.2.2.1, h.2.2.2.1, h.2.2.2.2.1, h.2.2.2.2.2⟩
/-- what a kind asks for -/
def needK (k : Int) : Int := if k = 1 then 2 else if k = 2 then 1 else if k = 3 then 4 else 0
/-- of these rights none is what a kind asks for -/
def lacks (r k : Int) : Bool := bits .and .i64 r (needK k) == 0
def allowC (t : Tok) (c : Cmd) (now : Int) : Int :=
  if c.kind = 0 ∨ t.client ≠ c.client ∨ lacks t.rights c.kind = true then 11 else if now < 0 ∨ t.til < now then 10 else 0
end Go.Con
namespace Go.Proofs.YtdjnbnbhpjiicaaDoor
open Go.RowKit Go.Con

set_option maxHeartbeats 400000 in
theorem token_a (cl r u : Int) (w : World) (h : cl < 0 ∨ 7 < cl) :
    Calls Tryd.prog 43 #[.agg #[.int .i64 cl, .int .i64 r, .int .i64 u]] w fun e w' => e = .returned (.int .i64 2) ∧ Below w.heap.size w w' := by
  go_enter Tryd.func43, Tryd.ntmps43
  go_wp2_with (go_at_call 53; first | (refine (within_true _ _ _ _ (by omega) (by omega)).mono ?_; rintro e w' ⟨rfl, rfl⟩) | (refine (within_false _ _ _ _ (by omega)).mono ?_; rintro e w' ⟨rfl, rfl⟩))
  go_ret
  exact ⟨rfl, (Below.refl _ _).alloc (Nat.le_refl _) _⟩
set_option maxHeartbeats 400000 in
theorem token_b (cl r u : Int) (w : World) (c0 : 0 ≤ cl) (c1 : cl ≤ 7) (h : r < 0 ∨ 7 < r) :
    Calls Tryd.prog 43 #[.agg #[.int .i64 cl, .int .i64 r, .int .i64 u]] w fun e w' => e = .returned (.int .i64 2) ∧ Below w.heap.size w w' := by
  go_enter Tryd.func43, Tryd.ntmps43
  go_wp2_with (go_at_call 53; first | (refine (within_true _ _ _ _ (by omega) (by omega)).mono ?_; rintro e w' ⟨rfl, rfl⟩) | (refine (within_false _ _ _ _ (by omega)).mono ?_; rintro e w' ⟨rfl, rfl⟩))
  go_ret
  exact ⟨rfl, (Below.refl _ _).alloc (Nat.le_refl _) _⟩
set_option maxHeartbeats 400000 in
theorem token_c (cl r u : Int) (w : World) (c0 : 0 ≤ cl) (c1 : cl ≤ 7) (r0 : 0 ≤ r) (r1 : r ≤ 7) (h : u < 0 ∨ 1048576 < u) :
    Calls Tryd.prog 43 #[.agg #[.int .i64 cl, .int .i64 r, .int .i64 u]] w fun e w' => e = .returned (.int .i64 2) ∧ Below w.heap.size w w' := by
  go_enter Tryd.func43, Tryd.ntmps43
  go_wp2_with (go_at_call 53; first | (refine (within_true _ _ _ _ (by omega) (by omega)).mono ?_; rintro e w' ⟨rfl, rfl⟩) | (refine (within_false _ _ _ _ (by omega)).mono ?_; rintro e w' ⟨rfl, rfl⟩))
  go_ret
  exact ⟨rfl, (Below.refl _ _).alloc (Nat.le_refl _) _⟩
set_option maxHeartbeats 400000 in
theorem token_d (cl r u : Int) (w : World) (c0 : 0 ≤ cl) (c1 : cl ≤ 7) (r0 : 0 ≤ r) (r1 : r ≤ 7) (u0 : 0 ≤ u) (u1 : u ≤ 1048576) :
    Calls Tryd.prog 43 #[.agg #[.int .i64 cl, .int .i64 r, .int .i64 u]] w fun e w' => e = .returned (.int .i64 0) ∧ Below w.heap.size w w' := by
  go_enter Tryd.func43, Tryd.ntmps43
  go_wp2_with (go_at_call 53; first | (refine (within_true _ _ _ _ (by omega) (by omega)).mono ?_; rintro e w' ⟨rfl, rfl⟩) | (refine (within_false _ _ _ _ (by omega)).mono ?_; rintro e w' ⟨rfl, rfl⟩))
  go_ret
  exact ⟨rfl, (Below.refl _ _).alloc (Nat.le_refl _) _⟩
theorem token_ok (t : Tok) (w : World) (h : t.Ok) :
    Calls Tryd.prog 43 #[tokV t] w fun e w' => e = .returned (.int .i64 0) ∧ Below w.heap.size w w' :=
  token_d _ _ _ w h.c0 h.c1 h.r0 h.r1 h.u0 h.u1
theorem token_any (t : Tok) (w : World) :
    Calls Tryd.prog 43 #[tokV t] w fun e w' => e = .returned (.int .i64 (if tokB t = true then 0 else 2)) ∧ Below w.heap.size w w' := by
  by_cases h : tokB t = true
  · rw [if_pos h]; exact token_ok t w (tokB_ok h)
  · rw [if_neg h]
    have h' : ¬ (0 ≤ t.client ∧ t.client ≤ 7 ∧ 0 ≤ t.rights ∧ t.rights ≤ 7 ∧ 0 ≤ t.til ∧ t.til ≤ 1048576) := fun k => h (decide_eq_true k)
    by_cases hc : t.client < 0 ∨ 7 < t.client
    · exact token_a _ _ _ w hc
    · by_cases hr : t.rights < 0 ∨ 7 < t.rights
      · exact token_b _ _ _ w (by omega) (by omega) hr
      · exact token_c _ _ _ w (by omega) (by omega) (by omega) (by omega) (by omega)
/-- The table of what each kind asks for. -/
def Nd (w : World) : Prop := ∀ i, i < 4 → w.cell? ⟨0, i, none⟩ = some (.int .i64 (needK i))
theorem Nd.lt {w : World} (h : Nd w) : 0 < w.heap.size := World.block_lt_of_cell? w _ (h 0 (by decide))
theorem Nd.stay {w w' : World} (h : Nd w) (hb : Below w.heap.size w w') : Nd w' := fun i hi => (hb.cell (p := ⟨0, i, none⟩) h.lt).trans (h i hi)

set_option maxHeartbeats 1000000 in
theorem allows_z (tc tr tu cl sq nm vl now : Int) (w : World) (ht : (Tok.mk tc tr tu).Ok) (hc : checkC ⟨0, cl, sq, nm, vl⟩ = 0) (hN : Nd w) :
    Calls Tryd.prog 24 #[.agg #[.int .i64 tc, .int .i64 tr, .int .i64 tu], .agg #[.int .i64 0, .int .i64 cl, .int .i64 sq, .int .i64 nm, .int .i64 vl], .int .i64 now] w fun e w' => e = .returned (.int .i64 11) ∧ Below w.heap.size w w' := by
  have htk := fun w => token_ok _ w ht
  have hck := fun w => Check_any ⟨0, cl, sq, nm, vl⟩ w
  rw [hc] at hck
  unfold tokV at htk
  unfold cmdV at hck
  dsimp only at htk hck
  have HTK := Lib.hid htk
  have HCK := Lib.hid hck
  have HN := Lib.hid hN
  clear htk hck ht hc hN
  go_enter Tryd.func24, Tryd.ntmps24
  go_wp2_with fail
  refine (HTK.out _).mono ?_
  rintro e w1 ⟨rfl, hb1⟩
  have s1 : w.heap.size + 2 ≤ w1.heap.size := by simpa using hb1.size
  have B1 := Lib.hid ((((Below.refl w.heap.size w).alloc (Nat.le_refl _) _).alloc (by simp) _).trans (hb1.mono (by simp; omega)))
  have X0 := Lib.hid ((hb1.block w.heap.size (by simp; omega)).trans (heapNew0 w _ _))
  have X1 := Lib.hid ((hb1.block (w.heap.size + 1) (by simp)).trans (heapNew1 w _ _))
  have c0 := cellAt X1.out 0 rfl
  have c1 := cellAt X1.out 1 rfl
  have c2 := cellAt X1.out 2 rfl
  have c3 := cellAt X1.out 3 rfl
  have c4 := cellAt X1.out 4 rfl
  clear hb1
  go_wp2_with fail
  refine (HCK.out _).mono ?_
  rintro e w2 ⟨rfl, hb2⟩
  have B2 := Lib.hid (B1.out.trans (hb2.mono (by omega)))
  have Y0 := Lib.hid ((hb2.block w.heap.size (by omega)).trans X0.out)
  have Y1 := Lib.hid ((hb2.block (w.heap.size + 1) (by omega)).trans X1.out)
  have d0 := cellAt Y1.out 0 rfl
  have d1 := cellAt Y1.out 1 rfl
  have t0 := cellAt Y0.out 0 rfl
  have t1 := cellAt Y0.out 1 rfl
  have t2 := cellAt Y0.out 2 rfl
  have n0 : w2.cell? ⟨0, 0, none⟩ = some (.int .i64 0) := (HN.out.stay B2.out) 0 (by decide)
  clear hb2 c0 c1 c2 c3 c4
  go_wp2
  go_ret
  exact ⟨rfl, B2.out⟩
set_option maxHeartbeats 1000000 in
theorem allows_a1 (tc tr tu cl sq nm vl now : Int) (w : World) (ht : (Tok.mk tc tr tu).Ok) (hc : checkC ⟨1, cl, sq, nm, vl⟩ = 0) (hN : Nd w) (hn : tc ≠ cl) :
    Calls Tryd.prog 24 #[.agg #[.int .i64 tc, .int .i64 tr, .int .i64 tu], .agg #[.int .i64 1, .int .i64 cl, .int .i64 sq, .int .i64 nm, .int .i64 vl], .int .i64 now] w fun e w' => e = .returned (.int .i64 11) ∧ Below w.heap.size w w' := by
  have htk := fun w => token_ok _ w ht
  have hck := fun w => Check_any ⟨1, cl, sq, nm, vl⟩ w
  rw [hc] at hck
  unfold tokV at htk
  unfold cmdV at hck
  dsimp only at htk hck
  have HTK := Lib.hid htk
  have HCK := Lib.hid hck
  have HN := Lib.hid hN
  clear htk hck ht hc hN
  have hnb : (tc != cl) = true := by simpa using hn
  clear hn
  go_enter Tryd.func24, Tryd.ntmps24
  go_wp2_with fail
  refine (HTK.out _).mono ?_
  rintro e w1 ⟨rfl, hb1⟩
  have s1 : w.heap.size + 2 ≤ w1.heap.size := by simpa using hb1.size
  have B1 := Lib.hid ((((Below.refl w.heap.size w).alloc (Nat.le_refl _) _).alloc (by simp) _).trans (hb1.mono (by simp; omega)))
  have X0 := Lib.hid ((hb1.block w.heap.size (by simp; omega)).trans (heapNew0 w _ _))
  have X1 := Lib.hid ((hb1.block (w.heap.size + 1) (by simp)).trans (heapNew1 w _ _))
  have c0 := cellAt X1.out 0 rfl
  have c1 := cellAt X1.out 1 rfl
  have c2 := cellAt X1.out 2 rfl
  have c3 := cellAt X1.out 3 rfl
  have c4 := cellAt X1.out 4 rfl
  clear hb1
  go_wp2_with fail
  refine (HCK.out _).mono ?_
  rintro e w2 ⟨rfl, hb2⟩
  have B2 := Lib.hid (B1.out.trans (hb2.mono (by omega)))
  have Y0 := Lib.hid ((hb2.block w.heap.size (by omega)).trans X0.out)
  have Y1 := Lib.hid ((hb2.block (w.heap.size + 1) (by omega)).trans X1.out)
  have d0 := cellAt Y1.out 0 rfl
  have d1 := cellAt Y1.out 1 rfl
  have t0 := cellAt Y0.out 0 rfl
  have t1 := cellAt Y0.out 1 rfl
  have t2 := cellAt Y0.out 2 rfl
  have n0 : w2.cell? ⟨0, 1, none⟩ = some (.int .i64 2) := (HN.out.stay B2.out) 1 (by decide)
  clear hb2 c0 c1 c2 c3 c4
  go_wp2
  go_ret
  exact ⟨rfl, B2.out⟩
set_option maxHeartbeats 1000000 in
theorem allows_b1 (tc tr tu cl sq nm vl now : Int) (w : World) (ht : (Tok.mk tc tr tu).Ok) (hc : checkC ⟨1, cl, sq, nm, vl⟩ = 0) (hN : Nd w) (hn : tc = cl) (hm : lacks tr 1 = true) :
    Calls Tryd.prog 24 #[.agg #[.int .i64 tc, .int .i64 tr, .int .i64 tu], .agg #[.int .i64 1, .int .i64 cl, .int .i64 sq, .int .i64 nm, .int .i64 vl], .int .i64 now] w fun e w' => e = .returned (.int .i64 11) ∧ Below w.heap.size w w' := by
  have htk := fun w => token_ok _ w ht
  have hck := fun w => Check_any ⟨1, cl, sq, nm, vl⟩ w
  rw [hc] at hck
  unfold tokV at htk
  unfold cmdV at hck
  dsimp only at htk hck
  have HTK := Lib.hid htk
  have HCK := Lib.hid hck
  have HN := Lib.hid hN
  clear htk hck ht hc hN
  have hm' : (bits .and .i64 tr 2 == 0) = true := hm
  clear hm
  subst hn
  go_enter Tryd.func24, Tryd.ntmps24
  go_wp2_with fail
  refine (HTK.out _).mono ?_
  rintro e w1 ⟨rfl, hb1⟩
  have s1 : w.heap.size + 2 ≤ w1.heap.size := by simpa using hb1.size
  have B1 := Lib.hid ((((Below.refl w.heap.size w).alloc (Nat.le_refl _) _).alloc (by simp) _).trans (hb1.mono (by simp; omega)))
  have X0 := Lib.hid ((hb1.block w.heap.size (by simp; omega)).trans (heapNew0 w _ _))
  have X1 := Lib.hid ((hb1.block (w.heap.size + 1) (by simp)).trans (heapNew1 w _ _))
  have c0 := cellAt X1.out 0 rfl
  have c1 := cellAt X1.out 1 rfl
  have c2 := cellAt X1.out 2 rfl
  have c3 := cellAt X1.out 3 rfl
  have c4 := cellAt X1.out 4 rfl
  clear hb1
  go_wp2_with fail
  refine (HCK.out _).mono ?_
  rintro e w2 ⟨rfl, hb2⟩
  have B2 := Lib.hid (B1.out.trans (hb2.mono (by omega)))
  have Y0 := Lib.hid ((hb2.block w.heap.size (by omega)).trans X0.out)
  have Y1 := Lib.hid ((hb2.block (w.heap.size + 1) (by omega)).trans X1.out)
  have d0 := cellAt Y1.out 0 rfl
  have d1 := cellAt Y1.out 1 rfl
  have t0 := cellAt Y0.out 0 rfl
  have t1 := cellAt Y0.out 1 rfl
  have t2 := cellAt Y0.out 2 rfl
  have n0 : w2.cell? ⟨0, 1, none⟩ = some (.int .i64 2) := (HN.out.stay B2.out) 1 (by decide)
  clear hb2 c0 c1 c2 c3 c4
  go_wp2
  go_ret
  exact ⟨rfl, B2.out⟩
set_option maxHeartbeats 1000000 in
theorem allows_c1 (tc tr tu cl sq nm vl now : Int) (w : World) (ht : (Tok.mk tc tr tu).Ok) (hc : checkC ⟨1, cl, sq, nm, vl⟩ = 0) (hN : Nd w) (hn : tc = cl) (hm : lacks tr 1 = false) (hw : now < 0) :
    Calls Tryd.prog 24 #[.agg #[.int .i64 tc, .int .i64 tr, .int .i64 tu], .agg #[.int .i64 1, .int .i64 cl, .int .i64 sq, .int .i64 nm, .int .i64 vl], .int .i64 now] w fun e w' => e = .returned (.int .i64 10) ∧ Below w.heap.size w w' := by
  have htk := fun w => token_ok _ w ht
  have hck := fun w => Check_any ⟨1, cl, sq, nm, vl⟩ w
  rw [hc] at hck
  unfold tokV at htk
  unfold cmdV at hck
  dsimp only at htk hck
  have HTK := Lib.hid htk
  have HCK := Lib.hid hck
  have HN := Lib.hid hN
  clear htk hck ht hc hN
  have hm' : (bits .and .i64 tr 2 == 0) = false := hm
  clear hm
  subst hn
  go_enter Tryd.func24, Tryd.ntmps24
  go_wp2_with fail
  refine (HTK.out _).mono ?_
  rintro e w1 ⟨rfl, hb1⟩
  have s1 : w.heap.size + 2 ≤ w1.heap.size := by simpa using hb1.size
  have B1 := Lib.hid ((((Below.refl w.heap.size w).alloc (Nat.le_refl _) _).alloc (by simp) _).trans (hb1.mono (by simp; omega)))
  have X0 := Lib.hid ((hb1.block w.heap.size (by simp; omega)).trans (heapNew0 w _ _))
  have X1 := Lib.hid ((hb1.block (w.heap.size + 1) (by simp)).trans (heapNew1 w _ _))
  have c0 := cellAt X1.out 0 rfl
  have c1 := cellAt X1.out 1 rfl
  have c2 := cellAt X1.out 2 rfl
  have c3 := cellAt X1.out 3 rfl
  have c4 := cellAt X1.out 4 rfl
  clear hb1
  go_wp2_with fail
  refine (HCK.out _).mono ?_
  rintro e w2 ⟨rfl, hb2⟩
  have B2 := Lib.hid (B1.out.trans (hb2.mono (by omega)))
  have Y0 := Lib.hid ((hb2.block w.heap.size (by omega)).trans X0.out)
  have Y1 := Lib.hid ((hb2.block (w.heap.size + 1) (by omega)).trans X1.out)
  have d0 := cellAt Y1.out 0 rfl
  have d1 := cellAt Y1.out 1 rfl
  have t0 := cellAt Y0.out 0 rfl
  have t1 := cellAt Y0.out 1 rfl
  have t2 := cellAt Y0.out 2 rfl
  have n0 : w2.cell? ⟨0, 1, none⟩ = some (.int .i64 2) := (HN.out.stay B2.out) 1 (by decide)
  clear hb2 c0 c1 c2 c3 c4
  go_wp2
  go_ret
  exact ⟨rfl, B2.out⟩
set_option maxHeartbeats 1000000 in
theorem allows_d1 (tc tr tu cl sq nm vl now : Int) (w : World) (ht : (Tok.mk tc tr tu).Ok) (hc : checkC ⟨1, cl, sq, nm, vl⟩ = 0) (hN : Nd w) (hn : tc = cl) (hm : lacks tr 1 = false) (hv : 0 ≤ now) (hw : tu < now) :
    Calls Tryd.prog 24 #[.agg #[.int .i64 tc, .int .i64 tr, .int .i64 tu], .agg #[.int .i64 1, .int .i64 cl, .int .i64 sq, .int .i64 nm, .int .i64 vl], .int .i64 now] w fun e w' => e = .returned (.int .i64 10) ∧ Below w.heap.size w w' := by
  have htk := fun w => token_ok _ w ht
  have hck := fun w => Check_any ⟨1, cl, sq, nm, vl⟩ w
  rw [hc] at hck
  unfold tokV at htk
  unfold cmdV at hck
  dsimp only at htk hck
  have HTK := Lib.hid htk
  have HCK := Lib.hid hck
  have HN := Lib.hid hN
  clear htk hck ht hc hN
  have hm' : (bits .and .i64 tr 2 == 0) = false := hm
  clear hm
  subst hn
  go_enter Tryd.func24, Tryd.ntmps24
  go_wp2_with fail
  refine (HTK.out _).mono ?_
  rintro e w1 ⟨rfl, hb1⟩
  have s1 : w.heap.size + 2 ≤ w1.heap.size := by simpa using hb1.size
  have B1 := Lib.hid ((((Below.refl w.heap.size w).alloc (Nat.le_refl _) _).alloc (by simp) _).trans (hb1.mono (by simp; omega)))
  have X0 := Lib.hid ((hb1.block w.heap.size (by simp; omega)).trans (heapNew0 w _ _))
  have X1 := Lib.hid ((hb1.block (w.heap.size + 1) (by simp)).trans (heapNew1 w _ _))
  have c0 := cellAt X1.out 0 rfl
  have c1 := cellAt X1.out 1 rfl
  have c2 := cellAt X1.out 2 rfl
  have c3 := cellAt X1.out 3 rfl
  have c4 := cellAt X1.out 4 rfl
  clear hb1
  go_wp2_with fail
  refine (HCK.out _).mono ?_
  rintro e w2 ⟨rfl, hb2⟩
  have B2 := Lib.hid (B1.out.trans (hb2.mono (by omega)))
  have Y0 := Lib.hid ((hb2.block w.heap.size (by omega)).trans X0.out)
  have Y1 := Lib.hid ((hb2.block (w.heap.size + 1) (by omega)).trans X1.out)
  have d0 := cellAt Y1.out 0 rfl
  have d1 := cellAt Y1.out 1 rfl
  have t0 := cellAt Y0.out 0 rfl
  have t1 := cellAt Y0.out 1 rfl
  have t2 := cellAt Y0.out 2 rfl
  have n0 : w2.cell? ⟨0, 1, none⟩ = some (.int .i64 2) := (HN.out.stay B2.out) 1 (by decide)
  clear hb2 c0 c1 c2 c3 c4
  go_wp2
  go_ret
  exact ⟨rfl, B2.out⟩
set_option maxHeartbeats 1000000 in
theorem allows_e1 (tc tr tu cl sq nm vl now : Int) (w : World) (ht : (Tok.mk tc tr tu).Ok) (hc : checkC ⟨1, cl, sq, nm, vl⟩ = 0) (hN : Nd w) (hn : tc = cl) (hm : lacks tr 1 = false) (hv : 0 ≤ now) (hw : now ≤ tu) :
    Calls Tryd.prog 24 #[.agg #[.int .i64 tc, .int .i64 tr, .int .i64 tu], .agg #[.int .i64 1, .int .i64 cl, .int .i64 sq, .int .i64 nm, .int .i64 vl], .int .i64 now] w fun e w' => e = .returned (.int .i64 0) ∧ Below w.heap.size w w' := by
  have htk := fun w => token_ok _ w ht
  have hck := fun w => Check_any ⟨1, cl, sq, nm, vl⟩ w
  rw [hc] at hck
  unfold tokV at htk
  unfold cmdV at hck
  dsimp only at htk hck
  have HTK := Lib.hid htk
  have HCK := Lib.hid hck
  have HN := Lib.hid hN
  clear htk hck ht hc hN
  have hm' : (bits .and .i64 tr 2 == 0) = false := hm
  clear hm
  subst hn
  go_enter Tryd.func24, Tryd.ntmps24
  go_wp2_with fail
  refine (HTK.out _).mono ?_
  rintro e w1 ⟨rfl, hb1⟩
  have s1 : w.heap.size + 2 ≤ w1.heap.size := by simpa using hb1.size
  have B1 := Lib.hid ((((Below.refl w.heap.size w).alloc (Nat.le_refl _) _).alloc (by simp) _).trans (hb1.mono (by simp; omega)))
  have X0 := Lib.hid ((hb1.block w.heap.size (by simp; omega)).trans (heapNew0 w _ _))
  have X1 := Lib.hid ((hb1.block (w.heap.size + 1) (by simp)).trans (heapNew1 w _ _))
  have c0 := cellAt X1.out 0 rfl
  have c1 := cellAt X1.out 1 rfl
  have c2 := cellAt X1.out 2 rfl
  have c3 := cellAt X1.out 3 rfl
  have c4 := cellAt X1.out 4 rfl
  clear hb1
  go_wp2_with fail
  refine (HCK.out _).mono ?_
  rintro e w2 ⟨rfl, hb2⟩
  have B2 := Lib.hid (B1.out.trans (hb2.mono (by omega)))
  have Y0 := Lib.hid ((hb2.block w.heap.size (by omega)).trans X0.out)
  have Y1 := Lib.hid ((hb2.block (w.heap.size + 1) (by omega)).trans X1.out)
  have d0 := cellAt Y1.out 0 rfl
  have d1 := cellAt Y1.out 1 rfl
  have t0 := cellAt Y0.out 0 rfl
  have t1 := cellAt Y0.out 1 rfl
  have t2 := cellAt Y0.out 2 rfl
  have n0 : w2.cell? ⟨0, 1, none⟩ = some (.int .i64 2) := (HN.out.stay B2.out) 1 (by decide)
  clear hb2 c0 c1 c2 c3 c4
  go_wp2
  go_ret
  exact ⟨rfl, B2.out⟩
set_option maxHeartbeats 1000000 in
theorem allows_a2 (tc tr tu cl sq nm vl now : Int) (w : World) (ht : (Tok.mk tc tr tu).Ok) (hc : checkC ⟨2, cl, sq, nm, vl⟩ = 0) (hN : Nd w) (hn : tc ≠ cl) :
    Calls Tryd.prog 24 #[.agg #[.int .i64 tc, .int .i64 tr, .int .i64 tu], .agg #[.int .i64 2, .int .i64 cl, .int .i64 sq, .int .i64 nm, .int .i64 vl], .int .i64 now] w fun e w' => e = .returned (.int .i64 11) ∧ Below w.heap.size w w' := by
  have htk := fun w => token_ok _ w ht
  have hck := fun w => Check_any ⟨2, cl, sq, nm, vl⟩ w
  rw [hc] at hck
  unfold tokV at htk
  unfold cmdV at hck
  dsimp only at htk hck
  have HTK := Lib.hid htk
  have HCK := Lib.hid hck
  have HN := Lib.hid hN
  clear htk hck ht hc hN
  have hnb : (tc != cl) = true := by simpa using hn
  clear hn
  go_enter Tryd.func24, Tryd.ntmps24
  go_wp2_with fail
  refine (HTK.out _).mono ?_
  rintro e w1 ⟨rfl, hb1⟩
  have s1 : w.heap.size + 2 ≤ w1.heap.size := by simpa using hb1.size
  have B1 := Lib.hid ((((Below.refl w.heap.size w).alloc (Nat.le_refl _) _).alloc (by simp) _).trans (hb1.mono (by simp; omega)))
  have X0 := Lib.hid ((hb1.block w.heap.size (by simp; omega)).trans (heapNew0 w _ _))
  have X1 := Lib.hid ((hb1.block (w.heap.size + 1) (by simp)).trans (heapNew1 w _ _))
  have c0 := cellAt X1.out 0 rfl
  have c1 := cellAt X1.out 1 rfl
  have c2 := cellAt X1.out 2 rfl
  have c3 := cellAt X1.out 3 rfl
  have c4 := cellAt X1.out 4 rfl
  clear hb1
  go_wp2_with fail
  refine (HCK.out _).mono ?_
  rintro e w2 ⟨rfl, hb2⟩
  have B2 := Lib.hid (B1.out.trans (hb2.mono (by omega)))
  have Y0 := Lib.hid ((hb2.block w.heap.size (by omega)).trans X0.out)
  have Y1 := Lib.hid ((hb2.block (w.heap.size + 1) (by omega)).trans X1.out)
  have d0 := cellAt Y1.out 0 rfl
  have d1 := cellAt Y1.out 1 rfl
  have t0 := cellAt Y0.out 0 rfl
  have t1 := cellAt Y0.out 1 rfl
  have t2 := cellAt Y0.out 2 rfl
  have n0 : w2.cell? ⟨0, 2, none⟩ = some (.int .i64 1) := (HN.out.stay B2.out) 2 (by decide)
  clear hb2 c0 c1 c2 c3 c4
  go_wp2
  go_ret
  exact ⟨rfl, B2.out⟩
set_option maxHeartbeats 1000000 in
theorem allows_b2 (tc tr tu cl sq nm vl now : Int) (w : World) (ht : (Tok.mk tc tr tu).Ok) (hc : checkC ⟨2, cl, sq, nm, vl⟩ = 0) (hN : Nd w) (hn : tc = cl) (hm : lacks tr 2 = true) :
    Calls Tryd.prog 24 #[.agg #[.int .i64 tc, .int .i64 tr, .int .i64 tu], .agg #[.int .i64 2, .int .i64 cl, .int .i64 sq, .int .i64 nm, .int .i64 vl], .int .i64 now] w fun e w' => e = .returned (.int .i64 11) ∧ Below w.heap.size w w' := by
  have htk := fun w => token_ok _ w ht
  have hck := fun w => Check_any ⟨2, cl, sq, nm, vl⟩ w
  rw [hc] at hck
  unfold tokV at htk
  unfold cmdV at hck
  dsimp only at htk hck
  have HTK := Lib.hid htk
  have HCK := Lib.hid hck
  have HN := Lib.hid hN
  clear htk hck ht hc hN
  have hm' : (bits .and .i64 tr 1 == 0) = true := hm
  clear hm
  subst hn
  go_enter Tryd.func24, Tryd.ntmps24
  go_wp2_with fail
  refine (HTK.out _).mono ?_
  rintro e w1 ⟨rfl, hb1⟩
  have s1 : w.heap.size + 2 ≤ w1.heap.size := by simpa using hb1.size
  have B1 := Lib.hid ((((Below.refl w.heap.size w).alloc (Nat.le_refl _) _).alloc (by simp) _).trans (hb1.mono (by simp; omega)))
  have X0 := Lib.hid ((hb1.block w.heap.size (by simp; omega)).trans (heapNew0 w _ _))
  have X1 := Lib.hid ((hb1.block (w.heap.size + 1) (by simp)).trans (heapNew1 w _ _))
  have c0 := cellAt X1.out 0 rfl
  have c1 := cellAt X1.out 1 rfl
  have c2 := cellAt X1.out 2 rfl
  have c3 := cellAt X1.out 3 rfl
  have c4 := cellAt X1.out 4 rfl
  clear hb1
  go_wp2_with fail
  refine (HCK.out _).mono ?_
  rintro e w2 ⟨rfl, hb2⟩
  have B2 := Lib.hid (B1.out.trans (hb2.mono (by omega)))
  have Y0 := Lib.hid ((hb2.block w.heap.size (by omega)).trans X0.out)
  have Y1 := Lib.hid ((hb2.block (w.heap.size + 1) (by omega)).trans X1.out)
  have d0 := cellAt Y1.out 0 rfl
  have d1 := cellAt Y1.out 1 rfl
  have t0 := cellAt Y0.out 0 rfl
  have t1 := cellAt Y0.out 1 rfl
  have t2 := cellAt Y0.out 2 rfl
  have n0 : w2.cell? ⟨0, 2, none⟩ = some (.int .i64 1) := (HN.out.stay B2.out) 2 (by decide)
  clear hb2 c0 c1 c2 c3 c4
  go_wp2
  go_ret
  exact ⟨rfl, B2.out⟩
set_option maxHeartbeats 1000000 in
theorem allows_c2 (tc tr tu cl sq nm vl now : Int) (w : World) (ht : (Tok.mk tc tr tu).Ok) (hc : checkC ⟨2, cl, sq, nm, vl⟩ = 0) (hN : Nd w) (hn : tc = cl) (hm : lacks tr 2 = false) (hw : now < 0) :
    Calls Tryd.prog 24 #[.agg #[.int .i64 tc, .int .i64 tr, .int .i64 tu], .agg #[.int .i64 2, .int .i64 cl, .int .i64 sq, .int .i64 nm, .int .i64 vl], .int .i64 now] w fun e w' => e = .returned (.int .i64 10) ∧ Below w.heap.size w w' := by
  have htk := fun w => token_ok _ w ht
  have hck := fun w => Check_any ⟨2, cl, sq, nm, vl⟩ w
  rw [hc] at hck
  unfold tokV at htk
  unfold cmdV at hck
  dsimp only at htk hck
  have HTK := Lib.hid htk
  have HCK := Lib.hid hck
  have HN := Lib.hid hN
  clear htk hck ht hc hN
  have hm' : (bits .and .i64 tr 1 == 0) = false := hm
  clear hm
  subst hn
  go_enter Tryd.func24, Tryd.ntmps24
  go_wp2_with fail
  refine (HTK.out _).mono ?_
  rintro e w1 ⟨rfl, hb1⟩
  have s1 : w.heap.size + 2 ≤ w1.heap.size := by simpa using hb1.size
  have B1 := Lib.hid ((((Below.refl w.heap.size w).alloc (Nat.le_refl _) _).alloc (by simp) _).trans (hb1.mono (by simp; omega)))
  have X0 := Lib.hid ((hb1.block w.heap.size (by simp; omega)).trans (heapNew0 w _ _))
  have X1 := Lib.hid ((hb1.block (w.heap.size + 1) (by simp)).trans (heapNew1 w _ _))
  have c0 := cellAt X1.out 0 rfl
  have c1 := cellAt X1.out 1 rfl
  have c2 := cellAt X1.out 2 rfl
  have c3 := cellAt X1.out 3 rfl
  have c4 := cellAt X1.out 4 rfl
  clear hb1
  go_wp2_with fail
  refine (HCK.out _).mono ?_
  rintro e w2 ⟨rfl, hb2⟩
  have B2 := Lib.hid (B1.out.trans (hb2.mono (by omega)))
  have Y0 := Lib.hid ((hb2.block w.heap.size (by omega)).trans X0.out)
  have Y1 := Lib.hid ((hb2.block (w.heap.size + 1) (by omega)).trans X1.out)
  have d0 := cellAt Y1.out 0 rfl
  have d1 := cellAt Y1.out 1 rfl
  have t0 := cellAt Y0.out 0 rfl
  have t1 := cellAt Y0.out 1 rfl
  have t2 := cellAt Y0.out 2 rfl
  have n0 : w2.cell? ⟨0, 2, none⟩ = some (.int .i64 1) := (HN.out.stay B2.out) 2 (by decide)
  clear hb2 c0 c1 c2 c3 c4
  go_wp2
  go_ret
  exact ⟨rfl, B2.out⟩
set_option maxHeartbeats 1000000 in
theorem allows_d2 (tc tr tu cl sq nm vl now : Int) (w : World) (ht : (Tok.mk tc tr tu).Ok) (hc : checkC ⟨2, cl, sq, nm, vl⟩ = 0) (hN : Nd w) (hn : tc = cl) (hm : lacks tr 2 = false) (hv : 0 ≤ now) (hw : tu < now) :
    Calls Tryd.prog 24 #[.agg #[.int .i64 tc, .int .i64 tr, .int .i64 tu], .agg #[.int .i64 2, .int .i64 cl, .int .i64 sq, .int .i64 nm, .int .i64 vl], .int .i64 now] w fun e w' => e = .returned (.int .i64 10) ∧ Below w.heap.size w w' := by
  have htk := fun w => token_ok _ w ht
  have hck := fun w => Check_any ⟨2, cl, sq, nm, vl⟩ w
  rw [hc] at hck
  unfold tokV at htk
  unfold cmdV at hck
  dsimp only at htk hck
  have HTK := Lib.hid htk
  have HCK := Lib.hid hck
  have HN := Lib.hid hN
  clear htk hck ht hc hN
  have hm' : (bits .and .i64 tr 1 == 0) = false := hm
  clear hm
  subst hn
  go_enter Tryd.func24, Tryd.ntmps24
  go_wp2_with fail
  refine (HTK.out _).mono ?_
  rintro e w1 ⟨rfl, hb1⟩
  have s1 : w.heap.size + 2 ≤ w1.heap.size := by simpa using hb1.size
  have B1 := Lib.hid ((((Below.refl w.heap.size w).alloc (Nat.le_refl _) _).alloc (by simp) _).trans (hb1.mono (by simp; omega)))
  have X0 := Lib.hid ((hb1.block w.heap.size (by simp; omega)).trans (heapNew0 w _ _))
  have X1 := Lib.hid ((hb1.block (w.heap.size + 1) (by simp)).trans (heapNew1 w _ _))
  have c0 := cellAt X1.out 0 rfl
  have c1 := cellAt X1.out 1 rfl
  have c2 := cellAt X1.out 2 rfl
  have c3 := cellAt X1.out 3 rfl
  have c4 := cellAt X1.out 4 rfl
  clear hb1
  go_wp2_with fail
  refine (HCK.out _).mono ?_
  rintro e w2 ⟨rfl, hb2⟩
  have B2 := Lib.hid (B1.out.trans (hb2.mono (by omega)))
  have Y0 := Lib.hid ((hb2.block w.heap.size (by omega)).trans X0.out)
  have Y1 := Lib.hid ((hb2.block (w.heap.size + 1) (by omega)).trans X1.out)
  have d0 := cellAt Y1.out 0 rfl
  have d1 := cellAt Y1.out 1 rfl
  have t0 := cellAt Y0.out 0 rfl
  have t1 := cellAt Y0.out 1 rfl
  have t2 := cellAt Y0.out 2 rfl
  have n0 : w2.cell? ⟨0, 2, none⟩ = some (.int .i64 1) := (HN.out.stay B2.out) 2 (by decide)
  clear hb2 c0 c1 c2 c3 c4
  go_wp2
  go_ret
  exact ⟨rfl, B2.out⟩
set_option maxHeartbeats 1000000 in
theorem allows_e2 (tc tr tu cl sq nm vl now : Int) (w : World) (ht : (Tok.mk tc tr tu).Ok) (hc : checkC ⟨2, cl, sq, nm, vl⟩ = 0) (hN : Nd w) (hn : tc = cl) (hm : lacks tr 2 = false) (hv : 0 ≤ now) (hw : now ≤ tu) :
    Calls Tryd.prog 24 #[.agg #[.int .i64 tc, .int .i64 tr, .int .i64 tu], .agg #[.int .i64 2, .int .i64 cl, .int .i64 sq, .int .i64 nm, .int .i64 vl], .int .i64 now] w fun e w' => e = .returned (.int .i64 0) ∧ Below w.heap.size w w' := by
  have htk := fun w => token_ok _ w ht
  have hck := fun w => Check_any ⟨2, cl, sq, nm, vl⟩ w
  rw [hc] at hck
  unfold tokV at htk
  unfold cmdV at hck
  dsimp only at htk hck
  have HTK := Lib.hid htk
  have HCK := Lib.hid hck
  have HN := Lib.hid hN
  clear htk hck ht hc hN
  have hm' : (bits .and .i64 tr 1 == 0) = false := hm
  clear hm
  subst hn
  go_enter Tryd.func24, Tryd.ntmps24
  go_wp2_with fail
  refine (HTK.out _).mono ?_
  rintro e w1 ⟨rfl, hb1⟩
  have s1 : w.heap.size + 2 ≤ w1.heap.size := by simpa using hb1.size
  have B1 := Lib.hid ((((Below.refl w.heap.size w).alloc (Nat.le_refl _) _).alloc (by simp) _).trans (hb1.mono (by simp; omega)))
  have X0 := Lib.hid ((hb1.block w.heap.size (by simp; omega)).trans (heapNew0 w _ _))
  have X1 := Lib.hid ((hb1.block (w.heap.size + 1) (by simp)).trans (heapNew1 w _ _))
  have c0 := cellAt X1.out 0 rfl
  have c1 := cellAt X1.out 1 rfl
  have c2 := cellAt X1.out 2 rfl
  have c3 := cellAt X1.out 3 rfl
  have c4 := cellAt X1.out 4 rfl
  clear hb1
  go_wp2_with fail
  refine (HCK.out _).mono ?_
  rintro e w2 ⟨rfl, hb2⟩
  have B2 := Lib.hid (B1.out.trans (hb2.mono (by omega)))
  have Y0 := Lib.hid ((hb2.block w.heap.size (by omega)).trans X0.out)
  have Y1 := Lib.hid ((hb2.block (w.heap.size + 1) (by omega)).trans X1.out)
  have d0 := cellAt Y1.out 0 rfl
  have d1 := cellAt Y1.out 1 rfl
  have t0 := cellAt Y0.out 0 rfl
  have t1 := cellAt Y0.out 1 rfl
  have t2 := cellAt Y0.out 2 rfl
  have n0 : w2.cell? ⟨0, 2, none⟩ = some (.int .i64 1) := (HN.out.stay B2.out) 2 (by decide)
  clear hb2 c0 c1 c2 c3 c4
  go_wp2
  go_ret
  exact ⟨rfl, B2.out⟩
set_option maxHeartbeats 1000000 in
theorem allows_a3 (tc tr tu cl sq nm vl now : Int) (w : World) (ht : (Tok.mk tc tr tu).Ok) (hc : checkC ⟨3, cl, sq, nm, vl⟩ = 0) (hN : Nd w) (hn : tc ≠ cl) :
    Calls Tryd.prog 24 #[.agg #[.int .i64 tc, .int .i64 tr, .int .i64 tu], .agg #[.int .i64 3, .int .i64 cl, .int .i64 sq, .int .i64 nm, .int .i64 vl], .int .i64 now] w fun e w' => e = .returned (.int .i64 11) ∧ Below w.heap.size w w' := by
  have htk := fun w => token_ok _ w ht
  have hck := fun w => Check_any ⟨3, cl, sq, nm, vl⟩ w
  rw [hc] at hck
  unfold tokV at htk
  unfold cmdV at hck
  dsimp only at htk hck
  have HTK := Lib.hid htk
  have HCK := Lib.hid hck
  have HN := Lib.hid hN
  clear htk hck ht hc hN
  have hnb : (tc != cl) = true := by simpa using hn
  clear hn
  go_enter Tryd.func24, Tryd.ntmps24
  go_wp2_with fail
  refine (HTK.out _).mono ?_
  rintro e w1 ⟨rfl, hb1⟩
  have s1 : w.heap.size + 2 ≤ w1.heap.size := by simpa using hb1.size
  have B1 := Lib.hid ((((Below.refl w.heap.size w).alloc (Nat.le_refl _) _).alloc (by simp) _).trans (hb1.mono (by simp; omega)))
  have X0 := Lib.hid ((hb1.block w.heap.size (by simp; omega)).trans (heapNew0 w _ _))
  have X1 := Lib.hid ((hb1.block (w.heap.size + 1) (by simp)).trans (heapNew1 w _ _))
  have c0 := cellAt X1.out 0 rfl
  have c1 := cellAt X1.out 1 rfl
  have c2 := cellAt X1.out 2 rfl
  have c3 := cellAt X1.out 3 rfl
  have c4 := cellAt X1.out 4 rfl
  clear hb1
  go_wp2_with fail
  refine (HCK.out _).mono ?_
  rintro e w2 ⟨rfl, hb2⟩
  have B2 := Lib.hid (B1.out.trans (hb2.mono (by omega)))
  have Y0 := Lib.hid ((hb2.block w.heap.size (by omega)).trans X0.out)
  have Y1 := Lib.hid ((hb2.block (w.heap.size + 1) (by omega)).trans X1.out)
  have d0 := cellAt Y1.out 0 rfl
  have d1 := cellAt Y1.out 1 rfl
  have t0 := cellAt Y0.out 0 rfl
  have t1 := cellAt Y0.out 1 rfl
  have t2 := cellAt Y0.out 2 rfl
  have n0 : w2.cell? ⟨0, 3, none⟩ = some (.int .i64 4) := (HN.out.stay B2.out) 3 (by decide)
  clear hb2 c0 c1 c2 c3 c4
  go_wp2
  go_ret
  exact ⟨rfl, B2.out⟩
set_option maxHeartbeats 1000000 in
theorem allows_b3 (tc tr tu cl sq nm vl now : Int) (w : World) (ht : (Tok.mk tc tr tu).Ok) (hc : checkC ⟨3, cl, sq, nm, vl⟩ = 0) (hN : Nd w) (hn : tc = cl) (hm : lacks tr 3 = true) :
    Calls Tryd.prog 24 #[.agg #[.int .i64 tc, .int .i64 tr, .int .i64 tu], .agg #[.int .i64 3, .int .i64 cl, .int .i64 sq, .int .i64 nm, .int .i64 vl], .int .i64 now] w fun e w' => e = .returned (.int .i64 11) ∧ Below w.heap.size w w' := by
  have htk := fun w => token_ok _ w ht
  have hck := fun w => Check_any ⟨3, cl, sq, nm, vl⟩ w
  rw [hc] at hck
  unfold tokV at htk
  unfold cmdV at hck
  dsimp only at htk hck
  have HTK := Lib.hid htk
  have HCK := Lib.hid hck
  have HN := Lib.hid hN
  clear htk hck ht hc hN
  have hm' : (bits .and .i64 tr 4 == 0) = true := hm
  clear hm
  subst hn
  go_enter Tryd.func24, Tryd.ntmps24
  go_wp2_with fail
  refine (HTK.out _).mono ?_
  rintro e w1 ⟨rfl, hb1⟩
  have s1 : w.heap.size + 2 ≤ w1.heap.size := by simpa using hb1.size
  have B1 := Lib.hid ((((Below.refl w.heap.size w).alloc (Nat.le_refl _) _).alloc (by simp) _).trans (hb1.mono (by simp; omega)))
  have X0 := Lib.hid ((hb1.block w.heap.size (by simp; omega)).trans (heapNew0 w _ _))
  have X1 := Lib.hid ((hb1.block (w.heap.size + 1) (by simp)).trans (heapNew1 w _ _))
  have c0 := cellAt X1.out 0 rfl
  have c1 := cellAt X1.out 1 rfl
  have c2 := cellAt X1.out 2 rfl
  have c3 := cellAt X1.out 3 rfl
  have c4 := cellAt X1.out 4 rfl
  clear hb1
  go_wp2_with fail
  refine (HCK.out _).mono ?_
  rintro e w2 ⟨rfl, hb2⟩
  have B2 := Lib.hid (B1.out.trans (hb2.mono (by omega)))
  have Y0 := Lib.hid ((hb2.block w.heap.size (by omega)).trans X0.out)
  have Y1 := Lib.hid ((hb2.block (w.heap.size + 1) (by omega)).trans X1.out)
  have d0 := cellAt Y1.out 0 rfl
  have d1 := cellAt Y1.out 1 rfl
  have t0 := cellAt Y0.out 0 rfl
  have t1 := cellAt Y0.out 1 rfl
  have t2 := cellAt Y0.out 2 rfl
  have n0 : w2.cell? ⟨0, 3, none⟩ = some (.int .i64 4) := (HN.out.stay B2.out) 3 (by decide)
  clear hb2 c0 c1 c2 c3 c4
  go_wp2
  go_ret
  exact ⟨rfl, B2.out⟩
set_option maxHeartbeats 1000000 in
theorem allows_c3 (tc tr tu cl sq nm vl now : Int) (w : World) (ht : (Tok.mk tc tr tu).Ok) (hc : checkC ⟨3, cl, sq, nm, vl⟩ = 0) (hN : Nd w) (hn : tc = cl) (hm : lacks tr 3 = false) (hw : now < 0) :
    Calls Tryd.prog 24 #[.agg #[.int .i64 tc, .int .i64 tr, .int .i64 tu], .agg #[.int .i64 3, .int .i64 cl, .int .i64 sq, .int .i64 nm, .int .i64 vl], .int .i64 now] w fun e w' => e = .returned (.int .i64 10) ∧ Below w.heap.size w w' := by
  have htk := fun w => token_ok _ w ht
  have hck := fun w => Check_any ⟨3, cl, sq, nm, vl⟩ w
  rw [hc] at hck
  unfold tokV at htk
  unfold cmdV at hck
  dsimp only at htk hck
  have HTK := Lib.hid htk
  have HCK := Lib.hid hck
  have HN := Lib.hid hN
  clear htk hck ht hc hN
  have hm' : (bits .and .i64 tr 4 == 0) = false := hm
  clear hm
  subst hn
  go_enter Tryd.func24, Tryd.ntmps24
  go_wp2_with fail
  refine (HTK.out _).mono ?_
  rintro e w1 ⟨rfl, hb1⟩
  have s1 : w.heap.size + 2 ≤ w1.heap.size := by simpa using hb1.size
  have B1 := Lib.hid ((((Below.refl w.heap.size w).alloc (Nat.le_refl _) _).alloc (by simp) _).trans (hb1.mono (by simp; omega)))
  have X0 := Lib.hid ((hb1.block w.heap.size (by simp; omega)).trans (heapNew0 w _ _))
  have X1 := Lib.hid ((hb1.block (w.heap.size + 1) (by simp)).trans (heapNew1 w _ _))
  have c0 := cellAt X1.out 0 rfl
  have c1 := cellAt X1.out 1 rfl
  have c2 := cellAt X1.out 2 rfl
  have c3 := cellAt X1.out 3 rfl
  have c4 := cellAt X1.out 4 rfl
  clear hb1
  go_wp2_with fail
  refine (HCK.out _).mono ?_
  rintro e w2 ⟨rfl, hb2⟩
  have B2 := Lib.hid (B1.out.trans (hb2.mono (by omega)))
  have Y0 := Lib.hid ((hb2.block w.heap.size (by omega)).trans X0.out)
  have Y1 := Lib.hid ((hb2.block (w.heap.size + 1) (by omega)).trans X1.out)
  have d0 := cellAt Y1.out 0 rfl
  have d1 := cellAt Y1.out 1 rfl
  have t0 := cellAt Y0.out 0 rfl
  have t1 := cellAt Y0.out 1 rfl
  have t2 := cellAt Y0.out 2 rfl
  have n0 : w2.cell? ⟨0, 3, none⟩ = some (.int .i64 4) := (HN.out.stay B2.out) 3 (by decide)
  clear hb2 c0 c1 c2 c3 c4
  go_wp2
  go_ret
  exact ⟨rfl, B2.out⟩
set_option maxHeartbeats 1000000 in
theorem allows_d3 (tc tr tu cl sq nm vl now : Int) (w : World) (ht : (Tok.mk tc tr tu).Ok) (hc : checkC ⟨3, cl, sq, nm, vl⟩ = 0) (hN : Nd w) (hn : tc = cl) (hm : lacks tr 3 = false) (hv : 0 ≤ now) (hw : tu < now) :
    Calls Tryd.prog 24 #[.agg #[.int .i64 tc, .int .i64 tr, .int .i64 tu], .agg #[.int .i64 3, .int .i64 cl, .int .i64 sq, .int .i64 nm, .int .i64 vl], .int .i64 now] w fun e w' => e = .returned (.int .i64 10) ∧ Below w.heap.size w w' := by
  have htk := fun w => token_ok _ w ht
  have hck := fun w => Check_any ⟨3, cl, sq, nm, vl⟩ w
  rw [hc] at hck
  unfold tokV at htk
  unfold cmdV at hck
  dsimp only at htk hck
  have HTK := Lib.hid htk
  have HCK := Lib.hid hck
  have HN := Lib.hid hN
  clear htk hck ht hc hN
  have hm' : (bits .and .i64 tr 4 == 0) = false := hm
  clear hm
  subst hn
  go_enter Tryd.func24, Tryd.ntmps24
  go_wp2_with fail
  refine (HTK.out _).mono ?_
  rintro e w1 ⟨rfl, hb1⟩
  have s1 : w.heap.size + 2 ≤ w1.heap.size := by simpa using hb1.size
  have B1 := Lib.hid ((((Below.refl w.heap.size w).alloc (Nat.le_refl _) _).alloc (by simp) _).trans (hb1.mono (by simp; omega)))
  have X0 := Lib.hid ((hb1.block w.heap.size (by simp; omega)).trans (heapNew0 w _ _))
  have X1 := Lib.hid ((hb1.block (w.heap.size + 1) (by simp)).trans (heapNew1 w _ _))
  have c0 := cellAt X1.out 0 rfl
  have c1 := cellAt X1.out 1 rfl
  have c2 := cellAt X1.out 2 rfl
  have c3 := cellAt X1.out 3 rfl
  have c4 := cellAt X1.out 4 rfl
  clear hb1
  go_wp2_with fail
  refine (HCK.out _).mono ?_
  rintro e w2 ⟨rfl, hb2⟩
  have B2 := Lib.hid (B1.out.trans (hb2.mono (by omega)))
  have Y0 := Lib.hid ((hb2.block w.heap.size (by omega)).trans X0.out)
  have Y1 := Lib.hid ((hb2.block (w.heap.size + 1) (by omega)).trans X1.out)
  have d0 := cellAt Y1.out 0 rfl
  have d1 := cellAt Y1.out 1 rfl
  have t0 := cellAt Y0.out 0 rfl
  have t1 := cellAt Y0.out 1 rfl
  have t2 := cellAt Y0.out 2 rfl
  have n0 : w2.cell? ⟨0, 3, none⟩ = some (.int .i64 4) := (HN.out.stay B2.out) 3 (by decide)
  clear hb2 c0 c1 c2 c3 c4
  go_wp2
  go_ret
  exact ⟨rfl, B2.out⟩
set_option maxHeartbeats 1000000 in
theorem allows_e3 (tc tr tu cl sq nm vl now : Int) (w : World) (ht : (Tok.mk tc tr tu).Ok) (hc : checkC ⟨3, cl, sq, nm, vl⟩ = 0) (hN : Nd w) (hn : tc = cl) (hm : lacks tr 3 = false) (hv : 0 ≤ now) (hw : now ≤ tu) :
    Calls Tryd.prog 24 #[.agg #[.int .i64 tc, .int .i64 tr, .int .i64 tu], .agg #[.int .i64 3, .int .i64 cl, .int .i64 sq, .int .i64 nm, .int .i64 vl], .int .i64 now] w fun e w' => e = .returned (.int .i64 0) ∧ Below w.heap.size w w' := by
  have htk := fun w => token_ok _ w ht
  have hck := fun w => Check_any ⟨3, cl, sq, nm, vl⟩ w
  rw [hc] at hck
  unfold tokV at htk
  unfold cmdV at hck
  dsimp only at htk hck
  have HTK := Lib.hid htk
  have HCK := Lib.hid hck
  have HN := Lib.hid hN
  clear htk hck ht hc hN
  have hm' : (bits .and .i64 tr 4 == 0) = false := hm
  clear hm
  subst hn
  go_enter Tryd.func24, Tryd.ntmps24
  go_wp2_with fail
  refine (HTK.out _).mono ?_
  rintro e w1 ⟨rfl, hb1⟩
  have s1 : w.heap.size + 2 ≤ w1.heap.size := by simpa using hb1.size
  have B1 := Lib.hid ((((Below.refl w.heap.size w).alloc (Nat.le_refl _) _).alloc (by simp) _).trans (hb1.mono (by simp; omega)))
  have X0 := Lib.hid ((hb1.block w.heap.size (by simp; omega)).trans (heapNew0 w _ _))
  have X1 := Lib.hid ((hb1.block (w.heap.size + 1) (by simp)).trans (heapNew1 w _ _))
  have c0 := cellAt X1.out 0 rfl
  have c1 := cellAt X1.out 1 rfl
  have c2 := cellAt X1.out 2 rfl
  have c3 := cellAt X1.out 3 rfl
  have c4 := cellAt X1.out 4 rfl
  clear hb1
  go_wp2_with fail
  refine (HCK.out _).mono ?_
  rintro e w2 ⟨rfl, hb2⟩
  have B2 := Lib.hid (B1.out.trans (hb2.mono (by omega)))
  have Y0 := Lib.hid ((hb2.block w.heap.size (by omega)).trans X0.out)
  have Y1 := Lib.hid ((hb2.block (w.heap.size + 1) (by omega)).trans X1.out)
  have d0 := cellAt Y1.out 0 rfl
  have d1 := cellAt Y1.out 1 rfl
  have t0 := cellAt Y0.out 0 rfl
  have t1 := cellAt Y0.out 1 rfl
  have t2 := cellAt Y0.out 2 rfl
  have n0 : w2.cell? ⟨0, 3, none⟩ = some (.int .i64 4) := (HN.out.stay B2.out) 3 (by decide)
  clear hb2 c0 c1 c2 c3 c4
  go_wp2
  go_ret
  exact ⟨rfl, B2.out⟩
theorem Allows_any (t : Tok) (c : Cmd) (now : Int) (w : World) (ht : t.Ok) (hc : checkC c = 0) (hN : Nd w) :
    Calls Tryd.prog 24 #[tokV t, cmdV c, .int .i64 now] w fun e w' => e = .returned (.int .i64 (allowC t c now)) ∧ Below w.heap.size w w' := by
  obtain ⟨k, cl, sq, nm, vl⟩ := c
  obtain ⟨tc, tr, tu⟩ := t
  have hk : k = 0 ∨ k = 1 ∨ k = 2 ∨ k = 3 := by
    unfold checkC at hc
    dsimp only at hc
    by_cases h0 : k = 0
    · exact Or.inl h0
    · rw [if_neg h0] at hc
      by_cases h1 : 1 ≤ k ∧ k ≤ 3
      · omega
      · rw [if_neg h1] at hc; exact absurd hc (by decide)
  unfold allowC
  dsimp only
  by_cases h0 : k = 0
  · subst h0
    rw [if_pos (Or.inl rfl)]
    exact allows_z tc tr tu cl sq nm vl now w ht hc hN
  by_cases hn : tc = cl
  · by_cases hm : lacks tr k = true
    · rw [if_pos (Or.inr (Or.inr hm))]
      rcases hk with rfl | rfl | rfl | rfl
      · exact absurd rfl h0
      · exact allows_b1 tc tr tu cl sq nm vl now w ht hc hN hn hm
      · exact allows_b2 tc tr tu cl sq nm vl now w ht hc hN hn hm
      · exact allows_b3 tc tr tu cl sq nm vl now w ht hc hN hn hm
    · rw [if_neg (by intro h; rcases h with h | h | h <;> first | exact h0 h | exact h hn | exact hm h)]
      have hm' : lacks tr k = false := by simpa using hm
      by_cases hw : now < 0
      · rw [if_pos (Or.inl hw)]
        rcases hk with rfl | rfl | rfl | rfl
        · exact absurd rfl h0
        · exact allows_c1 tc tr tu cl sq nm vl now w ht hc hN hn hm' hw
        · exact allows_c2 tc tr tu cl sq nm vl now w ht hc hN hn hm' hw
        · exact allows_c3 tc tr tu cl sq nm vl now w ht hc hN hn hm' hw
      · by_cases hv : tu < now
        · rw [if_pos (Or.inr hv)]
          rcases hk with rfl | rfl | rfl | rfl
          · exact absurd rfl h0
          · exact allows_d1 tc tr tu cl sq nm vl now w ht hc hN hn hm' (by omega) hv
          · exact allows_d2 tc tr tu cl sq nm vl now w ht hc hN hn hm' (by omega) hv
          · exact allows_d3 tc tr tu cl sq nm vl now w ht hc hN hn hm' (by omega) hv
        · rw [if_neg (by omega)]
          rcases hk with rfl | rfl | rfl | rfl
          · exact absurd rfl h0
          · exact allows_e1 tc tr tu cl sq nm vl now w ht hc hN hn hm' (by omega) (by omega)
          · exact allows_e2 tc tr tu cl sq nm vl now w ht hc hN hn hm' (by omega) (by omega)
          · exact allows_e3 tc tr tu cl sq nm vl now w ht hc hN hn hm' (by omega) (by omega)
  · rw [if_pos (Or.inr (Or.inl hn))]
    rcases hk with rfl | rfl | rfl | rfl
    · exact absurd rfl h0
    · exact allows_a1 tc tr tu cl sq nm vl now w ht hc hN hn
    · exact allows_a2 tc tr tu cl sq nm vl now w ht hc hN hn
    · exact allows_a3 tc tr tu cl sq nm vl now w ht hc hN hn
end Go.Proofs.YtdjnbnbhpjiicaaDoor
