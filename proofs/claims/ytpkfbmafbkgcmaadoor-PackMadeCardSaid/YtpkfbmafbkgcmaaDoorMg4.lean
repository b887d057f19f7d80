/-
  Texts put together: Alw, OrdE, ShaSame, SameK, Tail.
-/
import Derived.Test.YtpkfbmafbkgcmaaDoorMg3
import Derived.Test.YtpkfbmafbkgcmaaDoorMg2
namespace Go.Con
open Go
/-- a token; and what a pass is made of -/
structure Tok where
  client : Int
  rights : Int
  til : Int
  deriving DecidableEq
def Tok.zero : Tok := ⟨0, 0, 0⟩
def tokV (t : Tok) : Value := .agg #[.int .i64 t.client, .int .i64 t.rights, .int .i64 t.til]
structure Tok.Ok (t : Tok) : Prop where
  c0 : 0 ≤ t.client
  c1 : t.client ≤ 7
  r0 : 0 ≤ t.rights
  r1 : t.rights ≤ 7
  u0 : 0 ≤ t.til
  u1 : t.til ≤ 1048576
def tokB (t : Tok) : Bool := decide (0 ≤ t.client ∧ t.client ≤ 7 ∧ 0 ≤ t.rights ∧ t.rights ≤ 7 ∧ 0 ≤ t.til ∧ t.til ≤ 1048576)
theorem tokB_ok {t : Tok} (h : tokB t = true) : t.Ok := by
  unfold tokB at h
  rw [decide_eq_true_eq] at h
  exact ⟨h.1, h.2.1, h.2.2.1, h.2.2.2.1, h.2.2.2.2.1, h.2.2.2.2.2⟩
/-- what a kind asks for -/
def needK (k : Int) : Int := if k = 1 then 2 else if k = 2 then 1 else if k = 3 then 4 else 0
/-- of these rights none is what a kind asks for -/
def lacks (r k : Int) : Bool := bits .and .i64 r (needK k) == 0
def allowC (t : Tok) (c : Cmd) (now : Int) : Int :=
  if c.kind = 0 ∨ t.client ≠ c.client ∨ lacks t.rights c.kind = true then 11 else if now < 0 ∨ t.til < now then 10 else 0
end Go.Con
namespace Go.Proofs.YtpkfbmafbkgcmaaDoor
open Go.RowKit Go.Con

set_option maxHeartbeats 400000 in
theorem token_a (cl r u : Int) (w : World) (h : cl < 0 ∨ 7 < cl) :
    Calls Tryd.prog 21 #[.agg #[.int .i64 cl, .int .i64 r, .int .i64 u]] w fun e w' => e = .returned (.int .i64 2) ∧ Below w.heap.size w w' := by
  go_enter Tryd.func21, Tryd.ntmps21
  go_wp2_with (go_at_call 36; first | (refine (within_true _ _ _ _ (by omega) (by omega)).mono ?_; rintro e w' ⟨rfl, rfl⟩) | (refine (within_false _ _ _ _ (by omega)).mono ?_; rintro e w' ⟨rfl, rfl⟩))
  go_ret
  exact ⟨rfl, (Below.refl _ _).alloc (Nat.le_refl _) _⟩
set_option maxHeartbeats 400000 in
theorem token_b (cl r u : Int) (w : World) (c0 : 0 ≤ cl) (c1 : cl ≤ 7) (h : r < 0 ∨ 7 < r) :
    Calls Tryd.prog 21 #[.agg #[.int .i64 cl, .int .i64 r, .int .i64 u]] w fun e w' => e = .returned (.int .i64 2) ∧ Below w.heap.size w w' := by
  go_enter Tryd.func21, Tryd.ntmps21
  go_wp2_with (go_at_call 36; first | (refine (within_true _ _ _ _ (by omega) (by omega)).mono ?_; rintro e w' ⟨rfl, rfl⟩) | (refine (within_false _ _ _ _ (by omega)).mono ?_; rintro e w' ⟨rfl, rfl⟩))
  go_ret
  exact ⟨rfl, (Below.refl _ _).alloc (Nat.le_refl _) _⟩
set_option maxHeartbeats 400000 in
theorem token_c (cl r u : Int) (w : World) (c0 : 0 ≤ cl) (c1 : cl ≤ 7) (r0 : 0 ≤ r) (r1 : r ≤ 7) (h : u < 0 ∨ 1048576 < u) :
    Calls Tryd.prog 21 #[.agg #[.int .i64 cl, .int .i64 r, .int .i64 u]] w fun e w' => e = .returned (.int .i64 2) ∧ Below w.heap.size w w' := by
  go_enter Tryd.func21, Tryd.ntmps21
  go_wp2_with (go_at_call 36; first | (refine (within_true _ _ _ _ (by omega) (by omega)).mono ?_; rintro e w' ⟨rfl, rfl⟩) | (refine (within_false _ _ _ _ (by omega)).mono ?_; rintro e w' ⟨rfl, rfl⟩))
  go_ret
  exact ⟨rfl, (Below.refl _ _).alloc (Nat.le_refl _) _⟩
set_option maxHeartbeats 400000 in
theorem token_d (cl r u : Int) (w : World) (c0 : 0 ≤ cl) (c1 : cl ≤ 7) (r0 : 0 ≤ r) (r1 : r ≤ 7) (u0 : 0 ≤ u) (u1 : u ≤ 1048576) :
    Calls Tryd.prog 21 #[.agg #[.int .i64 cl, .int .i64 r, .int .i64 u]] w fun e w' => e = .returned (.int .i64 0) ∧ Below w.heap.size w w' := by
  go_enter Tryd.func21, Tryd.ntmps21
  go_wp2_with (go_at_call 36; first | (refine (within_true _ _ _ _ (by omega) (by omega)).mono ?_; rintro e w' ⟨rfl, rfl⟩) | (refine (within_false _ _ _ _ (by omega)).mono ?_; rintro e w' ⟨rfl, rfl⟩))
  go_ret
  exact ⟨rfl, (Below.refl _ _).alloc (Nat.le_refl _) _⟩
theorem token_ok (t : Tok) (w : World) (h : t.Ok) :
    Calls Tryd.prog 21 #[tokV t] w fun e w' => e = .returned (.int .i64 0) ∧ Below w.heap.size w w' :=
  token_d _ _ _ w h.c0 h.c1 h.r0 h.r1 h.u0 h.u1
theorem token_any (t : Tok) (w : World) :
    Calls Tryd.prog 21 #[tokV t] w fun e w' => e = .returned (.int .i64 (if tokB t = true then 0 else 2)) ∧ Below w.heap.size w w' := by
  by_cases h : tokB t = true
  · rw [if_pos h]; exact token_ok t w (tokB_ok h)
  · rw [if_neg h]
    have h' : ¬ (0 ≤ t.client ∧ t.client ≤ 7 ∧ 0 ≤ t.rights ∧ t.rights ≤ 7 ∧ 0 ≤ t.til ∧ t.til ≤ 1048576) := fun k => h (decide_eq_true k)
    by_cases hc : t.client < 0 ∨ 7 < t.client
    · exact token_a _ _ _ w hc
    · by_cases hr : t.rights < 0 ∨ 7 < t.rights
      · exact token_b _ _ _ w (by omega) (by omega) hr
      · exact token_c _ _ _ w (by omega) (by omega) (by omega) (by omega) (by omega)
/-- The table of what each kind asks for. -/
def Nd (w : World) : Prop := ∀ i, i < 4 → w.cell? ⟨0, i, none⟩ = some (.int .i64 (needK i))
theorem Nd.lt {w : World} (h : Nd w) : 0 < w.heap.size := World.block_lt_of_cell? w _ (h 0 (by decide))
theorem Nd.stay {w w' : World} (h : Nd w) (hb : Below w.heap.size w w') : Nd w' := fun i hi => (hb.cell (p := ⟨0, i, none⟩) h.lt).trans (h i hi)

set_option maxHeartbeats 1000000 in
theorem allows_z (tc tr tu cl sq nm vl now : Int) (w : World) (ht : (Tok.mk tc tr tu).Ok) (hc : checkC ⟨0, cl, sq, nm, vl⟩ = 0) (hN : Nd w) :
    Calls Tryd.prog 19 #[.agg #[.int .i64 tc, .int .i64 tr, .int .i64 tu], .agg #[.int .i64 0, .int .i64 cl, .int .i64 sq, .int .i64 nm, .int .i64 vl], .int .i64 now] w fun e w' => e = .returned (.int .i64 11) ∧ Below w.heap.size w w' := by
  have htk := fun w => token_ok _ w ht
  have hck := fun w => Check_any ⟨0, cl, sq, nm, vl⟩ w
  rw [hc] at hck
  unfold tokV at htk
  unfold cmdV at hck
  dsimp only at htk hck
  have HTK := Lib.hid htk
  have HCK := Lib.hid hck
  have HN := Lib.hid hN
  clear htk hck ht hc hN
  go_enter Tryd.func19, Tryd.ntmps19
  go_wp2_with fail
  refine (HTK.out _).mono ?_
  rintro e w1 ⟨rfl, hb1⟩
  have s1 : w.heap.size + 2 ≤ w1.heap.size := by simpa using hb1.size
  have B1 := Lib.hid ((((Below.refl w.heap.size w).alloc (Nat.le_refl _) _).alloc (by simp) _).trans (hb1.mono (by simp; omega)))
  have X0 := Lib.hid ((hb1.block w.heap.size (by simp; omega)).trans (heapNew0 w _ _))
  have X1 := Lib.hid ((hb1.block (w.heap.size + 1) (by simp)).trans (heapNew1 w _ _))
  have c0 := cellAt X1.out 0 rfl
  have c1 := cellAt X1.out 1 rfl
  have c2 := cellAt X1.out 2 rfl
  have c3 := cellAt X1.out 3 rfl
  have c4 := cellAt X1.out 4 rfl
  clear hb1
  go_wp2_with fail
  refine (HCK.out _).mono ?_
  rintro e w2 ⟨rfl, hb2⟩
  have B2 := Lib.hid (B1.out.trans (hb2.mono (by omega)))
  have Y0 := Lib.hid ((hb2.block w.heap.size (by omega)).trans X0.out)
  have Y1 := Lib.hid ((hb2.block (w.heap.size + 1) (by omega)).trans X1.out)
  have d0 := cellAt Y1.out 0 rfl
  have d1 := cellAt Y1.out 1 rfl
  have t0 := cellAt Y0.out 0 rfl
  have t1 := cellAt Y0.out 1 rfl
  have t2 := cellAt Y0.out 2 rfl
  have n0 : w2.cell? ⟨0, 0, none⟩ = some (.int .i64 0) := (HN.out.stay B2.out) 0 (by decide)
  clear hb2 c0 c1 c2 c3 c4
  go_wp2
  go_ret
  exact ⟨rfl, B2.out⟩
set_option maxHeartbeats 1000000 in
theorem allows_a1 (tc tr tu cl sq nm vl now : Int) (w : World) (ht : (Tok.mk tc tr tu).Ok) (hc : checkC ⟨1, cl, sq, nm, vl⟩ = 0) (hN : Nd w) (hn : tc ≠ cl) :
    Calls Tryd.prog 19 #[.agg #[.int .i64 tc, .int .i64 tr, .int .i64 tu], .agg #[.int .i64 1, .int .i64 cl, .int .i64 sq, .int .i64 nm, .int .i64 vl], .int .i64 now] w fun e w' => e = .returned (.int .i64 11) ∧ Below w.heap.size w w' := by
  have htk := fun w => token_ok _ w ht
  have hck := fun w => Check_any ⟨1, cl, sq, nm, vl⟩ w
  rw [hc] at hck
  unfold tokV at htk
  unfold cmdV at hck
  dsimp only at htk hck
  have HTK := Lib.hid htk
  have HCK := Lib.hid hck
  have HN := Lib.hid hN
  clear htk hck ht hc hN
  have hnb : (tc != cl) = true := by simpa using hn
  clear hn
  go_enter Tryd.func19, Tryd.ntmps19
  go_wp2_with fail
  refine (HTK.out _).mono ?_
  rintro e w1 ⟨rfl, hb1⟩
  have s1 : w.heap.size + 2 ≤ w1.heap.size := by simpa using hb1.size
  have B1 := Lib.hid ((((Below.refl w.heap.size w).alloc (Nat.le_refl _) _).alloc (by simp) _).trans (hb1.mono (by simp; omega)))
  have X0 := Lib.hid ((hb1.block w.heap.size (by simp; omega)).trans (heapNew0 w _ _))
  have X1 := Lib.hid ((hb1.block (w.heap.size + 1) (by simp)).trans (heapNew1 w _ _))
  have c0 := cellAt X1.out 0 rfl
  have c1 := cellAt X1.out 1 rfl
  have c2 := cellAt X1.out 2 rfl
  have c3 := cellAt X1.out 3 rfl
  have c4 := cellAt X1.out 4 rfl
  clear hb1
  go_wp2_with fail
  refine (HCK.out _).mono ?_
  rintro e w2 ⟨rfl, hb2⟩
  have B2 := Lib.hid (B1.out.trans (hb2.mono (by omega)))
  have Y0 := Lib.hid ((hb2.block w.heap.size (by omega)).trans X0.out)
  have Y1 := Lib.hid ((hb2.block (w.heap.size + 1) (by omega)).trans X1.out)
  have d0 := cellAt Y1.out 0 rfl
  have d1 := cellAt Y1.out 1 rfl
  have t0 := cellAt Y0.out 0 rfl
  have t1 := cellAt Y0.out 1 rfl
  have t2 := cellAt Y0.out 2 rfl
  have n0 : w2.cell? ⟨0, 1, none⟩ = some (.int .i64 2) := (HN.out.stay B2.out) 1 (by decide)
  clear hb2 c0 c1 c2 c3 c4
  go_wp2
  go_ret
  exact ⟨rfl, B2.out⟩
set_option maxHeartbeats 1000000 in
theorem allows_b1 (tc tr tu cl sq nm vl now : Int) (w : World) (ht : (Tok.mk tc tr tu).Ok) (hc : checkC ⟨1, cl, sq, nm, vl⟩ = 0) (hN : Nd w) (hn : tc = cl) (hm : lacks tr 1 = true) :
    Calls Tryd.prog 19 #[.agg #[.int .i64 tc, .int .i64 tr, .int .i64 tu], .agg #[.int .i64 1, .int .i64 cl, .int .i64 sq, .int .i64 nm, .int .i64 vl], .int .i64 now] w fun e w' => e = .returned (.int .i64 11) ∧ Below w.heap.size w w' := by
  have htk := fun w => token_ok _ w ht
  have hck := fun w => Check_any ⟨1, cl, sq, nm, vl⟩ w
  rw [hc] at hck
  unfold tokV at htk
  unfold cmdV at hck
  dsimp only at htk hck
  have HTK := Lib.hid htk
  have HCK := Lib.hid hck
  have HN := Lib.hid hN
  clear htk hck ht hc hN
  have hm' : (bits .and .i64 tr 2 == 0) = true := hm
  clear hm
  subst hn
  go_enter Tryd.func19, Tryd.ntmps19
  go_wp2_with fail
  refine (HTK.out _).mono ?_
  rintro e w1 ⟨rfl, hb1⟩
  have s1 : w.heap.size + 2 ≤ w1.heap.size := by simpa using hb1.size
  have B1 := Lib.hid ((((Below.refl w.heap.size w).alloc (Nat.le_refl _) _).alloc (by simp) _).trans (hb1.mono (by simp; omega)))
  have X0 := Lib.hid ((hb1.block w.heap.size (by simp; omega)).trans (heapNew0 w _ _))
  have X1 := Lib.hid ((hb1.block (w.heap.size + 1) (by simp)).trans (heapNew1 w _ _))
  have c0 := cellAt X1.out 0 rfl
  have c1 := cellAt X1.out 1 rfl
  have c2 := cellAt X1.out 2 rfl
  have c3 := cellAt X1.out 3 rfl
  have c4 := cellAt X1.out 4 rfl
  clear hb1
  go_wp2_with fail
  refine (HCK.out _).mono ?_
  rintro e w2 ⟨rfl, hb2⟩
  have B2 := Lib.hid (B1.out.trans (hb2.mono (by omega)))
  have Y0 := Lib.hid ((hb2.block w.heap.size (by omega)).trans X0.out)
  have Y1 := Lib.hid ((hb2.block (w.heap.size + 1) (by omega)).trans X1.out)
  have d0 := cellAt Y1.out 0 rfl
  have d1 := cellAt Y1.out 1 rfl
  have t0 := cellAt Y0.out 0 rfl
  have t1 := cellAt Y0.out 1 rfl
  have t2 := cellAt Y0.out 2 rfl
  have n0 : w2.cell? ⟨0, 1, none⟩ = some (.int .i64 2) := (HN.out.stay B2.out) 1 (by decide)
  clear hb2 c0 c1 c2 c3 c4
  go_wp2
  go_ret
  exact ⟨rfl, B2.out⟩
set_option maxHeartbeats 1000000 in
theorem allows_c1 (tc tr tu cl sq nm vl now : Int) (w : World) (ht : (Tok.mk tc tr tu).Ok) (hc : checkC ⟨1, cl, sq, nm, vl⟩ = 0) (hN : Nd w) (hn : tc = cl) (hm : lacks tr 1 = false) (hw : now < 0) :
    Calls Tryd.prog 19 #[.agg #[.int .i64 tc, .int .i64 tr, .int .i64 tu], .agg #[.int .i64 1, .int .i64 cl, .int .i64 sq, .int .i64 nm, .int .i64 vl], .int .i64 now] w fun e w' => e = .returned (.int .i64 10) ∧ Below w.heap.size w w' := by
  have htk := fun w => token_ok _ w ht
  have hck := fun w => Check_any ⟨1, cl, sq, nm, vl⟩ w
  rw [hc] at hck
  unfold tokV at htk
  unfold cmdV at hck
  dsimp only at htk hck
  have HTK := Lib.hid htk
  have HCK := Lib.hid hck
  have HN := Lib.hid hN
  clear htk hck ht hc hN
  have hm' : (bits .and .i64 tr 2 == 0) = false := hm
  clear hm
  subst hn
  go_enter Tryd.func19, Tryd.ntmps19
  go_wp2_with fail
  refine (HTK.out _).mono ?_
  rintro e w1 ⟨rfl, hb1⟩
  have s1 : w.heap.size + 2 ≤ w1.heap.size := by simpa using hb1.size
  have B1 := Lib.hid ((((Below.refl w.heap.size w).alloc (Nat.le_refl _) _).alloc (by simp) _).trans (hb1.mono (by simp; omega)))
  have X0 := Lib.hid ((hb1.block w.heap.size (by simp; omega)).trans (heapNew0 w _ _))
  have X1 := Lib.hid ((hb1.block (w.heap.size + 1) (by simp)).trans (heapNew1 w _ _))
  have c0 := cellAt X1.out 0 rfl
  have c1 := cellAt X1.out 1 rfl
  have c2 := cellAt X1.out 2 rfl
  have c3 := cellAt X1.out 3 rfl
  have c4 := cellAt X1.out 4 rfl
  clear hb1
  go_wp2_with fail
  refine (HCK.out _).mono ?_
  rintro e w2 ⟨rfl, hb2⟩
  have B2 := Lib.hid (B1.out.trans (hb2.mono (by omega)))
  have Y0 := Lib.hid ((hb2.block w.heap.size (by omega)).trans X0.out)
  have Y1 := Lib.hid ((hb2.block (w.heap.size + 1) (by omega)).trans X1.out)
  have d0 := cellAt Y1.out 0 rfl
  have d1 := cellAt Y1.out 1 rfl
  have t0 := cellAt Y0.out 0 rfl
  have t1 := cellAt Y0.out 1 rfl
  have t2 := cellAt Y0.out 2 rfl
  have n0 : w2.cell? ⟨0, 1, none⟩ = some (.int .i64 2) := (HN.out.stay B2.out) 1 (by decide)
  clear hb2 c0 c1 c2 c3 c4
  go_wp2
  go_ret
  exact ⟨rfl, B2.out⟩
set_option maxHeartbeats 1000000 in
theorem allows_d1 (tc tr tu cl sq nm vl now : Int) (w : World) (ht : (Tok.mk tc tr tu).Ok) (hc : checkC ⟨1, cl, sq, nm, vl⟩ = 0) (hN : Nd w) (hn : tc = cl) (hm : lacks tr 1 = false) (hv : 0 ≤ now) (hw : tu < now) :
    Calls Tryd.prog 19 #[.agg #[.int .i64 tc, .int .i64 tr, .int .i64 tu], .agg #[.int .i64 1, .int .i64 cl, .int .i64 sq, .int .i64 nm, .int .i64 vl], .int .i64 now] w fun e w' => e = .returned (.int .i64 10) ∧ Below w.heap.size w w' := by
  have htk := fun w => token_ok _ w ht
  have hck := fun w => Check_any ⟨1, cl, sq, nm, vl⟩ w
  rw [hc] at hck
  unfold tokV at htk
  unfold cmdV at hck
  dsimp only at htk hck
  have HTK := Lib.hid htk
  have HCK := Lib.hid hck
  have HN := Lib.hid hN
  clear htk hck ht hc hN
  have hm' : (bits .and .i64 tr 2 == 0) = false := hm
  clear hm
  subst hn
  go_enter Tryd.func19, Tryd.ntmps19
  go_wp2_with fail
  refine (HTK.out _).mono ?_
  rintro e w1 ⟨rfl, hb1⟩
  have s1 : w.heap.size + 2 ≤ w1.heap.size := by simpa using hb1.size
  have B1 := Lib.hid ((((Below.refl w.heap.size w).alloc (Nat.le_refl _) _).alloc (by simp) _).trans (hb1.mono (by simp; omega)))
  have X0 := Lib.hid ((hb1.block w.heap.size (by simp; omega)).trans (heapNew0 w _ _))
  have X1 := Lib.hid ((hb1.block (w.heap.size + 1) (by simp)).trans (heapNew1 w _ _))
  have c0 := cellAt X1.out 0 rfl
  have c1 := cellAt X1.out 1 rfl
  have c2 := cellAt X1.out 2 rfl
  have c3 := cellAt X1.out 3 rfl
  have c4 := cellAt X1.out 4 rfl
  clear hb1
  go_wp2_with fail
  refine (HCK.out _).mono ?_
  rintro e w2 ⟨rfl, hb2⟩
  have B2 := Lib.hid (B1.out.trans (hb2.mono (by omega)))
  have Y0 := Lib.hid ((hb2.block w.heap.size (by omega)).trans X0.out)
  have Y1 := Lib.hid ((hb2.block (w.heap.size + 1) (by omega)).trans X1.out)
  have d0 := cellAt Y1.out 0 rfl
  have d1 := cellAt Y1.out 1 rfl
  have t0 := cellAt Y0.out 0 rfl
  have t1 := cellAt Y0.out 1 rfl
  have t2 := cellAt Y0.out 2 rfl
  have n0 : w2.cell? ⟨0, 1, none⟩ = some (.int .i64 2) := (HN.out.stay B2.out) 1 (by decide)
  clear hb2 c0 c1 c2 c3 c4
  go_wp2
  go_ret
  exact ⟨rfl, B2.out⟩
set_option maxHeartbeats 1000000 in
theorem allows_e1 (tc tr tu cl sq nm vl now : Int) (w : World) (ht : (Tok.mk tc tr tu).Ok) (hc : checkC ⟨1, cl, sq, nm, vl⟩ = 0) (hN : Nd w) (hn : tc = cl) (hm : lacks tr 1 = false) (hv : 0 ≤ now) (hw : now ≤ tu) :
    Calls Tryd.prog 19 #[.agg #[.int .i64 tc, .int .i64 tr, .int .i64 tu], .agg #[.int .i64 1, .int .i64 cl, .int .i64 sq, .int .i64 nm, .int .i64 vl], .int .i64 now] w fun e w' => e = .returned (.int .i64 0) ∧ Below w.heap.size w w' := by
  have htk := fun w => token_ok _ w ht
  have hck := fun w => Check_any ⟨1, cl, sq, nm, vl⟩ w
  rw [hc] at hck
  unfold tokV at htk
  unfold cmdV at hck
  dsimp only at htk hck
  have HTK := Lib.hid htk
  have HCK := Lib.hid hck
  have HN := Lib.hid hN
  clear htk hck ht hc hN
  have hm' : (bits .and .i64 tr 2 == 0) = false := hm
  clear hm
  subst hn
  go_enter Tryd.func19, Tryd.ntmps19
  go_wp2_with fail
  refine (HTK.out _).mono ?_
  rintro e w1 ⟨rfl, hb1⟩
  have s1 : w.heap.size + 2 ≤ w1.heap.size := by simpa using hb1.size
  have B1 := Lib.hid ((((Below.refl w.heap.size w).alloc (Nat.le_refl _) _).alloc (by simp) _).trans (hb1.mono (by simp; omega)))
  have X0 := Lib.hid ((hb1.block w.heap.size (by simp; omega)).trans (heapNew0 w _ _))
  have X1 := Lib.hid ((hb1.block (w.heap.size + 1) (by simp)).trans (heapNew1 w _ _))
  have c0 := cellAt X1.out 0 rfl
  have c1 := cellAt X1.out 1 rfl
  have c2 := cellAt X1.out 2 rfl
  have c3 := cellAt X1.out 3 rfl
  have c4 := cellAt X1.out 4 rfl
  clear hb1
  go_wp2_with fail
  refine (HCK.out _).mono ?_
  rintro e w2 ⟨rfl, hb2⟩
  have B2 := Lib.hid (B1.out.trans (hb2.mono (by omega)))
  have Y0 := Lib.hid ((hb2.block w.heap.size (by omega)).trans X0.out)
  have Y1 := Lib.hid ((hb2.block (w.heap.size + 1) (by omega)).trans X1.out)
  have d0 := cellAt Y1.out 0 rfl
  have d1 := cellAt Y1.out 1 rfl
  have t0 := cellAt Y0.out 0 rfl
  have t1 := cellAt Y0.out 1 rfl
  have t2 := cellAt Y0.out 2 rfl
  have n0 : w2.cell? ⟨0, 1, none⟩ = some (.int .i64 2) := (HN.out.stay B2.out) 1 (by decide)
  clear hb2 c0 c1 c2 c3 c4
  go_wp2
  go_ret
  exact ⟨rfl, B2.out⟩
set_option maxHeartbeats 1000000 in
theorem allows_a2 (tc tr tu cl sq nm vl now : Int) (w : World) (ht : (Tok.mk tc tr tu).Ok) (hc : checkC ⟨2, cl, sq, nm, vl⟩ = 0) (hN : Nd w) (hn : tc ≠ cl) :
    Calls Tryd.prog 19 #[.agg #[.int .i64 tc, .int .i64 tr, .int .i64 tu], .agg #[.int .i64 2, .int .i64 cl, .int .i64 sq, .int .i64 nm, .int .i64 vl], .int .i64 now] w fun e w' => e = .returned (.int .i64 11) ∧ Below w.heap.size w w' := by
  have htk := fun w => token_ok _ w ht
  have hck := fun w => Check_any ⟨2, cl, sq, nm, vl⟩ w
  rw [hc] at hck
  unfold tokV at htk
  unfold cmdV at hck
  dsimp only at htk hck
  have HTK := Lib.hid htk
  have HCK := Lib.hid hck
  have HN := Lib.hid hN
  clear htk hck ht hc hN
  have hnb : (tc != cl) = true := by simpa using hn
  clear hn
  go_enter Tryd.func19, Tryd.ntmps19
  go_wp2_with fail
  refine (HTK.out _).mono ?_
  rintro e w1 ⟨rfl, hb1⟩
  have s1 : w.heap.size + 2 ≤ w1.heap.size := by simpa using hb1.size
  have B1 := Lib.hid ((((Below.refl w.heap.size w).alloc (Nat.le_refl _) _).alloc (by simp) _).trans (hb1.mono (by simp; omega)))
  have X0 := Lib.hid ((hb1.block w.heap.size (by simp; omega)).trans (heapNew0 w _ _))
  have X1 := Lib.hid ((hb1.block (w.heap.size + 1) (by simp)).trans (heapNew1 w _ _))
  have c0 := cellAt X1.out 0 rfl
  have c1 := cellAt X1.out 1 rfl
  have c2 := cellAt X1.out 2 rfl
  have c3 := cellAt X1.out 3 rfl
  have c4 := cellAt X1.out 4 rfl
  clear hb1
  go_wp2_with fail
  refine (HCK.out _).mono ?_
  rintro e w2 ⟨rfl, hb2⟩
  have B2 := Lib.hid (B1.out.trans (hb2.mono (by omega)))
  have Y0 := Lib.hid ((hb2.block w.heap.size (by omega)).trans X0.out)
  have Y1 := Lib.hid ((hb2.block (w.heap.size + 1) (by omega)).trans X1.out)
  have d0 := cellAt Y1.out 0 rfl
  have d1 := cellAt Y1.out 1 rfl
  have t0 := cellAt Y0.out 0 rfl
  have t1 := cellAt Y0.out 1 rfl
  have t2 := cellAt Y0.out 2 rfl
  have n0 : w2.cell? ⟨0, 2, none⟩ = some (.int .i64 1) := (HN.out.stay B2.out) 2 (by decide)
  clear hb2 c0 c1 c2 c3 c4
  go_wp2
  go_ret
  exact ⟨rfl, B2.out⟩
set_option maxHeartbeats 1000000 in
theorem allows_b2 (tc tr tu cl sq nm vl now : Int) (w : World) (ht : (Tok.mk tc tr tu).Ok) (hc : checkC ⟨2, cl, sq, nm, vl⟩ = 0) (hN : Nd w) (hn : tc = cl) (hm : lacks tr 2 = true) :
    Calls Tryd.prog 19 #[.agg #[.int .i64 tc, .int .i64 tr, .int .i64 tu], .agg #[.int .i64 2, .int .i64 cl, .int .i64 sq, .int .i64 nm, .int .i64 vl], .int .i64 now] w fun e w' => e = .returned (.int .i64 11) ∧ Below w.heap.size w w' := by
  have htk := fun w => token_ok _ w ht
  have hck := fun w => Check_any ⟨2, cl, sq, nm, vl⟩ w
  rw [hc] at hck
  unfold tokV at htk
  unfold cmdV at hck
  dsimp only at htk hck
  have HTK := Lib.hid htk
  have HCK := Lib.hid hck
  have HN := Lib.hid hN
  clear htk hck ht hc hN
  have hm' : (bits .and .i64 tr 1 == 0) = true := hm
  clear hm
  subst hn
  go_enter Tryd.func19, Tryd.ntmps19
  go_wp2_with fail
  refine (HTK.out _).mono ?_
  rintro e w1 ⟨rfl, hb1⟩
  have s1 : w.heap.size + 2 ≤ w1.heap.size := by simpa using hb1.size
  have B1 := Lib.hid ((((Below.refl w.heap.size w).alloc (Nat.le_refl _) _).alloc (by simp) _).trans (hb1.mono (by simp; omega)))
  have X0 := Lib.hid ((hb1.block w.heap.size (by simp; omega)).trans (heapNew0 w _ _))
  have X1 := Lib.hid ((hb1.block (w.heap.size + 1) (by simp)).trans (heapNew1 w _ _))
  have c0 := cellAt X1.out 0 rfl
  have c1 := cellAt X1.out 1 rfl
  have c2 := cellAt X1.out 2 rfl
  have c3 := cellAt X1.out 3 rfl
  have c4 := cellAt X1.out 4 rfl
  clear hb1
  go_wp2_with fail
  refine (HCK.out _).mono ?_
  rintro e w2 ⟨rfl, hb2⟩
  have B2 := Lib.hid (B1.out.trans (hb2.mono (by omega)))
  have Y0 := Lib.hid ((hb2.block w.heap.size (by omega)).trans X0.out)
  have Y1 := Lib.hid ((hb2.block (w.heap.size + 1) (by omega)).trans X1.out)
  have d0 := cellAt Y1.out 0 rfl
  have d1 := cellAt Y1.out 1 rfl
  have t0 := cellAt Y0.out 0 rfl
  have t1 := cellAt Y0.out 1 rfl
  have t2 := cellAt Y0.out 2 rfl
  have n0 : w2.cell? ⟨0, 2, none⟩ = some (.int .i64 1) := (HN.out.stay B2.out) 2 (by decide)
  clear hb2 c0 c1 c2 c3 c4
  go_wp2
  go_ret
  exact ⟨rfl, B2.out⟩
set_option maxHeartbeats 1000000 in
theorem allows_c2 (tc tr tu cl sq nm vl now : Int) (w : World) (ht : (Tok.mk tc tr tu).Ok) (hc : checkC ⟨2, cl, sq, nm, vl⟩ = 0) (hN : Nd w) (hn : tc = cl) (hm : lacks tr 2 = false) (hw : now < 0) :
    Calls Tryd.prog 19 #[.agg #[.int .i64 tc, .int .i64 tr, .int .i64 tu], .agg #[.int .i64 2, .int .i64 cl, .int .i64 sq, .int .i64 nm, .int .i64 vl], .int .i64 now] w fun e w' => e = .returned (.int .i64 10) ∧ Below w.heap.size w w' := by
  have htk := fun w => token_ok _ w ht
  have hck := fun w => Check_any ⟨2, cl, sq, nm, vl⟩ w
  rw [hc] at hck
  unfold tokV at htk
  unfold cmdV at hck
  dsimp only at htk hck
  have HTK := Lib.hid htk
  have HCK := Lib.hid hck
  have HN := Lib.hid hN
  clear htk hck ht hc hN
  have hm' : (bits .and .i64 tr 1 == 0) = false := hm
  clear hm
  subst hn
  go_enter Tryd.func19, Tryd.ntmps19
  go_wp2_with fail
  refine (HTK.out _).mono ?_
  rintro e w1 ⟨rfl, hb1⟩
  have s1 : w.heap.size + 2 ≤ w1.heap.size := by simpa using hb1.size
  have B1 := Lib.hid ((((Below.refl w.heap.size w).alloc (Nat.le_refl _) _).alloc (by simp) _).trans (hb1.mono (by simp; omega)))
  have X0 := Lib.hid ((hb1.block w.heap.size (by simp; omega)).trans (heapNew0 w _ _))
  have X1 := Lib.hid ((hb1.block (w.heap.size + 1) (by simp)).trans (heapNew1 w _ _))
  have c0 := cellAt X1.out 0 rfl
  have c1 := cellAt X1.out 1 rfl
  have c2 := cellAt X1.out 2 rfl
  have c3 := cellAt X1.out 3 rfl
  have c4 := cellAt X1.out 4 rfl
  clear hb1
  go_wp2_with fail
  refine (HCK.out _).mono ?_
  rintro e w2 ⟨rfl, hb2⟩
  have B2 := Lib.hid (B1.out.trans (hb2.mono (by omega)))
  have Y0 := Lib.hid ((hb2.block w.heap.size (by omega)).trans X0.out)
  have Y1 := Lib.hid ((hb2.block (w.heap.size + 1) (by omega)).trans X1.out)
  have d0 := cellAt Y1.out 0 rfl
  have d1 := cellAt Y1.out 1 rfl
  have t0 := cellAt Y0.out 0 rfl
  have t1 := cellAt Y0.out 1 rfl
  have t2 := cellAt Y0.out 2 rfl
  have n0 : w2.cell? ⟨0, 2, none⟩ = some (.int .i64 1) := (HN.out.stay B2.out) 2 (by decide)
  clear hb2 c0 c1 c2 c3 c4
  go_wp2
  go_ret
  exact ⟨rfl, B2.out⟩
set_option maxHeartbeats 1000000 in
theorem allows_d2 (tc tr tu cl sq nm vl now : Int) (w : World) (ht : (Tok.mk tc tr tu).Ok) (hc : checkC ⟨2, cl, sq, nm, vl⟩ = 0) (hN : Nd w) (hn : tc = cl) (hm : lacks tr 2 = false) (hv : 0 ≤ now) (hw : tu < now) :
    Calls Tryd.prog 19 #[.agg #[.int .i64 tc, .int .i64 tr, .int .i64 tu], .agg #[.int .i64 2, .int .i64 cl, .int .i64 sq, .int .i64 nm, .int .i64 vl], .int .i64 now] w fun e w' => e = .returned (.int .i64 10) ∧ Below w.heap.size w w' := by
  have htk := fun w => token_ok _ w ht
  have hck := fun w => Check_any ⟨2, cl, sq, nm, vl⟩ w
  rw [hc] at hck
  unfold tokV at htk
  unfold cmdV at hck
  dsimp only at htk hck
  have HTK := Lib.hid htk
  have HCK := Lib.hid hck
  have HN := Lib.hid hN
  clear htk hck ht hc hN
  have hm' : (bits .and .i64 tr 1 == 0) = false := hm
  clear hm
  subst hn
  go_enter Tryd.func19, Tryd.ntmps19
  go_wp2_with fail
  refine (HTK.out _).mono ?_
  rintro e w1 ⟨rfl, hb1⟩
  have s1 : w.heap.size + 2 ≤ w1.heap.size := by simpa using hb1.size
  have B1 := Lib.hid ((((Below.refl w.heap.size w).alloc (Nat.le_refl _) _).alloc (by simp) _).trans (hb1.mono (by simp; omega)))
  have X0 := Lib.hid ((hb1.block w.heap.size (by simp; omega)).trans (heapNew0 w _ _))
  have X1 := Lib.hid ((hb1.block (w.heap.size + 1) (by simp)).trans (heapNew1 w _ _))
  have c0 := cellAt X1.out 0 rfl
  have c1 := cellAt X1.out 1 rfl
  have c2 := cellAt X1.out 2 rfl
  have c3 := cellAt X1.out 3 rfl
  have c4 := cellAt X1.out 4 rfl
  clear hb1
  go_wp2_with fail
  refine (HCK.out _).mono ?_
  rintro e w2 ⟨rfl, hb2⟩
  have B2 := Lib.hid (B1.out.trans (hb2.mono (by omega)))
  have Y0 := Lib.hid ((hb2.block w.heap.size (by omega)).trans X0.out)
  have Y1 := Lib.hid ((hb2.block (w.heap.size + 1) (by omega)).trans X1.out)
  have d0 := cellAt Y1.out 0 rfl
  have d1 := cellAt Y1.out 1 rfl
  have t0 := cellAt Y0.out 0 rfl
  have t1 := cellAt Y0.out 1 rfl
  have t2 := cellAt Y0.out 2 rfl
  have n0 : w2.cell? ⟨0, 2, none⟩ = some (.int .i64 1) := (HN.out.stay B2.out) 2 (by decide)
  clear hb2 c0 c1 c2 c3 c4
  go_wp2
  go_ret
  exact ⟨rfl, B2.out⟩
set_option maxHeartbeats 1000000 in
theorem allows_e2 (tc tr tu cl sq nm vl now : Int) (w : World) (ht : (Tok.mk tc tr tu).Ok) (hc : checkC ⟨2, cl, sq, nm, vl⟩ = 0) (hN : Nd w) (hn : tc = cl) (hm : lacks tr 2 = false) (hv : 0 ≤ now) (hw : now ≤ tu) :
    Calls Tryd.prog 19 #[.agg #[.int .i64 tc, .int .i64 tr, .int .i64 tu], .agg #[.int .i64 2, .int .i64 cl, .int .i64 sq, .int .i64 nm, .int .i64 vl], .int .i64 now] w fun e w' => e = .returned (.int .i64 0) ∧ Below w.heap.size w w' := by
  have htk := fun w => token_ok _ w ht
  have hck := fun w => Check_any ⟨2, cl, sq, nm, vl⟩ w
  rw [hc] at hck
  unfold tokV at htk
  unfold cmdV at hck
  dsimp only at htk hck
  have HTK := Lib.hid htk
  have HCK := Lib.hid hck
  have HN := Lib.hid hN
  clear htk hck ht hc hN
  have hm' : (bits .and .i64 tr 1 == 0) = false := hm
  clear hm
  subst hn
  go_enter Tryd.func19, Tryd.ntmps19
  go_wp2_with fail
  refine (HTK.out _).mono ?_
  rintro e w1 ⟨rfl, hb1⟩
  have s1 : w.heap.size + 2 ≤ w1.heap.size := by simpa using hb1.size
  have B1 := Lib.hid ((((Below.refl w.heap.size w).alloc (Nat.le_refl _) _).alloc (by simp) _).trans (hb1.mono (by simp; omega)))
  have X0 := Lib.hid ((hb1.block w.heap.size (by simp; omega)).trans (heapNew0 w _ _))
  have X1 := Lib.hid ((hb1.block (w.heap.size + 1) (by simp)).trans (heapNew1 w _ _))
  have c0 := cellAt X1.out 0 rfl
  have c1 := cellAt X1.out 1 rfl
  have c2 := cellAt X1.out 2 rfl
  have c3 := cellAt X1.out 3 rfl
  have c4 := cellAt X1.out 4 rfl
  clear hb1
  go_wp2_with fail
  refine (HCK.out _).mono ?_
  rintro e w2 ⟨rfl, hb2⟩
  have B2 := Lib.hid (B1.out.trans (hb2.mono (by omega)))
  have Y0 := Lib.hid ((hb2.block w.heap.size (by omega)).trans X0.out)
  have Y1 := Lib.hid ((hb2.block (w.heap.size + 1) (by omega)).trans X1.out)
  have d0 := cellAt Y1.out 0 rfl
  have d1 := cellAt Y1.out 1 rfl
  have t0 := cellAt Y0.out 0 rfl
  have t1 := cellAt Y0.out 1 rfl
  have t2 := cellAt Y0.out 2 rfl
  have n0 : w2.cell? ⟨0, 2, none⟩ = some (.int .i64 1) := (HN.out.stay B2.out) 2 (by decide)
  clear hb2 c0 c1 c2 c3 c4
  go_wp2
  go_ret
  exact ⟨rfl, B2.out⟩
set_option maxHeartbeats 1000000 in
theorem allows_a3 (tc tr tu cl sq nm vl now : Int) (w : World) (ht : (Tok.mk tc tr tu).Ok) (hc : checkC ⟨3, cl, sq, nm, vl⟩ = 0) (hN : Nd w) (hn : tc ≠ cl) :
    Calls Tryd.prog 19 #[.agg #[.int .i64 tc, .int .i64 tr, .int .i64 tu], .agg #[.int .i64 3, .int .i64 cl, .int .i64 sq, .int .i64 nm, .int .i64 vl], .int .i64 now] w fun e w' => e = .returned (.int .i64 11) ∧ Below w.heap.size w w' := by
  have htk := fun w => token_ok _ w ht
  have hck := fun w => Check_any ⟨3, cl, sq, nm, vl⟩ w
  rw [hc] at hck
  unfold tokV at htk
  unfold cmdV at hck
  dsimp only at htk hck
  have HTK := Lib.hid htk
  have HCK := Lib.hid hck
  have HN := Lib.hid hN
  clear htk hck ht hc hN
  have hnb : (tc != cl) = true := by simpa using hn
  clear hn
  go_enter Tryd.func19, Tryd.ntmps19
  go_wp2_with fail
  refine (HTK.out _).mono ?_
  rintro e w1 ⟨rfl, hb1⟩
  have s1 : w.heap.size + 2 ≤ w1.heap.size := by simpa using hb1.size
  have B1 := Lib.hid ((((Below.refl w.heap.size w).alloc (Nat.le_refl _) _).alloc (by simp) _).trans (hb1.mono (by simp; omega)))
  have X0 := Lib.hid ((hb1.block w.heap.size (by simp; omega)).trans (heapNew0 w _ _))
  have X1 := Lib.hid ((hb1.block (w.heap.size + 1) (by simp)).trans (heapNew1 w _ _))
  have c0 := cellAt X1.out 0 rfl
  have c1 := cellAt X1.out 1 rfl
  have c2 := cellAt X1.out 2 rfl
  have c3 := cellAt X1.out 3 rfl
  have c4 := cellAt X1.out 4 rfl
  clear hb1
  go_wp2_with fail
  refine (HCK.out _).mono ?_
  rintro e w2 ⟨rfl, hb2⟩
  have B2 := Lib.hid (B1.out.trans (hb2.mono (by omega)))
  have Y0 := Lib.hid ((hb2.block w.heap.size (by omega)).trans X0.out)
  have Y1 := Lib.hid ((hb2.block (w.heap.size + 1) (by omega)).trans X1.out)
  have d0 := cellAt Y1.out 0 rfl
  have d1 := cellAt Y1.out 1 rfl
  have t0 := cellAt Y0.out 0 rfl
  have t1 := cellAt Y0.out 1 rfl
  have t2 := cellAt Y0.out 2 rfl
  have n0 : w2.cell? ⟨0, 3, none⟩ = some (.int .i64 4) := (HN.out.stay B2.out) 3 (by decide)
  clear hb2 c0 c1 c2 c3 c4
  go_wp2
  go_ret
  exact ⟨rfl, B2.out⟩
set_option maxHeartbeats 1000000 in
theorem allows_b3 (tc tr tu cl sq nm vl now : Int) (w : World) (ht : (Tok.mk tc tr tu).Ok) (hc : checkC ⟨3, cl, sq, nm, vl⟩ = 0) (hN : Nd w) (hn : tc = cl) (hm : lacks tr 3 = true) :
    Calls Tryd.prog 19 #[.agg #[.int .i64 tc, .int .i64 tr, .int .i64 tu], .agg #[.int .i64 3, .int .i64 cl, .int .i64 sq, .int .i64 nm, .int .i64 vl], .int .i64 now] w fun e w' => e = .returned (.int .i64 11) ∧ Below w.heap.size w w' := by
  have htk := fun w => token_ok _ w ht
  have hck := fun w => Check_any ⟨3, cl, sq, nm, vl⟩ w
  rw [hc] at hck
  unfold tokV at htk
  unfold cmdV at hck
  dsimp only at htk hck
  have HTK := Lib.hid htk
  have HCK := Lib.hid hck
  have HN := Lib.hid hN
  clear htk hck ht hc hN
  have hm' : (bits .and .i64 tr 4 == 0) = true := hm
  clear hm
  subst hn
  go_enter Tryd.func19, Tryd.ntmps19
  go_wp2_with fail
  refine (HTK.out _).mono ?_
  rintro e w1 ⟨rfl, hb1⟩
  have s1 : w.heap.size + 2 ≤ w1.heap.size := by simpa using hb1.size
  have B1 := Lib.hid ((((Below.refl w.heap.size w).alloc (Nat.le_refl _) _).alloc (by simp) _).trans (hb1.mono (by simp; omega)))
  have X0 := Lib.hid ((hb1.block w.heap.size (by simp; omega)).trans (heapNew0 w _ _))
  have X1 := Lib.hid ((hb1.block (w.heap.size + 1) (by simp)).trans (heapNew1 w _ _))
  have c0 := cellAt X1.out 0 rfl
  have c1 := cellAt X1.out 1 rfl
  have c2 := cellAt X1.out 2 rfl
  have c3 := cellAt X1.out 3 rfl
  have c4 := cellAt X1.out 4 rfl
  clear hb1
  go_wp2_with fail
  refine (HCK.out _).mono ?_
  rintro e w2 ⟨rfl, hb2⟩
  have B2 := Lib.hid (B1.out.trans (hb2.mono (by omega)))
  have Y0 := Lib.hid ((hb2.block w.heap.size (by omega)).trans X0.out)
  have Y1 := Lib.hid ((hb2.block (w.heap.size + 1) (by omega)).trans X1.out)
  have d0 := cellAt Y1.out 0 rfl
  have d1 := cellAt Y1.out 1 rfl
  have t0 := cellAt Y0.out 0 rfl
  have t1 := cellAt Y0.out 1 rfl
  have t2 := cellAt Y0.out 2 rfl
  have n0 : w2.cell? ⟨0, 3, none⟩ = some (.int .i64 4) := (HN.out.stay B2.out) 3 (by decide)
  clear hb2 c0 c1 c2 c3 c4
  go_wp2
  go_ret
  exact ⟨rfl, B2.out⟩
set_option maxHeartbeats 1000000 in
theorem allows_c3 (tc tr tu cl sq nm vl now : Int) (w : World) (ht : (Tok.mk tc tr tu).Ok) (hc : checkC ⟨3, cl, sq, nm, vl⟩ = 0) (hN : Nd w) (hn : tc = cl) (hm : lacks tr 3 = false) (hw : now < 0) :
    Calls Tryd.prog 19 #[.agg #[.int .i64 tc, .int .i64 tr, .int .i64 tu], .agg #[.int .i64 3, .int .i64 cl, .int .i64 sq, .int .i64 nm, .int .i64 vl], .int .i64 now] w fun e w' => e = .returned (.int .i64 10) ∧ Below w.heap.size w w' := by
  have htk := fun w => token_ok _ w ht
  have hck := fun w => Check_any ⟨3, cl, sq, nm, vl⟩ w
  rw [hc] at hck
  unfold tokV at htk
  unfold cmdV at hck
  dsimp only at htk hck
  have HTK := Lib.hid htk
  have HCK := Lib.hid hck
  have HN := Lib.hid hN
  clear htk hck ht hc hN
  have hm' : (bits .and .i64 tr 4 == 0) = false := hm
  clear hm
  subst hn
  go_enter Tryd.func19, Tryd.ntmps19
  go_wp2_with fail
  refine (HTK.out _).mono ?_
  rintro e w1 ⟨rfl, hb1⟩
  have s1 : w.heap.size + 2 ≤ w1.heap.size := by simpa using hb1.size
  have B1 := Lib.hid ((((Below.refl w.heap.size w).alloc (Nat.le_refl _) _).alloc (by simp) _).trans (hb1.mono (by simp; omega)))
  have X0 := Lib.hid ((hb1.block w.heap.size (by simp; omega)).trans (heapNew0 w _ _))
  have X1 := Lib.hid ((hb1.block (w.heap.size + 1) (by simp)).trans (heapNew1 w _ _))
  have c0 := cellAt X1.out 0 rfl
  have c1 := cellAt X1.out 1 rfl
  have c2 := cellAt X1.out 2 rfl
  have c3 := cellAt X1.out 3 rfl
  have c4 := cellAt X1.out 4 rfl
  clear hb1
  go_wp2_with fail
  refine (HCK.out _).mono ?_
  rintro e w2 ⟨rfl, hb2⟩
  have B2 := Lib.hid (B1.out.trans (hb2.mono (by omega)))
  have Y0 := Lib.hid ((hb2.block w.heap.size (by omega)).trans X0.out)
  have Y1 := Lib.hid ((hb2.block (w.heap.size + 1) (by omega)).trans X1.out)
  have d0 := cellAt Y1.out 0 rfl
  have d1 := cellAt Y1.out 1 rfl
  have t0 := cellAt Y0.out 0 rfl
  have t1 := cellAt Y0.out 1 rfl
  have t2 := cellAt Y0.out 2 rfl
  have n0 : w2.cell? ⟨0, 3, none⟩ = some (.int .i64 4) := (HN.out.stay B2.out) 3 (by decide)
  clear hb2 c0 c1 c2 c3 c4
  go_wp2
  go_ret
  exact ⟨rfl, B2.out⟩
set_option maxHeartbeats 1000000 in
theorem allows_d3 (tc tr tu cl sq nm vl now : Int) (w : World) (ht : (Tok.mk tc tr tu).Ok) (hc : checkC ⟨3, cl, sq, nm, vl⟩ = 0) (hN : Nd w) (hn : tc = cl) (hm : lacks tr 3 = false) (hv : 0 ≤ now) (hw : tu < now) :
    Calls Tryd.prog 19 #[.agg #[.int .i64 tc, .int .i64 tr, .int .i64 tu], .agg #[.int .i64 3, .int .i64 cl, .int .i64 sq, .int .i64 nm, .int .i64 vl], .int .i64 now] w fun e w' => e = .returned (.int .i64 10) ∧ Below w.heap.size w w' := by
  have htk := fun w => token_ok _ w ht
  have hck := fun w => Check_any ⟨3, cl, sq, nm, vl⟩ w
  rw [hc] at hck
  unfold tokV at htk
  unfold cmdV at hck
  dsimp only at htk hck
  have HTK := Lib.hid htk
  have HCK := Lib.hid hck
  have HN := Lib.hid hN
  clear htk hck ht hc hN
  have hm' : (bits .and .i64 tr 4 == 0) = false := hm
  clear hm
  subst hn
  go_enter Tryd.func19, Tryd.ntmps19
  go_wp2_with fail
  refine (HTK.out _).mono ?_
  rintro e w1 ⟨rfl, hb1⟩
  have s1 : w.heap.size + 2 ≤ w1.heap.size := by simpa using hb1.size
  have B1 := Lib.hid ((((Below.refl w.heap.size w).alloc (Nat.le_refl _) _).alloc (by simp) _).trans (hb1.mono (by simp; omega)))
  have X0 := Lib.hid ((hb1.block w.heap.size (by simp; omega)).trans (heapNew0 w _ _))
  have X1 := Lib.hid ((hb1.block (w.heap.size + 1) (by simp)).trans (heapNew1 w _ _))
  have c0 := cellAt X1.out 0 rfl
  have c1 := cellAt X1.out 1 rfl
  have c2 := cellAt X1.out 2 rfl
  have c3 := cellAt X1.out 3 rfl
  have c4 := cellAt X1.out 4 rfl
  clear hb1
  go_wp2_with fail
  refine (HCK.out _).mono ?_
  rintro e w2 ⟨rfl, hb2⟩
  have B2 := Lib.hid (B1.out.trans (hb2.mono (by omega)))
  have Y0 := Lib.hid ((hb2.block w.heap.size (by omega)).trans X0.out)
  have Y1 := Lib.hid ((hb2.block (w.heap.size + 1) (by omega)).trans X1.out)
  have d0 := cellAt Y1.out 0 rfl
  have d1 := cellAt Y1.out 1 rfl
  have t0 := cellAt Y0.out 0 rfl
  have t1 := cellAt Y0.out 1 rfl
  have t2 := cellAt Y0.out 2 rfl
  have n0 : w2.cell? ⟨0, 3, none⟩ = some (.int .i64 4) := (HN.out.stay B2.out) 3 (by decide)
  clear hb2 c0 c1 c2 c3 c4
  go_wp2
  go_ret
  exact ⟨rfl, B2.out⟩
set_option maxHeartbeats 1000000 in
theorem allows_e3 (tc tr tu cl sq nm vl now : Int) (w : World) (ht : (Tok.mk tc tr tu).Ok) (hc : checkC ⟨3, cl, sq, nm, vl⟩ = 0) (hN : Nd w) (hn : tc = cl) (hm : lacks tr 3 = false) (hv : 0 ≤ now) (hw : now ≤ tu) :
    Calls Tryd.prog 19 #[.agg #[.int .i64 tc, .int .i64 tr, .int .i64 tu], .agg #[.int .i64 3, .int .i64 cl, .int .i64 sq, .int .i64 nm, .int .i64 vl], .int .i64 now] w fun e w' => e = .returned (.int .i64 0) ∧ Below w.heap.size w w' := by
  have htk := fun w => token_ok _ w ht
  have hck := fun w => Check_any ⟨3, cl, sq, nm, vl⟩ w
  rw [hc] at hck
  unfold tokV at htk
  unfold cmdV at hck
  dsimp only at htk hck
  have HTK := Lib.hid htk
  have HCK := Lib.hid hck
  have HN := Lib.hid hN
  clear htk hck ht hc hN
  have hm' : (bits .and .i64 tr 4 == 0) = false := hm
  clear hm
  subst hn
  go_enter Tryd.func19, Tryd.ntmps19
  go_wp2_with fail
  refine (HTK.out _).mono ?_
  rintro e w1 ⟨rfl, hb1⟩
  have s1 : w.heap.size + 2 ≤ w1.heap.size := by simpa using hb1.size
  have B1 := Lib.hid ((((Below.refl w.heap.size w).alloc (Nat.le_refl _) _).alloc (by simp) _).trans (hb1.mono (by simp; omega)))
  have X0 := Lib.hid ((hb1.block w.heap.size (by simp; omega)).trans (heapNew0 w _ _))
  have X1 := Lib.hid ((hb1.block (w.heap.size + 1) (by simp)).trans (heapNew1 w _ _))
  have c0 := cellAt X1.out 0 rfl
  have c1 := cellAt X1.out 1 rfl
  have c2 := cellAt X1.out 2 rfl
  have c3 := cellAt X1.out 3 rfl
  have c4 := cellAt X1.out 4 rfl
  clear hb1
  go_wp2_with fail
  refine (HCK.out _).mono ?_
  rintro e w2 ⟨rfl, hb2⟩
  have B2 := Lib.hid (B1.out.trans (hb2.mono (by omega)))
  have Y0 := Lib.hid ((hb2.block w.heap.size (by omega)).trans X0.out)
  have Y1 := Lib.hid ((hb2.block (w.heap.size + 1) (by omega)).trans X1.out)
  have d0 := cellAt Y1.out 0 rfl
  have d1 := cellAt Y1.out 1 rfl
  have t0 := cellAt Y0.out 0 rfl
  have t1 := cellAt Y0.out 1 rfl
  have t2 := cellAt Y0.out 2 rfl
  have n0 : w2.cell? ⟨0, 3, none⟩ = some (.int .i64 4) := (HN.out.stay B2.out) 3 (by decide)
  clear hb2 c0 c1 c2 c3 c4
  go_wp2
  go_ret
  exact ⟨rfl, B2.out⟩
theorem Allows_any (t : Tok) (c : Cmd) (now : Int) (w : World) (ht : t.Ok) (hc : checkC c = 0) (hN : Nd w) :
    Calls Tryd.prog 19 #[tokV t, cmdV c, .int .i64 now] w fun e w' => e = .returned (.int .i64 (allowC t c now)) ∧ Below w.heap.size w w' := by
  obtain ⟨k, cl, sq, nm, vl⟩ := c
  obtain ⟨tc, tr, tu⟩ := t
  have hk : k = 0 ∨ k = 1 ∨ k = 2 ∨ k = 3 := by
    unfold checkC at hc
    dsimp only at hc
    by_cases h0 : k = 0
    · exact Or.inl h0
    · rw [if_neg h0] at hc
      by_cases h1 : 1 ≤ k ∧ k ≤ 3
      · omega
      · rw [if_neg h1] at hc; exact absurd hc (by decide)
  unfold allowC
  dsimp only
  by_cases h0 : k = 0
  · subst h0
    rw [if_pos (Or.inl rfl)]
    exact allows_z tc tr tu cl sq nm vl now w ht hc hN
  by_cases hn : tc = cl
  · by_cases hm : lacks tr k = true
    · rw [if_pos (Or.inr (Or.inr hm))]
      rcases hk with rfl | rfl | rfl | rfl
      · exact absurd rfl h0
      · exact allows_b1 tc tr tu cl sq nm vl now w ht hc hN hn hm
      · exact allows_b2 tc tr tu cl sq nm vl now w ht hc hN hn hm
      · exact allows_b3 tc tr tu cl sq nm vl now w ht hc hN hn hm
    · rw [if_neg (by intro h; rcases h with h | h | h <;> first | exact h0 h | exact h hn | exact hm h)]
      have hm' : lacks tr k = false := by simpa using hm
      by_cases hw : now < 0
      · rw [if_pos (Or.inl hw)]
        rcases hk with rfl | rfl | rfl | rfl
        · exact absurd rfl h0
        · exact allows_c1 tc tr tu cl sq nm vl now w ht hc hN hn hm' hw
        · exact allows_c2 tc tr tu cl sq nm vl now w ht hc hN hn hm' hw
        · exact allows_c3 tc tr tu cl sq nm vl now w ht hc hN hn hm' hw
      · by_cases hv : tu < now
        · rw [if_pos (Or.inr hv)]
          rcases hk with rfl | rfl | rfl | rfl
          · exact absurd rfl h0
          · exact allows_d1 tc tr tu cl sq nm vl now w ht hc hN hn hm' (by omega) hv
          · exact allows_d2 tc tr tu cl sq nm vl now w ht hc hN hn hm' (by omega) hv
          · exact allows_d3 tc tr tu cl sq nm vl now w ht hc hN hn hm' (by omega) hv
        · rw [if_neg (by omega)]
          rcases hk with rfl | rfl | rfl | rfl
          · exact absurd rfl h0
          · exact allows_e1 tc tr tu cl sq nm vl now w ht hc hN hn hm' (by omega) (by omega)
          · exact allows_e2 tc tr tu cl sq nm vl now w ht hc hN hn hm' (by omega) (by omega)
          · exact allows_e3 tc tr tu cl sq nm vl now w ht hc hN hn hm' (by omega) (by omega)
  · rw [if_pos (Or.inr (Or.inl hn))]
    rcases hk with rfl | rfl | rfl | rfl
    · exact absurd rfl h0
    · exact allows_a1 tc tr tu cl sq nm vl now w ht hc hN hn
    · exact allows_a2 tc tr tu cl sq nm vl now w ht hc hN hn
    · exact allows_a3 tc tr tu cl sq nm vl now w ht hc hN hn
end Go.Proofs.YtpkfbmafbkgcmaaDoor

set_option linter.unusedVariables false
set_option linter.unusedSimpArgs false
namespace Go.Con
/-- four bytes of a number -/
def fourB (n : Nat) : List UInt8 := [UInt8.ofNat (n / 16777216), UInt8.ofNat (n / 65536), UInt8.ofNat (n / 256), UInt8.ofNat n]
def Cmd.fld (c : Cmd) (k : Nat) : Int := match k with | 0 => c.kind | 1 => c.client | 2 => c.seq | 3 => c.name | _ => c.value
/-- the bytes of a command's first k numbers -/
def encK (c : Cmd) : Nat → List UInt8
  | 0 => []
  | k + 1 => encK c k ++ fourB (c.fld k).toNat
def encC (c : Cmd) : List UInt8 := encK c 5
theorem encK_length (c : Cmd) (k : Nat) : (encK c k).length = 4 * k := by
  induction k with
  | zero => rfl
  | succ k ih => rw [encK, List.length_append, ih]; simp [fourB]; omega
end Go.Con
namespace Go.Proofs.YtpkfbmafbkgcmaaDoor
open Go.RowKit Go.Con

theorem raw24 (q : Int) (h : 0 ≤ q) : q / 16777216 % 256 = ((UInt8.ofNat (q.toNat / 16777216)).toNat : Int) := by
  obtain ⟨n, rfl⟩ := Int.eq_ofNat_of_zero_le h
  rw [UInt8.toNat_ofNat']; simp
theorem raw16 (q : Int) (h : 0 ≤ q) : q / 65536 % 256 = ((UInt8.ofNat (q.toNat / 65536)).toNat : Int) := by
  obtain ⟨n, rfl⟩ := Int.eq_ofNat_of_zero_le h
  rw [UInt8.toNat_ofNat']; simp
theorem raw8 (q : Int) (h : 0 ≤ q) : q / 256 % 256 = ((UInt8.ofNat (q.toNat / 256)).toNat : Int) := by
  obtain ⟨n, rfl⟩ := Int.eq_ofNat_of_zero_le h
  rw [UInt8.toNat_ofNat']; simp
theorem raw0 (q : Int) (h : 0 ≤ q) : q % 256 = ((UInt8.ofNat q.toNat).toNat : Int) := by
  obtain ⟨n, rfl⟩ := Int.eq_ofNat_of_zero_le h
  rw [UInt8.toNat_ofNat']; simp

set_option maxHeartbeats 400000 in
theorem four_any (v : Value) (l : List UInt8) (q : Int) (base : Nat) (w : World) (hO : Own w base v l) (hb : base ≤ w.heap.size) (h0 : 0 ≤ q) (hl : l.length ≤ 1099511627776) :
    Calls Tryd.prog 22 #[v, .int .i64 q] w fun e w' => ∃ v', e = .returned v' ∧ Own w' base v' (l ++ fourB q.toNat) ∧ Kept w.heap.size (fun k => v.ownBlock = some k) w w' := by
  have HO := Lib.hid hO
  have hn4 : ∀ W : World, Rd (W.alloc (.cells #[.int .u8 (q / 16777216 % 256), .int .u8 (q / 65536 % 256), .int .u8 (q / 256 % 256), .int .u8 (q % 256)] 5)) (.slice (some ⟨W.heap.size, 0, none⟩) 4 4) (fourB q.toNat) := fun W =>
    newB4 W _ _ _ _ _ _ _ _ (raw24 q h0) (raw16 q h0) (raw8 q h0) (raw0 q h0)
  have HN4 := Lib.hid hn4
  clear hO hn4
  go_enter Tryd.func22, Tryd.ntmps22
  go_wp2_with (at_builtin; refine apB rfl (.tmp 5) (.tmp 17) rfl base _ _ l (fourB q.toNat) rfl (HO.out.alloc _) rfl (HN4.out _) (by simp [fourB]; omega) (by simp; omega) ?_; intro v1 w1 hown1 hg1; have HO1 := Lib.hid hown1; have HG1 := Lib.hid hg1; clear hown1 hg1)
  go_ret
  refine ⟨_, rfl, HO1.out, ?_⟩
  refine ((Kept.refl _ _ _).alloc (Nat.le_refl _) _).trans (Kept.of_grown HG1.out (by simp) fun k hk => .inr hk)

def ptrs (b off : Nat) : Array Value := #[.pointer (some ⟨b, off, none⟩), .pointer (some ⟨b, off + 1, none⟩), .pointer (some ⟨b, off + 2, none⟩), .pointer (some ⟨b, off + 3, none⟩), .pointer (some ⟨b, off + 4, none⟩)]

set_option maxHeartbeats 1000000 in
theorem numbers_any (b : Nat) (w : World) :
    Calls Tryd.prog 25 #[.pointer (some ⟨b, 0, none⟩)] w fun e w' => e = .returned (.agg #[.pointer (some ⟨b, 0, none⟩), .pointer (some ⟨b, 1, none⟩), .pointer (some ⟨b, 2, none⟩), .pointer (some ⟨b, 3, none⟩), .pointer (some ⟨b, 4, none⟩)]) ∧ Below w.heap.size w w' := by
  go_enter Tryd.func25, Tryd.ntmps25
  go_wp2
  refine region_quiet_tail 16 (by kernel_rfl) (by kernel_rfl) ?_
  simp only [List.take_succ_cons, List.take_zero, List.drop_succ_cons, List.drop_zero]
  repeat (go_big_quiet_step (fail))
  refine wpQuiet_nil ?_
  intro w9 hw9
  obtain ⟨nq, rfl⟩ := hw9
  go_wp2
  have hx : ∀ (W : World), W.heap[w.heap.size]? = some (.cells #[.pointer none, .pointer none, .pointer none, .pointer none, .pointer none] 58 (0, 0)) →
      (((((W.setCell ⟨w.heap.size, 0, none⟩ (.pointer (some ⟨b, 0, none⟩))).setCell ⟨w.heap.size, 1, none⟩ (.pointer (some ⟨b, 1, none⟩))).setCell ⟨w.heap.size, 2, none⟩ (.pointer (some ⟨b, 2, none⟩))).setCell ⟨w.heap.size, 3, none⟩ (.pointer (some ⟨b, 3, none⟩))).setCell ⟨w.heap.size, 4, none⟩ (.pointer (some ⟨b, 4, none⟩))).heap[w.heap.size]? =
        some (.cells #[.pointer (some ⟨b, 0, none⟩), .pointer (some ⟨b, 1, none⟩), .pointer (some ⟨b, 2, none⟩), .pointer (some ⟨b, 3, none⟩), .pointer (some ⟨b, 4, none⟩)] 58 (0, 0)) := by
    intro W h
    have h1 := heapSet (o := 0) h (.pointer (some ⟨b, 0, none⟩))
    have h2 := heapSet (o := 1) h1 (.pointer (some ⟨b, 1, none⟩))
    have h3 := heapSet (o := 2) h2 (.pointer (some ⟨b, 2, none⟩))
    have h4 := heapSet (o := 3) h3 (.pointer (some ⟨b, 3, none⟩))
    exact heapSet (o := 4) h4 (.pointer (some ⟨b, 4, none⟩))
  have hx := hx ((w.alloc (.cells #[.pointer none, .pointer none, .pointer none, .pointer none, .pointer none] 58)).drewN nq) (heapNew w _)
  have hb : Below w.heap.size w ((((((((w.alloc (.cells #[.pointer none, .pointer none, .pointer none, .pointer none, .pointer none] 58)).drewN nq).setCell ⟨w.heap.size, 0, none⟩ (.pointer (some ⟨b, 0, none⟩))).setCell ⟨w.heap.size, 1, none⟩ (.pointer (some ⟨b, 1, none⟩))).setCell ⟨w.heap.size, 2, none⟩ (.pointer (some ⟨b, 2, none⟩))).setCell ⟨w.heap.size, 3, none⟩ (.pointer (some ⟨b, 3, none⟩))).setCell ⟨w.heap.size, 4, none⟩ (.pointer (some ⟨b, 4, none⟩)))) := by
    refine Below.setCell (Below.setCell (Below.setCell (Below.setCell (Below.setCell (below_drewN (Below.alloc (Below.refl _ _) (Nat.le_refl _) _) nq) ?_ _) ?_ _) ?_ _) ?_ _) ?_ _ <;> exact Nat.le_refl _
  generalize hW : World.setCell _ _ _ = W
  rw [hW] at hb hx
  clear hW
  refine bodyPost_ret (v := .agg #[.pointer (some ⟨b, 0, none⟩), .pointer (some ⟨b, 1, none⟩), .pointer (some ⟨b, 2, none⟩), .pointer (some ⟨b, 3, none⟩), .pointer (some ⟨b, 4, none⟩)]) ?_ rfl ⟨rfl, hb⟩
  have c0 := cellAt hx 0 rfl
  have c1 := cellAt hx 1 rfl
  have c2 := cellAt hx 2 rfl
  have c3 := cellAt hx 3 rfl
  have c4 := cellAt hx 4 rfl
  clear hx hb
  simp [results, Tryd.results25, go_sem, c0, c1, c2, c3, c4]

theorem indexP (b k : Nat) (hk : k < 5) (W : World) :
    (Instr.index 58 (.agg #[.pointer (some ⟨b, 0, none⟩), .pointer (some ⟨b, 1, none⟩), .pointer (some ⟨b, 2, none⟩), .pointer (some ⟨b, 3, none⟩), .pointer (some ⟨b, 4, none⟩)]) (.int .i64 k)).run Tryd.prog W = .ok (.pointer (some ⟨b, k, none⟩)) W := by
  have h5 : k = 0 ∨ k = 1 ∨ k = 2 ∨ k = 3 ∨ k = 4 := by omega
  rcases h5 with rfl | rfl | rfl | rfl | rfl <;> (show _ = _; kernel_rfl)

/-- The cells of a command. -/
def cmdA (c : Cmd) : Array Value := #[.int .i64 c.kind, .int .i64 c.client, .int .i64 c.seq, .int .i64 c.name, .int .i64 c.value]
theorem cmdA_at (c : Cmd) (k : Nat) (hk : k < 5) : (cmdA c)[k]? = some (.int .i64 (c.fld k)) := by
  have h5 : k = 0 ∨ k = 1 ∨ k = 2 ∨ k = 3 ∨ k = 4 := by omega
  rcases h5 with rfl | rfl | rfl | rfl | rfl <;> rfl
theorem fld_nonneg (c : Cmd) (h : checkC c = 0) (k : Nat) : 0 ≤ c.fld k ∧ c.fld k ≤ 1073741824 := by
  unfold checkC at h
  split at h
  · split at h
    · rename_i h1 h2
      subst h2
      match k with
      | 0 => simp [Cmd.fld, Cmd.zero]
      | 1 => simp [Cmd.fld, Cmd.zero]
      | 2 => simp [Cmd.fld, Cmd.zero]
      | 3 => simp [Cmd.fld, Cmd.zero]
      | k + 4 => simp [Cmd.fld, Cmd.zero]
    · cases h
  · split at h
    · rename_i h1 h2
      split at h
      · cases h
      · rename_i h3
        have h4 : inRange c = true := by simpa using h3
        unfold inRange at h4
        have h4 := of_decide_eq_true h4
        match k with
        | 0 => simp only [Cmd.fld]; omega
        | 1 => simp only [Cmd.fld]; omega
        | 2 => simp only [Cmd.fld]; omega
        | 3 => simp only [Cmd.fld]; omega
        | k + 4 => simp only [Cmd.fld]; omega
    · cases h

/-- A call that gives a row of its own with these bytes and a number, and turns nothing that was there. -/
def FreshBC (w : World) (R : List UInt8) (c : Int) (e : Ending) (w' : World) : Prop := ∃ v', e = .returned (.tuple #[v', .int .i64 c]) ∧ Own w' w.heap.size v' R ∧ Below w.heap.size w w'

set_option maxHeartbeats 1000000 in
theorem Encode_ok (c : Cmd) (w : World) (hc : checkC c = 0) :
    Calls Tryd.prog 14 #[cmdV c] w (FreshBC w (encC c) 0) := by
  have HC := Lib.hid hc
  have hck := fun w' => Check_any c w'
  rw [hc] at hck
  have HCK := Lib.hid hck
  clear hc hck
  unfold cmdV at HCK ⊢
  go_enter Tryd.func14, Tryd.ntmps14
  go_wp2_with fail
  refine (HCK.out _).mono ?_
  rintro e w1 ⟨rfl, hb1⟩
  have hx1 : w1.heap[w.heap.size]? = some (.cells (cmdA c) 26 (0, 0)) := (hb1.block _ (by simp)).trans (heapNew w _)
  have hs1 : w.heap.size + 1 ≤ w1.heap.size := by have := hb1.size; simpa using this
  have HB1 := Lib.hid (((Below.refl w.heap.size w).alloc (Nat.le_refl _) (.cells (cmdA c) 26)).trans (hb1.mono (by simp)))
  have HX1 := Lib.hid hx1
  clear hb1 hx1
  go_wp2_with fail
  refine (numbers_any _ _).mono ?_
  rintro e w2 ⟨rfl, hb2⟩
  have hs2 : w.heap.size + 1 ≤ w2.heap.size := by have := hb2.size; omega
  have HX2 := Lib.hid ((hb2.block _ (by omega)).trans HX1.out)
  have HB2 := Lib.hid (HB1.out.trans (hb2.mono (by omega)))
  clear hb2
  go_wp2_with fail
  have hix := fun k hk W => indexP w.heap.size k hk W
  have HIX := Lib.hid hix
  clear hix
  go_loopw [5, 14] (fun v i wr => ∃ k g cap n : Nat, k ≤ 5 ∧ i = .int .i64 k ∧ Own wr (w.heap.size + 1) v (encK c k) ∧ wr.heap[w.heap.size]? = some (.cells (cmdA c) 26 (0, 0)) ∧ Below w.heap.size w wr ∧ w.heap.size + 1 ≤ wr.heap.size)
    (fun _ i _ => 5 - (intOf i).toNat)
  case atStart => exact ⟨0, 0, 0, 0, by omega, rfl, Own.nil _ _, HX2.out, HB2.out, hs2⟩
  case round =>
    obtain ⟨k, _, _, _, hk, rfl, hO, hX, hB, hS⟩ := hrel
    have HO := Lib.hid hO
    have HX := Lib.hid hX
    have HB := Lib.hid hB
    by_cases hlt : k < 5
    · have hc1 := cellAt hX k (cmdA_at c k hlt)
      have hik := HIX.out k hlt
      obtain ⟨q, hq⟩ : ∃ q, q = c.fld k := ⟨_, rfl⟩
      have hq0 : 0 ≤ q := by rw [hq]; exact (fld_nonneg c HC.out k).1
      rw [← hq] at hc1
      have HQ := Lib.hid hq
      have hel := encK_length c k
      clear hO hX hB hq
      go_wp2_with (go_at_call 22; refine (four_any _ (encK c k) q (w.heap.size + 1) _ HO.out hS hq0 (by omega)).mono ?_; rintro e w3 ⟨v3, rfl, ho3, hk3⟩; have HO3 := Lib.hid ho3; have HK3 := Lib.hid hk3; clear ho3 hk3)
      have hlt' := HO.out.lt
      go_roundw
      case rel =>
        refine ⟨k + 1, 0, 0, 0, by omega, by go_num, ?_, ?_, ?_, ?_⟩
        · rw [encK, ← HQ.out]; exact HO3.out
        · exact (HK3.out.block _ (by omega) (fun e => by have := (HO.out.lt _ e).1; omega)).trans HX.out
        · exact HB.out.trans ((HK3.out.mono (B' := w.heap.size) (S' := fun _ => False) (by omega) (fun k hk h => by have := (HO.out.lt _ h).1; omega)).below (fun _ _ h => h))
        · have := HK3.out.size; omega
      case measure => simp [intOf]; omega
    · clear hO hX hB
      go_wp2
      go_ret2
      have hk5 : k = 5 := by omega
      have h := HO.out
      rw [hk5] at h
      exact ⟨_, rfl, h.mono (by omega), HB.out⟩

set_option maxHeartbeats 1000000 in
theorem Encode_bad (c : Cmd) (w : World) (hc : checkC c ≠ 0) :
    Calls Tryd.prog 14 #[cmdV c] w (FreshBC w [] (checkC c)) := by
  have hck := fun w' => Check_any c w'
  have HCK := Lib.hid hck
  obtain ⟨q, hq⟩ : ∃ q, q = checkC c := ⟨_, rfl⟩
  rw [← hq] at hc HCK ⊢
  have hq0 : (q != 0) = true := by simpa using hc
  clear hck hq hc
  unfold cmdV at HCK ⊢
  go_enter Tryd.func14, Tryd.ntmps14
  go_wp2_with fail
  refine (HCK.out _).mono ?_
  rintro e w1 ⟨rfl, hb1⟩
  have HB1 := Lib.hid (((Below.refl w.heap.size w).alloc (Nat.le_refl _) (.cells (cmdA c) 26)).trans (hb1.mono (by simp)))
  clear hb1
  go_wp2
  go_ret2
  exact ⟨_, rfl, Own.nil _ _, HB1.out⟩
end Go.Proofs.YtpkfbmafbkgcmaaDoor

set_option linter.unusedVariables false
set_option linter.unusedSimpArgs false
namespace Go.Proofs.YtpkfbmafbkgcmaaDoor
open Go.RowKit Go.Con

theorem orZero (q : Int) (a b : UInt8) (x : UInt8) (h : q = x.toNat) : bits .or .u8 q (bits .xor .u8 (a.toNat : Int) (b.toNat : Int)) = ((x ||| (a ^^^ b)).toNat : Int) := by
  rw [h, u8_xorF, u8_orF]
theorem orIff (x a b : UInt8) : (x ||| (a ^^^ b)) = 0 ↔ x = 0 ∧ a = b := by
  rw [← UInt8.toBitVec_inj, ← UInt8.toBitVec_inj, ← UInt8.toBitVec_inj]
  simp only [UInt8.toBitVec_or, UInt8.toBitVec_xor, UInt8.toBitVec_ofNat]
  rw [BitVec.or_eq_zero_iff]
  constructor
  · rintro ⟨h1, h2⟩; exact ⟨h1, BitVec.xor_eq_zero_iff.1 h2⟩
  · rintro ⟨h1, h2⟩; exact ⟨h1, BitVec.xor_eq_zero_iff.2 h2⟩

set_option maxHeartbeats 400000 in
theorem shaSame_ne (n m c d : Nat) (a b : Option Addr) (w : World) (hne : ((n : Int) != (m : Int)) = true) :
    Calls Tryd.prog 45 #[.slice a n c, .slice b m d] w fun e w' => e = .returned (.bool false) ∧ ∃ k, w' = w.drewN k := by
  go_enter Tryd.func45, Tryd.ntmps45
  go_wp2
  go_ret
  exact ⟨rfl, 0, rfl⟩

set_option maxHeartbeats 400000 in
theorem shaSame_nil (c d : Nat) (a b : Option Addr) (w : World) :
    Calls Tryd.prog 45 #[.slice a 0 c, .slice b 0 d] w fun e w' => e = .returned (.bool true) ∧ ∃ k, w' = w.drewN k := by
  go_enter Tryd.func45, Tryd.ntmps45
  go_wp2
  refine wp_loop_rounds 1 ?_
  rw [rounds_succ]
  go_wp2
  go_ret
  exact ⟨rfl, 0, rfl⟩

set_option maxHeartbeats 400000 in
theorem shaSame_eq (x y : List UInt8) (n c d b1 o1 b2 o2 : Nat) (w : World) (hm : n ≤ 9223372036854775807) (hx : x.length = n) (hy : y.length = n)
    (h1 : ∀ i, i < n → w.cell? ⟨b1, o1 + i, none⟩ = some (u8v (x.getD i 0))) (h2 : ∀ i, i < n → w.cell? ⟨b2, o2 + i, none⟩ = some (u8v (y.getD i 0))) :
    Calls Tryd.prog 45 #[.slice (some ⟨b1, o1, none⟩) n c, .slice (some ⟨b2, o2, none⟩) n d] w fun e w' => e = .returned (.bool (x == y)) ∧ ∃ k, w' = w.drewN k := by
  have H1 := Lib.hid h1
  have H2 := Lib.hid h2
  have Hx := Lib.hid hx
  have Hy := Lib.hid hy
  clear h1 h2 hx hy
  go_enter Tryd.func45, Tryd.ntmps45
  go_wp2
  go_loopw [5, 14] (fun q j wr => ∃ k : Nat, ∃ z : UInt8, ∃ nd, k ≤ n ∧ j = .int .i64 k ∧ q = .int .u8 z.toNat ∧ (z = 0 ↔ x.take k = y.take k) ∧ wr = w.drewN nd) (fun _ j _ => n - (intOf j).toNat)
  case atStart => exact ⟨0, 0, 0, Nat.zero_le _, rfl, rfl, by simp, rfl⟩
  case round =>
    obtain ⟨k, z, nd, hk, rfl, rfl, hq, rfl⟩ := hrel
    have HQ := Lib.hid hq
    clear hq
    by_cases hlt : k < n
    · obtain ⟨xk, hxk⟩ : ∃ t, t = x.getD k 0 := ⟨_, rfl⟩
      obtain ⟨yk, hyk⟩ : ∃ t, t = y.getD k 0 := ⟨_, rfl⟩
      have c1 : w.cell? ⟨b1, o1 + k, none⟩ = some (.int .u8 xk.toNat) := by rw [hxk]; exact H1.out k hlt
      have c2 : w.cell? ⟨b2, o2 + k, none⟩ = some (.int .u8 yk.toNat) := by rw [hyk]; exact H2.out k hlt
      have HX := Lib.hid hxk
      have HY := Lib.hid hyk
      clear hxk hyk
      go_wp2
      go_quiet (fail)
      go_wp2
      go_roundw
      case rel =>
        refine ⟨k + 1, z ||| (xk ^^^ yk), _, by omega, by go_num, by rw [orZero _ _ _ z rfl], ?_, rfl⟩
        rw [orIff, HQ.out]
        have hx1 : k < x.length := by rw [Hx.out]; exact hlt
        have hy1 : k < y.length := by rw [Hy.out]; exact hlt
        rw [List.take_succ_eq_append_getElem hx1, List.take_succ_eq_append_getElem hy1, HX.out, HY.out]
        constructor
        · rintro ⟨e1, e2⟩
          have : x[k] = y[k] := by simpa [hx1, hy1] using e2
          rw [e1, this]
        · intro e
          have := List.append_inj e (by simp; omega)
          refine ⟨this.1, ?_⟩
          have h := this.2
          simpa [hx1, hy1] using h
      case measure => simp [intOf]; omega
    · have hz : ((z.toNat : Int) == 0) = (x == y) := by
        have hkn : k = n := by omega
        have h := HQ.out
        rw [hkn, List.take_of_length_le (by rw [Hx.out]; omega), List.take_of_length_le (by rw [Hy.out]; omega)] at h
        rw [Bool.eq_iff_iff, beq_iff_eq, beq_iff_eq, ← h]
        constructor
        · intro e; apply UInt8.toNat_inj.1; simpa using e
        · intro e; rw [e]; rfl
      have HZ := Lib.hid hz
      clear hz
      go_wp2
      go_ret
      exact ⟨by rw [← HZ.out]; rfl, _, rfl⟩

theorem shaSame_any (a b : Value) (x y : List UInt8) (w : World) (ha : Rd w a x) (hb : Rd w b y) :
    Calls Tryd.prog 45 #[a, b] w fun e w' => e = .returned (.bool (x == y)) ∧ ∃ k, w' = w.drewN k := by
  obtain ⟨p, c, rfl, h1, h2, h0, h3⟩ := ha
  obtain ⟨q, d, rfl, k1, k2, k0, k3⟩ := hb
  by_cases hne : x.length = y.length
  · by_cases hx : x = []
    · subst hx
      have hy : y = [] := List.eq_nil_of_length_eq_zero (by simpa using hne.symm)
      subst hy
      exact shaSame_nil c d p q w
    · obtain ⟨b1, o1, rfl, hc1⟩ := h3 hx
      obtain ⟨b2, o2, rfl, hc2⟩ := k3 (by intro h; subst h; exact hx (List.eq_nil_of_length_eq_zero (by simpa using hne)))
      rw [← hne] at hc2 ⊢
      exact shaSame_eq x y x.length c d b1 o1 b2 o2 w (Nat.le_trans h1 h2) rfl hne.symm hc1 hc2
  · have : (x == y) = false := by
      rw [beq_eq_false_iff_ne]; intro h; exact hne (by rw [h])
    rw [this]
    exact shaSame_ne _ _ _ _ _ _ w (by rw [bne_iff_ne]; omega)

theorem shaSame_true (a b : Value) (x y : List UInt8) (w : World) (ha : Rd w a x) (hb : Rd w b y) (h : x = y) :
    Calls Tryd.prog 45 #[a, b] w fun e w' => e = .returned (.bool true) ∧ ∃ k, w' = w.drewN k :=
  (shaSame_any a b x y w ha hb).mono fun e w' ⟨he, hw⟩ => ⟨by rw [he, h]; simp, hw⟩
theorem shaSame_false (a b : Value) (x y : List UInt8) (w : World) (ha : Rd w a x) (hb : Rd w b y) (h : x ≠ y) :
    Calls Tryd.prog 45 #[a, b] w fun e w' => e = .returned (.bool false) ∧ ∃ k, w' = w.drewN k :=
  (shaSame_any a b x y w ha hb).mono fun e w' ⟨he, hw⟩ => ⟨by rw [he, beq_eq_false_iff_ne.2 h], hw⟩

end Go.Proofs.YtpkfbmafbkgcmaaDoor

set_option linter.unusedVariables false
set_option linter.unusedSimpArgs false
namespace Go.Proofs.YtpkfbmafbkgcmaaDoor
open Go.RowKit Go.Con

set_option maxHeartbeats 400000 in
theorem same_any (a b : Value) (x y : List UInt8) (w : World) (ha : Rd w a x) (hb : Rd w b y) :
    Calls Tryd.prog 17 #[a, b] w fun e w' => e = .returned (.bool (x == y)) ∧ w = w' := by
  have h1 := run_str w a x ha
  have h2 := run_str w b y hb
  clear ha hb
  go_enter Tryd.func17, Tryd.ntmps17
  go_wp2
  go_ret
  exact ⟨rfl, rfl⟩

theorem same_true (a b : Value) (x y : List UInt8) (w : World) (ha : Rd w a x) (hb : Rd w b y) (h : x = y) :
    Calls Tryd.prog 17 #[a, b] w fun e w' => e = .returned (.bool true) ∧ w = w' :=
  (same_any a b x y w ha hb).mono fun e w' ⟨he, hw⟩ => ⟨by rw [he, h]; simp, hw⟩

end Go.Proofs.YtpkfbmafbkgcmaaDoor

set_option linter.unusedVariables false
set_option linter.unusedSimpArgs false
namespace Go.Proofs.YtpkfbmafbkgcmaaDoor
open Go.RowKit Go.Con
theorem Rd.shapeN {w : World} {v : Value} {l : List UInt8} (h : Rd w v l) (n : Nat) (hn : l.length = n) (h0 : 0 < n) : ∃ b off c, v = .slice (some ⟨b, off, none⟩) n c ∧ n ≤ c ∧ c ≤ maxLen := by
  subst hn
  obtain ⟨a, c, rfl, h1, h2, _, h3⟩ := h
  obtain ⟨b, off, rfl, _⟩ := h3 (by intro h; rw [h] at h0; exact absurd h0 (by decide))
  exact ⟨b, off, c, rfl, h1, h2⟩
theorem Rd.tail {w : World} {b off n c : Nat} {l : List UInt8} (h : Rd w (.slice (some ⟨b, off, none⟩) n c) l) (k m : Nat) (hk : k < n) (hm : m = n - k) : Rd w (.slice (some ⟨b, off + k, none⟩) m (c - k)) (l.drop k) := by
  subst hm
  obtain ⟨a', c', he, hlc, hcm, h0, hcell⟩ := h
  injection he with e1 e2 e3
  subst e1 e2 e3
  have hlen : (l.drop k).length = l.length - k := by simp
  refine ⟨_, _, by rw [hlen], by omega, by omega, (fun h => by cases h), fun hne => ?_⟩
  obtain ⟨b', o', e4, hc⟩ := hcell (by intro h; rw [h] at hk; exact absurd hk (by simp))
  injection e4 with e4
  injection e4 with e5 e6 e7
  subst e5 e6
  refine ⟨_, _, rfl, fun i hi => ?_⟩
  rw [hlen] at hi
  rw [show off + k + i = off + (k + i) by omega, hc (k + i) (by omega)]
  simp [List.getElem?_drop]
/-- a cut from lo to hi -/
theorem Rd.mid {w : World} {b off n c : Nat} {l : List UInt8} (h : Rd w (.slice (some ⟨b, off, none⟩) n c) l) (k m : Nat) (hk : k < n) (hm : k + m ≤ n) : Rd w (.slice (some ⟨b, off + k, none⟩) m (c - k)) ((l.drop k).take m) := by
  have h1 := h.tail k (n - k) hk rfl
  obtain ⟨_, _, e, _⟩ := h
  injection e with _ e2 _
  exact h1.pre m (by simp; omega)
theorem same_trueR (a b : Value) (x y : List UInt8) (w : World) (ha : Rd w a x) (hb : Rd w b y) (h : x = y) :
    Calls Tryd.prog 17 #[a, b] w fun e w' => e = .returned (.bool true) ∧ w' = w :=
  (same_true a b x y w ha hb h).mono fun e w' ⟨he, hw⟩ => ⟨he, hw.symm⟩
theorem same_R (a b : Value) (x y : List UInt8) (w : World) (t : Bool) (ha : Rd w a x) (hb : Rd w b y) (h : (x == y) = t) :
    Calls Tryd.prog 17 #[a, b] w fun e w' => e = .returned (.bool t) ∧ w' = w :=
  (same_any a b x y w ha hb).mono fun e w' ⟨he, hw⟩ => ⟨by rw [he, h], hw.symm⟩
end Go.Proofs.YtpkfbmafbkgcmaaDoor
