/-
  The plain laws of DoOnce, DoValues, DoRevoked, DoNoop, DoTurns, DoRises (no program in sight).
-/
import Derived.Test.YtocdnochnjlhlaaDoorVaL
set_option linter.unusedVariables false
set_option linter.unusedSimpArgs false
namespace Go.Con
/-- the numbers of a wish's command -/
structure CmdNums (k cl sq nm v : Int) : Prop where
  k1 : 1 ≤ k
  k3 : k ≤ 3
  c0 : 0 ≤ cl
  c4 : cl < 4
  s0 : 0 ≤ sq
  s6 : sq < 6
  n0 : 0 ≤ nm
  n4 : nm < 4
  v0 : 0 ≤ v
  v1 : v < 1000
  vz : k ≠ 1 → v = 0
theorem cmdOf_nums (x : Cmd) : CmdNums (cmdOf x).kind (cmdOf x).client (cmdOf x).seq (cmdOf x).name (cmdOf x).value := by
  obtain ⟨⟨⟨k1, k3, c0, c7, s0, s1, n0, n7, v0, v1⟩, c4, s6, n4⟩, hz, hv⟩ := cmdOf_few x
  exact ⟨k1, k3, c0, c4, s0, s6, n0, n4, v0, hv, hz⟩
theorem CmdNums.real {k cl sq nm v : Int} (h : CmdNums k cl sq nm v) (cl' sq' nm' : Int) (h1 : 0 ≤ cl') (h2 : cl' ≤ 7) (h3 : 0 ≤ sq') (h4 : sq' ≤ 1048576) (h5 : 0 ≤ nm') (h6 : nm' ≤ 7) : Cmd.Real ⟨k, cl', sq', nm', v⟩ ∧ checkC ⟨k, cl', sq', nm', v⟩ = 0 := by
  have hr : Cmd.Real ⟨k, cl', sq', nm', v⟩ := by
    have := h.v1
    exact ⟨h.k1, h.k3, h1, h2, h3, h4, h5, h6, h.v0, by show v ≤ 1073741824; omega⟩
  exact ⟨hr, hr.check h.vz⟩
theorem noop_law {s : Sto} (h : s.Few) {k cl sq nm v : Int} (hc : CmdNums k cl sq nm v) :
    checkC ⟨k, 6, 20, nm, v⟩ = 0 ∧ checkC ⟨k, 6, 3, nm, v⟩ = 0 ∧ (s.next ⟨k, 6, 20, nm, v⟩).Ok ∧ (s.next ⟨k, 6, 20, nm, v⟩).next ⟨k, 6, 3, nm, v⟩ = s.next ⟨k, 6, 20, nm, v⟩ ∧ (s.next ⟨k, 6, 20, nm, v⟩).answer ⟨k, 6, 3, nm, v⟩ = (7, 0) := by
  have hn0 := hc.n0
  have hn4 := hc.n4
  obtain ⟨r1, e1⟩ := hc.real 6 20 nm (by omega) (by omega) (by omega) (by omega) (by omega) (by omega)
  obtain ⟨r2, e2⟩ := hc.real 6 3 nm (by omega) (by omega) (by omega) (by omega) (by omega) (by omega)
  obtain ⟨f1, f2⟩ := h.far 6 (by omega) (by omega)
  have hx := Sto.next_fresh s ⟨k, 6, 20, nm, v⟩ r1 (by show s.last 6 ≤ 20; omega) f2
  have hl : (s.done ⟨k, 6, 20, nm, v⟩).last 6 = 21 := by rw [s.done_last h.ok _ r1 6 (by omega)]; rfl
  have hy := Sto.next_old (s.done ⟨k, 6, 20, nm, v⟩) ⟨k, 6, 3, nm, v⟩ r2 (by show (3 : Int) + 1 < (s.done ⟨k, 6, 20, nm, v⟩).last 6; omega)
  refine ⟨e1, e2, s.next_ok h.ok _ e1, ?_, ?_⟩
  · rw [hx.1]; exact hy.1
  · rw [hx.1]; exact hy.2
theorem values_law {s : Sto} (h : s.Few) {k cl sq nm v n : Int} (hc : CmdNums k cl sq nm v) {u : Int} (hu0 : 0 ≤ u) (hu1 : u < 1000) (hn0 : 0 ≤ n) (hn8 : n < 8) :
    checkC ⟨1, 6, sq, nm, u⟩ = 0 ∧ checkC ⟨2, 7, 0, n, 0⟩ = 0 ∧ (s.next ⟨1, 6, sq, nm, u⟩).Ok ∧ s.answer ⟨1, 6, sq, nm, u⟩ = (0, u) ∧ (s.next ⟨1, 6, sq, nm, u⟩).answer ⟨2, 7, 0, n, 0⟩ = (0, if n = nm then u else s.val n.toNat) := by
  have a0 := hc.n0
  have a1 := hc.n4
  have a2 := hc.s0
  have a3 := hc.s6
  have r1 : Cmd.Real ⟨1, 6, sq, nm, u⟩ := ⟨(by dsimp only; omega), (by dsimp only; omega), (by dsimp only; omega), (by dsimp only; omega), a2, by show sq ≤ 1048576; omega, a0, by show nm ≤ 7; omega, hu0, by show u ≤ 1073741824; omega⟩
  have r2 : Cmd.Real ⟨2, 7, 0, n, 0⟩ := ⟨(by dsimp only; omega), (by dsimp only; omega), (by dsimp only; omega), (by dsimp only; omega), (by dsimp only; omega), (by dsimp only; omega), hn0, by show n ≤ 7; omega, (by dsimp only; omega), (by dsimp only; omega)⟩
  have e1 := r1.check (fun h => absurd rfl h)
  have e2 := r2.check (fun _ => rfl)
  obtain ⟨f1, f2⟩ := h.far 6 (by omega) (by omega)
  obtain ⟨g1, g2⟩ := h.far 7 (by omega) (by omega)
  have hx := Sto.next_fresh s ⟨1, 6, sq, nm, u⟩ r1 (by show s.last 6 ≤ sq; omega) f2
  have hl : (s.done ⟨1, 6, sq, nm, u⟩).last 7 = 0 := by rw [s.done_last h.ok _ r1 7 (by omega), if_neg (by show ¬ (7 : Nat) = Int.toNat 6; decide)]; exact g1
  have hr : (s.done ⟨1, 6, sq, nm, u⟩).rev 7 = false := by rw [s.done_r h.ok _ r1 7, if_neg (by show ¬ ((1 : Int) = 3 ∧ _); omega)]; exact g2
  have hy := Sto.next_fresh (s.done ⟨1, 6, sq, nm, u⟩) ⟨2, 7, 0, n, 0⟩ r2 (by show (s.done ⟨1, 6, sq, nm, u⟩).last 7 ≤ 0; omega) hr
  refine ⟨e1, e2, s.next_ok h.ok _ e1, hx.2, ?_⟩
  rw [hx.1, hy.2]
  unfold Sto.told
  dsimp only
  rw [if_neg (by decide), if_pos rfl, s.done_val h.ok _ r1 _ (by omega)]
  dsimp only
  by_cases hnn : n = nm
  · rw [if_pos ⟨rfl, by rw [hnn]⟩, if_pos hnn]
  · rw [if_neg (by intro ⟨_, h2⟩; exact hnn (by omega)), if_neg hnn]
theorem revoke_law {s : Sto} (h : s.Few) {k : Int} (hk0 : 0 ≤ k) (hk6 : k < 6) :
    checkC ⟨3, 7, 0, k, 0⟩ = 0 ∧ (s.next ⟨3, 7, 0, k, 0⟩).Ok ∧ s.answer ⟨3, 7, 0, k, 0⟩ = (0, 0) ∧ (s.next ⟨3, 7, 0, k, 0⟩).rev k.toNat = true ∧ (∀ i, i < 8 → (s.next ⟨3, 7, 0, k, 0⟩).val i = s.val i) ∧ (∀ i, i < 7 → (s.next ⟨3, 7, 0, k, 0⟩).last i = s.last i) := by
  have r1 : Cmd.Real ⟨3, 7, 0, k, 0⟩ := ⟨(by dsimp only; omega), (by dsimp only; omega), (by dsimp only; omega), (by dsimp only; omega), (by dsimp only; omega), (by dsimp only; omega), hk0, by show k ≤ 7; omega, (by dsimp only; omega), (by dsimp only; omega)⟩
  have e1 := r1.check (fun _ => rfl)
  obtain ⟨g1, g2⟩ := h.far 7 (by omega) (by omega)
  have hx := Sto.next_fresh s ⟨3, 7, 0, k, 0⟩ r1 (by show s.last 7 ≤ 0; omega) g2
  refine ⟨e1, s.next_ok h.ok _ e1, hx.2, ?_, ?_, ?_⟩
  · rw [hx.1, s.done_r h.ok _ r1, if_pos ⟨rfl, rfl⟩]
  · intro i hi
    rw [hx.1, s.done_val h.ok _ r1 i hi, if_neg (by show ¬ ((3 : Int) = 1 ∧ _); omega)]
  · intro i hi
    rw [hx.1, s.done_last h.ok _ r1 i (by omega), if_neg (by show ¬ i = Int.toNat 7; omega)]
theorem revoked_law {s : Sto} (h : s.Few) {j : Int} (hk0 : 0 ≤ j) (hk6 : j < 6) {k cl sq nm v : Int} (hc : CmdNums k cl sq nm v) :
    checkC ⟨k, cl, 90, nm, v⟩ = 0 ∧
    ((s.next ⟨3, 7, 0, j, 0⟩).rev cl.toNat = true → (s.next ⟨3, 7, 0, j, 0⟩).next ⟨k, cl, 90, nm, v⟩ = s.next ⟨3, 7, 0, j, 0⟩ ∧ (s.next ⟨3, 7, 0, j, 0⟩).answer ⟨k, cl, 90, nm, v⟩ = (11, 0)) ∧
    ((s.next ⟨3, 7, 0, j, 0⟩).rev cl.toNat = false → ((s.next ⟨3, 7, 0, j, 0⟩).next ⟨k, cl, 90, nm, v⟩).last cl.toNat = 91 ∧ ((s.next ⟨3, 7, 0, j, 0⟩).answer ⟨k, cl, 90, nm, v⟩).1 = 0) := by
  obtain ⟨e1, ok, _, _, _, hl⟩ := revoke_law h hk0 hk6
  have a0 := hc.n0
  have a1 := hc.n4
  have a2 := hc.c0
  have a3 := hc.c4
  obtain ⟨r1, e2⟩ := hc.real cl 90 nm (by omega) (by omega) (by omega) (by omega) (by omega) (by omega)
  have h6 := h.last6 cl.toNat (by omega)
  have hl2 := hl cl.toNat (by omega)
  refine ⟨e2, fun hr => Sto.next_rev _ _ r1 (by show _ ≤ (90 : Int); show Sto.last _ cl.toNat ≤ 90; omega) hr, fun hr => ?_⟩
  have hx := Sto.next_fresh _ ⟨k, cl, 90, nm, v⟩ r1 (by show Sto.last _ cl.toNat ≤ 90; omega) hr
  rw [hx.1, hx.2]
  refine ⟨?_, rfl⟩
  rw [Sto.done_last _ ok _ r1 _ (by omega), if_pos rfl]
  rfl
/-- once: the first time, and the second -/
theorem once_law {s : Sto} (h : s.Few) {k cl sq nm v : Int} (hc : CmdNums k cl sq nm v) :
    checkC ⟨k, cl, 50, nm, v⟩ = 0 ∧ (s.next ⟨k, cl, 50, nm, v⟩).Ok ∧ (s.next ⟨k, cl, 50, nm, v⟩).next ⟨k, cl, 50, nm, v⟩ = s.next ⟨k, cl, 50, nm, v⟩ ∧ (s.next ⟨k, cl, 50, nm, v⟩).answer ⟨k, cl, 50, nm, v⟩ = s.answer ⟨k, cl, 50, nm, v⟩ ∧
    (s.rev cl.toNat = true → s.next ⟨k, cl, 50, nm, v⟩ = s ∧ s.answer ⟨k, cl, 50, nm, v⟩ = (11, 0)) ∧
    (s.rev cl.toNat = false → (s.next ⟨k, cl, 50, nm, v⟩).last cl.toNat = 51 ∧ (s.answer ⟨k, cl, 50, nm, v⟩).1 = 0 ∧ s.answer ⟨k, cl, 50, nm, v⟩ = ((s.next ⟨k, cl, 50, nm, v⟩).code cl.toNat, (s.next ⟨k, cl, 50, nm, v⟩).aval cl.toNat)) := by
  have a0 := hc.n0
  have a1 := hc.n4
  have a2 := hc.c0
  have a3 := hc.c4
  obtain ⟨r1, e1⟩ := hc.real cl 50 nm (by omega) (by omega) (by omega) (by omega) (by omega) (by omega)
  have h6 := h.last6 cl.toNat (by omega)
  by_cases hr : s.rev cl.toNat = true
  · have hx := Sto.next_rev s ⟨k, cl, 50, nm, v⟩ r1 (by show Sto.last _ cl.toNat ≤ 50; omega) hr
    rw [hx.1, hx.2]
    exact ⟨e1, h.ok, hx.1, rfl, fun _ => ⟨rfl, rfl⟩, fun h => by rw [hr] at h; cases h⟩
  · have hr2 : s.rev cl.toNat = false := by simpa using hr
    have hx := Sto.next_fresh s ⟨k, cl, 50, nm, v⟩ r1 (by show Sto.last _ cl.toNat ≤ 50; omega) hr2
    have hok := s.done_ok h.ok _ r1
    have hl : (s.done ⟨k, cl, 50, nm, v⟩).last cl.toNat = 51 := by rw [s.done_last h.ok _ r1 _ (by omega), if_pos rfl]; rfl
    have hcd : (s.done ⟨k, cl, 50, nm, v⟩).code cl.toNat = 0 := by rw [s.done_code h.ok _ r1 _ (by omega), if_pos rfl]
    have hav : (s.done ⟨k, cl, 50, nm, v⟩).aval cl.toNat = s.told ⟨k, cl, 50, nm, v⟩ := by rw [s.done_aval h.ok _ r1 _ (by omega), if_pos rfl]
    have hy := Sto.next_same (s.done ⟨k, cl, 50, nm, v⟩) ⟨k, cl, 50, nm, v⟩ r1 (by show (50 : Int) + 1 = (s.done ⟨k, cl, 50, nm, v⟩).last cl.toNat; omega)
    rw [hx.1, hx.2]
    refine ⟨e1, hok, hy.1, ?_, (fun h => by rw [hr2] at h; cases h), fun _ => ⟨hl, rfl, ?_⟩⟩
    · rw [hy.2]; dsimp only; rw [hcd, hav]
    · rw [hcd, hav]
/-- what a store keeps of a client's command 50 while more come -/
structure Sto.Past (cl : Nat) (cd av : Int) (z : Sto) : Prop where
  ok : z.Ok
  past : z.last cl = 51 ∧ z.code cl = cd ∧ z.aval cl = av ∨ 51 < z.last cl
theorem once_more {z : Sto} {k cl sq nm v cd av : Int} (i : Nat) (hi : i < 10) (hc : CmdNums k cl sq nm v) (kk : Int) (hcl : 0 ≤ kk) (hcl4 : kk < 4) :
    checkC ⟨k, kk, 51 + i, nm, v⟩ = 0 ∧ (z.Ok → (z.next ⟨k, kk, 51 + i, nm, v⟩).Ok) ∧ (z.Past kk.toNat cd av → (z.next ⟨k, kk, 51 + i, nm, v⟩).Past kk.toNat cd av) := by
  have a0 := hc.n0
  have a1 := hc.n4
  obtain ⟨r1, e1⟩ := hc.real kk (51 + i) nm (by omega) (by omega) (by omega) (by omega) (by omega) (by omega)
  refine ⟨e1, fun h => z.next_ok h _ e1, fun h => ⟨z.next_ok h.ok _ e1, ?_⟩⟩
  unfold Sto.next
  by_cases hf : z.fresh ⟨k, kk, 51 + i, nm, v⟩ = true
  · rw [if_pos hf, z.done_last h.ok _ r1 _ (by omega), if_pos rfl]
    right
    show (51 : Int) < 51 + i + 1
    omega
  · rw [if_neg hf]; exact h.past
theorem once_last {z : Sto} {k cl sq nm v cd av : Int} (hc : CmdNums k cl sq nm v) (h : z.Past cl.toNat cd av) :
    z.next ⟨k, cl, 50, nm, v⟩ = z ∧ (z.answer ⟨k, cl, 50, nm, v⟩ = (cd, av) ∨ (z.answer ⟨k, cl, 50, nm, v⟩).1 = 7) := by
  have a0 := hc.n0
  have a1 := hc.n4
  have a2 := hc.c0
  have a3 := hc.c4
  obtain ⟨r1, e1⟩ := hc.real cl 50 nm (by omega) (by omega) (by omega) (by omega) (by omega) (by omega)
  rcases h.past with ⟨p1, p2, p3⟩ | p
  · have hx := Sto.next_same z ⟨k, cl, 50, nm, v⟩ r1 (by show (50 : Int) + 1 = z.last cl.toNat; omega)
    refine ⟨hx.1, .inl ?_⟩
    rw [hx.2]; dsimp only; rw [p2, p3]
  · have hx := Sto.next_old z ⟨k, cl, 50, nm, v⟩ r1 (by show (50 : Int) + 1 < z.last cl.toNat; omega)
    exact ⟨hx.1, .inr (by rw [hx.2])⟩
theorem turns_law {s : Sto} (h : s.Few) {k cl sq nm v k' cl' sq' nm' v' : Int} (hc : CmdNums k cl sq nm v) (hd : CmdNums k' cl' sq' nm' v') :
    checkC ⟨k, 5, sq, 1, v⟩ = 0 ∧ checkC ⟨k', 6, sq', 2, v'⟩ = 0 ∧ (s.next ⟨k, 5, sq, 1, v⟩).Ok ∧ (s.next ⟨k', 6, sq', 2, v'⟩).Ok ∧
    (s.next ⟨k, 5, sq, 1, v⟩).next ⟨k', 6, sq', 2, v'⟩ = (s.next ⟨k', 6, sq', 2, v'⟩).next ⟨k, 5, sq, 1, v⟩ ∧ ((s.next ⟨k, 5, sq, 1, v⟩).next ⟨k', 6, sq', 2, v'⟩).Ok ∧
    (s.next ⟨k', 6, sq', 2, v'⟩).answer ⟨k, 5, sq, 1, v⟩ = s.answer ⟨k, 5, sq, 1, v⟩ ∧ (s.next ⟨k, 5, sq, 1, v⟩).answer ⟨k', 6, sq', 2, v'⟩ = s.answer ⟨k', 6, sq', 2, v'⟩ ∧ ((s.next ⟨k, 5, sq, 1, v⟩).next ⟨k', 6, sq', 2, v'⟩).last 5 = sq + 1 := by
  have a0 := hc.s0
  have a1 := hc.s6
  have b0 := hd.s0
  have b1 := hd.s6
  obtain ⟨r1, e1⟩ := hc.real 5 sq 1 (by omega) (by omega) (by omega) (by omega) (by omega) (by omega)
  obtain ⟨r2, e2⟩ := hd.real 6 sq' 2 (by omega) (by omega) (by omega) (by omega) (by omega) (by omega)
  obtain ⟨f1, f2⟩ := h.far 5 (by omega) (by omega)
  obtain ⟨g1, g2⟩ := h.far 6 (by omega) (by omega)
  have hx := Sto.next_fresh s ⟨k, 5, sq, 1, v⟩ r1 (by show s.last 5 ≤ sq; omega) f2
  have hy := Sto.next_fresh s ⟨k', 6, sq', 2, v'⟩ r2 (by show s.last 6 ≤ sq'; omega) g2
  have ok1 := s.done_ok h.ok _ r1
  have ok2 := s.done_ok h.ok _ r2
  have l1 : (s.done ⟨k', 6, sq', 2, v'⟩).last 5 = 0 := by rw [s.done_last h.ok _ r2 5 (by omega), if_neg (by show ¬ (5 : Nat) = Int.toNat 6; decide)]; exact f1
  have l2 : (s.done ⟨k, 5, sq, 1, v⟩).last 6 = 0 := by rw [s.done_last h.ok _ r1 6 (by omega), if_neg (by show ¬ (6 : Nat) = Int.toNat 5; decide)]; exact g1
  have v1 : (s.done ⟨k', 6, sq', 2, v'⟩).rev 5 = false := by rw [s.done_r h.ok _ r2 5, if_neg (by show ¬ (_ ∧ (5 : Nat) = Int.toNat 2); simp)]; exact f2
  have v2 : (s.done ⟨k, 5, sq, 1, v⟩).rev 6 = false := by rw [s.done_r h.ok _ r1 6, if_neg (by show ¬ (_ ∧ (6 : Nat) = Int.toNat 1); simp)]; exact g2
  have hxy := Sto.next_fresh _ ⟨k', 6, sq', 2, v'⟩ r2 (by show (s.done ⟨k, 5, sq, 1, v⟩).last 6 ≤ sq'; omega) v2
  have hyx := Sto.next_fresh _ ⟨k, 5, sq, 1, v⟩ r1 (by show (s.done ⟨k', 6, sq', 2, v'⟩).last 5 ≤ sq; omega) v1
  have ok3 := (s.done ⟨k, 5, sq, 1, v⟩).done_ok ok1 _ r2
  have ok4 := (s.done ⟨k', 6, sq', 2, v'⟩).done_ok ok2 _ r1
  have t1 : (s.done ⟨k', 6, sq', 2, v'⟩).told ⟨k, 5, sq, 1, v⟩ = s.told ⟨k, 5, sq, 1, v⟩ := by
    have e : (s.done ⟨k', 6, sq', 2, v'⟩).val (Int.toNat 1) = s.val (Int.toNat 1) := by
      rw [s.done_val h.ok _ r2 _ (by decide)]
      exact if_neg (fun hh => absurd hh.2 (by show ¬ Int.toNat 1 = Int.toNat 2; decide))
    unfold Sto.told
    dsimp only
    rw [e]
  have t2 : (s.done ⟨k, 5, sq, 1, v⟩).told ⟨k', 6, sq', 2, v'⟩ = s.told ⟨k', 6, sq', 2, v'⟩ := by
    have e : (s.done ⟨k, 5, sq, 1, v⟩).val (Int.toNat 2) = s.val (Int.toNat 2) := by
      rw [s.done_val h.ok _ r1 _ (by decide)]
      exact if_neg (fun hh => absurd hh.2 (by show ¬ Int.toNat 2 = Int.toNat 1; decide))
    unfold Sto.told
    dsimp only
    rw [e]
  rw [hx.1, hy.1, hx.2, hy.2, hxy.1, hyx.1, hxy.2, hyx.2, t1, t2]
  refine ⟨e1, e2, ok1, ok2, ?_, ok3, rfl, rfl, ?_⟩
  · refine Sto.ext_of ok3 ok4 (fun j => ?_) (fun j => ?_)
    · rw [Sto.done_n _ ok1 _ r2, Sto.done_n _ ok2 _ r1, Sto.done_n _ h.ok _ r1, Sto.done_n _ h.ok _ r2, t1, t2]
      dsimp only
      show (if j = 17 + 2 * 6 then _ else if j = 16 + 2 * 6 then _ else if _ ∧ j = 2 then _ else if j = 8 + 6 then _ else if j = 17 + 2 * 5 then _ else if j = 16 + 2 * 5 then _ else if _ ∧ j = 1 then _ else if j = 8 + 5 then _ else _) = (if j = 17 + 2 * 5 then _ else if j = 16 + 2 * 5 then _ else if _ ∧ j = 1 then _ else if j = 8 + 5 then _ else if j = 17 + 2 * 6 then _ else if j = 16 + 2 * 6 then _ else if _ ∧ j = 2 then _ else if j = 8 + 6 then _ else _)
      by_cases c1 : j = 29
      · subst c1; simp
      by_cases c2 : j = 28
      · subst c2; simp
      by_cases c3 : j = 27
      · subst c3; simp
      by_cases c4 : j = 26
      · subst c4; simp
      by_cases c5 : j = 14
      · subst c5; simp
      by_cases c6 : j = 13
      · subst c6; simp
      by_cases c7 : j = 2
      · subst c7; simp
      by_cases c8 : j = 1
      · subst c8; simp
      simp [c1, c2, c3, c4, c5, c6, c7, c8]
    · rw [Sto.done_r _ ok1 _ r2, Sto.done_r _ ok2 _ r1, Sto.done_r _ h.ok _ r1, Sto.done_r _ h.ok _ r2]
      dsimp only
      by_cases c1 : k' = 3 ∧ j = Int.toNat 2
      · rw [if_pos c1, if_pos c1]; split <;> rfl
      · rw [if_neg c1, if_neg c1]
  · rw [Sto.done_last _ ok1 _ r2 5 (by omega), if_neg (by show ¬ (5 : Nat) = Int.toNat 6; decide), s.done_last h.ok _ r1 5 (by omega)]; exact if_pos rfl
/-- nothing falls -/
theorem rises_law {s : Sto} (h : s.Few) {c : Cmd} (hc : c.Real) (he : checkC c = 0) (i : Nat) (hi : i < 8) :
    s.last i ≤ (s.next c).last i ∧ (s.rev i = true → (s.next c).rev i = true) ∧ ((i : Int) ≠ c.client → (s.next c).last i = s.last i ∧ (s.next c).code i = s.code i ∧ (s.next c).aval i = s.aval i) := by
  have c0 := hc.c0
  unfold Sto.next
  by_cases hf : s.fresh c = true
  · rw [if_pos hf]
    have hl : s.last c.client.toNat ≤ c.seq := by
      unfold Sto.fresh at hf
      simp at hf
      exact hf.2.1
    refine ⟨?_, ?_, ?_⟩
    · rw [s.done_last h.ok c hc i hi]; split
      · rename_i e; rw [e]; omega
      · exact Int.le_refl _
    · intro hr
      rw [s.done_r h.ok c hc]; split
      · rfl
      · exact hr
    · intro hne
      have hne2 : ¬ i = c.client.toNat := by omega
      rw [s.done_last h.ok c hc i hi, s.done_code h.ok c hc i hi, s.done_aval h.ok c hc i hi, if_neg hne2, if_neg hne2, if_neg hne2]
      exact ⟨rfl, rfl, rfl⟩
  · rw [if_neg hf]
    exact ⟨Int.le_refl _, id, fun _ => ⟨rfl, rfl, rfl⟩⟩
theorem rises_last {s : Sto} (h : s.Few) {c : Cmd} (hc : c.Real) (he : checkC c = 0) (hcode : (s.answer c).1 = 0) : c.seq < (s.next c).last c.client.toNat := by
  have c0 := hc.c0
  have c7 := hc.c7
  have k1 := hc.k1
  by_cases h1 : s.last c.client.toNat ≤ c.seq
  · by_cases hr : s.rev c.client.toNat = true
    · have := (Sto.next_rev s c hc h1 hr).2
      rw [this] at hcode; cases hcode
    · have hr2 : s.rev c.client.toNat = false := by simpa using hr
      rw [(Sto.next_fresh s c hc h1 hr2).1, s.done_last h.ok c hc _ (by omega), if_pos rfl]; omega
  · by_cases h2 : c.seq + 1 = s.last c.client.toNat
    · rw [(Sto.next_same s c hc h2).1]; omega
    · have := (Sto.next_old s c hc (by omega)).2
      rw [this] at hcode; cases hcode
end Go.Con
