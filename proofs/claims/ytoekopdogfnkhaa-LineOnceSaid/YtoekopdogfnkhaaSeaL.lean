/-
  What is sealed is opened; what is opened is what sealing makes; what was shown stays where it is appended to.
-/
import Derived.Test.YtoekopdogfnkhaaSeaO
import Derived.Test.YtoekopdogfnkhaaFilled
import Derived.Test.YtoekopdogfnkhaaSome
import Derived.Test.YtoekopdogfnkhaaSameK
set_option linter.unusedVariables false
set_option linter.unusedSimpArgs false
namespace Go.Con.Sea
theorem boxed_again (key nonce known d : List UInt8) (n : Nat) (h : tag key nonce known (d.take n) = d.drop n) : boxed key nonce known (Cha.mix key 1 nonce (d.take n)) = d := by
  rw [boxed, Cha.mix_twice, h, List.take_append_drop]
theorem fill_pad (l : List UInt8) (n : Nat) (h : n = (l.length + 15) / 16 * 16) : Con.fill l n = pad l := by
  rw [Con.fill, pad, List.take_of_length_le (by omega)]
  congr 2
  omega
theorem lengths (n m : Nat) (hn : n ≤ 60) (hm : m ≤ 300) : Pol.leB 8 n ++ Pol.leB 8 m = [UInt8.ofNat n, 0, 0, 0, 0, 0, 0, 0, UInt8.ofNat m, UInt8.ofNat (m / 256), 0, 0, 0, 0, 0, 0] := by
  simp only [Pol.leB, List.cons_append, List.nil_append]
  rw [show n / 256 = 0 by omega, show m / 256 / 256 = 0 by omega]
  rfl
end Go.Con.Sea
namespace Go.Proofs.Ytoekopdogfnkhaa
open Go.RowKit Go.Con
theorem Open_sealed (kv nv av xv : Value) (key nonce known plain x : List UInt8) (w : World) (hk : Rd w kv key) (hn : Rd w nv nonce) (ha : Rd w av known) (hx : Rd w xv x) (hkl : key.length = 32) (hnl : nonce.length = 12) (hal : known.length ≤ 256) (hpl : plain.length ≤ 2000) (hb : x = Sea.boxed key nonce known plain) :
    Calls Try.prog 18 #[kv, nv, av, xv] w (FreshBE w plain 0) := by
  subst hb
  refine (Open_any kv nv av xv key nonce known _ plain.length w hk hn ha hx hkl hnl hal (Sea.boxed_length _ _ _ _) hpl).mono ?_
  intro e w' h
  rw [Sea.boxed_take, Sea.boxed_drop] at h
  rcases h with ⟨_, h⟩ | ⟨h, _⟩
  · rw [Cha.mix_twice] at h; exact h
  · exact absurd rfl h
theorem append_old (w : World) (base : Nat) (ty : TypeId) (i : TypeInfo) (hi : Try.prog.info? 5 = some i) (hz : i.zero = some (.int .u8 0)) (hsize : i.size = 1) (hby : i.bytes = 1)
    (v : Value) (l : List UInt8) (hown : Own w base v l) (ad : Addr) (m c : Nat) (news : List Value) (hl : news.length = m * 1) (hnews : ∀ j u, news[j]? = some u → w.cell? (ad.add j) = some u) (h1 : ∀ u ∈ news, u.oneCell' = true)
    (hbytes : l.length + m ≤ 140737488355328) :
    ∃ v' w', (Builtin.append_ #[22, 22] ty #[v, .slice (some ad) m c]).run Try.prog w = .ok v' w' ∧ Rd w' v l := by
  have ht : Try.prog.underlying 22 = some (.slice 5) := Try.underlying22
  have hrd := hown.rd
  obtain ⟨hxl, h2⟩ := hown
  rcases h2 with ⟨rfl, hn⟩ | ⟨g, cap, cur, rfl, hbg, hg, hnc, hcm, hcs, htake⟩
  · have hl0 : l = [] := List.eq_nil_of_length_eq_zero hn
    subst hl0
    by_cases hm : m = 0
    · subst hm
      refine ⟨.slice none 0 0, w, ?_, Rd.nil _⟩
      simp [Builtin.append_, run_underlying ht, sizeOf, typeInfo, hi, Builtin.lenOf, Builtin.firstCells, loadCells, loadCellsFrom]
    · have hr := run_append_nil (P := Try.prog) w 22 ty 5 i (.int .u8 0) ht hi hz ad m c news (by rw [hsize]; exact hl) hnews (by omega) (by omega) (by rw [hby]; omega)
      exact ⟨_, _, hr, Rd.nil _⟩
  · by_cases hroom : l.length + m ≤ cap
    · have hr := run_append_room (P := Try.prog) w 22 ty 5 i ht hi g l.length cap cur hg ad m c news (by rw [hsize]; exact hl) hnews h1 hroom (by rw [hsize, hl, hcs]; omega)
      refine ⟨_, _, hr, ?_⟩
      refine ⟨_, _, rfl, hnc, hcm, (fun h => by cases h), fun _ => ⟨g, 0, rfl, fun i hi => ?_⟩⟩
      rw [Nat.zero_add]
      refine cellAt (setRow_heap w g cur _ _ _ hg) i ?_
      have : (cur.toList.take (l.length * 1))[i]? = some (u8v (l.getD i 0)) := by rw [htake]; simp [hi]
      rw [Nat.mul_one] at this
      simp only [List.getElem?_toArray, hsize, Nat.mul_one, List.append_assoc]
      have hcl : cur.toList.length = cur.size := by simp
      rw [List.getElem?_append_left (by rw [List.length_take, hcl]; omega)]
      exact this
    · have holds : ∀ j u, (l.map u8v)[j]? = some u → w.cell? ((⟨g, 0, none⟩ : Addr).add j) = some u := World.ownsRow.cells (base := base) (e := 5) (size := 1) (n := l.length) ⟨hxl, .inr ⟨g, cap, cur, rfl, hbg, hg, hnc, hcm, hcs, htake⟩⟩ (g := g) rfl
      have hr := run_append_grow (P := Try.prog) w 22 ty 5 i (.int .u8 0) ht hi hz ⟨g, 0, none⟩ l.length cap (l.map u8v) (by rw [hsize]; exact hxl) holds ad m c news (by rw [hsize]; exact hl) hnews (by omega) (by omega) (growslice_fits (by omega) (by rw [hby]; omega))
      exact ⟨_, _, hr, Rd.stay (w := w) hrd ((below_drewN (Below.refl _ _) 1).alloc (Nat.le_refl _) _)⟩
section
variable {ops : Array Oper} {rest : List Oper} {o : Oper} {a : Act} {Q : Exit → Act → World → Prop} {w : World}
/-- append(own, shown...), and what was shown stays. -/
theorem apBo (hgd : o.guard = none) (s x : Operand) (ho : o.op = .call { callee := .builtin .append, args := #[s, x], argTypes := #[22, 22] })
    (base : Nat) (v : Value) (ad : Addr) (c n : Nat) (l m : List UInt8) (hs : a.eval s = v) (hown : Own w base v l) (hx : a.eval x = .slice (some ad) n c) (hn : m.length = n) (hsrc : Rd w (.slice (some ad) n c) m) (hlen : l.length + m.length ≤ 140737488355328) (hbase : base ≤ w.heap.size)
    (h : ∀ v' w', Own w' base v' (l ++ m) → w.grownBy w' v.ownBlock → Rd w' v l → wpList Try.prog ops Q rest (a.put o.dst v') w') : wpList Try.prog ops Q (o :: rest) a w := by
  subst hn
  obtain ⟨i0, hi, hz0, hz1, hz2⟩ := info_parts Try.info8
  refine wpList_plain hgd fun K hK => ?_
  obtain ⟨v', w', hr, h2, h3, h4⟩ := run_append_own (P := Try.prog) w base 22 o.type 5 i0 (.int .u8 0) 1 1 Try.underlying22 hi hz0 hz1 hz2 rfl (by decide) v l.length _ hown ad m.length c (m.map u8v) (by simp) (hsrc.cells ad rfl) (one8 m) (by unfold maxLen; omega) (by omega) hbase
  obtain ⟨v2, w2, hr2, hw⟩ := append_old w base o.type i0 hi hz0 hz1 hz2 v l hown ad m.length c (m.map u8v) (by simp) (hsrc.cells ad rfl) (one8 m) (by omega)
  have e := hr.symm.trans hr2
  injection e with e1 e2
  subst e1 e2
  unfold Oper.wp execOp
  simp only [ho, resolve, invoke, builtin, Sem.run_bind, Sem.run_pure, Result.andThen_ok, List.map_toArray, List.map_cons, List.map_nil, hs, hx, hr]
  refine hK _ _ (h v' w' ?_ h3 hw)
  unfold Own
  rw [List.length_append, List.map_append]
  exact h2
end
end Go.Proofs.Ytoekopdogfnkhaa
