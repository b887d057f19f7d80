/-
  The walk of seal.Open.
-/
import Derived.Test.YtoekopdogfnkhaaSea
import Derived.Test.YtoekopdogfnkhaaTail
import Derived.Deep.RegionWith
set_option linter.unusedVariables false
set_option linter.unusedSimpArgs false
namespace Go.Proofs.Ytoekopdogfnkhaa
open Go.RowKit Go.Con
set_option maxHeartbeats 1000000 in
theorem Open_short (ka na aa sa : Option Addr) (kc nc ac sc n m : Nat) (w : World) (hn : n ≤ 256) (hm : m < 16) :
    Calls Try.prog 18 #[.slice ka 32 kc, .slice na 12 nc, .slice aa n ac, .slice sa m sc] w fun e w' => e = .returned (.tuple #[.slice none 0 0, .int .i64 13]) ∧ w = w' := by
  have hc := fun w => sealCheck_ok ka na aa sa kc nc ac sc n m 2016 w hn (by omega)
  have HC := Lib.hid hc
  have h1 : decide ((m : Int) < 16) = true := by rw [decide_eq_true_eq]; omega
  have h2 : decide ((m : Int) - 16 < 0) = true := by rw [decide_eq_true_eq]; omega
  clear hc
  go_enter Try.func18, Try.ntmps18
  go_wp2_with fail
  refine (HC.out _).mono ?_
  rintro e _ ⟨rfl, rfl⟩
  go_wp2
  go_ret2
  exact ⟨rfl, rfl⟩
/-- what opening leaves -/
def OpenPost (w : World) (key nonce known sealed tg : List UInt8) (e : Ending) (w' : World) : Prop :=
  (Sea.tag key nonce known sealed = tg ∧ FreshBE w (Cha.mix key 1 nonce sealed) 0 e w') ∨ (Sea.tag key nonce known sealed ≠ tg ∧ e = .returned (.tuple #[.slice none 0 0, .int .i64 6]) ∧ Below w.heap.size w w')
set_option maxRecDepth 100000 in
set_option maxHeartbeats 2000000 in
theorem Open_any (kv nv av dv : Value) (key nonce known d : List UInt8) (n : Nat) (w : World) (hk : Rd w kv key) (hn : Rd w nv nonce) (ha : Rd w av known) (hd : Rd w dv d) (hkl : key.length = 32) (hnl : nonce.length = 12) (hal : known.length ≤ 256) (hdl : d.length = n + 16) (hn2 : n ≤ 2000) :
    Calls Try.prog 18 #[kv, nv, av, dv] w (OpenPost w key nonce known (d.take n) (d.drop n)) := by
  obtain ⟨s, hs⟩ : ∃ s, s = d.take n := ⟨_, rfl⟩
  obtain ⟨g, hg⟩ : ∃ g, g = d.drop n := ⟨_, rfl⟩
  have hsl : s.length = n := by rw [hs, List.length_take]; omega
  have hgl : g.length = 16 := by rw [hg, List.length_drop]; omega
  rw [← hs, ← hg]
  have hmix := fun kv nv pv w h1 h2 h3 => Mix_nat kv nv pv key nonce s 1 1 w h1 h2 h3 hkl hnl (by decide) (by omega) rfl
  have htag := fun kv nv av sv w h1 h2 h3 h4 => sealTag_any kv nv av sv key nonce known s w h1 h2 h3 h4 hkl hnl hal (by omega)
  obtain ⟨t, ht⟩ : ∃ t, t = (Sea.tag key nonce known s == g) := ⟨_, rfl⟩
  have hsm := fun a b w h1 h2 => shaSame_any a b (Sea.tag key nonce known s) g w h1 h2
  rw [← ht] at hsm
  obtain ⟨q, hq⟩ : ∃ q, known.length = q := ⟨_, rfl⟩
  obtain ⟨aa, ac, rfl, _, _⟩ := ha.sliceN q hq
  have hql : q ≤ 256 := by omega
  obtain ⟨db, do_, dc, rfl, hdc, hdcm⟩ := hd.shapeN (n + 16) hdl (by omega)
  obtain ⟨ka, kc, rfl, _, _⟩ := hk.sliceN 32 hkl
  obtain ⟨na, nc, rfl, _, _⟩ := hn.sliceN 12 hnl
  have hps := hd.pre n (by omega)
  have hpg := hd.tail n 16 (by omega) (by omega)
  rw [← hs] at hps
  rw [← hg] at hpg
  have hc := fun w => sealCheck_ok ka na aa (some ⟨db, do_, none⟩) kc nc ac dc q (n + 16) 2016 w hql (by omega)
  have R_k := Lib.hid hk
  have R_n := Lib.hid hn
  have R_a := Lib.hid ha
  have R_s := Lib.hid hps
  have R_g := Lib.hid hpg
  have HMIX := Lib.hid hmix
  have HTAG := Lib.hid htag
  have HSM := Lib.hid hsm
  have HT := Lib.hid ht
  have HC := Lib.hid hc
  obtain ⟨m, hm⟩ : ∃ m, n + 16 = m := ⟨_, rfl⟩
  rw [hm] at hdc HC ⊢
  have hmi : (m : Int) - 16 = (n : Int) := by omega
  have hmw : IntKind.i64.wrap ((m : Int) - 16) = (n : Int) := by rw [hmi]; exact IntWalk.i64_in _ (by omega)
  have hn0 : decide ((n : Int) < 0) = false := by rw [decide_eq_false_iff_not]; omega
  have hnm : (n : Int) ≤ (m : Int) := by omega
  have hndc : (n : Int) ≤ (dc : Int) := by omega
  have hmdc : (m : Int) ≤ (dc : Int) := by omega
  have hdcn : ¬ (dc = n) := by omega
  have hmn : m - n = 16 := by omega
  clear hk hn ha hd hkl hnl hal hdl hs hg hsl hgl hmix htag ht hsm hq hps hpg hc
  go_enter Try.func18, Try.ntmps18
  go_wp2_with fail
  refine (HC.out _).mono ?_
  rintro e _ ⟨rfl, rfl⟩
  go_wp2_with fail
  go_region_with (first
    | (go_at_call 26; refine (HTAG.out _ _ _ _ _ (R_k.out.drewN 1) (R_n.out.drewN 1) (R_a.out.drewN 1) (R_s.out.drewN 1)).mono ?_; rintro e w1 ⟨v1, rfl, ho1, hb1⟩; have O1 := Lib.hid ho1; have B1 := Lib.hid hb1; clear ho1 hb1)
    | (go_at_call 25; refine (HSM.out _ _ _ O1.out.rd ((R_g.out.drewN 1).stay B1.out)).mono ?_; rintro e w2 ⟨rfl, hd2⟩))
  all_goals
    have hb2 : Below w.heap.size w w2 := by obtain ⟨r, rfl⟩ := hd2; exact below_drewN (((below_drewN (Below.refl w.heap.size w) 1).trans B1.out)) r
    have B2 := Lib.hid hb2
    clear hd2 hb2 B1 O1
    by_cases htt : t = true
    · have heq : Sea.tag key nonce known s = g := by have h := HT.out; rw [htt] at h; simpa using h.symm
      have HEQ := Lib.hid heq
      subst htt
      clear heq
      go_wp2_with fail
      refine (HMIX.out _ _ _ _ (R_k.out.stay B2.out) (R_n.out.stay B2.out) (R_s.out.stay B2.out)).mono ?_
      rintro e w3 ⟨v3, rfl, ho3, hb3⟩
      have O3 := Lib.hid ho3
      have B3 := Lib.hid (B2.out.trans (hb3.mono B2.out.size))
      have s2 := B2.out.size
      clear ho3 hb3
      go_wp2_with fail
      go_ret2
      exact .inl ⟨HEQ.out, _, rfl, O3.out.mono s2, B3.out⟩
    · have htf : t = false := by simpa using htt
      have hne : Sea.tag key nonce known s ≠ g := by have h := HT.out; rw [htf] at h; intro e; rw [e] at h; simp at h
      have HNE := Lib.hid hne
      subst htf
      clear htt hne
      go_wp2
      go_ret2
      exact .inr ⟨HNE.out, rfl, B2.out⟩
end Go.Proofs.Ytoekopdogfnkhaa
