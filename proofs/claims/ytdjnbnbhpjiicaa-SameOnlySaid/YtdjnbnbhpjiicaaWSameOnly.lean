/-
  The walk of conclavekeep.SameOnly: two lists are the same just if each byte is.
-/
import Derived.Test.YtdjnbnbhpjiicaaSameK
import Derived.Test.YtdjnbnbhpjiicaaShaSame
import Derived.Test.YtdjnbnbhpjiicaaSome
import Derived.Test.YtdjnbnbhpjiicaaPick
import Derived.Test.YtdjnbnbhpjiicaaBit
import Derived.Test.YtdjnbnbhpjiicaaFrm
namespace Go.Proofs.Ytdjnbnbhpjiicaa
open Go.RowKit Go.Con

/-- One byte of what is shown is turned. -/
theorem Rd.set {w : World} {g off n c : Nat} {l : List UInt8} (h : Rd w (.slice (some ⟨g, off, none⟩) n c) l) (k : Nat) (hk : k < l.length) (x : UInt8) :
    Rd (w.setCell ⟨g, off + k, none⟩ (u8v x)) (.slice (some ⟨g, off, none⟩) n c) (l.set k x) := by
  obtain ⟨a', c', he, hlc, hcm, h0, hcell⟩ := h
  injection he with e1 e2 e3
  subst e1 e2 e3
  obtain ⟨b, o, e4, hc⟩ := hcell (by intro h; rw [h] at hk; cases hk)
  injection e4 with e4
  injection e4 with e5 e6 e7
  subst e5 e6
  refine ⟨_, _, by rw [List.length_set], by simpa using hlc, hcm, (fun h => by cases h), fun _ => ⟨_, _, rfl, fun i hi => ?_⟩⟩
  rw [List.length_set] at hi
  by_cases hik : i = k
  · subst hik
    have h1 := hc i hi
    have h2 : (l.set i x).getD i 0 = x := by simp [hi]
    rw [h2]
    exact World.cell?_setCell_same w _ _ (by rw [h1])
  · have h2 : (l.set k x).getD i 0 = l.getD i 0 := by simp [List.getElem?_set, Ne.symm hik]
    rw [h2, World.cell?_setCell_other _ _ _ _ (by intro e; injection e; omega)]
    exact hc i hi

theorem quiet_same {f : FuncId} {args : Array Value} {w W : World} {v : Value} (h : Calls Try.prog f args W fun e w' => e = .returned v ∧ w' = W) (hW : ∃ n, W = w.drewN n) :
    Calls Try.prog f args W fun e w'' => e = .returned v ∧ ∃ n, w'' = w.drewN n :=
  h.mono fun _ _ ⟨he, hm⟩ => ⟨he, by rw [hm]; exact hW⟩
theorem picked_to (n m q : Int) (w : World) (h1 : -9223372036854775808 ≤ n) (h2 : n ≤ 9223372036854775807) (h3 : 0 < m) (hq : Hid (pick n m = q)) :
    Calls Try.prog 15 #[.int .i64 n, .int .i64 m] w fun e w' => e = .returned (.int .i64 q) ∧ w' = w :=
  (picked_any n m w h1 h2 h3).mono fun e w' ⟨he, hw⟩ => ⟨by rw [he, hq.out], hw.symm⟩
theorem Own.free {w : World} {base g n c : Nat} {l : List UInt8} (h : Own w base (.slice (some ⟨g, 0, none⟩) n c) l) (k : Nat) : w.frozen? ⟨g, k, none⟩ = false := by
  obtain ⟨hl, h2⟩ := h
  rcases h2 with ⟨h3, hn⟩ | ⟨g', cap, cur, h3, hb, hg, r⟩
  · cases h3
  · injection h3 with e1 e2 e3
    injection e1 with e1
    injection e1 with e4
    subst e4
    exact freeAt hg k
set_option maxRecDepth 100000 in
set_option maxHeartbeats 1000000 in
theorem walk_SameOnly (v : Value) (l : List UInt8) (vi : Value) (i : Int) (vx : Value) (x : Int) (w : World) (hv : Rd w v l) (hi : IsInt vi i) (hx : IsInt vx x) :
    Calls Try.prog 3 #[v, vi, vx] w fun e w' => e = .returned (.bool true) ∧ Below w.heap.size w w' := by
  obtain ⟨rfl, hi1, hi2⟩ := hi
  obtain ⟨rfl, hx1, hx2⟩ := hx
  obtain ⟨a, c, rfl, hlc, hcm⟩ := hv.slice
  have HV := Lib.hid hv
  obtain ⟨A, hA⟩ : ∃ A, A = l.take 60 := ⟨_, rfl⟩
  have hA60 : A.length ≤ 60 := by rw [hA]; simp; omega
  have hs := fun w' (h : Rd w' (.slice a l.length c) l) => some_any (.slice a l.length c) l 60 w' h (by decide)
  rw [← hA] at hs
  have HS := Lib.hid hs
  clear hs hv hA
  by_cases h0 : A.length = 0
  · have hA0 : A = [] := List.eq_nil_of_length_eq_zero h0
    subst hA0
    go_enter Try.func3, Try.ntmps3
    go_wp2_with fail
    refine (HS.out _ HV.out).mono ?_
    rintro e w1 ⟨v1, rfl, ho1, hb1⟩
    have HO1 := Lib.hid ho1
    have HB1 := Lib.hid hb1
    obtain ⟨a1, c1, rfl, _, _⟩ := HO1.out.rd.sliceN 0 rfl
    clear ho1 hb1
    go_wp2_with (at_builtin; refine apB rfl (.const (.slice none 0 0)) (.tmp 11) rfl w1.heap.size (.slice none 0 0) _ [] [] rfl (Own.nil _ _) rfl HO1.out.rd (by simp) (Nat.le_refl _) ?_; intro v4 w4 hown4 hg4; have HO4 := Lib.hid hown4; have HG4 := Lib.hid hg4; clear hown4 hg4)
    have RE : ∀ W : World, Rd (W.alloc (.cells #[] 5)) (.slice (some ⟨W.heap.size, 0, none⟩) 0 0) [] := fun W => Rd.newRow W [] 0 rfl (by decide)
    have R1 : ∀ W : World, Rd (W.alloc (.cells #[.int .u8 0] 5)) (.slice (some ⟨W.heap.size, 0, none⟩) 1 1) [0] := fun W => newB W 0 0 rfl
    refine (shaSame_true _ _ [] [] _ (Rd.nil _) (RE _) rfl).mono ?_
    rintro e w5 ⟨rfl, hd5⟩
    have HB5 : Hid (Below w.heap.size w w5) := by
      obtain ⟨q, rfl⟩ := hd5
      have b4 : Below w.heap.size w w4 := HB1.out.grown HG4.out HB1.out.size (fun k hk => by cases hk)
      exact below_drewN (b4.alloc b4.size _) q
    clear hd5
    have RR := Lib.hid R1
    clear R1 RE
    go_wp2_with fail
    refine (shaSame_false _ _ [] [0] _ (Rd.nil _) (RR.out _) (by decide)).mono ?_
    rintro e w6 ⟨rfl, hd6⟩
    have HB6 : Hid (Below w.heap.size w w6) := by
      obtain ⟨q, rfl⟩ := hd6
      exact below_drewN (HB5.out.alloc HB5.out.size _) q
    clear hd6
    go_wp2
    go_ret
    exact ⟨rfl, HB6.out⟩
  · have q0 := pick_nonneg i (A.length : Int) (by omega)
    have q1 := pick_lt i (A.length : Int) (by omega)
    have r0 := pick_nonneg x 256 (by omega)
    have r1 := pick_lt x 256 (by omega)
    obtain ⟨k, hk⟩ : ∃ k : Nat, pick i (A.length : Int) = (k : Int) := ⟨(pick i (A.length : Int)).toNat, by omega⟩
    obtain ⟨z, hz⟩ : ∃ z : UInt8, pick x 256 = (z.toNat : Int) := ⟨UInt8.ofNat (pick x 256).toNat, by rw [UInt8.toNat_ofNat']; omega⟩
    rw [hk] at q0 q1
    obtain ⟨n, hn⟩ : ∃ n, n = A.length := ⟨_, rfl⟩
    rw [← hn] at hk q1 h0 hA60
    have HN := Lib.hid hn
    have HP1 := Lib.hid hk
    have HP2 := Lib.hid hz
    have hkn : k < n := by omega
    have hzz := z.toNat_lt
    have hn0 : (n == 0) = false := by simpa using h0
    clear q0 q1 r0 r1 hk hz hn
    go_enter Try.func3, Try.ntmps3
    go_wp2_with fail
    refine (HS.out _ HV.out).mono ?_
    rintro e w1 ⟨v1, rfl, ho1, hb1⟩
    have HO1 := Lib.hid ho1
    have HB1 := Lib.hid hb1
    obtain ⟨g1, c1, hv1, hg1, hg1', hc1, hm1⟩ := HO1.out.shape (by intro h; have := HN.out; rw [h] at this; exact h0 this)
    rw [← HN.out] at hv1 hc1
    subst hv1
    clear ho1 hb1
    go_wp2_with (at_builtin; refine apB rfl (.const (.slice none 0 0)) (.tmp 11) rfl w1.heap.size (.slice none 0 0) _ [] A rfl (Own.nil _ _) rfl HO1.out.rd (by rw [← HN.out]; simp; omega) (Nat.le_refl _) ?_; intro v4 w4 hown4 hg4; have HO4 := Lib.hid hown4; have HG4 := Lib.hid hg4; clear hown4 hg4)
    obtain ⟨g4, c4, hv4, hg4, hg4', hc4, hm4⟩ := HO4.out.shape (by intro h; have := HN.out; rw [List.nil_append] at h; rw [h] at this; exact h0 this)
    rw [List.nil_append, ← HN.out] at hv4
    rw [List.nil_append] at hc4
    subst hv4
    have hR4 : Rd w4 (.slice (some ⟨g4, 0, none⟩) n c4) A := by have := HO4.out.rd; rwa [List.nil_append] at this
    have B4 : Below w1.heap.size w1 w4 := (Below.refl _ _).grown HG4.out (Nat.le_refl _) (fun k hk => by cases hk)
    have HB4 := Lib.hid (HB1.out.trans (B4.mono HB1.out.size))
    have HR1 := Lib.hid (HO1.out.rd.stay B4)
    obtain ⟨y, hy⟩ : ∃ y, y = A.getD k 0 := ⟨_, rfl⟩
    have hck : w4.cell? ⟨g4, k, none⟩ = some (.int .u8 y.toNat) := by
      obtain ⟨a', c', e, _, _, _, h⟩ := hR4
      injection e with e1 e2 e3
      subst e1
      obtain ⟨b, off, e4, h2⟩ := h (by intro h; have := HN.out; rw [h] at this; exact h0 this)
      injection e4 with e4
      injection e4 with e5 e6
      subst e5 e6
      have h3 := h2 k (by rw [← HN.out]; exact hkn)
      rw [Nat.zero_add] at h3
      rw [hy]; exact h3
    have hfk := HO4.out.free k
    have HY := Lib.hid hy
    have HR4 := Lib.hid hR4
    clear B4 hy hR4
    refine region_quiet_tail 12 (by kernel_rfl) (by kernel_rfl) ?_
    simp only [List.take_succ_cons, List.take_zero, List.drop_succ_cons, List.drop_zero]
    repeat (go_big_quiet_step ((go_at_call 15; refine quiet_same (picked_to _ _ _ _ (by assumption) (by assumption) (by omega) (by assumption)) ⟨_, rfl⟩)))
    refine wpQuiet_nil ?_
    intro w9 hw9
    obtain ⟨nq, rfl⟩ := hw9
    go_wp2_with fail
    rw [u8_xorF]
    have B5 : Below w1.heap.size w1 ((w4.drewN nq).setCell ⟨g4, k, none⟩ (.int .u8 ((y ^^^ z).toNat : Int))) := by
      have B4 : Below w1.heap.size w1 w4 := (Below.refl _ _).grown HG4.out (Nat.le_refl _) (fun k hk => by cases hk)
      exact (below_drewN B4 nq).setCell hg4 _
    have hRb : Rd ((w4.drewN nq).setCell ⟨g4, k, none⟩ (.int .u8 ((y ^^^ z).toNat : Int))) (.slice (some ⟨g4, 0, none⟩) n c4) (A.set k (y ^^^ z)) := by
      have h := (HR4.out.drewN nq).set k (by rw [← HN.out]; exact hkn) (y ^^^ z)
      rw [Nat.zero_add] at h
      exact h
    obtain ⟨w5, hw5⟩ : ∃ w5, w5 = (w4.drewN nq).setCell ⟨g4, k, none⟩ (.int .u8 ((y ^^^ z).toNat : Int)) := ⟨_, rfl⟩
    rw [← hw5] at B5 hRb ⊢
    have HB5 := Lib.hid (HB1.out.trans (B5.mono HB1.out.size))
    have HRa := Lib.hid (HO1.out.rd.stay B5)
    have HRb := Lib.hid hRb
    clear B5 hRb hw5 hck hfk
    refine (shaSame_any _ _ A (A.set k (y ^^^ z)) _ HRa.out HRb.out).mono ?_
    rintro e w6 ⟨rfl, hd6⟩
    have hb6 : Below w5.heap.size w5 w6 := by obtain ⟨q, rfl⟩ := hd6; exact below_drewN (Below.refl _ _) q
    have HB6 := Lib.hid (HB5.out.trans (hb6.mono HB5.out.size))
    have HRa6 := Lib.hid (HRa.out.stay hb6)
    have HRb6 := Lib.hid (HRb.out.stay hb6)
    clear hb6 hd6
    obtain ⟨t, ht⟩ : ∃ t, t = (A == A.set k (y ^^^ z)) := ⟨_, rfl⟩
    have hs6 := fun w' (h1 : Rd w' (.slice (some ⟨g1, 0, none⟩) n c1) A) (h2 : Rd w' (.slice (some ⟨g4, 0, none⟩) n c4) (A.set k (y ^^^ z))) => same_any _ _ A (A.set k (y ^^^ z)) w' h1 h2
    rw [← ht] at hs6 ⊢
    have HS6 := Lib.hid hs6
    clear hs6 ht
    go_wp2_with fail
    refine (HS6.out _ HRa6.out HRb6.out).mono ?_
    rintro e _ ⟨rfl, rfl⟩
    go_wp2_with fail
    refine (shaSame_true _ _ A A _ HRa6.out HRa6.out rfl).mono ?_
    rintro e w7 ⟨rfl, hd7⟩
    have HB7 : Hid (Below w.heap.size w w7) := by
      obtain ⟨q, rfl⟩ := hd7
      exact below_drewN HB6.out q
    clear hd7
    go_wp2_with fail
    all_goals
      refine (shaSame_ne _ _ _ _ _ _ _ (by rw [bne_iff_ne]; omega)).mono ?_
      rintro e w8 ⟨rfl, hd8⟩
      have HB8 : Hid (Below w.heap.size w w8) := by
        obtain ⟨q, rfl⟩ := hd8
        exact below_drewN HB7.out q
      clear hd8
      go_wp2
      go_ret
      exact ⟨rfl, HB8.out⟩
end Go.Proofs.Ytdjnbnbhpjiicaa
