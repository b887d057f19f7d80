/-
  The walk of conclavekeep.TokenBack: a token is proved as it was granted.
-/
import Derived.Test.YtdjnbnbhpjiicaaDoorPrv
import Derived.Test.YtdjnbnbhpjiicaaDoorPas
import Derived.Test.YtdjnbnbhpjiicaaDoorFilled
import Derived.Test.YtdjnbnbhpjiicaaDoorKnF
import Derived.Test.YtdjnbnbhpjiicaaDoorTokL
set_option linter.unusedVariables false
set_option linter.unusedSimpArgs false
namespace Go.Proofs.YtdjnbnbhpjiicaaDoor
open Go.RowKit Go.Con

set_option maxRecDepth 100000 in
set_option maxHeartbeats 1000000 in
theorem walk_TokenBack (va : Value) (a : List UInt8) (vy : Value) (y : Con.Tok) (w : World) (ha : Rd w va a) (hy : IsPass vy y) (hk : Kn w) :
    Calls Tryd.prog 13 #[va, vy] w fun e w' => e = .returned (.bool true) ∧ Below w.heap.size w w' := by
  obtain ⟨aa, ca, rfl, hlca, hcma⟩ := ha.slice
  have R_a := Lib.hid ha
  clear ha
  obtain ⟨rfl, hw_y⟩ := hy
  have HW_y := Lib.hid hw_y
  clear hw_y
  have HK := Lib.hid hk
  clear hk
  have HB0 := Lib.hid (Below.refl w.heap.size w)
  have s0 : w.heap.size ≤ w.heap.size := Nat.le_refl _
  obtain ⟨⟨tc, tr, tu⟩, ht⟩ : ∃ t, tokOf y = t := ⟨_, rfl⟩
  have htk : (Con.Tok.mk tc tr tu).Ok := by rw [← ht]; exact tokOf_ok y
  have htok := fun w => Token_any y w HW_y.out
  rw [ht] at htok
  obtain ⟨K, hKe⟩ : ∃ K, K = fill a 32 := ⟨_, rfl⟩
  have hKl : K.length = 32 := by rw [hKe]; exact fill_length _ _
  have hfk := fun v w (h : Rd w v a) => filled_any v a 32 w h (by decide)
  rw [← hKe] at hfk
  obtain ⟨y0, y1, y2⟩ := y
  unfold tokV at htok ⊢
  dsimp only at htok ⊢
  have HTK := Lib.hid htk
  have HTOK := Lib.hid htok
  have HKL := Lib.hid hKl
  have HFK := Lib.hid hfk
  clear ht htk htok hKe hKl hfk
  have hgr := fun v w h1 h2 => Grant_ok v K ⟨tc, tr, tu⟩ w h1 HKL.out HTK.out h2
  unfold tokV at hgr
  dsimp only at hgr
  obtain ⟨B, hBe⟩ : ∃ B, B = tokenB K ⟨tc, tr, tu⟩ := ⟨_, rfl⟩
  rw [← hBe] at hgr
  have hBl : B.length = 22 := by rw [hBe]; exact tokenB_length _ _
  have hpr := fun v1 v2 w h1 h2 h3 => Prove_any v1 v2 K B w h1 h2 HKL.out h3
  rw [show proveC K B = (⟨tc, tr, tu⟩, 0) by rw [hBe]; exact prove_grant _ _ HTK.out] at hpr
  unfold tokV at hpr
  dsimp only at hpr
  have HGR := Lib.hid hgr
  have HBL := Lib.hid hBl
  have HPR := Lib.hid hpr
  have hsh := fun a b kc bl bc w => Prove_short1 a b 31 kc bl bc w (by decide)
  unfold tokV Con.Tok.zero at hsh
  dsimp only at hsh
  have HSH := Lib.hid hsh
  clear hgr hBe hBl hpr hsh
  go_enter Tryd.func13, Tryd.ntmps13
  go_wp2_with fail
  have hb1 : Below w.heap.size w (w.alloc (.cells #[.int .i64 y0, .int .i64 y1, .int .i64 y2] 25)) := (Below.refl _ _).alloc (Nat.le_refl _) _
  have hx1 : (w.alloc (.cells #[.int .i64 y0, .int .i64 y1, .int .i64 y2] 25)).heap[w.heap.size]? = some (.cells #[.int .i64 y0, .int .i64 y1, .int .i64 y2] 25 (0, 0)) := heapNew w _
  generalize hW1 : w.alloc (.cells #[.int .i64 y0, .int .i64 y1, .int .i64 y2] 25) = w1 at hb1 hx1 ⊢
  clear hW1
  have T1 := Lib.hid hb1
  replace R_a := Lib.hid (R_a.out.stay T1.out)
  have HB1 := Lib.hid (HB0.out.trans (T1.out.mono s0))
  have s1 := HB1.out.size
  have X_p := Lib.hid hx1
  clear hb1 hx1
  refine (HFK.out _ _ R_a.out).mono ?_
  rintro e w2 ⟨vk, rfl, hok, hb2⟩
  have T2 := Lib.hid hb2
  replace R_a := Lib.hid (R_a.out.stay T2.out)
  replace X_p := Lib.hid ((T2.out.block _ (lt_of_heap X_p.out)).trans X_p.out)
  have HB2 := Lib.hid (HB1.out.trans (T2.out.mono s1))
  have s2 := HB2.out.size
  have R_k := Lib.hid hok.rd
  clear hb2 hok
  obtain ⟨kb, ko, kc, hvk, hkc, _⟩ := R_k.out.shapeN 32 HKL.out (by decide)
  subst hvk
  have c_p_0 := cellAt X_p.out 0 rfl
  have d_p_0 : ∀ o, (w2.alloc o).cell? ⟨w.heap.size, 0, none⟩ = some (.int .i64 y0) := fun o => (((Below.refl w2.heap.size w2).alloc (Nat.le_refl _) o).cell (p := ⟨w.heap.size, 0, none⟩) (lt_of_heap X_p.out)).trans (cellAt X_p.out 0 rfl)
  have c_p_1 := cellAt X_p.out 1 rfl
  have d_p_1 : ∀ o, (w2.alloc o).cell? ⟨w.heap.size, 1, none⟩ = some (.int .i64 y1) := fun o => (((Below.refl w2.heap.size w2).alloc (Nat.le_refl _) o).cell (p := ⟨w.heap.size, 1, none⟩) (lt_of_heap X_p.out)).trans (cellAt X_p.out 1 rfl)
  have c_p_2 := cellAt X_p.out 2 rfl
  have d_p_2 : ∀ o, (w2.alloc o).cell? ⟨w.heap.size, 2, none⟩ = some (.int .i64 y2) := fun o => (((Below.refl w2.heap.size w2).alloc (Nat.le_refl _) o).cell (p := ⟨w.heap.size, 2, none⟩) (lt_of_heap X_p.out)).trans (cellAt X_p.out 2 rfl)
  go_wp2_with fail
  refine (HTOK.out _).mono ?_
  rintro e w3 ⟨rfl, hb3⟩
  have T3 := Lib.hid hb3
  replace R_a := Lib.hid (R_a.out.stay T3.out)
  replace R_k := Lib.hid (R_k.out.stay T3.out)
  replace X_p := Lib.hid ((T3.out.block _ (lt_of_heap X_p.out)).trans X_p.out)
  clear c_p_0 d_p_0 c_p_1 d_p_1 c_p_2 d_p_2
  have HB3 := Lib.hid (HB2.out.trans (T3.out.mono s2))
  have s3 := HB3.out.size
  clear hb3
  clear X_p
  go_wp2_with fail
  have hb4 : Below w3.heap.size w3 (w3.alloc (.cells #[.int .i64 tc, .int .i64 tr, .int .i64 tu] 28)) := (Below.refl _ _).alloc (Nat.le_refl _) _
  have hx4 : (w3.alloc (.cells #[.int .i64 tc, .int .i64 tr, .int .i64 tu] 28)).heap[w3.heap.size]? = some (.cells #[.int .i64 tc, .int .i64 tr, .int .i64 tu] 28 (0, 0)) := heapNew w3 _
  generalize hW4 : w3.alloc (.cells #[.int .i64 tc, .int .i64 tr, .int .i64 tu] 28) = w4 at hb4 hx4 ⊢
  clear hW4
  have T4 := Lib.hid hb4
  replace R_a := Lib.hid (R_a.out.stay T4.out)
  replace R_k := Lib.hid (R_k.out.stay T4.out)
  have HB4 := Lib.hid (HB3.out.trans (T4.out.mono s3))
  have s4 := HB4.out.size
  have X_t := Lib.hid hx4
  clear hb4 hx4
  refine (HGR.out _ _ R_k.out (HK.out.stay HB4.out)).mono ?_
  rintro e w5 ⟨vb, rfl, hob, hb5⟩
  have T5 := Lib.hid hb5
  replace R_a := Lib.hid (R_a.out.stay T5.out)
  replace R_k := Lib.hid (R_k.out.stay T5.out)
  replace X_t := Lib.hid ((T5.out.block _ (lt_of_heap X_t.out)).trans X_t.out)
  have HB5 := Lib.hid (HB4.out.trans (T5.out.mono s4))
  have s5 := HB5.out.size
  have R_b := Lib.hid hob.rd
  clear hb5 hob
  obtain ⟨ba, bc, hvb, _, _⟩ := R_b.out.sliceN 22 HBL.out
  subst hvb
  go_wp2_with fail
  refine (HPR.out _ _ _ R_k.out R_b.out (HK.out.stay HB5.out)).mono ?_
  rintro e w6 ⟨rfl, hb6⟩
  have T6 := Lib.hid hb6
  replace R_a := Lib.hid (R_a.out.stay T6.out)
  replace R_k := Lib.hid (R_k.out.stay T6.out)
  replace R_b := Lib.hid (R_b.out.stay T6.out)
  replace X_t := Lib.hid ((T6.out.block _ (lt_of_heap X_t.out)).trans X_t.out)
  have HB6 := Lib.hid (HB5.out.trans (T6.out.mono s5))
  have s6 := HB6.out.size
  clear hb6
  go_wp2_with fail
  have hb7 : Below w6.heap.size w6 (w6.alloc (.cells #[.int .i64 tc, .int .i64 tr, .int .i64 tu] 28)) := (Below.refl _ _).alloc (Nat.le_refl _) _
  have hx7 : (w6.alloc (.cells #[.int .i64 tc, .int .i64 tr, .int .i64 tu] 28)).heap[w6.heap.size]? = some (.cells #[.int .i64 tc, .int .i64 tr, .int .i64 tu] 28 (0, 0)) := heapNew w6 _
  generalize hW7 : w6.alloc (.cells #[.int .i64 tc, .int .i64 tr, .int .i64 tu] 28) = w7 at hb7 hx7 ⊢
  clear hW7
  have T7 := Lib.hid hb7
  replace R_a := Lib.hid (R_a.out.stay T7.out)
  replace R_k := Lib.hid (R_k.out.stay T7.out)
  replace R_b := Lib.hid (R_b.out.stay T7.out)
  replace X_t := Lib.hid ((T7.out.block _ (lt_of_heap X_t.out)).trans X_t.out)
  have HB7 := Lib.hid (HB6.out.trans (T7.out.mono s6))
  have s7 := HB7.out.size
  have X_q := Lib.hid hx7
  clear hb7 hx7
  refine (HSH.out _ _ _ _ _ _).mono ?_
  rintro e w8 ⟨rfl, hb8⟩
  have T8 := Lib.hid hb8
  replace R_a := Lib.hid (R_a.out.stay T8.out)
  replace R_k := Lib.hid (R_k.out.stay T8.out)
  replace R_b := Lib.hid (R_b.out.stay T8.out)
  replace X_t := Lib.hid ((T8.out.block _ (lt_of_heap X_t.out)).trans X_t.out)
  replace X_q := Lib.hid ((T8.out.block _ (lt_of_heap X_q.out)).trans X_q.out)
  have HB8 := Lib.hid (HB7.out.trans (T8.out.mono s7))
  have s8 := HB8.out.size
  clear hb8
  have c_t_0 := cellAt X_t.out 0 rfl
  have d_t_0 : ∀ o, (w8.alloc o).cell? ⟨w3.heap.size, 0, none⟩ = some (.int .i64 tc) := fun o => (((Below.refl w8.heap.size w8).alloc (Nat.le_refl _) o).cell (p := ⟨w3.heap.size, 0, none⟩) (lt_of_heap X_t.out)).trans (cellAt X_t.out 0 rfl)
  have c_t_1 := cellAt X_t.out 1 rfl
  have d_t_1 : ∀ o, (w8.alloc o).cell? ⟨w3.heap.size, 1, none⟩ = some (.int .i64 tr) := fun o => (((Below.refl w8.heap.size w8).alloc (Nat.le_refl _) o).cell (p := ⟨w3.heap.size, 1, none⟩) (lt_of_heap X_t.out)).trans (cellAt X_t.out 1 rfl)
  have c_t_2 := cellAt X_t.out 2 rfl
  have d_t_2 : ∀ o, (w8.alloc o).cell? ⟨w3.heap.size, 2, none⟩ = some (.int .i64 tu) := fun o => (((Below.refl w8.heap.size w8).alloc (Nat.le_refl _) o).cell (p := ⟨w3.heap.size, 2, none⟩) (lt_of_heap X_t.out)).trans (cellAt X_t.out 2 rfl)
  have c_q_0 := cellAt X_q.out 0 rfl
  have d_q_0 : ∀ o, (w8.alloc o).cell? ⟨w6.heap.size, 0, none⟩ = some (.int .i64 tc) := fun o => (((Below.refl w8.heap.size w8).alloc (Nat.le_refl _) o).cell (p := ⟨w6.heap.size, 0, none⟩) (lt_of_heap X_q.out)).trans (cellAt X_q.out 0 rfl)
  have c_q_1 := cellAt X_q.out 1 rfl
  have d_q_1 : ∀ o, (w8.alloc o).cell? ⟨w6.heap.size, 1, none⟩ = some (.int .i64 tr) := fun o => (((Below.refl w8.heap.size w8).alloc (Nat.le_refl _) o).cell (p := ⟨w6.heap.size, 1, none⟩) (lt_of_heap X_q.out)).trans (cellAt X_q.out 1 rfl)
  have c_q_2 := cellAt X_q.out 2 rfl
  have d_q_2 : ∀ o, (w8.alloc o).cell? ⟨w6.heap.size, 2, none⟩ = some (.int .i64 tu) := fun o => (((Below.refl w8.heap.size w8).alloc (Nat.le_refl _) o).cell (p := ⟨w6.heap.size, 2, none⟩) (lt_of_heap X_q.out)).trans (cellAt X_q.out 2 rfl)
  go_wp2
  go_ret
  exact ⟨rfl, HB8.out.alloc HB8.out.size _⟩

end Go.Proofs.YtdjnbnbhpjiicaaDoor
