/-
  The walk of conclavekeep.DrawMade: what is drawn first is a Mac of the info and one.
-/
import Derived.Test.YtdjnbnbhpjiicaaDoorShaP
import Derived.Test.YtdjnbnbhpjiicaaDoorJoin
import Derived.Test.YtdjnbnbhpjiicaaDoorTail
namespace Go.Proofs.YtdjnbnbhpjiicaaDoor
open Go.RowKit Go.Con

theorem drawMade1 (s t i : List UInt8) : (Sha.draw s t i 50).take 32 = Sha.mac (Sha.mac t s) (i ++ [1]) := by
  rw [Sha.draw, List.take_take]
  show ((([] ++ Sha.piece (Sha.mac t s) i 1) ++ Sha.piece (Sha.mac t s) i 2).take 32) = _
  rw [List.nil_append, List.take_append_of_le_length (by rw [Sha.piece_length]; decide), List.take_of_length_le (by rw [Sha.piece_length]; decide)]
  show Sha.mac (Sha.mac t s) (([] ++ i) ++ [1]) = _
  rw [List.nil_append]
theorem drawMade2 (s t i : List UInt8) : (Sha.draw s t i 50).drop 32 = (Sha.mac (Sha.mac t s) (Sha.mac (Sha.mac t s) (i ++ [1]) ++ (i ++ [2]))).take 18 := by
  rw [Sha.draw, List.drop_take]
  show ((([] ++ Sha.piece (Sha.mac t s) i 1) ++ Sha.piece (Sha.mac t s) i 2).drop 32).take 18 = _
  rw [List.nil_append, List.drop_append_of_le_length (by rw [Sha.piece_length]; decide), List.drop_of_length_le (by rw [Sha.piece_length]; decide), List.nil_append]
  show (Sha.mac (Sha.mac t s) ((Sha.mac (Sha.mac t s) (([] ++ i) ++ [1]) ++ i) ++ [2])).take 18 = _
  rw [List.nil_append, List.append_assoc]
set_option maxRecDepth 100000 in
set_option maxHeartbeats 1000000 in
theorem walk_DrawMade (va : Value) (a : List UInt8) (vb : Value) (b : List UInt8) (vc : Value) (c : List UInt8) (w : World) (ha : Rd w va a) (hb : Rd w vb b) (hc : Rd w vc c) (hk : Kn w) :
    Calls Tryd.prog 11 #[va, vb, vc] w fun e w' => e = .returned (.bool true) ∧ Below w.heap.size w w' := by
  obtain ⟨aa, ca, rfl, hlca, hcma⟩ := ha.slice
  have R_a := Lib.hid ha
  clear ha
  obtain ⟨ab, cb, rfl, hlcb, hcmb⟩ := hb.slice
  have R_b := Lib.hid hb
  clear hb
  obtain ⟨ac, cc, rfl, hlcc, hcmc⟩ := hc.slice
  have R_c := Lib.hid hc
  clear hc
  have HK := Lib.hid hk
  clear hk
  have HB0 := Lib.hid (Below.refl w.heap.size w)
  have s0 : w.heap.size ≤ w.heap.size := Nat.le_refl _
  obtain ⟨Da, hDa⟩ : ∃ D, D = a.take 60 := ⟨_, rfl⟩
  have hDla : Da.length ≤ 60 := by rw [hDa]; simp; omega
  have hsa := fun v w (h : Rd w v a) => some_any v a 60 w h (by decide)
  rw [← hDa] at hsa
  have HSa := Lib.hid hsa
  have DLa := Lib.hid hDla
  have HDa := Lib.hid hDa
  clear hDa hDla hsa
  obtain ⟨Db, hDb⟩ : ∃ D, D = b.take 60 := ⟨_, rfl⟩
  have hDlb : Db.length ≤ 60 := by rw [hDb]; simp; omega
  have hsb := fun v w (h : Rd w v b) => some_any v b 60 w h (by decide)
  rw [← hDb] at hsb
  have HSb := Lib.hid hsb
  have DLb := Lib.hid hDlb
  have HDb := Lib.hid hDb
  clear hDb hDlb hsb
  obtain ⟨Dc, hDc⟩ : ∃ D, D = c.take 60 := ⟨_, rfl⟩
  have hDlc : Dc.length ≤ 60 := by rw [hDc]; simp; omega
  have hsc := fun v w (h : Rd w v c) => some_any v c 60 w h (by decide)
  rw [← hDc] at hsc
  have HSc := Lib.hid hsc
  have DLc := Lib.hid hDlc
  have HDc := Lib.hid hDc
  clear hDc hDlc hsc
  go_enter Tryd.func11, Tryd.ntmps11
  go_wp2_with fail
  refine (HSb.out _ _ R_b.out).mono ?_
  rintro e w1 ⟨vp, rfl, hop, hb1⟩
  have T1 := Lib.hid hb1
  replace R_a := Lib.hid (R_a.out.stay T1.out)
  replace R_b := Lib.hid (R_b.out.stay T1.out)
  replace R_c := Lib.hid (R_c.out.stay T1.out)
  have HB1 := Lib.hid (HB0.out.trans (T1.out.mono s0))
  have s1 := HB1.out.size
  have R_p := Lib.hid hop.rd
  clear hb1 hop
  go_wp2_with fail
  refine (HSa.out _ _ R_a.out).mono ?_
  rintro e w2 ⟨vq, rfl, hoq, hb2⟩
  have T2 := Lib.hid hb2
  replace R_a := Lib.hid (R_a.out.stay T2.out)
  replace R_b := Lib.hid (R_b.out.stay T2.out)
  replace R_c := Lib.hid (R_c.out.stay T2.out)
  replace R_p := Lib.hid (R_p.out.stay T2.out)
  have HB2 := Lib.hid (HB1.out.trans (T2.out.mono s1))
  have s2 := HB2.out.size
  have R_q := Lib.hid hoq.rd
  clear hb2 hoq
  go_wp2_with fail
  refine (Mac_ok _ _ Db Da _ R_p.out R_q.out (by have := DLb.out; omega) (by have := DLa.out; omega) (HK.out.stay HB2.out)).mono ?_
  rintro e w3 ⟨vk, rfl, hok, hb3⟩
  have T3 := Lib.hid hb3
  replace R_a := Lib.hid (R_a.out.stay T3.out)
  replace R_b := Lib.hid (R_b.out.stay T3.out)
  replace R_c := Lib.hid (R_c.out.stay T3.out)
  replace R_p := Lib.hid (R_p.out.stay T3.out)
  replace R_q := Lib.hid (R_q.out.stay T3.out)
  have HB3 := Lib.hid (HB2.out.trans (T3.out.mono s2))
  have s3 := HB3.out.size
  have R_k := Lib.hid hok.rd
  clear hb3 hok
  obtain ⟨ak, ck, rfl, hlck, hcmk⟩ := R_k.out.sliceN 32 (Sha.mac_length _ _)
  clear R_p
  clear R_q
  go_wp2_with fail
  refine (HSc.out _ _ R_c.out).mono ?_
  rintro e w4 ⟨vi, rfl, hoi, hb4⟩
  have T4 := Lib.hid hb4
  replace R_a := Lib.hid (R_a.out.stay T4.out)
  replace R_b := Lib.hid (R_b.out.stay T4.out)
  replace R_c := Lib.hid (R_c.out.stay T4.out)
  replace R_k := Lib.hid (R_k.out.stay T4.out)
  have HB4 := Lib.hid (HB3.out.trans (T4.out.mono s3))
  have s4 := HB4.out.size
  have R_i := Lib.hid hoi.rd
  clear hb4 hoi
  obtain ⟨ai, ci, hvi, _, _⟩ := R_i.out.slice
  subst hvi
  go_wp2_with fail
  have hb5 : Below w4.heap.size w4 (w4.alloc (.cells #[.int .u8 1] 5)) := (Below.refl _ _).alloc (Nat.le_refl _) _
  have hrone := newB w4 1 1 rfl
  have hz5 : w4.heap.size + 1 = (w4.alloc (.cells #[.int .u8 1] 5)).heap.size := by simp
  generalize hW5 : w4.alloc (.cells #[.int .u8 1] 5) = w5 at hb5 hz5 hrone ⊢
  have Z5 := Lib.hid hz5
  clear hz5
  clear hW5
  have T5 := Lib.hid hb5
  replace R_a := Lib.hid (R_a.out.stay T5.out)
  replace R_b := Lib.hid (R_b.out.stay T5.out)
  replace R_c := Lib.hid (R_c.out.stay T5.out)
  replace R_k := Lib.hid (R_k.out.stay T5.out)
  replace R_i := Lib.hid (R_i.out.stay T5.out)
  have HB5 := Lib.hid (HB4.out.trans (T5.out.mono s4))
  have s5 := HB5.out.size
  have R_one := Lib.hid hrone
  clear hrone
  clear hb5
  go_wp2_with fail
  refine (joined2b _ _ _ _ Dc [1] Z5.out R_i.out R_one.out (by have := DLc.out; omega) (by decide)).mono ?_
  rintro e w6 ⟨vj1, rfl, hoj1, hb6⟩
  have T6 := Lib.hid (((Below.refl w5.heap.size w5).alloc (Nat.le_refl _) _).trans (hb6.mono (by simp)))
  replace R_a := Lib.hid (R_a.out.stay T6.out)
  replace R_b := Lib.hid (R_b.out.stay T6.out)
  replace R_c := Lib.hid (R_c.out.stay T6.out)
  replace R_k := Lib.hid (R_k.out.stay T6.out)
  replace R_i := Lib.hid (R_i.out.stay T6.out)
  replace R_one := Lib.hid (R_one.out.stay T6.out)
  have HB6 := Lib.hid (HB5.out.trans (T6.out.mono s5))
  have s6 := HB6.out.size
  have R_j1 := Lib.hid hoj1.rd
  clear hb6 hoj1
  go_wp2_with fail
  refine (Mac_ok _ _ (Sha.mac Db Da) (Dc ++ [1]) _ R_k.out R_j1.out (by rw [Sha.mac_length]; decide) (by rw [List.length_append]; have := DLc.out; simp; omega) (HK.out.stay HB6.out)).mono ?_
  rintro e w7 ⟨vx, rfl, hox, hb7⟩
  have T7 := Lib.hid hb7
  replace R_a := Lib.hid (R_a.out.stay T7.out)
  replace R_b := Lib.hid (R_b.out.stay T7.out)
  replace R_c := Lib.hid (R_c.out.stay T7.out)
  replace R_k := Lib.hid (R_k.out.stay T7.out)
  replace R_i := Lib.hid (R_i.out.stay T7.out)
  replace R_one := Lib.hid (R_one.out.stay T7.out)
  replace R_j1 := Lib.hid (R_j1.out.stay T7.out)
  have HB7 := Lib.hid (HB6.out.trans (T7.out.mono s6))
  have s7 := HB7.out.size
  have R_x := Lib.hid hox.rd
  clear hb7 hox
  obtain ⟨ax, cx, rfl, hlcx, hcmx⟩ := R_x.out.sliceN 32 (Sha.mac_length _ _)
  clear R_j1
  clear R_one
  clear R_i
  go_wp2_with fail
  refine (HSc.out _ _ R_c.out).mono ?_
  rintro e w8 ⟨vi2, rfl, hoi2, hb8⟩
  have T8 := Lib.hid hb8
  replace R_a := Lib.hid (R_a.out.stay T8.out)
  replace R_b := Lib.hid (R_b.out.stay T8.out)
  replace R_c := Lib.hid (R_c.out.stay T8.out)
  replace R_k := Lib.hid (R_k.out.stay T8.out)
  replace R_x := Lib.hid (R_x.out.stay T8.out)
  have HB8 := Lib.hid (HB7.out.trans (T8.out.mono s7))
  have s8 := HB8.out.size
  have R_i2 := Lib.hid hoi2.rd
  clear hb8 hoi2
  obtain ⟨ai2, ci2, hvi2, _, _⟩ := R_i2.out.slice
  subst hvi2
  go_wp2_with fail
  have hb9 : Below w8.heap.size w8 (w8.alloc (.cells #[.int .u8 2] 5)) := (Below.refl _ _).alloc (Nat.le_refl _) _
  have hrtwo := newB w8 2 2 rfl
  have hz9 : w8.heap.size + 1 = (w8.alloc (.cells #[.int .u8 2] 5)).heap.size := by simp
  generalize hW9 : w8.alloc (.cells #[.int .u8 2] 5) = w9 at hb9 hz9 hrtwo ⊢
  have Z9 := Lib.hid hz9
  clear hz9
  clear hW9
  have T9 := Lib.hid hb9
  replace R_a := Lib.hid (R_a.out.stay T9.out)
  replace R_b := Lib.hid (R_b.out.stay T9.out)
  replace R_c := Lib.hid (R_c.out.stay T9.out)
  replace R_k := Lib.hid (R_k.out.stay T9.out)
  replace R_x := Lib.hid (R_x.out.stay T9.out)
  replace R_i2 := Lib.hid (R_i2.out.stay T9.out)
  have HB9 := Lib.hid (HB8.out.trans (T9.out.mono s8))
  have s9 := HB9.out.size
  have R_two := Lib.hid hrtwo
  clear hrtwo
  clear hb9
  go_wp2_with fail
  refine (joined3b _ _ _ _ _ (Sha.mac (Sha.mac Db Da) (Dc ++ [1])) Dc [2] Z9.out R_x.out R_i2.out R_two.out (by rw [Sha.mac_length]; decide) (by have := DLc.out; omega) (by decide)).mono ?_
  rintro e w10 ⟨vj2, rfl, hoj2, hb10⟩
  have T10 := Lib.hid (((Below.refl w9.heap.size w9).alloc (Nat.le_refl _) _).trans (hb10.mono (by simp)))
  replace R_a := Lib.hid (R_a.out.stay T10.out)
  replace R_b := Lib.hid (R_b.out.stay T10.out)
  replace R_c := Lib.hid (R_c.out.stay T10.out)
  replace R_k := Lib.hid (R_k.out.stay T10.out)
  replace R_x := Lib.hid (R_x.out.stay T10.out)
  replace R_i2 := Lib.hid (R_i2.out.stay T10.out)
  replace R_two := Lib.hid (R_two.out.stay T10.out)
  have HB10 := Lib.hid (HB9.out.trans (T10.out.mono s9))
  have s10 := HB10.out.size
  have R_j2 := Lib.hid hoj2.rd
  clear hb10 hoj2
  go_wp2_with fail
  refine (Mac_ok _ _ (Sha.mac Db Da) _ _ R_k.out R_j2.out (by rw [Sha.mac_length]; decide) (by rw [List.length_append, List.length_append, Sha.mac_length]; have := DLc.out; simp; omega) (HK.out.stay HB10.out)).mono ?_
  rintro e w11 ⟨vy, rfl, hoy, hb11⟩
  have T11 := Lib.hid hb11
  replace R_a := Lib.hid (R_a.out.stay T11.out)
  replace R_b := Lib.hid (R_b.out.stay T11.out)
  replace R_c := Lib.hid (R_c.out.stay T11.out)
  replace R_k := Lib.hid (R_k.out.stay T11.out)
  replace R_x := Lib.hid (R_x.out.stay T11.out)
  replace R_i2 := Lib.hid (R_i2.out.stay T11.out)
  replace R_two := Lib.hid (R_two.out.stay T11.out)
  replace R_j2 := Lib.hid (R_j2.out.stay T11.out)
  have HB11 := Lib.hid (HB10.out.trans (T11.out.mono s10))
  have s11 := HB11.out.size
  have R_y := Lib.hid hoy.rd
  clear hb11 hoy
  obtain ⟨ay, cy, rfl, hlcy, hcmy⟩ := R_y.out.sliceN 32 (Sha.mac_length _ _)
  clear R_j2
  clear R_two
  clear R_i2
  clear R_k
  go_wp2_with fail
  refine (HSa.out _ _ R_a.out).mono ?_
  rintro e w12 ⟨vs1, rfl, hos1, hb12⟩
  have T12 := Lib.hid hb12
  replace R_a := Lib.hid (R_a.out.stay T12.out)
  replace R_b := Lib.hid (R_b.out.stay T12.out)
  replace R_c := Lib.hid (R_c.out.stay T12.out)
  replace R_x := Lib.hid (R_x.out.stay T12.out)
  replace R_y := Lib.hid (R_y.out.stay T12.out)
  have HB12 := Lib.hid (HB11.out.trans (T12.out.mono s11))
  have s12 := HB12.out.size
  have R_s1 := Lib.hid hos1.rd
  clear hb12 hos1
  go_wp2_with fail
  refine (HSb.out _ _ R_b.out).mono ?_
  rintro e w13 ⟨vs2, rfl, hos2, hb13⟩
  have T13 := Lib.hid hb13
  replace R_a := Lib.hid (R_a.out.stay T13.out)
  replace R_b := Lib.hid (R_b.out.stay T13.out)
  replace R_c := Lib.hid (R_c.out.stay T13.out)
  replace R_x := Lib.hid (R_x.out.stay T13.out)
  replace R_y := Lib.hid (R_y.out.stay T13.out)
  replace R_s1 := Lib.hid (R_s1.out.stay T13.out)
  have HB13 := Lib.hid (HB12.out.trans (T13.out.mono s12))
  have s13 := HB13.out.size
  have R_s2 := Lib.hid hos2.rd
  clear hb13 hos2
  go_wp2_with fail
  refine (HSc.out _ _ R_c.out).mono ?_
  rintro e w14 ⟨vs3, rfl, hos3, hb14⟩
  have T14 := Lib.hid hb14
  replace R_a := Lib.hid (R_a.out.stay T14.out)
  replace R_b := Lib.hid (R_b.out.stay T14.out)
  replace R_c := Lib.hid (R_c.out.stay T14.out)
  replace R_x := Lib.hid (R_x.out.stay T14.out)
  replace R_y := Lib.hid (R_y.out.stay T14.out)
  replace R_s1 := Lib.hid (R_s1.out.stay T14.out)
  replace R_s2 := Lib.hid (R_s2.out.stay T14.out)
  have HB14 := Lib.hid (HB13.out.trans (T14.out.mono s13))
  have s14 := HB14.out.size
  have R_s3 := Lib.hid hos3.rd
  clear hb14 hos3
  go_wp2_with fail
  refine (Draw_ok _ _ _ Da Db Dc 50 _ R_s1.out R_s2.out R_s3.out (by have := DLa.out; omega) (by have := DLb.out; omega) (by have := DLc.out; omega) (by decide) (HK.out.stay HB14.out)).mono ?_
  rintro e w15 ⟨vd, rfl, hrd, _, hb15⟩
  have T15 := Lib.hid hb15
  replace R_a := Lib.hid (R_a.out.stay T15.out)
  replace R_b := Lib.hid (R_b.out.stay T15.out)
  replace R_c := Lib.hid (R_c.out.stay T15.out)
  replace R_x := Lib.hid (R_x.out.stay T15.out)
  replace R_y := Lib.hid (R_y.out.stay T15.out)
  replace R_s1 := Lib.hid (R_s1.out.stay T15.out)
  replace R_s2 := Lib.hid (R_s2.out.stay T15.out)
  replace R_s3 := Lib.hid (R_s3.out.stay T15.out)
  have HB15 := Lib.hid (HB14.out.trans (T15.out.mono s14))
  have s15 := HB15.out.size
  have R_d := Lib.hid hrd
  clear hb15 hrd
  obtain ⟨bd, od, cd, hvd, hcd⟩ := R_d.out.shapeN 50 (Sha.draw_length _ _ _ _) (by decide)
  subst hvd
  have hp1 : ∀ n, Rd (w15.drewN n) (.slice (some ⟨bd, od, none⟩) 32 cd) ((Sha.draw Da Db Dc 50).take 32) := fun n => R_d.out.pre 32 (by rw [Sha.draw_length]; decide)
  have hp2 : ∀ n, Rd (w15.drewN n) (.slice (some ⟨bd, od + 32, none⟩) 18 (cd - 32)) ((Sha.draw Da Db Dc 50).drop 32) := fun n => R_d.out.tail 32 18 (by decide) rfl
  have hp3 : ∀ n, Rd (w15.drewN n) _ _ := fun n => R_x.out
  have hp4 : ∀ n, Rd (w15.drewN n) _ _ := fun n => R_y.out.pre 18 (by rw [Sha.mac_length]; decide)
  have HP1 := Lib.hid hp1
  have HP2 := Lib.hid hp2
  have HP3 := Lib.hid hp3
  have HP4 := Lib.hid hp4
  clear hp1 hp2 hp3 hp4
  have hcd32 : cd ≠ 32 := by omega
  go_wp2_with fail
  go_quiet ((go_at_call 26; first | (with_reducible exact Calls.quiet_of_same (same_trueR _ _ _ _ _ (HP1.out _) (HP3.out _) (drawMade1 Da Db Dc))) | (with_reducible exact Calls.quiet_of_same (same_trueR _ _ _ _ _ (HP2.out _) (HP4.out _) (drawMade2 Da Db Dc)))))
  go_wp2
  go_ret
  exact ⟨rfl, below_drewN HB15.out nq⟩

end Go.Proofs.YtdjnbnbhpjiicaaDoor
