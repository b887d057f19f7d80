/-
  Texts put together: ShaT, ShaS2, ShaM, Stw, Pax.
-/
import Derived.Test.YtdkbajdnckmckaaDoorMg4
import Derived.Test.YtdkbajdnckmckaaDoorMg1
import Derived.Laws.CopyOwn
import Derived.Test.YtdkbajdnckmckaaDoorMg3
import Derived.Test.YtdkbajdnckmckaaDoorMg2
import Derived.Deep.RegionHeld3
import Derived.Deep.Cut
set_option linter.unusedVariables false
set_option linter.unusedSimpArgs false
namespace Go.Proofs.YtdkbajdnckmckaaDoor
open Go.RowKit Go.Con

/-- The words of the table lie where the program has them. -/
def Kn (w : World) : Prop := ∀ i, i < 64 → w.cell? ⟨0, i, none⟩ = some (.int .u32 (Sha.kn.getD i 0).toNat)
theorem Kn.lt {w : World} (h : Kn w) : 0 < w.heap.size := World.block_lt_of_cell? w _ (h 0 (by decide))
theorem Kn.below {w w' : World} (h : Kn w) {B : Nat} (hb : Below B w w') (hB : 0 < B) : Kn w' := fun i hi => (hb.cell (p := ⟨0, i, none⟩) hB).trans (h i hi)
theorem Kn.stay {w w' : World} (h : Kn w) (hb : Below w.heap.size w w') : Kn w' := h.below hb h.lt

set_option maxRecDepth 100000 in
set_option maxHeartbeats 1000000 in
theorem sum_any (v : Value) (l : List UInt8) (w : World) (hv : Rd w v l) (hl : l.length ≤ 1099511627776) (hk : Kn w) :
    Calls Tryd.prog 42 #[v] w fun e w' => ∃ v', e = .returned v' ∧ Own w' w.heap.size v' (Sha.sum l) ∧ Below w.heap.size w w' := by
  obtain ⟨a, c, rfl, hlc, hcm⟩ := hv.slice
  have HV := Lib.hid hv
  have HK := Lib.hid hk
  clear hv hk
  go_enter Tryd.func42, Tryd.ntmps42
  have hl0 : ([] : List UInt8).length + l.length ≤ 140737488355328 := by rw [List.length_nil]; omega
  have hl1 : ([] ++ l : List UInt8).length + [(128 : UInt8)].length ≤ 140737488355328 := by rw [List.nil_append]; simp; omega
  have n1 : ∀ W : World, Rd (W.alloc (.cells #[.int .u8 128] 5)) (.slice (some ⟨W.heap.size, 0, none⟩) 1 1) [128] := fun W => newB W 128 128 rfl
  have N1 := Lib.hid n1
  clear n1
  go_wp2_with (first
    | (at_builtin; refine apB rfl (.const (.slice none 0 0)) (.tmp 10) rfl (w.heap.size + 1) (.slice none 0 0) _ [] l rfl (Own.nil _ _) rfl (HV.out.alloc _) hl0 (by exact Nat.le_of_eq (by simp)) ?_; intro v1 w1 hown1 hg1; have HO1 := Lib.hid hown1; have HG1 := Lib.hid hg1; clear hown1 hg1)
    | (at_builtin; refine apB rfl (.tmp 11) (.tmp 12) rfl (w.heap.size + 1) v1 _ ([] ++ l) [128] rfl (HO1.out.alloc _) rfl (N1.out _) hl1 (by have := HG1.out.size; simp at this ⊢; omega) ?_; intro v2 w2 hown2 hg2; have HO2 := Lib.hid hown2; have HG2 := Lib.hid hg2; clear hown2 hg2))
  have hz : Sha.zeros l.length < 64 := Nat.mod_lt _ (by decide)
  have hzm : (l.length + 1 + Sha.zeros l.length) % 64 = 56 := by unfold Sha.zeros; omega
  have hd2 : w2.heap[w.heap.size]? = some (.cells #[.int .u32 1779033703, .int .u32 3144134277, .int .u32 1013904242, .int .u32 2773480762, .int .u32 1359893119, .int .u32 2600822924, .int .u32 528734635, .int .u32 1541459225] 97 (0, 0)) := by
    have h1 := HG1.out
    have h2 := HG2.out
    rw [h2.block _ (by have := h1.size; simp at this ⊢; omega) (fun e => by have := (HO1.out.lt _ e.symm).1; omega), heapOld _ _ _ (by have := h1.size; simp at this; omega), h1.block _ (by simp) (fun e => by simp [Value.ownBlock] at e), heapNew]
  have hb2 : Below w.heap.size w w2 := by
    have h1 := HG1.out
    have h2 := HG2.out
    refine ((((Below.refl _ _).alloc (Nat.le_refl _) _).grown h1 (by simp) (fun k hk => by simp [Value.ownBlock] at hk)).alloc (by have := h1.size; simp at this; omega) _).grown h2 (by have := h1.size; simp at this ⊢; omega) (fun k hk => by have := (HO1.out.lt k hk).1; omega)
  have hs2 : w.heap.size + 1 ≤ w2.heap.size := by have := HG1.out.size; have := HG2.out.size; simp at *; omega
  obtain ⟨g2, cap2, rfl, hg2, hg2', hc2, hcm2⟩ := HO2.out.shape (by simp)
  have hO2 : Own w2 (w.heap.size + 1) (.slice (some ⟨g2, 0, none⟩) (l.length + 1) cap2) (l ++ [128]) := by
    have := HO2.out; simpa using this
  have Hd2 := Lib.hid hd2
  have Hb2 := Lib.hid hb2
  have HO2' := Lib.hid hO2
  have Hzm := Lib.hid hzm
  have hlen2 : ([] ++ l ++ [128] : List UInt8).length = l.length + 1 := by simp
  rw [hlen2]
  clear hd2 hb2 hO2 hzm hlen2 HO1 HG1 HO2 HG2 hl0 hl1
  have n0 : ∀ W : World, Rd (W.alloc (.cells #[.int .u8 0] 5)) (.slice (some ⟨W.heap.size, 0, none⟩) 1 1) [0] := fun W => newB W 0 0 rfl
  have N0 := Lib.hid n0
  clear n0
  go_loopw [4] (fun v wr => ∃ z g cap n : Nat, z ≤ Sha.zeros l.length ∧ v = .slice (some ⟨g, 0, none⟩) n cap ∧ Hid (n = l.length + 1 + z) ∧ Own wr (w.heap.size + 1) v (l ++ [128] ++ List.replicate z 0) ∧ Below (w.heap.size + 1) w2 wr)
    (fun v _ => l.length + 65 - lenV v)
  case atStart => exact ⟨0, g2, cap2, l.length + 1, Nat.zero_le _, rfl, rfl, by have := HO2'.out; simpa using this, Below.refl _ _⟩
  case round =>
    obtain ⟨z, g, cap, n, hzz, rfl, Hn, hO, hB⟩ := hrel
    have HO := Lib.hid hO
    have HB := Lib.hid hB
    clear hO hB
    by_cases hlt : z < Sha.zeros l.length
    · have h56 : (((n : Int) % 64) != 56) = true := by
        rw [bne_iff_ne]; have := Hn.out; have := Hzm.out; omega
      go_wp2_with (at_builtin; refine apB rfl (.tmp 18) (.tmp 19) rfl (w.heap.size + 1) _ _ _ [0] rfl (HO.out.alloc _) rfl (N0.out _) (by have := Hn.out; simp; omega) (by have := HB.out.size; simp; omega) ?_; intro v3 w3 hown3 hg3; have HO3 := Lib.hid hown3; have HG3 := Lib.hid hg3; clear hown3 hg3)
      obtain ⟨g3, cap3, rfl, hg3, hg3', hc3, hcm3⟩ := HO3.out.shape (by simp)
      go_roundw
      case rel =>
        refine ⟨z + 1, g3, cap3, _, by omega, rfl, ?_, ?_, ?_⟩
        · show _ = _; simp <;> omega
        · have := HO3.out
          rw [List.replicate_succ']
          simpa using this
        · exact (HB.out.alloc (by have := HB.out.size; omega) _).grown HG3.out (by have := HB.out.size; simp; omega) (fun k hk => (HO.out.lt k hk).1)
      case measure => have := Hn.out; simp [lenV]; omega
    · have hzz' : z = Sha.zeros l.length := by omega
      have Hzz := Lib.hid hzz'
      have h56 : (((n : Int) % 64) != 56) = false := by
        rw [bne_eq_false_iff_eq]; have := Hn.out; have := Hzm.out; omega
      clear hzz'
      obtain ⟨w3, hw3⟩ : ∃ w3 : World, w3 = wr := ⟨_, rfl⟩
      rw [← hw3]
      rw [← hw3] at HO HB
      clear hw3
      have hn64 : n ≤ 1099511627900 := by have := Hn.out; omega
      go_wp2
      have hP0 : l ++ [128] ++ List.replicate z 0 = l ++ [128] ++ List.replicate (Sha.zeros l.length) 0 := by rw [Hzz.out]
      have hOa : Own w3 (w.heap.size + 1) (.slice (some ⟨g, 0, none⟩) n cap) (l ++ [128] ++ List.replicate (Sha.zeros l.length) 0 ++ Sha.len8 (8 * l.length) 0) := by
        have := HO.out; rw [hP0] at this; simpa [Sha.len8] using this
      have HOa := Lib.hid hOa
      have hw3s : w.heap.size + 1 ≤ w3.heap.size := by have := HB.out.size; omega
      clear hOa hP0
      go_loopw [5, 4] (fun i v wr => ∃ k g cap n : Nat, ∃ q : Int, k ≤ 8 ∧ i = .int .i64 q ∧ Hid (q = 56 - 8 * k) ∧ v = .slice (some ⟨g, 0, none⟩) n cap ∧ n ≤ 1099511627900 + k ∧ Own wr (w.heap.size + 1) v (l ++ [128] ++ List.replicate (Sha.zeros l.length) 0 ++ Sha.len8 (8 * l.length) k) ∧ Below (w.heap.size + 1) w3 wr)
        (fun i v _ => (intOf i + 8).toNat)
      case atStart => exact ⟨0, g, cap, n, 56, by omega, rfl, rfl, rfl, by omega, HOa.out, Below.refl _ _⟩
      case round =>
        obtain ⟨k, g, cap, n, q, hk, rfl, Hq, rfl, hn, hO, hB⟩ := hrel
        have HO4 := Lib.hid hO
        have HB4 := Lib.hid hB
        clear hO hB
        by_cases hq : 0 ≤ q
        · have hq2 : q ≤ 56 := by have := Hq.out; omega
          have hx : (8 * (l.length : Int) / 2 ^ q.toNat % 256 : Int) = ((UInt8.ofNat (8 * l.length / 2 ^ (56 - 8 * k))).toNat : Int) := by
            rw [UInt8.toNat_ofNat', show q.toNat = 56 - 8 * k by have := Hq.out; omega]
            simp
          have HX := Lib.hid hx
          clear hx
          go_wp2_with (at_builtin; refine apB rfl (.tmp 25) (.tmp 32) rfl (w.heap.size + 1) _ _ _ [UInt8.ofNat (8 * l.length / 2 ^ (56 - 8 * k))] rfl (HO4.out.alloc _) rfl (newB _ _ _ HX.out) (by simp [Sha.len8_length]; omega) (by have := HB4.out.size; simp; omega) ?_; intro v5 w5 hown5 hg5; have HO5 := Lib.hid hown5; have HG5 := Lib.hid hg5; clear hown5 hg5)
          obtain ⟨g5, cap5, rfl, hg5, hg5', hc5, hcm5⟩ := HO5.out.shape (by simp)
          have hn5 : (l ++ [128] ++ List.replicate (Sha.zeros l.length) 0 ++ Sha.len8 (8 * l.length) k ++ [UInt8.ofNat (8 * l.length / 2 ^ (56 - 8 * k))]).length = l.length + Sha.zeros l.length + k + 2 := by simp [Sha.len8_length]; omega
          rw [hn5]
          go_roundw
          case rel =>
            refine ⟨k + 1, g5, cap5, _, q - 8, by have := Hq.out; omega, rfl, ?_, rfl, by omega, ?_, ?_⟩
            · show _ = _; have := Hq.out; omega
            · have := HO5.out
              rw [hn5] at this
              rw [Sha.len8_succ]
              simpa using this
            · exact (HB4.out.alloc (by have := HB4.out.size; omega) _).grown HG5.out (by have := HB4.out.size; simp; omega) (fun k hk => (HO4.out.lt k hk).1)
          case measure => simp [intOf]; omega
        · have hk8 : k = 8 := by have := Hq.out; omega
          have hOp : Own wr (w.heap.size + 1) (.slice (some ⟨g, 0, none⟩) n cap) (Sha.padded l) := by
            have := HO4.out; rw [hk8] at this; exact this
          obtain ⟨w4, hw4⟩ : ∃ w4 : World, w4 = wr := ⟨_, rfl⟩
          rw [← hw4]
          rw [← hw4] at HB4 hOp
          clear hw4 hk8 HO4
          have hB4 : Below (w.heap.size + 1) w2 w4 := HB.out.trans HB4.out
          have hnP : n = (Sha.padded l).length := by
            obtain ⟨_, _, he, _⟩ := hOp.rd
            injection he
          have hd4 : w4.heap[w.heap.size]? = some (.cells #[u32v Sha.d0.a, u32v Sha.d0.b, u32v Sha.d0.c, u32v Sha.d0.d, u32v Sha.d0.e, u32v Sha.d0.f, u32v Sha.d0.g, u32v Sha.d0.h] 97 (0, 0)) := (hB4.block _ (by omega)).trans Hd2.out
          have hb4 : Below w.heap.size w w4 := Hb2.out.trans (hB4.mono (by omega))
          have hgd : w.heap.size < g ∧ g < w4.heap.size := by
            have := hOp.lt g rfl; omega
          have Hrd := Lib.hid hOp.rd
          have Hd4 := Lib.hid hd4
          have Hb4 := Lib.hid hb4
          have HnP := Lib.hid hnP
          have hw4s : w.heap.size + 1 ≤ w4.heap.size := by have := hB4.size; omega
          clear hOp hnP hd4 hb4 hB4
          go_wp2
          have hPl := Sha.padded_length l
          have HPl := Lib.hid hPl
          have hnn : n ≤ 1099511627910 := by have := HPl.out.2.2; have := HnP.out; omega
          clear hPl
          go_loopw [4] (fun v wr => ∃ k off c n : Nat, v = .slice (some ⟨g, off, none⟩) n c ∧ n ≤ 1099511627910 ∧ Hid (n + 64 * k = (Sha.padded l).length) ∧ Rd wr v ((Sha.padded l).drop (64 * k)) ∧
              wr.heap[w.heap.size]? = some (.cells #[u32v (Sha.blocks (Sha.padded l) k).a, u32v (Sha.blocks (Sha.padded l) k).b, u32v (Sha.blocks (Sha.padded l) k).c, u32v (Sha.blocks (Sha.padded l) k).d, u32v (Sha.blocks (Sha.padded l) k).e, u32v (Sha.blocks (Sha.padded l) k).f, u32v (Sha.blocks (Sha.padded l) k).g, u32v (Sha.blocks (Sha.padded l) k).h] 97 (0, 0)) ∧ Below w.heap.size w wr ∧ w4.heap.size ≤ wr.heap.size)
            (fun v _ => lenV v)
          case atStart => exact ⟨0, 0, cap, n, rfl, hnn, by show _ = _; rw [HnP.out]; omega, Hrd.out, Hd4.out, Hb4.out, Nat.le_refl _⟩
          case round =>
            obtain ⟨k, off, c4, n4, rfl, hn4, Hnk, hrd, hdd, hbb, hss⟩ := hrel
            by_cases hpos : 0 < n4
            · have h64 : 64 ≤ n4 := by have := Hnk.out; have := HPl.out.1; omega
              have hc4 : n4 ≤ c4 := by obtain ⟨_, _, he, hle, _⟩ := hrd; injection he with e1 e2 e3; omega
              have hDl : ((Sha.padded l).drop (64 * k)).length = n4 := by obtain ⟨_, _, he, _⟩ := hrd; injection he with e1 e2 e3; exact e2.symm
              have hcell : ∀ i, i < 64 → wr.cell? ⟨g, off + i, none⟩ = some (.int .u8 ((((Sha.padded l).drop (64 * k)).take 64).getD i 0).toNat) := by
                intro i hi
                obtain ⟨_, _, he, _, _, _, hcc⟩ := hrd
                obtain ⟨b, o, hbo, hcc⟩ := hcc (by intro h; rw [h] at hDl; simp at hDl; omega)
                injection he with e1 e2 e3
                rw [← e1] at hbo
                injection hbo with hbo
                injection hbo with q1 q2
                subst q1 q2
                have := hcc i (by omega)
                rw [this]
                simp [u8v, List.getElem?_take, hi]
              have hkn : Kn wr := HK.out.stay hbb
              have Hcell := Lib.hid hcell
              have Hkn := Lib.hid hkn
              have Hrd6 := Lib.hid hrd
              have Hdd := Lib.hid hdd
              have Hbb := Lib.hid hbb
              have HDl := Lib.hid hDl
              clear hcell hkn hrd hdd hbb hDl
              have hgne : 0 ≠ w.heap.size := by have := HK.out.lt; omega
              by_cases hc64 : c4 = 64
              all_goals
                go_wp2_with (go_at_call 50; refine (block_any w.heap.size g off _ _ (((Sha.padded l).drop (64 * k)).take 64) _ Hdd.out Hkn.out hgne Hcell.out).mono ?_; rintro e w6 ⟨rfl, hk6, hd6⟩; have HK6 := Lib.hid hk6; have HD6 := Lib.hid hd6; clear hk6 hd6)
                go_roundw
                case rel =>
                  have hcut := (Hrd6.out.keptS HK6.out (fun k hk _ => by simp [Value.ownBlock] at hk; subst hk; exact ⟨by omega, by omega⟩)).cut 64 n4 h64 (Nat.le_refl _)
                  refine ⟨k + 1, _, _, _, rfl, by omega, ?_, ?_, ?_, ?_, ?_⟩
                  · show _ = _; have := Hnk.out; omega
                  · rw [List.take_of_length_le (by rw [HDl.out]; omega), List.drop_drop] at hcut
                    simpa [hc64, Addr.add, Nat.mul_add] using hcut
                  · exact HD6.out
                  · exact Hbb.out.trans ((HK6.out.mono (B' := w.heap.size) (S' := fun _ => False) (by omega) (fun k hk h => by omega)).below (fun _ _ h => h))
                  · have := HK6.out.size; omega
                case measure => simp [lenV]; omega
            · have hn0 : n4 = 0 := by omega
              have hk64 : (Sha.padded l).length / 64 = k := by have := Hnk.out; omega
              have hlen4 : decide ((n4 : Int) > 0) = false := by rw [hn0]; decide
              have Hn0 := Lib.hid hn0
              have Hk64 := Lib.hid hk64
              have Hrd := Lib.hid hrd
              have Hdd := Lib.hid hdd
              have Hbb := Lib.hid hbb
              unfold u32v at hdd
              have q0 := cellAt hdd 0 rfl
              have q1 := cellAt hdd 1 rfl
              have q2 := cellAt hdd 2 rfl
              have q3 := cellAt hdd 3 rfl
              have q4 := cellAt hdd 4 rfl
              have q5 := cellAt hdd 5 rfl
              have q6 := cellAt hdd 6 rfl
              have q7 := cellAt hdd 7 rfl
              clear hn0 hk64 hrd hdd hbb
              obtain ⟨w7, hw7⟩ : ∃ w7 : World, w7 = wr := ⟨_, rfl⟩
              rw [← hw7]
              rw [← hw7] at Hbb Hdd hss q0 q1 q2 q3 q4 q5 q6 q7
              clear hw7
              obtain ⟨D, hD⟩ : ∃ D, D = Sha.blocks (Sha.padded l) k := ⟨_, rfl⟩
              rw [← hD] at q0 q1 q2 q3 q4 q5 q6 q7
              have HD := Lib.hid hD
              clear hD
              have hlt7 : w.heap.size < w7.heap.size := by omega
              have hne7 : ¬ w.heap.size = w7.heap.size := by omega
              have hmk : ∀ W : World, (Instr.makeSlice 25 (.int .i64 0) (.int .i64 32)).run Tryd.prog W = .ok (.slice (some ⟨W.heap.size, 0, none⟩) 0 32) (W.alloc (.cells (Array.replicate 32 (.int .u8 0)) 5)) := fun _ => by kernel_rfl
              go_wp2
              have hO0 : Own (w7.alloc (.cells (Array.replicate 32 (.int .u8 0)) 5)) w.heap.size (.slice (some ⟨w7.heap.size, 0, none⟩) 0 32) [] := Own.made w7 _ _ _ (by omega) (by decide) (by simp)
              have hb0 : Below w.heap.size w (w7.alloc (.cells (Array.replicate 32 (.int .u8 0)) 5)) := Hbb.out.alloc (by omega) _
              generalize w7.alloc (.cells (Array.replicate 32 (.int .u8 0)) 5) = w8 at hO0 hb0 ⊢
              generalize w7.heap.size = g7 at hO0 ⊢
              have HO8 := Lib.hid hO0
              have Hb8 := Lib.hid hb0
              have hix := index8 D
              have Hix := Lib.hid hix
              clear hO0 hb0 hix hmk q0 q1 q2 q3 q4 q5 q6 q7
              go_loopw [44, 6] (fun i v wr => ∃ k g cap n : Nat, k ≤ 8 ∧ i = .int .i64 k ∧ v = .slice (some ⟨g, 0, none⟩) n cap ∧ Own wr w.heap.size v (Sha.out D k) ∧ Below w.heap.size w wr)
                (fun i _ _ => 8 - (intOf i).toNat)
              case atStart => exact ⟨0, g7, 32, 0, by omega, rfl, rfl, HO8.out, Hb8.out⟩
              case round =>
                obtain ⟨k, g, cap, n, hk, rfl, rfl, hO, hB⟩ := hrel
                have HO9 := Lib.hid hO
                have HB9 := Lib.hid hB
                clear hO hB
                by_cases hlt8 : k < 8
                · have hixk := Hix.out k hlt8
                  obtain ⟨x, hx⟩ : ∃ x, x = D.toList.getD k 0 := ⟨_, rfl⟩
                  rw [← hx] at hixk
                  have HXk := Lib.hid hx
                  clear hx
                  have hn4 : ∀ W : World, Rd (W.alloc (.cells #[.int .u8 ((x.toNat : Int) / 16777216 % 256), .int .u8 ((x.toNat : Int) / 65536 % 256), .int .u8 ((x.toNat : Int) / 256 % 256), .int .u8 ((x.toNat : Int) % 256)] 5)) (.slice (some ⟨W.heap.size, 0, none⟩) 4 4) (Sha.bytes4 x) := fun W =>
                    newB4 W _ _ _ _ _ _ _ _ (by rw [UInt8.toNat_ofNat']; simp) (by rw [UInt8.toNat_ofNat']; simp) (by rw [UInt8.toNat_ofNat']; simp) (by rw [UInt8.toNat_ofNat']; simp)
                  have HN4 := Lib.hid hn4
                  clear hn4
                  have hol := Sha.out_length D k hk
                  go_wp2_with (at_builtin; refine apB rfl (.tmp 47) (.tmp 59) rfl w.heap.size _ _ _ (Sha.bytes4 x) rfl (HO9.out.alloc _) rfl (HN4.out _) (by rw [hol, Sha.bytes4_length]; omega) (by have := HB9.out.size; simp; omega) ?_; intro v9 w9 hown9 hg9; have HO10 := Lib.hid hown9; have HG10 := Lib.hid hg9; clear hown9 hg9)
                  obtain ⟨g9, cap9, rfl, hg9, hg9', hc9, hcm9⟩ := HO10.out.shape (by intro h; have := congrArg List.length h; rw [List.length_append, Sha.bytes4_length] at this; simp at this)
                  go_roundw
                  case rel =>
                    refine ⟨k + 1, g9, cap9, _, by omega, by go_num, rfl, ?_, ?_⟩
                    · have h := HO10.out
                      rw [HXk.out, ← Sha.out_succ D k hlt8] at h
                      rw [HXk.out, ← Sha.out_succ D k hlt8]
                      exact h
                    · exact (HB9.out.alloc (by have := HB9.out.size; omega) _).grown HG10.out (by have := HB9.out.size; simp; omega) (fun k hk => (HO9.out.lt k hk).1)
                  case measure => simp [intOf]; omega
                · have hk8 : k = 8 := by omega
                  have Hk8 := Lib.hid hk8
                  clear hk8
                  go_wp2
                  go_ret
                  refine ⟨_, rfl, ?_, HB9.out⟩
                  have h := HO9.out
                  rw [Hk8.out] at h
                  have h2 : Sha.out D 8 = Sha.sum l := by rw [HD.out, ← Hk64.out]; rfl
                  rw [h2] at h
                  exact h
end Go.Proofs.YtdkbajdnckmckaaDoor

set_option linter.unusedVariables false
set_option linter.unusedSimpArgs false
namespace Go.Con.Sha
/-- a key as it is padded: longer ones by their digest -/
def padKey (key : List UInt8) (x : UInt8) : List UInt8 :=
  let k := if 64 < key.length then sum key else key
  (k ++ List.replicate (64 - k.length) 0).map (· ^^^ x)
theorem padKey_length (key : List UInt8) (x : UInt8) : (padKey key x).length = 64 := by
  unfold padKey
  have : (if 64 < key.length then sum key else key).length ≤ 64 := by
    split
    · rw [sum_length]; decide
    · omega
  simp; omega
def mac (key b : List UInt8) : List UInt8 := sum (padKey key 92 ++ sum (padKey key 54 ++ b))
theorem mac_length (key b : List UInt8) : (mac key b).length = 32 := rfl
/-- the i-th piece that is drawn -/
def piece (key info : List UInt8) : Nat → List UInt8
  | 0 => []
  | i + 1 => mac key (piece key info i ++ info ++ [UInt8.ofNat (i + 1)])
def pieces (key info : List UInt8) : Nat → List UInt8
  | 0 => []
  | i + 1 => pieces key info i ++ piece key info (i + 1)
theorem piece_length (key info : List UInt8) (i : Nat) : (piece key info (i + 1)).length = 32 := rfl
theorem pieces_length (key info : List UInt8) (i : Nat) : (pieces key info i).length = 32 * i := by
  induction i with
  | zero => rfl
  | succ i ih => rw [pieces, List.length_append, ih, piece_length]; omega
/-- so many pieces are drawn for n bytes -/
def need (n : Nat) : Nat := (n + 31) / 32
def draw (secret salt info : List UInt8) (n : Nat) : List UInt8 := (pieces (mac salt secret) info (need n)).take n
theorem draw_length (secret salt info : List UInt8) (n : Nat) : (draw secret salt info n).length = n := by
  rw [draw, List.length_take, pieces_length, need]; omega
theorem pieces_pre (key info : List UInt8) (i j : Nat) (h : i ≤ j) : (pieces key info j).take (32 * i) = pieces key info i := by
  induction j with
  | zero => obtain rfl : i = 0 := by omega
            rfl
  | succ j ih =>
    by_cases hj : i = j + 1
    · subst hj; rw [List.take_of_length_le (by rw [pieces_length]; omega)]
    · rw [pieces, List.take_append_of_le_length (by rw [pieces_length]; omega), ih (by omega)]
theorem draw_pre (secret salt info : List UInt8) (n m : Nat) (h : m ≤ n) : (draw secret salt info n).take m = draw secret salt info m := by
  unfold draw
  rw [List.take_take, Nat.min_eq_left h, ← pieces_pre _ info (need m) (need n) (by unfold need; omega), List.take_take, Nat.min_eq_left (by unfold need; omega)]
end Go.Con.Sha

set_option linter.unusedVariables false
set_option linter.unusedSimpArgs false
namespace Go.Proofs.YtdkbajdnckmckaaDoor
open Go.RowKit Go.Con


set_option maxHeartbeats 400000 in
theorem Sum_ok (v : Value) (l : List UInt8) (w : World) (hv : Rd w v l) (hl : l.length ≤ 2000) (hk : Kn w) :
    Calls Tryd.prog 26 #[v] w (FreshBE w (Sha.sum l) 0) := by
  obtain ⟨a, c, rfl, hlc, hcm⟩ := hv.slice
  have HV := Lib.hid hv
  have HK := Lib.hid hk
  clear hv hk
  go_enter Tryd.func26, Tryd.ntmps26
  go_wp2_with (go_at_call 42; refine (sum_any _ l _ HV.out (by omega) HK.out).mono ?_; rintro e w1 ⟨v1, rfl, ho1, hb1⟩; have HO1 := Lib.hid ho1; have HB1 := Lib.hid hb1; clear ho1 hb1)
  go_ret2
  exact ⟨_, rfl, HO1.out, HB1.out⟩

set_option maxHeartbeats 400000 in
theorem Sum_long (v : Value) (l : List UInt8) (w : World) (hv : Rd w v l) (hl : 2000 < l.length) :
    Calls Tryd.prog 26 #[v] w (FreshBE w [] 1) := by
  obtain ⟨a, c, rfl, hlc, hcm⟩ := hv.slice
  clear hv
  go_enter Tryd.func26, Tryd.ntmps26
  go_wp2
  go_ret2
  exact ⟨_, rfl, Own.nil _ _, Below.refl _ _⟩

theorem Own.ofRow {w : World} {base g : Nat} {cur : Array Value} (l : List UInt8) (n : Nat) (hn : l.length = n) (hb : base ≤ g) (hg : w.heap[g]? = some (.cells cur 5 (0, 0))) (hs : cur.size = n) (hm : n ≤ maxLen)
    (hc : ∀ j, j < n → cur[j]? = some (u8v (l.getD j 0))) : Own w base (.slice (some ⟨g, 0, none⟩) n n) l := by
  subst hn
  refine ⟨by simp, .inr ⟨g, l.length, cur, rfl, hb, hg, Nat.le_refl _, hm, by omega, ?_⟩⟩
  apply List.ext_getElem?
  intro i
  by_cases hi : i < l.length
  · rw [List.getElem?_take, if_pos (by omega)]
    have := hc i hi
    simp only [Array.getElem?_toList, this]
    simp [hi]
  · rw [List.getElem?_eq_none (by simp; omega), List.getElem?_eq_none (by simp; omega)]

section
variable {ops : Array Oper} {rest : List Oper} {o : Oper} {a : Act} {Q : Exit → Act → World → Prop} {w : World}
/-- copy(a row of the call's own, what is shown), the row as long or longer. -/
theorem copyB (hgd : o.guard = none) (d s : Operand) (ho : o.op = .call { callee := .builtin .copy, args := #[d, s], argTypes := #[25, 25] })
    (g n cap : Nat) (hd : a.eval d = .slice (some ⟨g, 0, none⟩) n cap) (src : Value) (m : List UInt8) (hs : a.eval s = src) (hsrc : Rd w src m)
    (cur : List Value) (hg : w.heap[g]? = some (.cells cur.toArray 5 (0, 0))) (hm : m.length ≤ n) (hn : n ≤ cur.length)
    (h : ∀ w', w'.heap[g]? = some (.cells (m.map u8v ++ cur.drop m.length).toArray 5 (0, 0)) → Below g w w' → wpList Tryd.prog ops Q rest (a.put o.dst (goInt m.length)) w') :
    wpList Tryd.prog ops Q (o :: rest) a w := by
  obtain ⟨ao, c, rfl, h1, h2⟩ := hsrc.slice
  refine wpList_copy_splice hgd d s 25 25 ho 5 Tryd.underlying25 (by kernel_rfl) _ _ n cap m.length c hd hs g 0 cur 5 hg (m.map u8v) (by rw [List.length_map]; exact (Nat.min_eq_left hm).symm) ?_ (by simp; omega) (one8 m) g w (Below.refl _ _) (Nat.le_refl _) ?_
  · intro hpos
    refine ⟨rfl, ?_⟩
    cases ao with
    | none => have := hsrc.none_nil.1; subst this; simp at hpos
    | some ad => exact ⟨ad, rfl, hsrc.cells ad rfl⟩
  · intro w' hg' hb'
    have := h w' (by have := hg'.out; simpa [splice] using this) hb'
    simpa using this
end

/-- The row of a padded key, on its way. -/
def padRow (k : List UInt8) (x : UInt8) (j n : Nat) : UInt8 := if j < n then (k ++ List.replicate (64 - k.length) 0).getD j 0 ^^^ x else (k ++ List.replicate (64 - k.length) 0).getD j 0

theorem padRow_hit (k : List UInt8) (x : UInt8) (j : Nat) : padRow k x j (j + 1) = padRow k x j j ^^^ x := by
  unfold padRow; rw [if_pos (by omega), if_neg (by omega)]
theorem padRow_miss (k : List UInt8) (x : UInt8) (j n : Nat) (h : j ≠ n) : padRow k x j (n + 1) = padRow k x j n := by
  unfold padRow
  by_cases hj : j < n
  · rw [if_pos hj, if_pos (by omega)]
  · rw [if_neg hj, if_neg (by omega)]
theorem padRow_end (l : List UInt8) (x : UInt8) (k : List UInt8) (j : Nat) (hj : j < 64) (hk : (if 64 < l.length then Sha.sum l else l) = k) : padRow k x j 64 = (Sha.padKey l x).getD j 0 := by
  have hl : j < (Sha.padKey l x).length := by rw [Sha.padKey_length]; exact hj
  unfold padRow
  rw [if_pos hj]
  simp only [List.getD_eq_getElem?_getD, List.getElem?_eq_getElem hl, Option.getD_some]
  simp only [Sha.padKey, hk]
  rw [List.getElem_map]
  congr 1
  have hl2 : j < (k ++ List.replicate (64 - k.length) 0).length := by
    have h := hl
    simp only [Sha.padKey, hk, List.length_map] at h
    exact h
  rw [List.getElem?_eq_getElem hl2, Option.getD_some]
theorem row0 (k : List UInt8) (x : UInt8) (j : Nat) (hk : k.length ≤ 64) (hj : j < 64) (Z : List Value) (hZ : Z = List.replicate 64 (Value.int .u8 0)) :
    ((k.map u8v ++ Z.drop k.length).toArray)[j]? = some (u8v (padRow k x j 0)) := by
  subst hZ
  unfold padRow
  rw [if_neg (by omega)]
  simp only [List.getElem?_toArray, List.drop_replicate, List.getD_eq_getElem?_getD]
  by_cases h : j < k.length
  · rw [List.getElem?_append_left (by simpa using h), List.getElem?_append_left h]
    simp [h]
  · rw [List.getElem?_append_right (by simp; omega), List.getElem?_append_right (by omega)]
    simp [List.getElem?_replicate, show j - k.length < 64 - k.length by omega]
    rfl

end Go.Proofs.YtdkbajdnckmckaaDoor

set_option linter.unusedVariables false
set_option linter.unusedSimpArgs false
namespace Go.Con.Tp
/-- a record on a tape -/
def head (b : List UInt8) : List UInt8 := UInt8.ofNat b.length :: b
def frame (b : List UInt8) : List UInt8 := head b ++ (Sha.sum (head b)).take 4
end Go.Con.Tp
namespace Go.Proofs.YtdkbajdnckmckaaDoor
open Go.RowKit Go.Con
/-- a tape, or why not -/
def TapePost (w : World) (l : List UInt8) (s c : Int) (e : Ending) (w' : World) : Prop :=
  ∃ v', e = .returned (.tuple #[.agg #[v', .int .i64 s], .int .i64 c]) ∧ Own w' w.heap.size v' l ∧ Below w.heap.size w w'
theorem newOne (W : World) (n : Nat) (hn : n < 256) : Rd (W.alloc (.cells #[.int .u8 (n : Int)] 5)) (.slice (some ⟨W.heap.size, 0, none⟩) 1 1) [UInt8.ofNat n] := by
  have h := Rd.newRow W [UInt8.ofNat n] 1 rfl (by show 1 ≤ maxLen; decide)
  have e : [UInt8.ofNat n].map u8v = [.int .u8 (n : Int)] := by simp [u8v, UInt8.toNat_ofNat']; omega
  rw [e] at h; exact h
theorem newOneOwn (W : World) (n : Nat) (hn : n < 256) : Own (W.alloc (.cells #[.int .u8 (n : Int)] 5)) W.heap.size (.slice (some ⟨W.heap.size, 0, none⟩) 1 1) [UInt8.ofNat n] := by
  have h := ownNew W W.heap.size [UInt8.ofNat n] 1 rfl (Nat.le_refl _) (by show 1 ≤ maxLen; decide)
  have e : [UInt8.ofNat n].map u8v = [.int .u8 (n : Int)] := by simp [u8v, UInt8.toNat_ofNat']; omega
  rw [e] at h; exact h
set_option maxRecDepth 100000 in
set_option maxHeartbeats 2000000 in
theorem write_ok (v vb : Value) (l b : List UInt8) (s : Int) (w : World) (hv : Rd w v l) (hb : Rd w vb b) (h0 : 0 ≤ s) (h1 : s ≤ l.length) (hbl : b.length ≤ 200) (h2 : l.length + b.length + 5 ≤ 100000) (hk : Kn w) :
    Calls Tryd.prog 21 #[.agg #[v, .int .i64 s], vb] w (TapePost w (l ++ Tp.frame b) s 0) := by
  obtain ⟨a, c, rfl, hc, hcm⟩ := id hv.slice
  obtain ⟨a2, c2, rfl, hc2, hcm2⟩ := id hb.slice
  obtain ⟨n, hn⟩ : ∃ n, n = l.length := ⟨_, rfl⟩
  obtain ⟨m, hm⟩ : ∃ m, m = b.length := ⟨_, rfl⟩
  have HOPEN := Lib.hid (fun w h => open_ok (.slice a l.length c) l s w h h0 h1 (by omega))
  rw [← hn] at hv h1 h2 hc HOPEN ⊢
  rw [← hm] at hb hbl h2 hc2 ⊢
  have HV := Lib.hid hv
  have HBB := Lib.hid hb
  have HN := Lib.hid hn
  have HM := Lib.hid hm
  have HK := Lib.hid hk
  have B0 := Lib.hid (((Below.refl w.heap.size w).alloc (Nat.le_refl _) (.cells #[.slice a n c, .int .i64 s] 27)).alloc (by simp) (.cells #[.slice none 0 0, .int .i64 0] 27))
  clear hv hb hn hm hk hc hcm hc2 hcm2
  go_enter Tryd.func21, Tryd.ntmps21
  go_upto_region 1 with fail
  generalize hW : World.alloc _ _ = w1 at B0 ⊢
  have X : w1.heap[w.heap.size]? = some (.cells #[.slice a n c, .int .i64 s] 27 (0, 0)) := by rw [← hW]; exact heapNew0 w _ _
  have Y : w1.heap[w.heap.size + 1]? = some (.cells #[.slice none 0 0, .int .i64 0] 27 (0, 0)) := by rw [← hW]; exact heapNew1 w _ _
  have hz1 : w1.heap.size = w.heap.size + 1 + 1 := by rw [← hW]; simp
  have HZ := Lib.hid hz1
  have c0 := cellAt X 0 rfl
  have c1 := cellAt X 1 rfl
  have HV1 := Lib.hid (HV.out.below B0.out HV.out.lt)
  have HY := Lib.hid Y
  clear hW hz1 X Y
  go_upto_region 2 with (go_at_call 20; refine (HOPEN.out _ HV1.out).mono ?_; rintro e w2 ⟨v2, rfl, ho2, hb2⟩; obtain ⟨sa, sc, rfl, _, _⟩ := ho2.rd.sliceN n HN.out.symm; have O2 := Lib.hid ho2; have B2 := Lib.hid hb2; clear ho2 hb2)
  have X6 := heapNew w2 (.cells #[.slice sa n sc, .int .i64 s] 27)
  have hb3 : Below w1.heap.size w1 (w2.alloc (.cells #[.slice sa n sc, .int .i64 s] 27)) := B2.out.alloc B2.out.size _
  have o3 := O2.out.alloc (.cells #[.slice sa n sc, .int .i64 s] 27)
  obtain ⟨xb, hxb⟩ : ∃ b, b = w2.heap.size := ⟨_, rfl⟩
  have hx1 : w1.heap.size ≤ xb := by have := B2.out.size; omega
  have hsa : ∀ k, (Value.slice sa n sc).ownBlock = some k → w1.heap.size ≤ k ∧ k < xb := fun k hk => by have := O2.out.lt k hk; omega
  rw [← hxb] at X6 ⊢
  generalize hW : w2.alloc _ = w3 at X6 hb3 o3 ⊢
  have HX6 := Lib.hid X6
  have B3 := Lib.hid hb3
  have O3 := Lib.hid o3
  have HSA := Lib.hid hsa
  have HBB3 := Lib.hid ((HBB.out.below B0.out HBB.out.lt).stay hb3)
  have HK3 := Lib.hid ((HK.out.stay B0.out).stay hb3)
  clear hW hxb X6 hb3 o3 hsa B2 O2 HBB HK
  have hone := newOneOwn w3 m (by omega)
  have HONE := Lib.hid hone
  clear hone
  go_upto_region 5 with (at_builtin; refine apB rfl (.tmp 22) (.tmp 23) rfl w3.heap.size _ _ [UInt8.ofNat m] b rfl HONE.out rfl (HBB3.out.alloc _) (by rw [← HM.out]; simp; omega) (by simp) ?_; intro v4 w4 ho4 hg4; have O4 := Lib.hid ho4; have G4 := Lib.hid hg4; clear ho4 hg4)
  have hb4 : Below w3.heap.size w3 w4 := ((Below.refl _ _).alloc (Nat.le_refl _) _).grown G4.out (by simp) (fun k hk => by injection hk with hk; subst hk; exact Nat.le_refl _)
  obtain ⟨H, hH⟩ : ∃ H, H = Tp.head b := ⟨_, rfl⟩
  have hHe : [UInt8.ofNat m] ++ b = H := by rw [hH, Tp.head, HM.out]; rfl
  have hHl : H.length = m + 1 := by rw [hH, Tp.head, List.length_cons, HM.out]
  have ho4 := O4.out
  rw [hHe] at ho4
  have HHL := Lib.hid hHl
  have HH := Lib.hid hH
  obtain ⟨g4, k4, hv4, hgb4, hgl4, hgc4, hgm4⟩ := ho4.shape (by intro h; rw [h] at hHl; cases hHl)
  rw [hHl] at hv4 hgc4
  subst hv4
  have O4h := Lib.hid ho4
  have B4 := Lib.hid hb4
  have HK4 := Lib.hid (HK3.out.stay hb4)
  clear hb4 hH hHe hHl ho4 O4 G4 HONE
  go_wp2_with fail
  refine (Sum_ok _ H w4 O4h.out.rd (by rw [HHL.out]; omega) HK4.out).mono ?_
  rintro e w5 ⟨v5, rfl, ho5, hb5⟩
  obtain ⟨S, hS⟩ : ∃ S, S = Sha.sum H := ⟨_, rfl⟩
  rw [← hS] at ho5
  have hSl : S.length = 32 := by rw [hS]; exact Sha.sum_length _
  obtain ⟨g5, k5, hv5, hgb5, hgl5, hgc5, hgm5⟩ := ho5.shape (by intro h; rw [h] at hSl; cases hSl)
  rw [hSl] at hv5 hgc5
  subst hv5
  have hk54 : (4 : Int) ≤ (k5 : Int) := by omega
  have hr5 := ho5.rd.pre 4 (by rw [hSl]; decide)
  have HR5 := Lib.hid hr5
  have O5h := Lib.hid (O4h.out.below hb5 (fun k hk => (O4h.out.lt k hk).2))
  have B5 := Lib.hid (B4.out.trans (hb5.mono B4.out.size))
  have HSS := Lib.hid hS
  have HSL := Lib.hid hSl
  clear ho5 hb5 hr5 hS hSl O4h
  go_upto_region 7 with (at_builtin; refine apB rfl (.tmp 30) (.tmp 32) rfl w3.heap.size _ _ H (S.take 4) rfl O5h.out rfl HR5.out (by rw [HHL.out, List.length_take, HSL.out]; omega) B5.out.size ?_; intro v6 w6 ho6 hg6; have O6 := Lib.hid ho6; have G6 := Lib.hid hg6; clear ho6 hg6)
  have hfe : H ++ S.take 4 = Tp.frame b := by rw [HH.out, HSS.out, HH.out]; rfl
  have ho6 := O6.out
  rw [hfe] at ho6
  have hfl : (Tp.frame b).length = m + 5 := by rw [← hfe, List.length_append, HHL.out, List.length_take, HSL.out]; omega
  have HFL := Lib.hid hfl
  obtain ⟨g6, k6, hv6, hgb6, hgl6, hgc6, hgm6⟩ := ho6.shape (by intro h; rw [h] at hfl; cases hfl)
  rw [hfl] at hv6 hgc6
  subst hv6
  have B6 := Lib.hid (B5.out.grown G6.out B5.out.size (fun k hk => (O5h.out.lt k hk).1))
  have hx6 := (B6.out.block xb (lt_of_heap HX6.out)).trans HX6.out
  have cx0 := cellAt hx6 0 rfl
  have cx1 := cellAt hx6 1 rfl
  have fx := freeAt hx6
  have O6h := Lib.hid ho6
  have hle : (n : Int) + ((m : Int) + 5) ≤ 100000 := by omega
  have hle2 : decide ((100000 : Int) < (n : Int) + ((m : Int) + 5)) = false := by rw [decide_eq_false_iff_not]; omega
  have o6 := O3.out.below B6.out (fun k hk => (O3.out.lt k hk).2)
  have O3h := Lib.hid o6
  have HX66 := Lib.hid hx6
  have hxl3 := lt_of_heap HX6.out
  have HNE := Lib.hid (show ∀ k, k < w3.heap.size → k ≠ g6 from fun k hk => by omega)
  clear hfe ho6 hfl hx6 o6 O6 G6 O5h HR5 HX6 O3
  go_upto_region 9 with fail
  have hlz : (l ++ Tp.frame b).length = n + (m + 5) := by rw [List.length_append, HFL.out, HN.out]
  have HLZ := Lib.hid hlz
  clear hlz
  go_upto_region 10 with (at_builtin; refine apBw rfl (.tmp 43) (.tmp 44) rfl w1.heap.size _ _ l (Tp.frame b) rfl O3h.out rfl O6h.out.rd (by rw [HFL.out, ← HN.out]; omega) (by have := B3.out.size; have := B6.out.size; omega) ?_; intro v7 w7 ho7 hg7 hw7; obtain ⟨g7, k7, hv7, hgb7, hgl7, hgc7, hgm7⟩ := ho7.shape (by intro h; have := HLZ.out; rw [h] at this; simp at this); rw [HLZ.out] at hv7; subst hv7; have hk7 := Kept.of_grown (B := w6.heap.size) (S := fun k => (Value.slice sa n sc).ownBlock = some k) hg7 (Nat.le_refl _) (fun k hk => .inr hk); have x7 := (hk7.block xb (lt_of_heap HX66.out) (fun e => by have := HSA.out xb e; omega)).trans HX66.out; have cy0 := cellAt x7 0 rfl; have cy1 := cellAt x7 1 rfl; have fy := freeAt x7; have O7 := Lib.hid ho7; have G7 := Lib.hid hg7; have W7 := Lib.hid hw7; have HX7 := Lib.hid x7; clear ho7 hg7 x7 hw7)
  have B7 := Lib.hid ((B3.out.trans (B6.out.mono B3.out.size)).grown G7.out (by have := B3.out.size; have := B6.out.size; omega) (fun k hk => (HSA.out k hk).1))
  have x8 := heapSet (o := 0) HX7.out (.slice (some ⟨g7, 0, none⟩) (n + (m + 5)) k7)
  have b8 := B7.out.setCell (p := ⟨xb, 0, none⟩) hx1 (.slice (some ⟨g7, 0, none⟩) (n + (m + 5)) k7)
  have hg7x : w1.heap.size ≤ g7 ∧ g7 ≠ xb := by
    have hx := lt_of_heap HX66.out
    rcases W7.out with h | h
    · have e : (Value.slice sa n sc).ownBlock = some g7 := h.symm
      have := HSA.out g7 e
      omega
    · have e : g7 = w6.heap.size := Option.some.inj h
      have := B6.out.size
      have := B3.out.size
      omega
  have o8 := O7.out.ofHeapK (w' := w7.setCell ⟨xb, 0, none⟩ (.slice (some ⟨g7, 0, none⟩) (n + (m + 5)) k7)) (fun k hk => heapSet_ne 0 _ (by have e : g7 = k := Option.some.inj hk; omega))
  generalize hW8 : w7.setCell ⟨xb, 0, none⟩ (.slice (some ⟨g7, 0, none⟩) (n + (m + 5)) k7) = w8 at x8 b8 o8 ⊢
  have x8' : w8.heap[xb]? = some (.cells #[.slice (some ⟨g7, 0, none⟩) (n + (m + 5)) k7, .int .i64 s] 27 (0, 0)) := x8
  have cz0 := cellAt x8' 0 rfl
  have cz1 := cellAt x8' 1 rfl
  have y8 := (b8.block (w.heap.size + 1) (lt_of_heap HY.out)).trans HY.out
  have cy0 := cellAt y8 0 rfl
  have cy1 := cellAt y8 1 rfl
  have fy := freeAt y8
  have HY8 := Lib.hid y8
  have B8 := Lib.hid b8
  have O8 := Lib.hid o8
  clear hW8 x8 x8' b8 o8 y8 O7 G7 W7 HX7 B7
  go_wp2_with fail
  have z9 := heapSet (o := 1) (heapSet (o := 0) HY8.out (.slice (some ⟨g7, 0, none⟩) (n + (m + 5)) k7)) (.int .i64 s)
  have B9 := Lib.hid (((B0.out.trans (B8.out.mono B0.out.size)).setCell (p := ⟨w.heap.size + 1, 0, none⟩) (by show w.heap.size ≤ w.heap.size + 1; omega) (.slice (some ⟨g7, 0, none⟩) (n + (m + 5)) k7)).setCell (p := ⟨w.heap.size + 1, 1, none⟩) (by show w.heap.size ≤ w.heap.size + 1; omega) (.int .i64 s))
  have o9 := (O8.out.mono (base' := w.heap.size) B0.out.size).ofHeapK (w' := (w8.setCell ⟨w.heap.size + 1, 0, none⟩ (.slice (some ⟨g7, 0, none⟩) (n + (m + 5)) k7)).setCell ⟨w.heap.size + 1, 1, none⟩ (.int .i64 s)) (fun k hk => by
    have e : g7 = k := Option.some.inj hk
    exact (heapSet_ne 1 _ (by have := HZ.out; omega)).trans (heapSet_ne 0 _ (by have := HZ.out; omega)))
  generalize hW : World.setCell _ _ _ = w9 at z9 B9 o9 ⊢
  have hl := run_loadVar_mid (P := Tryd.prog) w9 (w.heap.size + 1) 0 27 [.slice (some ⟨g7, 0, none⟩) (n + (m + 5)) k7, .int .i64 s] _ (range_of z9) Tryd.underlying27 rfl tapeSz
  exact bodyPost_ret (v := .tuple #[.agg #[.slice (some ⟨g7, 0, none⟩) (n + (m + 5)) k7, .int .i64 s], .int .i64 0]) (results_ct Tryd.results21 rfl hl) rfl ⟨_, rfl, o9, B9.out⟩
end Go.Proofs.YtdkbajdnckmckaaDoor

set_option linter.unusedVariables false
set_option linter.unusedSimpArgs false
namespace Go.Con
open Go
/-- which of two numbers is greater -/
def cmpI (a b : Int) : Int := if a < b then -1 else if b < a then 1 else 0
/-- which of two ballots is greater: a round, then a node -/
def cmpB (a b : Int × Int) : Int := if cmpI a.1 b.1 ≠ 0 then cmpI a.1 b.1 else cmpI a.2 b.2
/-- may it be a proposer's? -/
def okB (b : Int × Int) : Bool := decide (1 ≤ b.1) && (decide (b.1 ≤ 65536) && (decide (0 ≤ b.2) && decide (b.2 < 5)))
structure Vot where
  slot : Int
  bal : Int × Int
  what : Cmd
  deriving DecidableEq
def Vot.zero : Vot := ⟨0, (0, 0), Cmd.zero⟩
def votCells (v : Vot) : List Value := [.int .i64 v.slot, .int .i64 v.bal.1, .int .i64 v.bal.2, .int .i64 v.what.kind, .int .i64 v.what.client, .int .i64 v.what.seq, .int .i64 v.what.name, .int .i64 v.what.value]
def votV (v : Vot) : Value := .agg (votCells v).toArray
/-- may a vote be? -/
def okV (v : Vot) : Bool := decide (0 ≤ v.slot) && (decide (v.slot < 40) && (okB v.bal && decide (checkC v.what = 0)))
theorem cmpI_cases (a b : Int) : (a < b ∧ cmpI a b = -1) ∨ (a = b ∧ cmpI a b = 0) ∨ (b < a ∧ cmpI a b = 1) := by
  unfold cmpI
  split
  · exact .inl ⟨by assumption, rfl⟩
  · split
    · exact .inr (.inr ⟨by assumption, rfl⟩)
    · exact .inr (.inl ⟨by omega, rfl⟩)
end Go.Con
namespace Go.Proofs.YtdkbajdnckmckaaDoor
open Go.RowKit Go.Con
set_option maxRecDepth 100000 in
theorem cmp_any (a b : Int) (w : World) :
    Calls Tryd.prog 37 #[.int .i64 a, .int .i64 b] w fun e w' => e = .returned (.int .i64 (cmpI a b)) ∧ w' = w := by
  have e1 : (a != a) = false := by simp
  have e2 : (b != b) = false := by simp
  rcases cmpI_cases a b with ⟨h, hr⟩ | ⟨h, hr⟩ | ⟨h, hr⟩
  · have d1 : decide (a < b) = true := by rw [decide_eq_true_eq]; exact h
    rw [hr]
    go_enter Tryd.func37, Tryd.ntmps37
    go_wp2
    go_ret
    exact ⟨rfl, rfl⟩
  · have d1 : decide (a < b) = false := by rw [decide_eq_false_iff_not]; omega
    have d2 : decide (b < a) = false := by rw [decide_eq_false_iff_not]; omega
    rw [hr]
    clear h
    go_enter Tryd.func37, Tryd.ntmps37
    go_wp2
    go_ret
    exact ⟨rfl, rfl⟩
  · have d1 : decide (a < b) = false := by rw [decide_eq_false_iff_not]; omega
    have d2 : decide (b < a) = true := by rw [decide_eq_true_eq]; omega
    rw [hr]
    go_enter Tryd.func37, Tryd.ntmps37
    go_wp2
    go_ret
    exact ⟨rfl, rfl⟩
set_option maxRecDepth 100000 in
set_option maxHeartbeats 1000000 in
theorem or2_any (x y : Int) (b : Nat) (w : World) (h0 : w.cell? ⟨b, 0, none⟩ = some (.int .i64 x)) (h1 : w.cell? ⟨b, 1, none⟩ = some (.int .i64 y)) :
    Calls Tryd.prog 45 #[.slice (some ⟨b, 0, none⟩) 2 2] w fun e w' => e = .returned (.int .i64 (if x ≠ 0 then x else y)) ∧ w' = w := by
  obtain ⟨r, hr⟩ : ∃ r, r = if x ≠ 0 then x else y := ⟨_, rfl⟩
  rw [← hr]
  have HR := Lib.hid hr
  clear hr
  go_enter Tryd.func45, Tryd.ntmps45
  go_wp2_with fail
  go_loopw [5, 8] (fun _ i wr => wr = w ∧ (i = .int .i64 0 ∨ (i = .int .i64 1 ∧ x = 0) ∨ (i = .int .i64 2 ∧ x = 0 ∧ y = 0))) (fun _ i _ => 2 - (intOf i).toNat)
  case atStart => exact ⟨rfl, .inl rfl⟩
  case round =>
    obtain ⟨rfl, rfl | ⟨rfl, hx⟩ | ⟨rfl, hx, hy⟩⟩ := hrel
    · by_cases hx : x = 0
      · have d : (x != 0) = false := by simp [hx]
        go_wp2_with fail
        go_roundw
        case rel => exact ⟨trivial, .inr (.inl ⟨rfl, hx⟩)⟩
        case measure => simp [intOf]
      · have d : (x != 0) = true := by simp [hx]
        have hrx : r = x := by rw [HR.out, if_pos hx]
        subst hrx
        go_wp2_with fail
        go_ret
        exact ⟨rfl, rfl⟩
    · have HX := Lib.hid hx
      clear hx
      by_cases hy : y = 0
      · have d : (y != 0) = false := by simp [hy]
        go_wp2_with fail
        go_roundw
        case rel => exact ⟨trivial, .inr (.inr ⟨rfl, HX.out, hy⟩)⟩
        case measure => simp [intOf]
      · have d : (y != 0) = true := by simp [hy]
        have hrx : r = y := by rw [HR.out, if_neg (by rw [HX.out]; decide)]
        subst hrx
        go_wp2_with fail
        go_ret
        exact ⟨rfl, rfl⟩
    · have hrx : r = 0 := by rw [HR.out, if_neg (by rw [hx]; decide), hy]
      subst hrx
      clear hx hy
      go_wp2_with fail
      go_ret
      exact ⟨rfl, rfl⟩
set_option maxRecDepth 100000 in
set_option maxHeartbeats 1000000 in
theorem ballot_any (b : Int × Int) (w : World) :
    Calls Tryd.prog 30 #[.agg #[.int .i64 b.1, .int .i64 b.2]] w fun e w' => e = .returned (.bool (okB b)) ∧ Below w.heap.size w w' := by
  obtain ⟨r, n⟩ := b
  dsimp only
  have hc : (decide (1 ≤ r) = false ∧ okB (r, n) = false) ∨ (decide (1 ≤ r) = true ∧ decide (r ≤ 65536) = false ∧ okB (r, n) = false) ∨ (decide (1 ≤ r) = true ∧ decide (r ≤ 65536) = true ∧ decide (0 ≤ n) = false ∧ okB (r, n) = false) ∨ (decide (1 ≤ r) = true ∧ decide (r ≤ 65536) = true ∧ decide (0 ≤ n) = true ∧ decide (n < 5) = false ∧ okB (r, n) = false) ∨ (decide (1 ≤ r) = true ∧ decide (r ≤ 65536) = true ∧ decide (0 ≤ n) = true ∧ decide (n < 5) = true ∧ okB (r, n) = true) := by
    unfold okB
    dsimp only
    cases decide (1 ≤ r) <;> cases decide (r ≤ 65536) <;> cases decide (0 ≤ n) <;> cases decide (n < 5) <;> simp
  rcases hc with ⟨h1, hr⟩ | ⟨h1, h2, hr⟩ | ⟨h1, h2, h3, hr⟩ | ⟨h1, h2, h3, h4, hr⟩ | ⟨h1, h2, h3, h4, hr⟩
  all_goals
    rw [hr]
    clear hr
    go_enter Tryd.func30, Tryd.ntmps30
    go_wp2_with fail
    go_ret
    exact ⟨rfl, (Below.refl _ _).alloc (Nat.le_refl _) _⟩
theorem alloc3P {w w0 : World} {A B C : Obj} (h : ((w.alloc A).alloc B).alloc C = w0) : w0.heap[w.heap.size]? = some A ∧ w0.heap[w.heap.size + 1]? = some B ∧ w0.heap[w.heap.size + 1 + 1]? = some C ∧ Below w.heap.size w w0 ∧ w0.heap.size = w.heap.size + 3 := by
  subst h
  have e : ((w.alloc A).alloc B).heap.size = w.heap.size + 1 + 1 := by simp
  have e1 : (w.alloc A).heap.size = w.heap.size + 1 := by simp
  refine ⟨?_, ?_, ?_, (((Below.refl w.heap.size w).alloc (Nat.le_refl _) _).alloc (by simp) _).alloc (by simp; omega) _, by simp⟩
  · rw [heapOld _ _ _ (by omega), heapOld _ _ _ (by omega)]; exact heapNew _ _
  · rw [heapOld _ _ _ (by omega)]
    have := heapNew (w.alloc A) B
    rwa [e1] at this
  · have := heapNew ((w.alloc A).alloc B) C
    rwa [e] at this
theorem new3c {w : World} {A B : Obj} {x y : Value} {t : TypeId} : (((w.alloc A).alloc B).alloc (.cells #[x, y] t)).drew.cell? ⟨w.heap.size + 1 + 1, 0, none⟩ = some x ∧ (((w.alloc A).alloc B).alloc (.cells #[x, y] t)).drew.cell? ⟨w.heap.size + 1 + 1, 1, none⟩ = some y := by
  have h := (alloc3P (w := w) (A := A) (B := B) (C := .cells #[x, y] t) rfl).2.2.1
  exact ⟨cellAt h 0 rfl, cellAt h 1 rfl⟩
theorem cmp_to (a b c : Int) (w : World) (h : Hid (cmpI a b = c)) :
    Calls Tryd.prog 37 #[.int .i64 a, .int .i64 b] w fun e w' => e = .returned (.int .i64 c) ∧ w' = w := by
  rw [← h.out]; exact cmp_any a b w
theorem or2_to (x y c : Int) (b : Nat) (w : World) (h0 : w.cell? ⟨b, 0, none⟩ = some (.int .i64 x)) (h1 : w.cell? ⟨b, 1, none⟩ = some (.int .i64 y)) (h : Hid ((if x ≠ 0 then x else y) = c)) :
    Calls Tryd.prog 45 #[.slice (some ⟨b, 0, none⟩) 2 2] w fun e w' => e = .returned (.int .i64 c) ∧ w' = w := by
  rw [← h.out]; exact or2_any x y b w h0 h1
set_option maxRecDepth 100000 in
set_option maxHeartbeats 1000000 in
theorem compare_any (a b : Int × Int) (w : World) :
    Calls Tryd.prog 31 #[.agg #[.int .i64 a.1, .int .i64 a.2], .agg #[.int .i64 b.1, .int .i64 b.2]] w fun e w' => e = .returned (.int .i64 (cmpB a b)) ∧ Below w.heap.size w w' := by
  obtain ⟨r, n⟩ := a
  obtain ⟨s, m⟩ := b
  dsimp only
  obtain ⟨c1, hc1⟩ : ∃ c, c = cmpI r s := ⟨_, rfl⟩
  obtain ⟨c2, hc2⟩ : ∃ c, c = cmpI n m := ⟨_, rfl⟩
  have hr : cmpB (r, n) (s, m) = if c1 ≠ 0 then c1 else c2 := by unfold cmpB; rw [hc1, hc2]
  have HC1 := Lib.hid hc1.symm
  have HC2 := Lib.hid hc2.symm
  rw [hr]
  clear hr hc1 hc2
  generalize hcr : (if c1 ≠ 0 then c1 else c2) = cr
  have HO := Lib.hid hcr
  clear hcr
  go_enter Tryd.func31, Tryd.ntmps31
  go_wp2_with fail
  go_region_held3 (fun w' => w'.cell? ⟨w.heap.size, 0, none⟩ = some (.int .i64 r) ∧ w'.cell? ⟨w.heap.size, 1, none⟩ = some (.int .i64 n) ∧ w'.cell? ⟨w.heap.size + 1, 0, none⟩ = some (.int .i64 s) ∧ w'.cell? ⟨w.heap.size + 1, 1, none⟩ = some (.int .i64 m)) (go_keep) (first
    | (go_at_call 37; refine (cmp_to _ _ _ _ (by assumption)).mono ?_; rintro e _ ⟨rfl, rfl⟩)
    | (go_at_call 45; refine (or2_to _ _ _ _ _ new3c.1 new3c.2 HO).mono ?_; rintro e _ ⟨rfl, rfl⟩))
  go_wp2_with fail
  go_ret
  exact ⟨rfl, (alloc3P rfl).2.2.2.1.drew⟩
theorem ballot_to (r n : Int) (c : Bool) (w : World) (h : Hid (okB (r, n) = c)) :
    Calls Tryd.prog 30 #[.agg #[.int .i64 r, .int .i64 n]] w fun e w' => e = .returned (.bool c) ∧ Below w.heap.size w w' := by
  rw [← h.out]; exact ballot_any (r, n) w
theorem ordCheck_to (k cl sq nm vl c : Int) (w : World) (h : Hid (checkC ⟨k, cl, sq, nm, vl⟩ = c)) :
    Calls Tryd.prog 39 #[.agg #[.int .i64 k, .int .i64 cl, .int .i64 sq, .int .i64 nm, .int .i64 vl]] w fun e w' => e = .returned (.int .i64 c) ∧ Below w.heap.size w w' := by
  rw [← h.out]; exact Check_any ⟨k, cl, sq, nm, vl⟩ w
theorem compare_to (r n s m c : Int) (w : World) (h : Hid (cmpB (r, n) (s, m) = c)) :
    Calls Tryd.prog 31 #[.agg #[.int .i64 r, .int .i64 n], .agg #[.int .i64 s, .int .i64 m]] w fun e w' => e = .returned (.int .i64 c) ∧ Below w.heap.size w w' := by
  rw [← h.out]; exact compare_any (r, n) (s, m) w
set_option maxRecDepth 100000 in
set_option maxHeartbeats 1000000 in
theorem vote_any (v : Vot) (w : World) :
    Calls Tryd.prog 34 #[votV v] w fun e w' => e = .returned (.bool (okV v)) ∧ Below w.heap.size w w' := by
  obtain ⟨sl, ⟨r, n⟩, ⟨k, cl, sq, nm, vl⟩⟩ := v
  show Calls Tryd.prog 34 #[.agg #[.int .i64 sl, .int .i64 r, .int .i64 n, .int .i64 k, .int .i64 cl, .int .i64 sq, .int .i64 nm, .int .i64 vl]] w _
  obtain ⟨b, hb⟩ : ∃ b, b = okB (r, n) := ⟨_, rfl⟩
  obtain ⟨c, hc⟩ : ∃ c, c = checkC ⟨k, cl, sq, nm, vl⟩ := ⟨_, rfl⟩
  have hcase : (decide (0 ≤ sl) = false ∧ okV ⟨sl, (r, n), ⟨k, cl, sq, nm, vl⟩⟩ = false) ∨ (decide (0 ≤ sl) = true ∧ decide (sl < 40) = false ∧ okV ⟨sl, (r, n), ⟨k, cl, sq, nm, vl⟩⟩ = false) ∨
      (decide (0 ≤ sl) = true ∧ decide (sl < 40) = true ∧ b = false ∧ okV ⟨sl, (r, n), ⟨k, cl, sq, nm, vl⟩⟩ = false) ∨
      (decide (0 ≤ sl) = true ∧ decide (sl < 40) = true ∧ b = true ∧ (c == 0) = false ∧ okV ⟨sl, (r, n), ⟨k, cl, sq, nm, vl⟩⟩ = false) ∨
      (decide (0 ≤ sl) = true ∧ decide (sl < 40) = true ∧ b = true ∧ (c == 0) = true ∧ okV ⟨sl, (r, n), ⟨k, cl, sq, nm, vl⟩⟩ = true) := by
    unfold okV
    dsimp only
    rw [← hb, ← hc]
    have e : decide (c = 0) = (c == 0) := by rw [Bool.eq_iff_iff]; simp
    rw [e]
    cases decide (0 ≤ sl) <;> cases decide (sl < 40) <;> cases b <;> cases (c == 0) <;> simp
  have HB := Lib.hid hb.symm
  have HC := Lib.hid hc.symm
  clear hb hc
  rcases hcase with ⟨h1, hr⟩ | ⟨h1, h2, hr⟩ | ⟨h1, h2, rfl, hr⟩ | ⟨h1, h2, rfl, h4, hr⟩ | ⟨h1, h2, rfl, h4, hr⟩
  · rw [hr]
    clear hr
    go_enter Tryd.func34, Tryd.ntmps34
    go_wp2_with fail
    go_ret
    exact ⟨rfl, (Below.refl _ _).alloc (Nat.le_refl _) _⟩
  · rw [hr]
    clear hr
    go_enter Tryd.func34, Tryd.ntmps34
    go_wp2_with fail
    go_ret
    exact ⟨rfl, (Below.refl _ _).alloc (Nat.le_refl _) _⟩
  all_goals
    rw [hr]
    clear hr
    go_enter Tryd.func34, Tryd.ntmps34
    go_wp2_with (first
      | (go_at_call 30; refine (ballot_to _ _ _ _ (by assumption)).mono ?_; rintro e w1 ⟨rfl, hb1⟩; have B1 := Lib.hid (((Below.refl w.heap.size w).alloc (Nat.le_refl _) (.cells #[.int .i64 sl, .int .i64 r, .int .i64 n, .int .i64 k, .int .i64 cl, .int .i64 sq, .int .i64 nm, .int .i64 vl] 35)).trans (hb1.mono (by simp))); have hz := (hb1.block w.heap.size (by simp)).trans (heapNew _ _); have y3 := cellAt hz 3 rfl; have y4 := cellAt hz 4 rfl; have y5 := cellAt hz 5 rfl; have y6 := cellAt hz 6 rfl; have y7 := cellAt hz 7 rfl; clear hb1 hz)
      | (go_at_call 39; refine (ordCheck_to _ _ _ _ _ _ _ (by assumption)).mono ?_; rintro e w2 ⟨rfl, hb2⟩; have B2 := Lib.hid (B1.out.trans (hb2.mono B1.out.size)); clear hb2))
    go_ret
    exact ⟨rfl, by first | exact B2.out | exact B1.out⟩
end Go.Proofs.YtdkbajdnckmckaaDoor
