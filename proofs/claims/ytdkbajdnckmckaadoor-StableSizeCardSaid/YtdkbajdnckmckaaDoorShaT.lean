/-
  The walk of package sha's sum.
-/
import Derived.Test.YtdkbajdnckmckaaDoorShaW
import Derived.Test.YtdkbajdnckmckaaDoorByt
set_option linter.unusedVariables false
set_option linter.unusedSimpArgs false
namespace Go.Proofs.YtdkbajdnckmckaaDoor
open Go.RowKit Go.Con

/-- The words of the table lie where the program has them. -/
def Kn (w : World) : Prop := ∀ i, i < 64 → w.cell? ⟨0, i, none⟩ = some (.int .u32 (Sha.kn.getD i 0).toNat)
theorem Kn.lt {w : World} (h : Kn w) : 0 < w.heap.size := World.block_lt_of_cell? w _ (h 0 (by decide))
theorem Kn.below {w w' : World} (h : Kn w) {B : Nat} (hb : Below B w w') (hB : 0 < B) : Kn w' := fun i hi => (hb.cell (p := ⟨0, i, none⟩) hB).trans (h i hi)
theorem Kn.stay {w w' : World} (h : Kn w) (hb : Below w.heap.size w w') : Kn w' := h.below hb h.lt

set_option maxRecDepth 100000 in
set_option maxHeartbeats 1000000 in
theorem sum_any (v : Value) (l : List UInt8) (w : World) (hv : Rd w v l) (hl : l.length ≤ 1099511627776) (hk : Kn w) :
    Calls Tryd.prog 42 #[v] w fun e w' => ∃ v', e = .returned v' ∧ Own w' w.heap.size v' (Sha.sum l) ∧ Below w.heap.size w w' := by
  obtain ⟨a, c, rfl, hlc, hcm⟩ := hv.slice
  have HV := Lib.hid hv
  have HK := Lib.hid hk
  clear hv hk
  go_enter Tryd.func42, Tryd.ntmps42
  have hl0 : ([] : List UInt8).length + l.length ≤ 140737488355328 := by rw [List.length_nil]; omega
  have hl1 : ([] ++ l : List UInt8).length + [(128 : UInt8)].length ≤ 140737488355328 := by rw [List.nil_append]; simp; omega
  have n1 : ∀ W : World, Rd (W.alloc (.cells #[.int .u8 128] 5)) (.slice (some ⟨W.heap.size, 0, none⟩) 1 1) [128] := fun W => newB W 128 128 rfl
  have N1 := Lib.hid n1
  clear n1
  go_wp2_with (first
    | (at_builtin; refine apB rfl (.const (.slice none 0 0)) (.tmp 10) rfl (w.heap.size + 1) (.slice none 0 0) _ [] l rfl (Own.nil _ _) rfl (HV.out.alloc _) hl0 (by exact Nat.le_of_eq (by simp)) ?_; intro v1 w1 hown1 hg1; have HO1 := Lib.hid hown1; have HG1 := Lib.hid hg1; clear hown1 hg1)
    | (at_builtin; refine apB rfl (.tmp 11) (.tmp 12) rfl (w.heap.size + 1) v1 _ ([] ++ l) [128] rfl (HO1.out.alloc _) rfl (N1.out _) hl1 (by have := HG1.out.size; simp at this ⊢; omega) ?_; intro v2 w2 hown2 hg2; have HO2 := Lib.hid hown2; have HG2 := Lib.hid hg2; clear hown2 hg2))
  have hz : Sha.zeros l.length < 64 := Nat.mod_lt _ (by decide)
  have hzm : (l.length + 1 + Sha.zeros l.length) % 64 = 56 := by unfold Sha.zeros; omega
  have hd2 : w2.heap[w.heap.size]? = some (.cells #[.int .u32 1779033703, .int .u32 3144134277, .int .u32 1013904242, .int .u32 2773480762, .int .u32 1359893119, .int .u32 2600822924, .int .u32 528734635, .int .u32 1541459225] 97 (0, 0)) := by
    have h1 := HG1.out
    have h2 := HG2.out
    rw [h2.block _ (by have := h1.size; simp at this ⊢; omega) (fun e => by have := (HO1.out.lt _ e.symm).1; omega), heapOld _ _ _ (by have := h1.size; simp at this; omega), h1.block _ (by simp) (fun e => by simp [Value.ownBlock] at e), heapNew]
  have hb2 : Below w.heap.size w w2 := by
    have h1 := HG1.out
    have h2 := HG2.out
    refine ((((Below.refl _ _).alloc (Nat.le_refl _) _).grown h1 (by simp) (fun k hk => by simp [Value.ownBlock] at hk)).alloc (by have := h1.size; simp at this; omega) _).grown h2 (by have := h1.size; simp at this ⊢; omega) (fun k hk => by have := (HO1.out.lt k hk).1; omega)
  have hs2 : w.heap.size + 1 ≤ w2.heap.size := by have := HG1.out.size; have := HG2.out.size; simp at *; omega
  obtain ⟨g2, cap2, rfl, hg2, hg2', hc2, hcm2⟩ := HO2.out.shape (by simp)
  have hO2 : Own w2 (w.heap.size + 1) (.slice (some ⟨g2, 0, none⟩) (l.length + 1) cap2) (l ++ [128]) := by
    have := HO2.out; simpa using this
  have Hd2 := Lib.hid hd2
  have Hb2 := Lib.hid hb2
  have HO2' := Lib.hid hO2
  have Hzm := Lib.hid hzm
  have hlen2 : ([] ++ l ++ [128] : List UInt8).length = l.length + 1 := by simp
  rw [hlen2]
  clear hd2 hb2 hO2 hzm hlen2 HO1 HG1 HO2 HG2 hl0 hl1
  have n0 : ∀ W : World, Rd (W.alloc (.cells #[.int .u8 0] 5)) (.slice (some ⟨W.heap.size, 0, none⟩) 1 1) [0] := fun W => newB W 0 0 rfl
  have N0 := Lib.hid n0
  clear n0
  go_loopw [4] (fun v wr => ∃ z g cap n : Nat, z ≤ Sha.zeros l.length ∧ v = .slice (some ⟨g, 0, none⟩) n cap ∧ Hid (n = l.length + 1 + z) ∧ Own wr (w.heap.size + 1) v (l ++ [128] ++ List.replicate z 0) ∧ Below (w.heap.size + 1) w2 wr)
    (fun v _ => l.length + 65 - lenV v)
  case atStart => exact ⟨0, g2, cap2, l.length + 1, Nat.zero_le _, rfl, rfl, by have := HO2'.out; simpa using this, Below.refl _ _⟩
  case round =>
    obtain ⟨z, g, cap, n, hzz, rfl, Hn, hO, hB⟩ := hrel
    have HO := Lib.hid hO
    have HB := Lib.hid hB
    clear hO hB
    by_cases hlt : z < Sha.zeros l.length
    · have h56 : (((n : Int) % 64) != 56) = true := by
        rw [bne_iff_ne]; have := Hn.out; have := Hzm.out; omega
      go_wp2_with (at_builtin; refine apB rfl (.tmp 18) (.tmp 19) rfl (w.heap.size + 1) _ _ _ [0] rfl (HO.out.alloc _) rfl (N0.out _) (by have := Hn.out; simp; omega) (by have := HB.out.size; simp; omega) ?_; intro v3 w3 hown3 hg3; have HO3 := Lib.hid hown3; have HG3 := Lib.hid hg3; clear hown3 hg3)
      obtain ⟨g3, cap3, rfl, hg3, hg3', hc3, hcm3⟩ := HO3.out.shape (by simp)
      go_roundw
      case rel =>
        refine ⟨z + 1, g3, cap3, _, by omega, rfl, ?_, ?_, ?_⟩
        · show _ = _; simp <;> omega
        · have := HO3.out
          rw [List.replicate_succ']
          simpa using this
        · exact (HB.out.alloc (by have := HB.out.size; omega) _).grown HG3.out (by have := HB.out.size; simp; omega) (fun k hk => (HO.out.lt k hk).1)
      case measure => have := Hn.out; simp [lenV]; omega
    · have hzz' : z = Sha.zeros l.length := by omega
      have Hzz := Lib.hid hzz'
      have h56 : (((n : Int) % 64) != 56) = false := by
        rw [bne_eq_false_iff_eq]; have := Hn.out; have := Hzm.out; omega
      clear hzz'
      obtain ⟨w3, hw3⟩ : ∃ w3 : World, w3 = wr := ⟨_, rfl⟩
      rw [← hw3]
      rw [← hw3] at HO HB
      clear hw3
      have hn64 : n ≤ 1099511627900 := by have := Hn.out; omega
      go_wp2
      have hP0 : l ++ [128] ++ List.replicate z 0 = l ++ [128] ++ List.replicate (Sha.zeros l.length) 0 := by rw [Hzz.out]
      have hOa : Own w3 (w.heap.size + 1) (.slice (some ⟨g, 0, none⟩) n cap) (l ++ [128] ++ List.replicate (Sha.zeros l.length) 0 ++ Sha.len8 (8 * l.length) 0) := by
        have := HO.out; rw [hP0] at this; simpa [Sha.len8] using this
      have HOa := Lib.hid hOa
      have hw3s : w.heap.size + 1 ≤ w3.heap.size := by have := HB.out.size; omega
      clear hOa hP0
      go_loopw [5, 4] (fun i v wr => ∃ k g cap n : Nat, ∃ q : Int, k ≤ 8 ∧ i = .int .i64 q ∧ Hid (q = 56 - 8 * k) ∧ v = .slice (some ⟨g, 0, none⟩) n cap ∧ n ≤ 1099511627900 + k ∧ Own wr (w.heap.size + 1) v (l ++ [128] ++ List.replicate (Sha.zeros l.length) 0 ++ Sha.len8 (8 * l.length) k) ∧ Below (w.heap.size + 1) w3 wr)
        (fun i v _ => (intOf i + 8).toNat)
      case atStart => exact ⟨0, g, cap, n, 56, by omega, rfl, rfl, rfl, by omega, HOa.out, Below.refl _ _⟩
      case round =>
        obtain ⟨k, g, cap, n, q, hk, rfl, Hq, rfl, hn, hO, hB⟩ := hrel
        have HO4 := Lib.hid hO
        have HB4 := Lib.hid hB
        clear hO hB
        by_cases hq : 0 ≤ q
        · have hq2 : q ≤ 56 := by have := Hq.out; omega
          have hx : (8 * (l.length : Int) / 2 ^ q.toNat % 256 : Int) = ((UInt8.ofNat (8 * l.length / 2 ^ (56 - 8 * k))).toNat : Int) := by
            rw [UInt8.toNat_ofNat', show q.toNat = 56 - 8 * k by have := Hq.out; omega]
            simp
          have HX := Lib.hid hx
          clear hx
          go_wp2_with (at_builtin; refine apB rfl (.tmp 25) (.tmp 32) rfl (w.heap.size + 1) _ _ _ [UInt8.ofNat (8 * l.length / 2 ^ (56 - 8 * k))] rfl (HO4.out.alloc _) rfl (newB _ _ _ HX.out) (by simp [Sha.len8_length]; omega) (by have := HB4.out.size; simp; omega) ?_; intro v5 w5 hown5 hg5; have HO5 := Lib.hid hown5; have HG5 := Lib.hid hg5; clear hown5 hg5)
          obtain ⟨g5, cap5, rfl, hg5, hg5', hc5, hcm5⟩ := HO5.out.shape (by simp)
          have hn5 : (l ++ [128] ++ List.replicate (Sha.zeros l.length) 0 ++ Sha.len8 (8 * l.length) k ++ [UInt8.ofNat (8 * l.length / 2 ^ (56 - 8 * k))]).length = l.length + Sha.zeros l.length + k + 2 := by simp [Sha.len8_length]; omega
          rw [hn5]
          go_roundw
          case rel =>
            refine ⟨k + 1, g5, cap5, _, q - 8, by have := Hq.out; omega, rfl, ?_, rfl, by omega, ?_, ?_⟩
            · show _ = _; have := Hq.out; omega
            · have := HO5.out
              rw [hn5] at this
              rw [Sha.len8_succ]
              simpa using this
            · exact (HB4.out.alloc (by have := HB4.out.size; omega) _).grown HG5.out (by have := HB4.out.size; simp; omega) (fun k hk => (HO4.out.lt k hk).1)
          case measure => simp [intOf]; omega
        · have hk8 : k = 8 := by have := Hq.out; omega
          have hOp : Own wr (w.heap.size + 1) (.slice (some ⟨g, 0, none⟩) n cap) (Sha.padded l) := by
            have := HO4.out; rw [hk8] at this; exact this
          obtain ⟨w4, hw4⟩ : ∃ w4 : World, w4 = wr := ⟨_, rfl⟩
          rw [← hw4]
          rw [← hw4] at HB4 hOp
          clear hw4 hk8 HO4
          have hB4 : Below (w.heap.size + 1) w2 w4 := HB.out.trans HB4.out
          have hnP : n = (Sha.padded l).length := by
            obtain ⟨_, _, he, _⟩ := hOp.rd
            injection he
          have hd4 : w4.heap[w.heap.size]? = some (.cells #[u32v Sha.d0.a, u32v Sha.d0.b, u32v Sha.d0.c, u32v Sha.d0.d, u32v Sha.d0.e, u32v Sha.d0.f, u32v Sha.d0.g, u32v Sha.d0.h] 97 (0, 0)) := (hB4.block _ (by omega)).trans Hd2.out
          have hb4 : Below w.heap.size w w4 := Hb2.out.trans (hB4.mono (by omega))
          have hgd : w.heap.size < g ∧ g < w4.heap.size := by
            have := hOp.lt g rfl; omega
          have Hrd := Lib.hid hOp.rd
          have Hd4 := Lib.hid hd4
          have Hb4 := Lib.hid hb4
          have HnP := Lib.hid hnP
          have hw4s : w.heap.size + 1 ≤ w4.heap.size := by have := hB4.size; omega
          clear hOp hnP hd4 hb4 hB4
          go_wp2
          have hPl := Sha.padded_length l
          have HPl := Lib.hid hPl
          have hnn : n ≤ 1099511627910 := by have := HPl.out.2.2; have := HnP.out; omega
          clear hPl
          go_loopw [4] (fun v wr => ∃ k off c n : Nat, v = .slice (some ⟨g, off, none⟩) n c ∧ n ≤ 1099511627910 ∧ Hid (n + 64 * k = (Sha.padded l).length) ∧ Rd wr v ((Sha.padded l).drop (64 * k)) ∧
              wr.heap[w.heap.size]? = some (.cells #[u32v (Sha.blocks (Sha.padded l) k).a, u32v (Sha.blocks (Sha.padded l) k).b, u32v (Sha.blocks (Sha.padded l) k).c, u32v (Sha.blocks (Sha.padded l) k).d, u32v (Sha.blocks (Sha.padded l) k).e, u32v (Sha.blocks (Sha.padded l) k).f, u32v (Sha.blocks (Sha.padded l) k).g, u32v (Sha.blocks (Sha.padded l) k).h] 97 (0, 0)) ∧ Below w.heap.size w wr ∧ w4.heap.size ≤ wr.heap.size)
            (fun v _ => lenV v)
          case atStart => exact ⟨0, 0, cap, n, rfl, hnn, by show _ = _; rw [HnP.out]; omega, Hrd.out, Hd4.out, Hb4.out, Nat.le_refl _⟩
          case round =>
            obtain ⟨k, off, c4, n4, rfl, hn4, Hnk, hrd, hdd, hbb, hss⟩ := hrel
            by_cases hpos : 0 < n4
            · have h64 : 64 ≤ n4 := by have := Hnk.out; have := HPl.out.1; omega
              have hc4 : n4 ≤ c4 := by obtain ⟨_, _, he, hle, _⟩ := hrd; injection he with e1 e2 e3; omega
              have hDl : ((Sha.padded l).drop (64 * k)).length = n4 := by obtain ⟨_, _, he, _⟩ := hrd; injection he with e1 e2 e3; exact e2.symm
              have hcell : ∀ i, i < 64 → wr.cell? ⟨g, off + i, none⟩ = some (.int .u8 ((((Sha.padded l).drop (64 * k)).take 64).getD i 0).toNat) := by
                intro i hi
                obtain ⟨_, _, he, _, _, _, hcc⟩ := hrd
                obtain ⟨b, o, hbo, hcc⟩ := hcc (by intro h; rw [h] at hDl; simp at hDl; omega)
                injection he with e1 e2 e3
                rw [← e1] at hbo
                injection hbo with hbo
                injection hbo with q1 q2
                subst q1 q2
                have := hcc i (by omega)
                rw [this]
                simp [u8v, List.getElem?_take, hi]
              have hkn : Kn wr := HK.out.stay hbb
              have Hcell := Lib.hid hcell
              have Hkn := Lib.hid hkn
              have Hrd6 := Lib.hid hrd
              have Hdd := Lib.hid hdd
              have Hbb := Lib.hid hbb
              have HDl := Lib.hid hDl
              clear hcell hkn hrd hdd hbb hDl
              have hgne : 0 ≠ w.heap.size := by have := HK.out.lt; omega
              by_cases hc64 : c4 = 64
              all_goals
                go_wp2_with (go_at_call 50; refine (block_any w.heap.size g off _ _ (((Sha.padded l).drop (64 * k)).take 64) _ Hdd.out Hkn.out hgne Hcell.out).mono ?_; rintro e w6 ⟨rfl, hk6, hd6⟩; have HK6 := Lib.hid hk6; have HD6 := Lib.hid hd6; clear hk6 hd6)
                go_roundw
                case rel =>
                  have hcut := (Hrd6.out.keptS HK6.out (fun k hk _ => by simp [Value.ownBlock] at hk; subst hk; exact ⟨by omega, by omega⟩)).cut 64 n4 h64 (Nat.le_refl _)
                  refine ⟨k + 1, _, _, _, rfl, by omega, ?_, ?_, ?_, ?_, ?_⟩
                  · show _ = _; have := Hnk.out; omega
                  · rw [List.take_of_length_le (by rw [HDl.out]; omega), List.drop_drop] at hcut
                    simpa [hc64, Addr.add, Nat.mul_add] using hcut
                  · exact HD6.out
                  · exact Hbb.out.trans ((HK6.out.mono (B' := w.heap.size) (S' := fun _ => False) (by omega) (fun k hk h => by omega)).below (fun _ _ h => h))
                  · have := HK6.out.size; omega
                case measure => simp [lenV]; omega
            · have hn0 : n4 = 0 := by omega
              have hk64 : (Sha.padded l).length / 64 = k := by have := Hnk.out; omega
              have hlen4 : decide ((n4 : Int) > 0) = false := by rw [hn0]; decide
              have Hn0 := Lib.hid hn0
              have Hk64 := Lib.hid hk64
              have Hrd := Lib.hid hrd
              have Hdd := Lib.hid hdd
              have Hbb := Lib.hid hbb
              unfold u32v at hdd
              have q0 := cellAt hdd 0 rfl
              have q1 := cellAt hdd 1 rfl
              have q2 := cellAt hdd 2 rfl
              have q3 := cellAt hdd 3 rfl
              have q4 := cellAt hdd 4 rfl
              have q5 := cellAt hdd 5 rfl
              have q6 := cellAt hdd 6 rfl
              have q7 := cellAt hdd 7 rfl
              clear hn0 hk64 hrd hdd hbb
              obtain ⟨w7, hw7⟩ : ∃ w7 : World, w7 = wr := ⟨_, rfl⟩
              rw [← hw7]
              rw [← hw7] at Hbb Hdd hss q0 q1 q2 q3 q4 q5 q6 q7
              clear hw7
              obtain ⟨D, hD⟩ : ∃ D, D = Sha.blocks (Sha.padded l) k := ⟨_, rfl⟩
              rw [← hD] at q0 q1 q2 q3 q4 q5 q6 q7
              have HD := Lib.hid hD
              clear hD
              have hlt7 : w.heap.size < w7.heap.size := by omega
              have hne7 : ¬ w.heap.size = w7.heap.size := by omega
              have hmk : ∀ W : World, (Instr.makeSlice 25 (.int .i64 0) (.int .i64 32)).run Tryd.prog W = .ok (.slice (some ⟨W.heap.size, 0, none⟩) 0 32) (W.alloc (.cells (Array.replicate 32 (.int .u8 0)) 5)) := fun _ => by kernel_rfl
              go_wp2
              have hO0 : Own (w7.alloc (.cells (Array.replicate 32 (.int .u8 0)) 5)) w.heap.size (.slice (some ⟨w7.heap.size, 0, none⟩) 0 32) [] := Own.made w7 _ _ _ (by omega) (by decide) (by simp)
              have hb0 : Below w.heap.size w (w7.alloc (.cells (Array.replicate 32 (.int .u8 0)) 5)) := Hbb.out.alloc (by omega) _
              generalize w7.alloc (.cells (Array.replicate 32 (.int .u8 0)) 5) = w8 at hO0 hb0 ⊢
              generalize w7.heap.size = g7 at hO0 ⊢
              have HO8 := Lib.hid hO0
              have Hb8 := Lib.hid hb0
              have hix := index8 D
              have Hix := Lib.hid hix
              clear hO0 hb0 hix hmk q0 q1 q2 q3 q4 q5 q6 q7
              go_loopw [44, 6] (fun i v wr => ∃ k g cap n : Nat, k ≤ 8 ∧ i = .int .i64 k ∧ v = .slice (some ⟨g, 0, none⟩) n cap ∧ Own wr w.heap.size v (Sha.out D k) ∧ Below w.heap.size w wr)
                (fun i _ _ => 8 - (intOf i).toNat)
              case atStart => exact ⟨0, g7, 32, 0, by omega, rfl, rfl, HO8.out, Hb8.out⟩
              case round =>
                obtain ⟨k, g, cap, n, hk, rfl, rfl, hO, hB⟩ := hrel
                have HO9 := Lib.hid hO
                have HB9 := Lib.hid hB
                clear hO hB
                by_cases hlt8 : k < 8
                · have hixk := Hix.out k hlt8
                  obtain ⟨x, hx⟩ : ∃ x, x = D.toList.getD k 0 := ⟨_, rfl⟩
                  rw [← hx] at hixk
                  have HXk := Lib.hid hx
                  clear hx
                  have hn4 : ∀ W : World, Rd (W.alloc (.cells #[.int .u8 ((x.toNat : Int) / 16777216 % 256), .int .u8 ((x.toNat : Int) / 65536 % 256), .int .u8 ((x.toNat : Int) / 256 % 256), .int .u8 ((x.toNat : Int) % 256)] 5)) (.slice (some ⟨W.heap.size, 0, none⟩) 4 4) (Sha.bytes4 x) := fun W =>
                    newB4 W _ _ _ _ _ _ _ _ (by rw [UInt8.toNat_ofNat']; simp) (by rw [UInt8.toNat_ofNat']; simp) (by rw [UInt8.toNat_ofNat']; simp) (by rw [UInt8.toNat_ofNat']; simp)
                  have HN4 := Lib.hid hn4
                  clear hn4
                  have hol := Sha.out_length D k hk
                  go_wp2_with (at_builtin; refine apB rfl (.tmp 47) (.tmp 59) rfl w.heap.size _ _ _ (Sha.bytes4 x) rfl (HO9.out.alloc _) rfl (HN4.out _) (by rw [hol, Sha.bytes4_length]; omega) (by have := HB9.out.size; simp; omega) ?_; intro v9 w9 hown9 hg9; have HO10 := Lib.hid hown9; have HG10 := Lib.hid hg9; clear hown9 hg9)
                  obtain ⟨g9, cap9, rfl, hg9, hg9', hc9, hcm9⟩ := HO10.out.shape (by intro h; have := congrArg List.length h; rw [List.length_append, Sha.bytes4_length] at this; simp at this)
                  go_roundw
                  case rel =>
                    refine ⟨k + 1, g9, cap9, _, by omega, by go_num, rfl, ?_, ?_⟩
                    · have h := HO10.out
                      rw [HXk.out, ← Sha.out_succ D k hlt8] at h
                      rw [HXk.out, ← Sha.out_succ D k hlt8]
                      exact h
                    · exact (HB9.out.alloc (by have := HB9.out.size; omega) _).grown HG10.out (by have := HB9.out.size; simp; omega) (fun k hk => (HO9.out.lt k hk).1)
                  case measure => simp [intOf]; omega
                · have hk8 : k = 8 := by omega
                  have Hk8 := Lib.hid hk8
                  clear hk8
                  go_wp2
                  go_ret
                  refine ⟨_, rfl, ?_, HB9.out⟩
                  have h := HO9.out
                  rw [Hk8.out] at h
                  have h2 : Sha.out D 8 = Sha.sum l := by rw [HD.out, ← Hk64.out]; rfl
                  rw [h2] at h
                  exact h
end Go.Proofs.YtdkbajdnckmckaaDoor
