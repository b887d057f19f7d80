/-
  Channels: Clone, and the walks of line.own, New, four, nonce, Check.
-/
import Derived.Test.YtoekopdogfnkhaaSeaL
import Derived.Test.YtoekopdogfnkhaaStp
import Derived.Test.YtoekopdogfnkhaaRes
import Derived.Test.YtoekopdogfnkhaaMid
set_option linter.unusedVariables false
set_option linter.unusedSimpArgs false
namespace Go.Proofs.Ytoekopdogfnkhaa
open Go.RowKit Go.Con
/-- slices.Clone of bytes that lie somewhere -/
theorem clone_any (a : Addr) (n c : Nat) (l : List UInt8) (w : World) (hv : Rd w (.slice (some a) n c) l) (hn : l.length = n) (hl : n ≤ 1099511627776) :
    Calls Try.prog 23 #[.slice (some a) n c] w (FreshB w l) := by
  have hnl := fun (w : World) => Lib.run_eql_slice_nil (P := Try.prog) w 22 5 (some a) n c 0 0 Try.underlying22
  have HV := Lib.hid hv
  have HN := Lib.hid hn
  clear hv hn
  go_enter Try.func23, Try.ntmps23
  go_wp2_with (at_builtin; refine apB rfl (.tmp 5) (.tmp 6) rfl w.heap.size (.slice (some ⟨w.heap.size, 0, none⟩) 0 0) _ [] l rfl (ownNew w _ [] 0 rfl (Nat.le_refl _) (by decide)) rfl (HV.out.alloc _) (by rw [HN.out]; simp; omega) (by simp) ?_; intro v2 w2 ho2 hg2; have O2 := Lib.hid ho2; have G2 := Lib.hid hg2; clear ho2 hg2)
  go_ret
  exact ⟨_, rfl, O2.out, ((Below.refl _ _).alloc (Nat.le_refl _) _).grown G2.out (by simp) (fun k hk => by injection hk with hk; subst hk; exact Nat.le_refl _)⟩
/-- a channel's eleven cells -/
def chanC (kv : Value) (s t : Int) (f : Nat → Bool) : List Value := [kv, .int .i64 s, .int .i64 t, .bool (f 0), .bool (f 1), .bool (f 2), .bool (f 3), .bool (f 4), .bool (f 5), .bool (f 6), .bool (f 7)]
theorem chanSz : (Try.prog.info? 28).map (fun x => x.size) = some 11 := by kernel_rfl
theorem chanOne (kv : Value) (s t : Int) (f : Nat → Bool) (hk : kv.oneCell' = true) : (chanC kv s t f).toArray.all (·.oneCell') = true := by
  simp [chanC, hk]
  exact ⟨rfl, rfl, rfl, rfl, rfl, rfl, rfl, rfl, rfl, rfl⟩
theorem chanOne' (kv : Value) (s t : Int) (b0 b1 b2 b3 b4 b5 b6 b7 : Bool) (hk : kv.oneCell' = true) : (#[kv, .int .i64 s, .int .i64 t, .bool b0, .bool b1, .bool b2, .bool b3, .bool b4, .bool b5, .bool b6, .bool b7] : Array Value).all (·.oneCell') = true := by
  simp [hk]
  exact ⟨rfl, rfl, rfl, rfl, rfl, rfl, rfl, rfl, rfl, rfl⟩
theorem Own.ofHeap {w w' : World} {base : Nat} {v : Value} {l : List UInt8} (h : Own w base v l) (hh : ∀ k, v.ownBlock = some k → w'.heap[k]? = w.heap[k]?) : Own w' base v l := by
  obtain ⟨h1, h2⟩ := h
  refine ⟨h1, ?_⟩
  rcases h2 with h2 | ⟨g, cap, cur, rfl, hg, hh2, r⟩
  · exact .inl h2
  · exact .inr ⟨g, cap, cur, rfl, hg, by rw [hh g rfl]; exact hh2, r⟩
theorem Own.one {w : World} {base : Nat} {v : Value} {l : List UInt8} (h : Own w base v l) : v.oneCell' = true := by
  rcases h.2 with ⟨rfl, _⟩ | ⟨g, cap, cur, rfl, _⟩ <;> rfl
set_option maxRecDepth 100000 in
set_option maxHeartbeats 2000000 in
theorem own_any (a : Addr) (c : Nat) (key : List UInt8) (s t : Int) (b0 b1 b2 b3 b4 b5 b6 b7 : Bool) (w : World) (hv : Rd w (.slice (some a) 32 c) key) (hn : key.length = 32) :
    Calls Try.prog 16 #[.agg #[.slice (some a) 32 c, .int .i64 s, .int .i64 t, .bool b0, .bool b1, .bool b2, .bool b3, .bool b4, .bool b5, .bool b6, .bool b7]] w
      fun e w' => ∃ kv, e = .returned (.agg #[kv, .int .i64 s, .int .i64 t, .bool b0, .bool b1, .bool b2, .bool b3, .bool b4, .bool b5, .bool b6, .bool b7]) ∧ Own w' w.heap.size kv key ∧ Below w.heap.size w w' := by
  have HV := Lib.hid hv
  have HN := Lib.hid hn
  clear hv hn
  go_enter Try.func16, Try.ntmps16
  go_wp2_with fail
  refine (clone_any _ 32 c key _ ((HV.out.alloc _).alloc _) HN.out (by decide)).mono ?_
  rintro e w1 ⟨kv, rfl, hok, hb1⟩
  obtain ⟨kg, kcap, hkv, _, _, _, _⟩ := hok.shape (by intro h; have := HN.out; rw [h] at this; cases this)
  rw [HN.out] at hkv
  subst hkv
  have x1 := (hb1.block w.heap.size (by simp; omega)).trans (heapNew0 w (.cells #[.slice (some a) 32 c, .int .i64 s, .int .i64 t, .bool b0, .bool b1, .bool b2, .bool b3, .bool b4, .bool b5, .bool b6, .bool b7] 28) _)
  have y1 := (hb1.block (w.heap.size + 1) (by simp)).trans (heapNew1 w _ (.cells #[.slice none 0 0, .int .i64 0, .int .i64 0, .bool false, .bool false, .bool false, .bool false, .bool false, .bool false, .bool false, .bool false] 28))
  have B1 := Lib.hid ((((Below.refl w.heap.size w).alloc (Nat.le_refl _) _).alloc (by simp) _).trans (hb1.mono (by simp; omega)))
  have O1 := Lib.hid hok
  have z1 := lt_of_heap y1
  have Z1 := Lib.hid hb1.size
  have c0 := cellAt x1 0 rfl
  have f0 := freeAt x1 0
  have x2 := heapSet (o := 0) x1 (.slice (some ⟨kg, 0, none⟩) 32 kcap)
  have hrg := range_of (cs := [.slice (some ⟨kg, 0, none⟩) 32 kcap, .int .i64 s, .int .i64 t, .bool b0, .bool b1, .bool b2, .bool b3, .bool b4, .bool b5, .bool b6, .bool b7]) x2
  have y2 := (heapSet_ne 0 (.slice (some ⟨kg, 0, none⟩) 32 kcap) (w := w1) (b := w.heap.size) (k := w.heap.size + 1) (by omega)).trans y1
  have hth : (w1.setCell ⟨w.heap.size, 0, none⟩ (.slice (some ⟨kg, 0, none⟩) 32 kcap)).there (w.heap.size + 1) 0 11 := there_of y2 rfl
  have HTH := Lib.hid hth
  have Y2 := Lib.hid y2
  clear hok hb1 x1 y1 x2 y2 hth
  go_wp2_with (first
    | (refine wpList_load_mid rfl 28 (.tmp 1) rfl w.heap.size 0 rfl [.slice (some ⟨kg, 0, none⟩) 32 kcap, .int .i64 s, .int .i64 t, .bool b0, .bool b1, .bool b2, .bool b3, .bool b4, .bool b5, .bool b6, .bool b7] _ hrg Try.underlying28 rfl chanSz ?_)
    | (refine wpList_store_mid rfl 28 (.tmp 2) (.tmp 7) rfl (w.heap.size + 1) 0 #[.slice (some ⟨kg, 0, none⟩) 32 kcap, .int .i64 s, .int .i64 t, .bool b0, .bool b1, .bool b2, .bool b3, .bool b4, .bool b5, .bool b6, .bool b7] rfl rfl HTH.out chanSz (chanOne' _ _ _ _ _ _ _ _ _ _ _ O1.out.one) ?_))
  have hst := storedRow (vs := [.slice (some ⟨kg, 0, none⟩) 32 kcap, .int .i64 s, .int .i64 t, .bool b0, .bool b1, .bool b2, .bool b3, .bool b4, .bool b5, .bool b6, .bool b7]) Y2.out rfl
  have hl := run_loadVar_mid (P := Try.prog) _ (w.heap.size + 1) 0 28 _ _ (range_of hst) Try.underlying28 rfl chanSz
  refine bodyPost_ret (v := .agg #[.slice (some ⟨kg, 0, none⟩) 32 kcap, .int .i64 s, .int .i64 t, .bool b0, .bool b1, .bool b2, .bool b3, .bool b4, .bool b5, .bool b6, .bool b7]) (results_c Try.results16 rfl hl) rfl ⟨_, rfl, ?_, ?_⟩
  · refine (O1.out.ofHeap (fun k hk => ?_)).mono (by simp; omega)
    have hk2 := (O1.out.lt k hk).1
    simp at hk2
    rw [heap_setCells_ne (by omega), heapSet_ne _ _ (by omega)]
  · exact below_setCells (by omega) _ _ _ (B1.out.setCell (Nat.le_refl _) _)
theorem four4 (n : Nat) (hn : n ≤ 1073741824) (W : World) (x0 x1 x2 x3 : Int) (h0 : x0 = (n : Int) / 16777216) (h1 : x1 = (n : Int) / 65536 % 256) (h2 : x2 = (n : Int) / 256 % 256) (h3 : x3 = (n : Int) % 256) :
    Own (W.alloc (.cells #[.int .u8 x0, .int .u8 x1, .int .u8 x2, .int .u8 x3] 5)) W.heap.size (.slice (some ⟨W.heap.size, 0, none⟩) 4 4) [UInt8.ofNat (n / 16777216), UInt8.ofNat (n / 65536), UInt8.ofNat (n / 256), UInt8.ofNat n] := by
  have h := ownNew W W.heap.size [UInt8.ofNat (n / 16777216), UInt8.ofNat (n / 65536), UInt8.ofNat (n / 256), UInt8.ofNat n] 4 rfl (Nat.le_refl _) (by decide)
  have e0 : x0 = ((UInt8.ofNat (n / 16777216)).toNat : Int) := by rw [h0, UInt8.toNat_ofNat']; omega
  have e1 : x1 = ((UInt8.ofNat (n / 65536)).toNat : Int) := by rw [h1, UInt8.toNat_ofNat']; omega
  have e2 : x2 = ((UInt8.ofNat (n / 256)).toNat : Int) := by rw [h2, UInt8.toNat_ofNat']; omega
  have e3 : x3 = ((UInt8.ofNat n).toNat : Int) := by rw [h3, UInt8.toNat_ofNat']; omega
  rw [e0, e1, e2, e3]
  exact h
/-- four bytes of a number -/
def fourN (n : Nat) : List UInt8 := [UInt8.ofNat (n / 16777216), UInt8.ofNat (n / 65536), UInt8.ofNat (n / 256), UInt8.ofNat n]
set_option maxHeartbeats 1000000 in
theorem lineFour_any (n : Nat) (w : World) (hn : n ≤ 1073741824) :
    Calls Try.prog 21 #[.int .i64 n] w fun e w' => ∃ g, e = .returned (.slice (some ⟨g, 0, none⟩) 4 4) ∧ w.heap.size ≤ g ∧ Own w' w.heap.size (.slice (some ⟨g, 0, none⟩) 4 4) (fourN n) ∧ Below w.heap.size w w' := by
  go_enter Try.func21, Try.ntmps21
  go_wp2
  go_ret
  exact ⟨_, rfl, Nat.le_refl _, four4 n hn w _ _ _ _ (by first | rfl | omega) (by first | rfl | omega) (by first | rfl | omega) (by first | rfl | omega), (Below.refl _ _).alloc (Nat.le_refl _) _⟩
/-- a nonce: eight noughts and a head -/
def nonceN (h : List UInt8) : List UInt8 := List.replicate 8 0 ++ h
set_option maxHeartbeats 1000000 in
theorem lineNonce_any (v : Value) (l : List UInt8) (w : World) (hv : Rd w v l) (hl : l.length = 4) :
    Calls Try.prog 19 #[v] w (FreshB w (nonceN l)) := by
  obtain ⟨a, c, rfl, _, _⟩ := hv.sliceN 4 hl
  have HV := Lib.hid hv
  have HL := Lib.hid hl
  have hmk : ∀ W : World, (Instr.makeSlice 22 (.int .i64 8) (.int .i64 12)).run Try.prog W = .ok (.slice (some ⟨W.heap.size, 0, none⟩) 8 12) (W.alloc (.cells (Array.replicate 12 (.int .u8 0)) 5)) := fun _ => by kernel_rfl
  have ho : Own (w.alloc (.cells (Array.replicate 12 (.int .u8 0)) 5)) w.heap.size (.slice (some ⟨w.heap.size, 0, none⟩) 8 12) (List.replicate 8 0) :=
    ⟨by simp, .inr ⟨w.heap.size, 12, _, by simp, Nat.le_refl _, heapNew w _, by simp, by decide, by simp, rfl⟩⟩
  have HO := Lib.hid ho
  clear hv hl ho
  go_enter Try.func19, Try.ntmps19
  go_wp2_with (at_builtin; refine apB rfl (.tmp 3) (.tmp 4) rfl w.heap.size (.slice (some ⟨w.heap.size, 0, none⟩) 8 12) _ (List.replicate 8 0) l rfl HO.out rfl (HV.out.alloc _) (by rw [HL.out]; decide) (by simp) ?_; intro v2 w2 ho2 hg2; have O2 := Lib.hid ho2; have G2 := Lib.hid hg2; clear ho2 hg2)
  go_ret
  exact ⟨_, rfl, O2.out, ((Below.refl _ _).alloc (Nat.le_refl _) _).grown G2.out (by simp) (fun k hk => by injection hk with hk; subst hk; exact Nat.le_refl _)⟩
end Go.Proofs.Ytoekopdogfnkhaa
