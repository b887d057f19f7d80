/-
  The walks of cha.check, Block and Mix.
-/
import Derived.Test.YtoekopdogfnkhaaChaB
import Derived.Test.YtoekopdogfnkhaaTail
set_option linter.unusedVariables false
set_option linter.unusedSimpArgs false
namespace Go.Con.Cha
/-- one byte that is mixed -/
def mixAt (key : List UInt8) (c : Nat) (nonce data : List UInt8) (i : Nat) : UInt8 := data.getD i 0 ^^^ (block key (UInt32.ofNat (c + i / 64)) nonce).getD (i % 64) 0
def mix (key : List UInt8) (c : Nat) (nonce data : List UInt8) : List UInt8 := (List.range data.length).map (mixAt key c nonce data)
theorem mix_length (key : List UInt8) (c : Nat) (nonce data : List UInt8) : (mix key c nonce data).length = data.length := by simp [mix]
theorem mix_at (key : List UInt8) (c : Nat) (nonce data : List UInt8) (i : Nat) (hi : i < data.length) : (mix key c nonce data).getD i 0 = mixAt key c nonce data i := by simp [mix, hi]
end Go.Con.Cha
namespace Go.Proofs.Ytoekopdogfnkhaa
open Go.RowKit Go.Con


set_option maxHeartbeats 400000 in
theorem chaCheckI (a b : Option Addr) (kc nc : Nat) (n : Int) (w : World) (h0 : 0 ≤ n) (h1 : n ≤ 1073741824) :
    Calls Try.prog 32 #[.slice a 32 kc, .int .i64 n, .slice b 12 nc] w fun e w' => e = .returned (.int .i64 0) ∧ w = w' := by
  go_enter Try.func32, Try.ntmps32
  go_wp2
  go_ret
  exact ⟨rfl, rfl⟩

theorem Rd.ofRow {w : World} {g n : Nat} {t : TypeId} {f : Nat × Nat} {l : List UInt8} (h : w.heap[g]? = some (.cells (l.map u8v).toArray t f)) (hn : l.length = n) (hm : n ≤ maxLen) : Rd w (.slice (some ⟨g, 0, none⟩) n n) l := by
  subst hn
  refine ⟨_, _, rfl, Nat.le_refl _, hm, (fun h => by cases h), fun _ => ⟨_, _, rfl, fun i hi => ?_⟩⟩
  refine cellAt h _ ?_
  simp [hi]

theorem blockStored (w1 w2 : World) (B : List UInt8) (hl : B.length = 64) (h : (w1.alloc (.cells #[.int .u8 0, .int .u8 0, .int .u8 0, .int .u8 0, .int .u8 0, .int .u8 0, .int .u8 0, .int .u8 0, .int .u8 0, .int .u8 0, .int .u8 0, .int .u8 0, .int .u8 0, .int .u8 0, .int .u8 0, .int .u8 0, .int .u8 0, .int .u8 0, .int .u8 0, .int .u8 0, .int .u8 0, .int .u8 0, .int .u8 0, .int .u8 0, .int .u8 0, .int .u8 0, .int .u8 0, .int .u8 0, .int .u8 0, .int .u8 0, .int .u8 0, .int .u8 0, .int .u8 0, .int .u8 0, .int .u8 0, .int .u8 0, .int .u8 0, .int .u8 0, .int .u8 0, .int .u8 0, .int .u8 0, .int .u8 0, .int .u8 0, .int .u8 0, .int .u8 0, .int .u8 0, .int .u8 0, .int .u8 0, .int .u8 0, .int .u8 0, .int .u8 0, .int .u8 0, .int .u8 0, .int .u8 0, .int .u8 0, .int .u8 0, .int .u8 0, .int .u8 0, .int .u8 0, .int .u8 0, .int .u8 0, .int .u8 0, .int .u8 0, .int .u8 0] 57)).setCells w1.heap.size 0 (B.map u8v).toArray.toList = w2) :
    Rd w2 (.slice (some ⟨w1.heap.size, 0, none⟩) 64 64) B ∧ Below w1.heap.size w1 w2 := by
  subst h
  refine ⟨Rd.ofRow (t := 57) (f := (0, 0)) ?_ hl (by decide), below_setCells (Nat.le_refl _) _ _ _ ((Below.refl _ _).alloc (Nat.le_refl _) _)⟩
  exact storedRow (heapNew w1 _) (by simp [hl])
set_option maxRecDepth 100000 in
set_option maxHeartbeats 1000000 in
theorem Block_ok (kv nv : Value) (key nonce : List UInt8) (c : UInt32) (w : World) (hk : Rd w kv key) (hn : Rd w nv nonce) (hkl : key.length = 32) (hnl : nonce.length = 12) (hc : c.toNat ≤ 1073741824) :
    Calls Try.prog 28 #[kv, .int .i64 c.toNat, nv] w (FreshBE w (Cha.block key c nonce) 0) := by
  obtain ⟨kb, ko, kc, rfl, _, _⟩ := hk.shapeN 32 hkl (by decide)
  obtain ⟨nb, no, nc, rfl, _, _⟩ := hn.shapeN 12 hnl (by decide)
  obtain ⟨B, hB⟩ : ∃ B, B = Cha.block key c nonce := ⟨_, rfl⟩
  have hBl : B.length = 64 := by rw [hB]; exact Cha.block_length _ _ _
  have hblk := fun w' h1 h2 => cblock_any kb ko kc nb no nc key nonce c w' hkl hnl h1 h2
  rw [← hB] at hblk ⊢
  have HBLK := Lib.hid hblk
  have HBL := Lib.hid hBl
  have HKey := Lib.hid hk
  have HNon := Lib.hid hn
  have hsz : (B.map u8v).toArray.size = 64 := by simp [hBl]
  have SZ := Lib.hid hsz
  clear hblk hBl hB hk hn hkl hnl hsz
  go_enter Try.func28, Try.ntmps28
  go_wp2_with fail
  refine (chaCheckI _ _ _ _ _ _ (by omega) (by omega)).mono ?_
  rintro e _ ⟨rfl, rfl⟩
  go_wp2_with fail
  refine (HBLK.out _ HKey.out HNon.out).mono ?_
  rintro e w1 ⟨rfl, hb1⟩
  have HB1 := Lib.hid hb1
  have hth : ∀ (W : World), (W.alloc (.cells #[.int .u8 0, .int .u8 0, .int .u8 0, .int .u8 0, .int .u8 0, .int .u8 0, .int .u8 0, .int .u8 0, .int .u8 0, .int .u8 0, .int .u8 0, .int .u8 0, .int .u8 0, .int .u8 0, .int .u8 0, .int .u8 0, .int .u8 0, .int .u8 0, .int .u8 0, .int .u8 0, .int .u8 0, .int .u8 0, .int .u8 0, .int .u8 0, .int .u8 0, .int .u8 0, .int .u8 0, .int .u8 0, .int .u8 0, .int .u8 0, .int .u8 0, .int .u8 0, .int .u8 0, .int .u8 0, .int .u8 0, .int .u8 0, .int .u8 0, .int .u8 0, .int .u8 0, .int .u8 0, .int .u8 0, .int .u8 0, .int .u8 0, .int .u8 0, .int .u8 0, .int .u8 0, .int .u8 0, .int .u8 0, .int .u8 0, .int .u8 0, .int .u8 0, .int .u8 0, .int .u8 0, .int .u8 0, .int .u8 0, .int .u8 0, .int .u8 0, .int .u8 0, .int .u8 0, .int .u8 0, .int .u8 0, .int .u8 0, .int .u8 0, .int .u8 0] 57)).there W.heap.size 0 64 := fun W => there_of (heapNew W _) rfl
  have HTH := Lib.hid hth
  clear hb1 hth
  have hst := fun (W W2 : World) (hW : (W.alloc (.cells #[.int .u8 0, .int .u8 0, .int .u8 0, .int .u8 0, .int .u8 0, .int .u8 0, .int .u8 0, .int .u8 0, .int .u8 0, .int .u8 0, .int .u8 0, .int .u8 0, .int .u8 0, .int .u8 0, .int .u8 0, .int .u8 0, .int .u8 0, .int .u8 0, .int .u8 0, .int .u8 0, .int .u8 0, .int .u8 0, .int .u8 0, .int .u8 0, .int .u8 0, .int .u8 0, .int .u8 0, .int .u8 0, .int .u8 0, .int .u8 0, .int .u8 0, .int .u8 0, .int .u8 0, .int .u8 0, .int .u8 0, .int .u8 0, .int .u8 0, .int .u8 0, .int .u8 0, .int .u8 0, .int .u8 0, .int .u8 0, .int .u8 0, .int .u8 0, .int .u8 0, .int .u8 0, .int .u8 0, .int .u8 0, .int .u8 0, .int .u8 0, .int .u8 0, .int .u8 0, .int .u8 0, .int .u8 0, .int .u8 0, .int .u8 0, .int .u8 0, .int .u8 0, .int .u8 0, .int .u8 0, .int .u8 0, .int .u8 0, .int .u8 0, .int .u8 0] 57)).setCells W.heap.size 0 (B.map u8v).toArray.toList = W2) => blockStored W W2 B HBL.out hW
  have HST := Lib.hid hst
  clear hst
  go_wp2_with (first
    | (refine wpList_store_mid rfl 57 (.tmp 9) (.tmp 21) rfl w1.heap.size 0 (B.map u8v).toArray rfl rfl (by rw [SZ.out]; exact HTH.out _) (by rw [SZ.out]; kernel_rfl) (all_oneCell_toArray (by intro v hv; obtain ⟨x, _, rfl⟩ := List.mem_map.1 hv; rfl)) ?_; generalize hW2 : World.setCells _ _ _ _ = w2; have P2 := Lib.hid (HST.out w1 w2 hW2); clear hW2)
    | (at_builtin; refine apB rfl (.const (.slice none 0 0)) (.tmp 22) rfl w.heap.size (.slice none 0 0) _ [] B rfl (Own.nil _ _) rfl P2.out.1 (by have := HBL.out; simp; omega) (Nat.le_trans HB1.out.size P2.out.2.size) ?_; intro v3 w3 hown3 hg3; have HO3 := Lib.hid hown3; have HG3 := Lib.hid hg3; clear hown3 hg3))
  have B2 := Lib.hid (HB1.out.trans (P2.out.2.mono HB1.out.size))
  go_ret2
  exact ⟨_, rfl, HO3.out, B2.out.grown HG3.out B2.out.size (fun k hk => by cases hk)⟩

theorem RowP.below {w w' : World} {b n m B : Nat} {t : TypeId} {f : Nat → Value} (h : RowP w b n t f m) (hb : Below B w w') (hB : b < B) : RowP w' b n t f m := by
  obtain ⟨cur, h1, h2, h3⟩ := h
  exact ⟨cur, by rw [hb.block b hB]; exact h1, h2, h3⟩
theorem RowP.ofOwn {w : World} {base g n : Nat} {l : List UInt8} (h : Own w base (.slice (some ⟨g, 0, none⟩) n n) l) (hl : l.length = n) (f : Nat → Value) : RowP w g n 5 f 0 ∧ base ≤ g := by
  obtain ⟨h1, h2⟩ := h
  rcases h2 with ⟨h3, _⟩ | ⟨g', cap, cur, h3, hb, hg, hnc, hcm, hcs, htake⟩
  · cases h3
  · injection h3 with e1 e2 e3
    injection e1 with e1
    injection e1 with e4 e5 e6
    subst e4
    exact ⟨⟨cur, hg, by omega, fun j hj => by omega⟩, hb⟩
theorem RowP.toOwn {w : World} {base g n : Nat} {f : Nat → UInt8} (h : RowP w g n 5 (fun j => u8v (f j)) n) (hb : base ≤ g) (hm : n ≤ maxLen) : Own w base (.slice (some ⟨g, 0, none⟩) n n) ((List.range n).map f) := by
  have h1 := h.full
  refine ⟨by simp, .inr ⟨g, n, _, by simp, hb, h1, by simp, hm, by simp, ?_⟩⟩
  rw [List.take_of_length_le (by simp)]
  simp
set_option maxRecDepth 100000 in
set_option maxHeartbeats 4000000 in
theorem Mix_ok (kv nv dv : Value) (key nonce data : List UInt8) (c : UInt32) (w : World) (hk : Rd w kv key) (hn : Rd w nv nonce) (hd : Rd w dv data) (hkl : key.length = 32) (hnl : nonce.length = 12) (hc : c.toNat ≤ 1073741824) (hdl : data.length ≤ 2000) :
    Calls Try.prog 27 #[kv, .int .i64 c.toNat, nv, dv] w (FreshBE w (Cha.mix key c.toNat nonce data) 0) := by
  obtain ⟨kb, ko, kc, rfl, _, _⟩ := hk.shapeN 32 hkl (by decide)
  obtain ⟨nb, no, nc, rfl, _, _⟩ := hn.shapeN 12 hnl (by decide)
  obtain ⟨L, hL⟩ : ∃ L, data.length = L := ⟨_, rfl⟩
  obtain ⟨da, dc, rfl, hdc, hdm⟩ := hd.sliceN L hL
  have hLl : L ≤ 2000 := by omega
  have HKey := Lib.hid hk
  have HNon := Lib.hid hn
  have HDat := Lib.hid hd
  have HL := Lib.hid hL
  have HKL := Lib.hid hkl
  have HNL := Lib.hid hnl
  clear hk hn hd hL hkl hnl hdl
  go_enter Try.func27, Try.ntmps27
  go_wp2_with fail
  refine (chaCheckI _ _ _ _ _ _ (by omega) (by omega)).mono ?_
  rintro e _ ⟨rfl, rfl⟩
  go_wp2_with (refine makeB _ rfl _ _ rfl L _ _ rfl rfl rfl rfl (by omega) ?_; intro w2 hom hbm; have HOM := Lib.hid hom; have HBM := Lib.hid hbm; clear hom hbm)
  obtain ⟨g, hg⟩ : ∃ g, g = w.heap.size := ⟨_, rfl⟩
  rw [← hg]
  have hp2 := (RowP.ofOwn HOM.out (by simp) (fun j => u8v (Cha.mixAt key c.toNat nonce data j))).1
  rw [← hg] at hp2
  have hbg : Below g w w2 := by rw [hg]; exact HBM.out
  have HP2 := Lib.hid hp2
  have HG := Lib.hid hg
  have HB2 := Lib.hid hbg
  have hgw : w.heap.size = g := hg.symm
  have HGW := Lib.hid hgw
  clear hp2 hg hbg HOM HBM hgw
  go_loopw [12] (fun i wr => ∃ q : Nat, 64 * q < L + 64 ∧ i = .int .i64 (64 * q : Nat) ∧ RowP wr g L 5 (fun j => u8v (Cha.mixAt key c.toNat nonce data j)) (min (64 * q) L) ∧ Below g w wr)
    (fun i _ => L + 64 - (intOf i).toNat)
  case atStart => exact ⟨0, by omega, by go_num, by simpa using HP2.out, HB2.out⟩
  case round =>
    obtain ⟨q, hq, rfl, hp, hb⟩ := hrel
    have HP := Lib.hid hp
    have HB := Lib.hid hb
    by_cases hlt : 64 * q < L
    · obtain ⟨db, do_, rfl⟩ : ∃ db do_, da = some ⟨db, do_, none⟩ := by
        obtain ⟨b, off, c, e, _⟩ := HDat.out.shapeN L HL.out (by omega)
        injection e with e1 _ _
        exact ⟨b, off, e1⟩
      have hdcell : ∀ (W : World), Below g w W → ∀ i, i < L → W.cell? ⟨db, do_ + i, none⟩ = some (.int .u8 (data.getD i 0).toNat) := by
        intro W hW i hi
        have hW' : Below w.heap.size w W := by rw [HGW.out]; exact hW
        obtain ⟨a', c', e, _, _, _, h⟩ := HDat.out.stay hW'
        obtain ⟨b', off, e4, h2⟩ := h (by intro h; have := HL.out; rw [h] at this; simp at this; omega)
        injection e with e1 e2 e3
        subst e1
        injection e4 with e4
        injection e4 with e5 e6
        subst e5 e6
        exact h2 i (by rw [HL.out]; exact hi)
      obtain ⟨cq, hcq⟩ : ∃ cq : UInt32, cq.toNat = c.toNat + q := ⟨UInt32.ofNat (c.toNat + q), by rw [UInt32.toNat_ofNat']; omega⟩
      obtain ⟨B, hB⟩ : ∃ B, B = Cha.block key cq nonce := ⟨_, rfl⟩
      have hBl : B.length = 64 := by rw [hB]; exact Cha.block_length _ _ _
      have hBe : B = Cha.block key (UInt32.ofNat (c.toNat + q)) nonce := by
        rw [hB]; congr 1
        apply UInt32.toNat_inj.1; rw [hcq, UInt32.toNat_ofNat']; omega
      have hblk := fun w' h1 h2 => cblock_any kb ko kc nb no nc key nonce cq w' HKL.out HNL.out h1 h2
      rw [← hB, hcq] at hblk
      have HBLK := Lib.hid hblk
      have HBL := Lib.hid hBl
      have HBe := Lib.hid hBe
      have hsz : (B.map u8v).toArray.size = 64 := by simp [hBl]
      have SZ := Lib.hid hsz
      have HDC0 := Lib.hid hdcell
      have hb' : Below w.heap.size w wr := by rw [HGW.out]; exact hb
      have HKey' := Lib.hid (HKey.out.stay hb')
      have HNon' := Lib.hid (HNon.out.stay hb')
      clear hblk hBl hB hBe hsz hdcell hb' hcq
      go_wp2_with fail
      refine (HBLK.out _ HKey'.out HNon'.out).mono ?_
      rintro e w1 ⟨rfl, hb1⟩
      have HB1 := Lib.hid hb1
      have hgl : g < wr.heap.size := by obtain ⟨cur, h1, _⟩ := hp; exact lt_of_heap h1
      have hth : ∀ (W : World), (W.alloc (.cells #[.int .u8 0, .int .u8 0, .int .u8 0, .int .u8 0, .int .u8 0, .int .u8 0, .int .u8 0, .int .u8 0, .int .u8 0, .int .u8 0, .int .u8 0, .int .u8 0, .int .u8 0, .int .u8 0, .int .u8 0, .int .u8 0, .int .u8 0, .int .u8 0, .int .u8 0, .int .u8 0, .int .u8 0, .int .u8 0, .int .u8 0, .int .u8 0, .int .u8 0, .int .u8 0, .int .u8 0, .int .u8 0, .int .u8 0, .int .u8 0, .int .u8 0, .int .u8 0, .int .u8 0, .int .u8 0, .int .u8 0, .int .u8 0, .int .u8 0, .int .u8 0, .int .u8 0, .int .u8 0, .int .u8 0, .int .u8 0, .int .u8 0, .int .u8 0, .int .u8 0, .int .u8 0, .int .u8 0, .int .u8 0, .int .u8 0, .int .u8 0, .int .u8 0, .int .u8 0, .int .u8 0, .int .u8 0, .int .u8 0, .int .u8 0, .int .u8 0, .int .u8 0, .int .u8 0, .int .u8 0, .int .u8 0, .int .u8 0, .int .u8 0, .int .u8 0] 57)).there W.heap.size 0 64 := fun W => there_of (heapNew W _) rfl
      have HTH := Lib.hid hth
      clear hb1 hth
      go_wp2_with (refine wpList_store_mid rfl 57 (.tmp 13) (.tmp 41) rfl w1.heap.size 0 (B.map u8v).toArray rfl rfl (by rw [SZ.out]; exact HTH.out _) (by rw [SZ.out]; kernel_rfl) (all_oneCell_toArray (by intro v hv; obtain ⟨x, _, rfl⟩ := List.mem_map.1 hv; rfl)) ?_)
      generalize hW2 : World.setCells _ _ _ _ = w3
      obtain ⟨bb, hbb⟩ : ∃ bb, bb = w1.heap.size := ⟨_, rfl⟩
      have hf3 : w3.heap[bb]? = some (.cells (B.map u8v).toArray 57 (0, 0)) := by
        rw [← hW2, hbb]; exact storedRow (heapNew w1 _) (by simp [HBL.out])
      have hb3 : Below w1.heap.size w1 w3 := by rw [← hW2]; exact below_setCells (Nat.le_refl _) _ _ _ ((Below.refl _ _).alloc (Nat.le_refl _) _)
      have hgbb : g < bb := by rw [hbb]; have := HB1.out.size; omega
      rw [← hbb]
      have T3 : Below wr.heap.size wr w3 := HB1.out.trans (hb3.mono HB1.out.size)
      have HP3 := Lib.hid (HP.out.below T3 hgl)
      have HB3 := Lib.hid (HB.out.trans (T3.mono (by omega)))
      have HBB := Lib.hid hf3
      have HDC := HDC0
      rw [show min (64 * q) L = 64 * q by omega] at HP3
      clear hf3 hb3 hW2 hbb T3 hgl HDC0 HB HP
      by_cases hmin : (L : Int) < ((64 * q : Nat) : Int) + 64
      · have hmin' : L < 64 * q + 64 := by omega
        have hE : L ≤ L := by omega
        have hE2 : L ≤ 64 * q + 64 := by omega
        have hE3 : 64 * q ≤ L := by omega
        clear hp hb
        go_loopw [14] (fun i wr => ∃ k : Nat, 64 * q ≤ k ∧ k ≤ L ∧ i = .int .i64 k ∧ RowP wr g L 5 (fun j => u8v (Cha.mixAt key c.toNat nonce data j)) k ∧ Below g w wr ∧ wr.heap[bb]? = some (.cells (B.map u8v).toArray 57 (0, 0)))
          (fun i _ => L - (intOf i).toNat)
        case atStart => exact ⟨64 * q, by omega, by omega, by go_num, HP3.out, HB3.out, HBB.out⟩
        case round =>
          obtain ⟨k, hk1, hk2, rfl, hp, hb, hbb⟩ := hrel
          have HP := Lib.hid hp
          have HB := Lib.hid hb
          have HBk := Lib.hid hbb
          by_cases hlk : k < L
          · obtain ⟨x, hx⟩ : ∃ x, x = data.getD k 0 := ⟨_, rfl⟩
            obtain ⟨y, hy⟩ : ∃ y, y = B.getD (k - 64 * q) 0 := ⟨_, rfl⟩
            have cx : wr.cell? ⟨db, do_ + k, none⟩ = some (.int .u8 x.toNat) := by rw [hx]; exact HDC.out wr hb k (by omega)
            have cy : wr.cell? ⟨bb, k - 64 * q, none⟩ = some (.int .u8 y.toNat) := by
              rw [hy]
              refine cellAt hbb (k - 64 * q) ?_
              have : k - 64 * q < B.length := by rw [HBL.out]; omega
              simp [this, u8v]
            obtain ⟨u, cu⟩ := hp.cell k (by omega)
            have fu := hp.free k
            have hmx : Cha.mixAt key c.toNat nonce data k = x ^^^ y := by
              rw [Cha.mixAt, ← hx, show k / 64 = q by omega, ← HBe.out, hy, show k % 64 = k - 64 * q by omega]
            have HMX := Lib.hid hmx
            clear hx hy hp hb hbb hmx
            go_wp2
            refine region_quiet_tail 13 (by kernel_rfl) (by kernel_rfl) ?_
            simp only [List.take_succ_cons, List.take_zero, List.drop_succ_cons, List.drop_zero]
            repeat (go_big_quiet_step (fail))
            refine wpQuiet_nil ?_
            intro w9 hw9
            obtain ⟨nq, rfl⟩ := hw9
            go_wp2
            go_roundw
            case rel =>
              rw [u8_xorF]
              refine ⟨k + 1, by omega, by omega, by go_num, ?_, (below_drewN HB.out nq).setCell (Nat.le_refl _) _, ?_⟩
              · have h : RowP (wr.drewN nq) g L 5 (fun j => u8v (Cha.mixAt key c.toNat nonce data j)) k := HP.out
                exact h.next (by omega) _ (by rw [HMX.out]; rfl)
              · rw [heapSet_ne _ _ (by omega)]; exact HBk.out
            case measure => simp [intOf]; omega
          · have hkE : k = L := by omega
            rw [hkE] at hp
            have HPE := Lib.hid hp
            clear hp hb hbb hkE
            go_wp2_with fail
            go_roundw
            case rel =>
              refine ⟨q + 1, by omega, by go_num, ?_, HB.out⟩
              have h := HPE.out
              rw [show min (64 * (q + 1)) L = L by omega]
              exact h
            case measure => simp [intOf]; omega
      · have hmin' : 64 * q + 64 ≤ L := by omega
        have hE : (64 * q + 64) ≤ L := by omega
        have hE2 : (64 * q + 64) ≤ 64 * q + 64 := by omega
        have hE3 : 64 * q ≤ (64 * q + 64) := by omega
        clear hp hb
        go_loopw [14] (fun i wr => ∃ k : Nat, 64 * q ≤ k ∧ k ≤ (64 * q + 64) ∧ i = .int .i64 k ∧ RowP wr g L 5 (fun j => u8v (Cha.mixAt key c.toNat nonce data j)) k ∧ Below g w wr ∧ wr.heap[bb]? = some (.cells (B.map u8v).toArray 57 (0, 0)))
          (fun i _ => (64 * q + 64) - (intOf i).toNat)
        case atStart => exact ⟨64 * q, by omega, by omega, by go_num, HP3.out, HB3.out, HBB.out⟩
        case round =>
          obtain ⟨k, hk1, hk2, rfl, hp, hb, hbb⟩ := hrel
          have HP := Lib.hid hp
          have HB := Lib.hid hb
          have HBk := Lib.hid hbb
          by_cases hlk : k < (64 * q + 64)
          · obtain ⟨x, hx⟩ : ∃ x, x = data.getD k 0 := ⟨_, rfl⟩
            obtain ⟨y, hy⟩ : ∃ y, y = B.getD (k - 64 * q) 0 := ⟨_, rfl⟩
            have cx : wr.cell? ⟨db, do_ + k, none⟩ = some (.int .u8 x.toNat) := by rw [hx]; exact HDC.out wr hb k (by omega)
            have cy : wr.cell? ⟨bb, k - 64 * q, none⟩ = some (.int .u8 y.toNat) := by
              rw [hy]
              refine cellAt hbb (k - 64 * q) ?_
              have : k - 64 * q < B.length := by rw [HBL.out]; omega
              simp [this, u8v]
            obtain ⟨u, cu⟩ := hp.cell k (by omega)
            have fu := hp.free k
            have hmx : Cha.mixAt key c.toNat nonce data k = x ^^^ y := by
              rw [Cha.mixAt, ← hx, show k / 64 = q by omega, ← HBe.out, hy, show k % 64 = k - 64 * q by omega]
            have HMX := Lib.hid hmx
            clear hx hy hp hb hbb hmx
            go_wp2
            refine region_quiet_tail 13 (by kernel_rfl) (by kernel_rfl) ?_
            simp only [List.take_succ_cons, List.take_zero, List.drop_succ_cons, List.drop_zero]
            repeat (go_big_quiet_step (fail))
            refine wpQuiet_nil ?_
            intro w9 hw9
            obtain ⟨nq, rfl⟩ := hw9
            go_wp2
            go_roundw
            case rel =>
              rw [u8_xorF]
              refine ⟨k + 1, by omega, by omega, by go_num, ?_, (below_drewN HB.out nq).setCell (Nat.le_refl _) _, ?_⟩
              · have h : RowP (wr.drewN nq) g L 5 (fun j => u8v (Cha.mixAt key c.toNat nonce data j)) k := HP.out
                exact h.next (by omega) _ (by rw [HMX.out]; rfl)
              · rw [heapSet_ne _ _ (by omega)]; exact HBk.out
            case measure => simp [intOf]; omega
          · have hkE : k = (64 * q + 64) := by omega
            rw [hkE] at hp
            have HPE := Lib.hid hp
            clear hp hb hbb hkE
            go_wp2_with fail
            go_roundw
            case rel =>
              refine ⟨q + 1, by omega, by go_num, ?_, HB.out⟩
              have h := HPE.out
              rw [show min (64 * (q + 1)) L = (64 * q + 64) by omega]
              exact h
            case measure => simp [intOf]; omega
    · have hqL : min (64 * q) L = L := by omega
      rw [hqL] at hp
      have HPL := Lib.hid hp
      clear hp hb hqL
      go_wp2
      go_ret2
      refine ⟨_, rfl, ?_, ?_⟩
      · have h := HPL.out.toOwn (base := w.heap.size) (by rw [HGW.out]; exact Nat.le_refl _) (by unfold maxLen; omega)
        unfold Cha.mix
        rw [HL.out]
        exact h
      · rw [HGW.out]; exact HB.out
end Go.Proofs.Ytoekopdogfnkhaa
