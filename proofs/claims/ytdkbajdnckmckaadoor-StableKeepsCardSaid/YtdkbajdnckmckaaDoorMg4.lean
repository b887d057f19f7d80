/-
  Texts put together: Frm, FrI, St4, ShaS, ShaW.
-/
import Derived.Test.YtdkbajdnckmckaaDoorMg1
import Derived.ProofKit
import Derived.OpenShut
import Derived.ShutString
import Derived.ChangeOld
import Derived.Below
import Derived.Lib.SmallJoins
import Derived.LaidLaws
import Derived.LaidMore
import Derived.LaidHandle
import Derived.Stop.Joined
import Derived.SevenTiedAt
import Derived.Test.YtdkbajdnckmckaaDoorMg3
import Derived.Test.YtdkbajdnckmckaaDoorRows
import Derived.WalkKit
import Derived.WalkSpells
import Derived.WalkLawsBesides
import Derived.BigQuiet
import Derived.Deep.QuietTactic
import Derived.LoopTactic
import Derived.Lib.Hide
set_option linter.unusedVariables false
set_option linter.unusedSimpArgs false
namespace Go.Proofs.YtdkbajdnckmckaaDoor
open Go.ChangeShapes Go.WideShapes Go.ChangeAt Go.RowKit Go.Con

theorem own : ownKnob Tryd.prog.godebug = none := by kernel_rfl
theorem laidOut : laidOutB Tryd.prog = true := by kernel_rfl

section
variable {H : Type} {enc : TypeId × Value → H} {W : World} {base b0 : Nat}

set_option maxRecDepth 100000 in
theorem open_bytes {v : Value} {d : DataW H} {p : List MemPlace} (hv : Value.okWide Tryd.prog W .any b0 25 v) (h : DataW.Trod enc Tryd.prog W base (fun _ => true) true 25 v d p) : ∃ l, Rd W v l := by
  obtain ⟨a, len, cap, rfl⟩ := okWide_slice Tryd.underlying25 hv
  obtain ⟨fuel, hf⟩ := h
  rcases open_ints Tryd.underlying25 Tryd.underlying5 (by kernel_rfl) hf with ⟨hcs, _⟩ | ⟨x, l, c, zs, hcs, _, hl, hm, hz, _, hcell, hwz⟩
  · simp [Value.cells] at hcs
    obtain ⟨rfl, rfl, rfl⟩ := hcs
    exact ⟨[], Rd.nil W⟩
  · simp [Value.cells] at hcs
    obtain ⟨rfl, rfl, rfl⟩ := hcs
    refine ⟨(zs.take len).map fun z => UInt8.ofNat z.toNat, ?_⟩
    have hzl : zs.length = cap := by simpa using hz
    have hlen : ((zs.take len).map fun z => UInt8.ofNat z.toNat).length = len := by simp; omega
    refine ⟨some x, cap, by rw [hlen], by rw [hlen]; exact hl, hm, (fun h => by cases h), fun hne => ?_⟩
    have hpos : 0 < len := by rw [← hlen]; exact List.length_pos_iff.2 hne
    obtain ⟨b, off, spot⟩ := x
    have hspot : spot = none := by
      have := hcell 0 (by omega)
      simpa [Addr.add] using World.cell?_spot this
    subst hspot
    refine ⟨b, off, rfl, fun i hi => ?_⟩
    rw [hlen] at hi
    have hc := hcell i (by omega)
    have hiz : i < zs.length := by omega
    have hb := bounds_u8 (hwz zs[i] (List.getElem_mem hiz))
    have e : u8v (((zs.take len).map fun z => UInt8.ofNat z.toNat).getD i 0) = .int .u8 (zs.getD i 0) := by
      have e1 : ((zs.take len).map fun z => UInt8.ofNat z.toNat).getD i 0 = UInt8.ofNat zs[i].toNat := by
        simp [List.getElem?_take, hi, hiz]
      have e2 : zs.getD i 0 = zs[i] := by simp [hiz]
      have e3 : (UInt8.ofNat zs[i].toNat).toNat = zs[i].toNat := by
        rw [UInt8.toNat_ofNat']; omega
      rw [e1, e2, u8v, e3]
      congr 1
      omega
    rw [e]
    unfold Addr.add at hc
    split at hc
    · rename_i h0; subst h0; simpa using hc
    · exact hc

/-- An int that came in. -/
def IsInt (v : Value) (n : Int) : Prop := v = .int .i64 n ∧ -9223372036854775808 ≤ n ∧ n ≤ 9223372036854775807
set_option maxRecDepth 100000 in
theorem open_int {v : Value} {d : DataW H} {p : List MemPlace} (hv : Value.okWide Tryd.prog W .any b0 3 v) (h : DataW.Trod enc Tryd.prog W base (fun _ => true) true 3 v d p) : ∃ n, IsInt v n := by
  obtain ⟨n, rfl, _, _, wn⟩ := ChangeShapes.open_int Tryd.underlying3 hv h
  exact ⟨n, rfl, (bounds_i64 wn).1, (bounds_i64 wn).2⟩
def IsBool (v : Value) (b : Bool) : Prop := v = .bool b
set_option maxRecDepth 100000 in
theorem open_bool {v : Value} {d : DataW H} {p : List MemPlace} (hv : Value.okWide Tryd.prog W .any b0 4 v) (h : DataW.Trod enc Tryd.prog W base (fun _ => true) true 4 v d p) : ∃ b, IsBool v b := by
  obtain ⟨b, rfl, _, _⟩ := RowKit.open_bool Tryd.underlying4 hv h
  exact ⟨b, rfl⟩
end
end Go.Proofs.YtdkbajdnckmckaaDoor

set_option linter.unusedVariables false
set_option linter.unusedSimpArgs false
namespace Go.Proofs.YtdkbajdnckmckaaDoor
open Go.ChangeShapes Go.WideShapes Go.ChangeAt Go.RowKit Go.Con
/-- the value is a slice that shows integers -/
def RdInts (w : World) (v : Value) (zs : List Int) : Prop :=
  ∃ a c, v = .slice a zs.length c ∧ zs.length ≤ c ∧ c ≤ maxLen ∧ (∀ i, i < zs.length → -9223372036854775808 ≤ zs.getD i 0 ∧ zs.getD i 0 ≤ 9223372036854775807) ∧ (zs ≠ [] → ∃ b off, a = some ⟨b, off, none⟩ ∧ ∀ i, i < zs.length → w.cell? ⟨b, off + i, none⟩ = some (.int .i64 (zs.getD i 0)))
theorem RdInts.stay {w w' : World} {v : Value} {zs : List Int} (h : RdInts w v zs) (hb : Below w.heap.size w w') : RdInts w' v zs := by
  obtain ⟨a, c, rfl, h1, h2, h0, h3⟩ := h
  refine ⟨a, c, rfl, h1, h2, h0, fun hl => ?_⟩
  obtain ⟨b, off, rfl, hc⟩ := h3 hl
  refine ⟨b, off, rfl, fun i hi => ?_⟩
  exact (World.cell?_of_block (w := w) (hb.block b (World.block_lt_of_cell? w _ (hc i hi)))).trans (hc i hi)
section
variable {H : Type} {enc : TypeId × Value → H} {W : World} {base b0 : Nat}
set_option maxRecDepth 100000 in
theorem open_ints {v : Value} {d : DataW H} {p : List MemPlace} (hv : Value.okWide Tryd.prog W .any b0 76 v) (h : DataW.Trod enc Tryd.prog W base (fun _ => true) true 76 v d p) : ∃ zs, RdInts W v zs := by
  obtain ⟨a, len, cap, rfl⟩ := okWide_slice Tryd.underlying76 hv
  obtain ⟨fuel, hf⟩ := h
  rcases Go.ChangeShapes.open_ints Tryd.underlying76 Tryd.underlying3 (by kernel_rfl) hf with ⟨hcs, _⟩ | ⟨x, l, c, zs, hcs, _, hl, hm, hz, _, hcell, hwz⟩
  · simp [Value.cells] at hcs
    obtain ⟨rfl, rfl, rfl⟩ := hcs
    exact ⟨[], none, 0, rfl, Nat.le_refl _, Nat.zero_le _, (fun i hi => by cases hi), fun h => absurd rfl h⟩
  · simp [Value.cells] at hcs
    obtain ⟨rfl, rfl, rfl⟩ := hcs
    have hzl : zs.length = cap := by simpa using hz
    have hlen : (zs.take len).length = len := by simp; omega
    have hget : ∀ i, i < len → (zs.take len).getD i 0 = zs.getD i 0 := fun i hi => by simp [List.getElem?_take, hi]
    refine ⟨zs.take len, some x, cap, by rw [hlen], by rw [hlen]; exact hl, hm, fun i hi => ?_, fun hne => ?_⟩
    · rw [hlen] at hi
      rw [hget i hi]
      have hiz : i < zs.length := by omega
      have e2 : zs.getD i 0 = zs[i] := by simp [hiz]
      rw [e2]
      exact bounds_i64 (hwz zs[i] (List.getElem_mem hiz))
    · have hpos : 0 < len := by rw [← hlen]; exact List.length_pos_iff.2 hne
      obtain ⟨b, off, spot⟩ := x
      have hspot : spot = none := by
        have := hcell 0 (by omega)
        simpa [Addr.add] using World.cell?_spot this
      subst hspot
      refine ⟨b, off, rfl, fun i hi => ?_⟩
      rw [hlen] at hi
      have hc := hcell i (by omega)
      rw [hget i hi]
      unfold Addr.add at hc
      split at hc
      · rename_i h0; subst h0; simpa using hc
      · exact hc
end
end Go.Proofs.YtdkbajdnckmckaaDoor

set_option linter.unusedVariables false
set_option linter.unusedSimpArgs false
namespace Go.Proofs.YtdkbajdnckmckaaDoor
open Go.RowKit Go.Con
/-- numbers, four bytes each -/
def flatB (zs : List Int) : List UInt8 := zs.flatMap fun z => fourB z.toNat
theorem flatB_len (zs : List Int) : (flatB zs).length = 4 * zs.length := by
  induction zs with
  | nil => rfl
  | cons z r ih => rw [flatB, List.flatMap_cons, List.length_append, List.length_cons]; rw [flatB] at ih; rw [ih]; simp [fourB]; omega
theorem flatB_take (zs : List Int) (k : Nat) (hk : k < zs.length) : flatB (zs.take (k + 1)) = flatB (zs.take k) ++ fourB (zs.getD k 0).toNat := by
  have e : zs.take (k + 1) = zs.take k ++ [zs.getD k 0] := by
    rw [List.take_succ_eq_append_getElem hk]; simp [hk]
  rw [e, flatB, List.flatMap_append]; simp [flatB]
set_option maxHeartbeats 1000000 in
theorem fours_any (v : Value) (zs : List Int) (w : World) (hv : RdInts w v zs) (h0 : ∀ i, i < zs.length → 0 ≤ zs.getD i 0) (hl : zs.length ≤ 100) :
    Calls Tryd.prog 22 #[v] w (FreshB w (flatB zs)) := by
  obtain ⟨a, c, rfl, hlc, hcm, -, hcell⟩ := hv
  obtain ⟨n, hn⟩ : ∃ n, n = zs.length := ⟨_, rfl⟩
  rw [← hn] at hlc hl h0 hcell ⊢
  have hcm2 : c ≤ 9223372036854775807 := hcm
  have HN := Lib.hid hn
  have H0 := Lib.hid h0
  have HCL := Lib.hid hcell
  clear hn h0 hcell hcm
  go_enter Tryd.func22, Tryd.ntmps22
  go_wp2_with fail
  go_loopw [3, 8] (fun v i wr => ∃ k : Nat, k ≤ n ∧ i = .int .i64 k ∧ Hid (Own wr w.heap.size v (flatB (zs.take k))) ∧ Hid (Below w.heap.size w wr)) (fun _ i _ => n - (intOf i).toNat)
  case atStart => exact ⟨0, by omega, rfl, Lib.hid (Own.nil _ _), Lib.hid (Below.refl _ _)⟩
  case round =>
    obtain ⟨k, hk, rfl, HO, HB⟩ := hrel
    by_cases hlt : k < n
    · have hd : decide ((k : Int) < n) = true := by rw [decide_eq_true_eq]; omega
      have hdn : decide (k < n) = true := by rw [decide_eq_true_eq]; omega
      obtain ⟨b, off, rfl, hc⟩ := HCL.out (by intro h; have := HN.out; rw [h] at this; simp at this; omega)
      obtain ⟨q, hq⟩ : ∃ q, q = zs.getD k 0 := ⟨_, rfl⟩
      have c0 := hc k (by omega)
      have hq0 := H0.out k hlt
      rw [← hq] at c0 hq0
      have cw : wr.cell? ⟨b, off + k, none⟩ = some (.int .i64 q) := (World.cell?_of_block (w := w) (HB.out.block b (World.block_lt_of_cell? w _ c0))).trans c0
      have hflat := flatB_take zs k (by rw [← HN.out]; exact hlt)
      rw [← hq] at hflat
      have HF := Lib.hid hflat
      have hlen : (flatB (zs.take k)).length ≤ 400 := by rw [flatB_len, List.length_take]; omega
      have HLEN := Lib.hid hlen
      have hn4 : ∀ W : World, Rd (W.alloc (.cells #[.int .u8 (q / 16777216 % 256), .int .u8 (q / 65536 % 256), .int .u8 (q / 256 % 256), .int .u8 (q % 256)] 5)) (.slice (some ⟨W.heap.size, 0, none⟩) 4 4) (fourB q.toNat) := fun W =>
        newB4 W _ _ _ _ _ _ _ _ (raw24 q hq0) (raw16 q hq0) (raw8 q hq0) (raw0 q hq0)
      have HN4 := Lib.hid hn4
      clear hq hflat hlen hc c0 hn4
      go_wp2_with (at_builtin; refine apB rfl (.tmp 12) (.tmp 24) rfl w.heap.size _ _ _ (fourB q.toNat) rfl (HO.out.alloc _) rfl (HN4.out _) (by have := HLEN.out; simp [fourB]; omega) (by have := HB.out.size; simp; omega) ?_; intro v3 w3 hown3 hg3; have HO3 := Lib.hid hown3; have HG3 := Lib.hid hg3; clear hown3 hg3)
      go_roundw
      case rel => exact ⟨k + 1, by omega, by go_num, Lib.hid (by rw [HF.out]; exact HO3.out), Lib.hid ((HB.out.alloc HB.out.size _).grown HG3.out (by have := HB.out.size; simp; omega) (fun k hk => (HO.out.lt k hk).1))⟩
      case measure => simp [intOf]; omega
    · have hd : decide ((k : Int) < n) = false := by rw [decide_eq_false_iff_not]; omega
      have hdn : decide (k < n) = false := by rw [decide_eq_false_iff_not]; omega
      have hkn : k = n := by omega
      rw [hkn, List.take_of_length_le (by rw [← HN.out]; omega)] at HO
      clear hkn
      go_wp2
      go_ret
      exact ⟨_, rfl, HO.out, HB.out⟩
/-- a number of four bytes -/
def getN (l : List UInt8) : Nat := (l.getD 0 0).toNat * 16777216 + (l.getD 1 0).toNat * 65536 + (l.getD 2 0).toNat * 256 + (l.getD 3 0).toNat
set_option maxHeartbeats 1000000 in
theorem get_any (b off n c : Nat) (l : List UInt8) (w : World) (hv : Rd w (.slice (some ⟨b, off, none⟩) n c) l) (hn : l.length = n) (h4 : 4 ≤ n) :
    Calls Tryd.prog 43 #[.slice (some ⟨b, off, none⟩) n c] w fun e w' => e = .returned (.int .i64 (getN l : Int)) ∧ ∃ m, w' = w.drewN m := by
  obtain ⟨x0, h0⟩ : ∃ x, x = l.getD 0 0 := ⟨_, rfl⟩
  obtain ⟨x1, h1⟩ : ∃ x, x = l.getD 1 0 := ⟨_, rfl⟩
  obtain ⟨x2, h2'⟩ : ∃ x, x = l.getD 2 0 := ⟨_, rfl⟩
  obtain ⟨x3, h3⟩ : ∃ x, x = l.getD 3 0 := ⟨_, rfl⟩
  have c0 := hv.cellR 0 (by omega)
  have c1 := hv.cellR 1 (by omega)
  have c2 := hv.cellR 2 (by omega)
  have c3 := hv.cellR 3 (by omega)
  rw [← h0] at c0
  rw [← h1] at c1
  rw [← h2'] at c2
  rw [← h3] at c3
  have hg : getN l = x0.toNat * 16777216 + x1.toNat * 65536 + x2.toNat * 256 + x3.toNat := by rw [getN, h0, h1, h2', h3]
  have HG := Lib.hid hg
  have d0 : (0 : Int) < n := by omega
  have d1 : (1 : Int) < n := by omega
  have d2 : (2 : Int) < n := by omega
  have d3 : (3 : Int) < n := by omega
  rw [Nat.add_zero] at c0
  clear hv hg h0 h1 h2' h3 hn
  go_enter Tryd.func43, Tryd.ntmps43
  go_wp2_with fail
  go_quiet (fail)
  go_wp2
  go_ret
  refine ⟨?_, _, rfl⟩
  rw [HG.out, ← four64 x0 x1 x2 x3]
  rfl
end Go.Proofs.YtdkbajdnckmckaaDoor

namespace Go.Con.Sha

def rotr (x : UInt32) (n : Nat) : UInt32 := UInt32.ofNat (x.toNat / 2 ^ n ||| (x.toNat <<< (32 - n)) % 4294967296)

def kn : List UInt32 := [
  1116352408, 1899447441, 3049323471, 3921009573, 961987163, 1508970993, 2453635748, 2870763221,
  3624381080, 310598401, 607225278, 1426881987, 1925078388, 2162078206, 2614888103, 3248222580,
  3835390401, 4022224774, 264347078, 604807628, 770255983, 1249150122, 1555081692, 1996064986,
  2554220882, 2821834349, 2952996808, 3210313671, 3336571891, 3584528711, 113926993, 338241895,
  666307205, 773529912, 1294757372, 1396182291, 1695183700, 1986661051, 2177026350, 2456956037,
  2730485921, 2820302411, 3259730800, 3345764771, 3516065817, 3600352804, 4094571909, 275423344,
  430227734, 506948616, 659060556, 883997877, 958139571, 1322822218, 1537002063, 1747873779,
  1955562222, 2024104815, 2227730452, 2361852424, 2428436474, 2756734187, 3204031479, 3329325298]

/-- four bytes as a word, the highest one first -/
def word (b : List UInt8) (i : Nat) : UInt32 :=
  (b.getD (4 * i) 0).toUInt32 <<< 24 ||| (b.getD (4 * i + 1) 0).toUInt32 <<< 16 ||| (b.getD (4 * i + 2) 0).toUInt32 <<< 8 ||| (b.getD (4 * i + 3) 0).toUInt32

def nextW (b : List UInt8) (l : List UInt32) (k : Nat) : UInt32 :=
  if k < 16 then word b k else
    l.getD (k - 16) 0 + l.getD (k - 7) 0 + (rotr (l.getD (k - 15) 0) 7 ^^^ rotr (l.getD (k - 15) 0) 18 ^^^ l.getD (k - 15) 0 >>> 3)
      + (rotr (l.getD (k - 2) 0) 17 ^^^ rotr (l.getD (k - 2) 0) 19 ^^^ l.getD (k - 2) 0 >>> 10)

/-- the first k words of the schedule -/
def sched (b : List UInt8) : Nat → List UInt32
  | 0 => []
  | k + 1 => let l := sched b k; l ++ [nextW b l k]

structure D8 where
  a : UInt32
  b : UInt32
  c : UInt32
  d : UInt32
  e : UInt32
  f : UInt32
  g : UInt32
  h : UInt32

def upOf (s : D8) (k w : UInt32) : UInt32 :=
  s.h + (rotr s.e 6 ^^^ rotr s.e 11 ^^^ rotr s.e 25) + (s.e &&& s.f ^^^ ~~~s.e &&& s.g) + k + w
def downOf (s : D8) : UInt32 :=
  (rotr s.a 2 ^^^ rotr s.a 13 ^^^ rotr s.a 22) + (s.a &&& s.b ^^^ s.a &&& s.c ^^^ s.b &&& s.c)
def stepD (s : D8) (k w : UInt32) : D8 :=
  { a := upOf s k w + downOf s, b := s.a, c := s.b, d := s.c, e := s.d + upOf s k w, f := s.e, g := s.f, h := s.g }

def rounds (ws : List UInt32) (s : D8) : Nat → D8
  | 0 => s
  | k + 1 => stepD (rounds ws s k) (kn.getD k 0) (ws.getD k 0)

def addD (x y : D8) : D8 :=
  { a := x.a + y.a, b := x.b + y.b, c := x.c + y.c, d := x.d + y.d, e := x.e + y.e, f := x.f + y.f, g := x.g + y.g, h := x.h + y.h }

def D8.toList (s : D8) : List UInt32 := [s.a, s.b, s.c, s.d, s.e, s.f, s.g, s.h]

/-- one block of 64 bytes -/
def blk (s : D8) (b : List UInt8) : D8 := addD s (rounds (sched b 64) s 64)

def d0 : D8 := { a := 1779033703, b := 3144134277, c := 1013904242, d := 2773480762, e := 1359893119, f := 2600822924, g := 528734635, h := 1541459225 }
/-- so many noughts behind n bytes and the one that begins the padding -/
def zeros (n : Nat) : Nat := (119 - n % 64) % 64
/-- the length's eight bytes, the highest one first: the first k of them -/
def len8 (n : Nat) (k : Nat) : List UInt8 := (List.range k).map fun j => UInt8.ofNat (n / 2 ^ (56 - 8 * j))
def padded (l : List UInt8) : List UInt8 := l ++ [128] ++ List.replicate (zeros l.length) 0 ++ len8 (8 * l.length) 8
/-- k blocks of 64 bytes -/
def blocks (p : List UInt8) : Nat → D8
  | 0 => d0
  | k + 1 => blk (blocks p k) ((p.drop (64 * k)).take 64)
def bytes4 (x : UInt32) : List UInt8 := [UInt8.ofNat (x.toNat / 16777216), UInt8.ofNat (x.toNat / 65536), UInt8.ofNat (x.toNat / 256), UInt8.ofNat x.toNat]
def sum (l : List UInt8) : List UInt8 := (blocks (padded l) ((padded l).length / 64)).toList.flatMap bytes4

theorem len8_succ (n k : Nat) : len8 n (k + 1) = len8 n k ++ [UInt8.ofNat (n / 2 ^ (56 - 8 * k))] := by
  simp [len8, List.range_succ]
theorem len8_length (n k : Nat) : (len8 n k).length = k := by simp [len8]
theorem padded_length (l : List UInt8) : (padded l).length % 64 = 0 ∧ 0 < (padded l).length ∧ (padded l).length = l.length + 9 + zeros l.length := by
  have h : (padded l).length = l.length + 9 + zeros l.length := by simp [padded, len8_length]; omega
  refine ⟨?_, by omega, h⟩
  rw [h]; unfold zeros; omega
theorem bytes4_length (x : UInt32) : (bytes4 x).length = 4 := rfl
theorem sum_length (l : List UInt8) : (sum l).length = 32 := rfl

def out (s : D8) (k : Nat) : List UInt8 := (s.toList.take k).flatMap bytes4
theorem out_succ (s : D8) (k : Nat) (h : k < 8) : out s (k + 1) = out s k ++ bytes4 (s.toList.getD k 0) := by
  have : k < s.toList.length := h
  simp only [out, List.take_succ_eq_append_getElem this, List.flatMap_append]
  simp [List.getD, this]
theorem out_length (s : D8) (k : Nat) (h : k ≤ 8) : (out s k).length = 4 * k := by
  have : ∀ l : List UInt32, (l.flatMap bytes4).length = 4 * l.length := by
    intro l
    induction l with
    | nil => rfl
    | cons x l ih => simp only [List.flatMap_cons, List.length_append, List.length_cons, ih, bytes4_length]; omega
  rw [out, this, List.length_take]
  have : s.toList.length = 8 := rfl
  omega

theorem sched_length (b : List UInt8) (k : Nat) : (sched b k).length = k := by
  induction k with
  | zero => rfl
  | succ k ih => simp [sched, ih]
theorem sched_old (b : List UInt8) (k j : Nat) (h : j < k) : (sched b (k + 1)).getD j 0 = (sched b k).getD j 0 := by
  simp [sched, List.getElem?_append, sched_length, h]
theorem sched_new (b : List UInt8) (k : Nat) : (sched b (k + 1)).getD k 0 = nextW b (sched b k) k := by
  simp [sched, sched_length]
theorem sched_le (b : List UInt8) (j k n : Nat) (h : j < k) (hn : k ≤ n) : (sched b n).getD j 0 = (sched b k).getD j 0 := by
  induction n with
  | zero => omega
  | succ n ih =>
    by_cases hk : k = n + 1
    · rw [hk]
    · rw [sched_old b n j (by omega), ih (by omega)]
end Go.Con.Sha

set_option linter.unusedVariables false
set_option linter.unusedSimpArgs false
namespace Go.Proofs.YtdkbajdnckmckaaDoor
open Go.RowKit Go.Con

theorem rotrN (x : UInt32) (n : Nat) : bits .or .u32 ((x.toNat : Int) / 2 ^ n) ((x.toNat : Int) * 2 ^ (32 - n) % 4294967296) = ((Sha.rotr x n).toNat : Int) := by
  have h1 : ((x.toNat : Int) / 2 ^ n) = ((x.toNat / 2 ^ n : Nat) : Int) := by simp
  have h2 : ((x.toNat : Int) * 2 ^ (32 - n) % 4294967296) = ((x.toNat <<< (32 - n) % 4294967296 : Nat) : Int) := by
    rw [Nat.shiftLeft_eq]; simp
  rw [h1, h2, u32_or_nat _ _ (Nat.lt_of_le_of_lt (Nat.div_le_self _ _) x.toNat_lt) (Nat.mod_lt _ (by decide))]
  congr 1
  unfold Sha.rotr
  rw [UInt32.toNat_ofNat_of_lt']
  exact Nat.or_lt_two_pow (n := 32) (Nat.lt_of_le_of_lt (Nat.div_le_self _ _) x.toNat_lt) (Nat.mod_lt _ (by decide))

set_option maxHeartbeats 400000 in
theorem turn_any (x : UInt32) (n : Nat) (w : World) (h1 : 0 < n) (h2 : n < 32) :
    Calls Tryd.prog 52 #[.int .u32 x.toNat, .int .i64 n] w fun e w' => e = .returned (.int .u32 (Sha.rotr x n).toNat) ∧ ∃ k, w' = w.drewN k := by
  go_enter Tryd.func52, Tryd.ntmps52
  go_wp2
  go_quiet (fail)
  go_wp2
  go_ret
  exact ⟨by rw [← rotrN]; rfl, _, rfl⟩

theorem turn_at (x : UInt32) (n : Int) (m : Nat) (w : World) (hn : n = m) (h1 : 0 < m) (h2 : m < 32) :
    Calls Tryd.prog 52 #[.int .u32 x.toNat, .int .i64 n] w fun e w' => e = .returned (.int .u32 (Sha.rotr x m).toNat) ∧ ∃ k, w' = w.drewN k := by
  subst hn; exact turn_any x m w h1 h2

theorem turn_i (x : UInt32) (n : Int) (w : World) (h1 : 0 < n) (h2 : n < 32) :
    Calls Tryd.prog 52 #[.int .u32 x.toNat, .int .i64 n] w fun e w' => e = .returned (.int .u32 (Sha.rotr x n.toNat).toNat) ∧ ∃ k, w' = w.drewN k := by
  obtain ⟨m, rfl⟩ := Int.eq_ofNat_of_zero_le (Int.le_of_lt h1)
  exact turn_any x m w (by omega) (by omega)

theorem notF (x : UInt32) : bits .xor .u32 IntKind.u32.max (x.toNat : Int) = ((~~~x).toNat : Int) := u32_notF x
theorem up_raw (s : Sha.D8) (k w : UInt32) :
    ((s.h.toNat : Int) + bits .xor .u32 (bits .xor .u32 ((Sha.rotr s.e 6).toNat : Int) ((Sha.rotr s.e 11).toNat : Int)) ((Sha.rotr s.e 25).toNat : Int) +
      bits .xor .u32 (bits .and .u32 (s.e.toNat : Int) (s.f.toNat : Int)) (bits .and .u32 (bits .xor .u32 IntKind.u32.max (s.e.toNat : Int)) (s.g.toNat : Int)) + (k.toNat : Int) + (w.toNat : Int)) % 4294967296
      = ((Sha.upOf s k w).toNat : Int) := by
  simp only [notF, u32_xorF, u32_andF, Sha.upOf, UInt32.toNat_add]
  omega
theorem down_raw (s : Sha.D8) :
    (bits .xor .u32 (bits .xor .u32 ((Sha.rotr s.a 2).toNat : Int) ((Sha.rotr s.a 13).toNat : Int)) ((Sha.rotr s.a 22).toNat : Int) +
      bits .xor .u32 (bits .xor .u32 (bits .and .u32 (s.a.toNat : Int) (s.b.toNat : Int)) (bits .and .u32 (s.a.toNat : Int) (s.c.toNat : Int))) (bits .and .u32 (s.b.toNat : Int) (s.c.toNat : Int))) % 4294967296
      = ((Sha.downOf s).toNat : Int) := by
  simp only [u32_xorF, u32_andF, Sha.downOf, UInt32.toNat_add]
  omega
theorem modAdd (a b : Int) (x y : UInt32) (ha : a % 4294967296 = (x.toNat : Int)) (hb : b % 4294967296 = (y.toNat : Int)) : (a + b) % 4294967296 = ((x + y).toNat : Int) := by
  rw [UInt32.toNat_add]; omega
theorem modSelf (y : UInt32) : (y.toNat : Int) % 4294967296 = (y.toNat : Int) := by
  have := y.toNat_lt; omega

theorem index8 (s : Sha.D8) (k : Nat) (hk : k < 8) (W : World) :
    (Instr.index 97 (.agg #[.int .u32 s.a.toNat, .int .u32 s.b.toNat, .int .u32 s.c.toNat, .int .u32 s.d.toNat, .int .u32 s.e.toNat, .int .u32 s.f.toNat, .int .u32 s.g.toNat, .int .u32 s.h.toNat]) (.int .i64 k)).run Tryd.prog W
      = .ok (.int .u32 (s.toList.getD k 0).toNat) W := by
  have h8 : k = 0 ∨ k = 1 ∨ k = 2 ∨ k = 3 ∨ k = 4 ∨ k = 5 ∨ k = 6 ∨ k = 7 := by omega
  rcases h8 with rfl | rfl | rfl | rfl | rfl | rfl | rfl | rfl <;> (show _ = _; kernel_rfl)


def u32v (x : UInt32) : Value := .int .u32 x.toNat

set_option maxRecDepth 100000 in
set_option maxHeartbeats 1000000 in
theorem block_any (bd b off cap : Nat) (D : Sha.D8) (B : List UInt8) (w : World)
    (hd : w.heap[bd]? = some (.cells #[u32v D.a, u32v D.b, u32v D.c, u32v D.d, u32v D.e, u32v D.f, u32v D.g, u32v D.h] 97 (0, 0)))
    (hk : ∀ i, i < 64 → w.cell? ⟨0, i, none⟩ = some (u32v (Sha.kn.getD i 0)))
    (hg : 0 ≠ bd)
    (hc : ∀ i, i < 64 → w.cell? ⟨b, off + i, none⟩ = some (u8v (B.getD i 0))) :
    Calls Tryd.prog 50 #[.pointer (some ⟨bd, 0, none⟩), .slice (some ⟨b, off, none⟩) 64 cap] w fun e w' =>
      e = .returned (.tuple #[]) ∧ Kept w.heap.size (· = bd) w w' ∧
      w'.heap[bd]? = some (.cells #[u32v (Sha.blk D B).a, u32v (Sha.blk D B).b, u32v (Sha.blk D B).c, u32v (Sha.blk D B).d, u32v (Sha.blk D B).e, u32v (Sha.blk D B).f, u32v (Sha.blk D B).g, u32v (Sha.blk D B).h] 97 (0, 0)) := by
  unfold u8v u32v at *
  have hk0 := Lib.hid hk
  clear hk
  go_enter Tryd.func50, Tryd.ntmps50
  go_wp2
  go_loopw [16] (fun c wr => ∃ k : Nat, k ≤ 64 ∧ c = .int .i64 k ∧ Kept w.heap.size (fun _ => False) w wr ∧
      ∃ arr : Array Value, wr.heap[w.heap.size]? = some (.cells arr 100 (0, 0)) ∧ arr.size = 64 ∧ ∀ j, j < k → arr[j]? = some (.int .u32 ((Sha.sched B k).getD j 0).toNat))
    (fun c _ => 64 - (intOf c).toNat)
  case atStart => exact ⟨0, by omega, rfl, (Kept.refl _ _ _).alloc (Nat.le_refl _) _, _, heapNew _ _, rfl, fun j hj => absurd hj (Nat.not_lt_zero _)⟩
  case round =>
    obtain ⟨k, hk, rfl, hkept, arr, harr, hsz, hold⟩ := hrel
    by_cases hlt : k < 64
    · have c4 := cellD harr k (by omega)
      have c5 := freeAt harr k
      by_cases h16 : k < 16
      · have hcc : ∀ j, j < 64 → wr.cell? ⟨b, off + j, none⟩ = some (.int .u8 (B.getD j 0).toNat) := fun j hj => (hkept.cell (p := ⟨b, off + j, none⟩) (World.block_lt_of_cell? w _ (hc j hj)) id).trans (hc j hj)
        obtain ⟨x0, hx0⟩ : ∃ x, x = B.getD (4 * k) 0 := ⟨_, rfl⟩
        obtain ⟨x1, hx1⟩ : ∃ x, x = B.getD (4 * k + 1) 0 := ⟨_, rfl⟩
        obtain ⟨x2, hx2⟩ : ∃ x, x = B.getD (4 * k + 2) 0 := ⟨_, rfl⟩
        obtain ⟨x3, hx3⟩ : ∃ x, x = B.getD (4 * k + 3) 0 := ⟨_, rfl⟩
        have c0 := hcc (4 * k) (by omega)
        have c1 := hcc (4 * k + 1) (by omega)
        have c2 := hcc (4 * k + 2) (by omega)
        have c3 := hcc (4 * k + 3) (by omega)
        rw [← hx0] at c0; rw [← hx1] at c1; rw [← hx2] at c2; rw [← hx3] at c3
        have HS : Hid (x0.toUInt32 <<< 24 ||| x1.toUInt32 <<< 16 ||| x2.toUInt32 <<< 8 ||| x3.toUInt32 = (Sha.sched B (k + 1)).getD k 0) := by
          rw [Sha.sched_new, Sha.nextW, if_pos h16, hx0, hx1, hx2, hx3]; rfl
        clear hx0 hx1 hx2 hx3 hcc hc hd
        have hold' := Lib.hid hold
        clear hold
        go_wp2
        refine region_quiet_tail 35 (by kernel_rfl) (by kernel_rfl) ?_
        simp only [List.take_succ_cons, List.take_zero, List.drop_succ_cons, List.drop_zero]
        repeat (go_big_quiet_step (fail))
        refine wpQuiet_nil ?_
        intro w9 hw9
        obtain ⟨nq, rfl⟩ := hw9
        go_wp2
        go_roundw
        case rel =>
          refine ⟨k + 1, by omega, by go_num, (hkept.drewN nq).setCell (.inl (Nat.le_refl _)) _, fillOne (g := fun j => .int .u32 ((Sha.sched B (k + 1)).getD j 0).toNat) nq harr hsz hlt (fun j hj => by rw [hold'.out j hj, Sha.sched_old B k j hj]) ?_⟩
          rw [word_raw, HS.out]
        case measure => simp [intOf]; omega
      · obtain ⟨y16, h16'⟩ : ∃ x, x = (Sha.sched B k).getD (k - 16) 0 := ⟨_, rfl⟩
        obtain ⟨y15, h15'⟩ : ∃ x, x = (Sha.sched B k).getD (k - 15) 0 := ⟨_, rfl⟩
        obtain ⟨y7, h7'⟩ : ∃ x, x = (Sha.sched B k).getD (k - 7) 0 := ⟨_, rfl⟩
        obtain ⟨y2, h2'⟩ : ∃ x, x = (Sha.sched B k).getD (k - 2) 0 := ⟨_, rfl⟩
        have c0 := cellAt harr _ (hold (k - 16) (by omega))
        have c1 := cellAt harr _ (hold (k - 15) (by omega))
        have c2 := cellAt harr _ (hold (k - 7) (by omega))
        have c3 := cellAt harr _ (hold (k - 2) (by omega))
        rw [← h16'] at c0; rw [← h15'] at c1; rw [← h7'] at c2; rw [← h2'] at c3
        have HS : Hid (y16 + y7 + (Sha.rotr y15 7 ^^^ Sha.rotr y15 18 ^^^ y15 >>> 3) + (Sha.rotr y2 17 ^^^ Sha.rotr y2 19 ^^^ y2 >>> 10) = (Sha.sched B (k + 1)).getD k 0) := by
          rw [Sha.sched_new, Sha.nextW, if_neg h16, h16', h15', h7', h2']; rfl
        have h16i : (16 : Int) ≤ (k : Int) := by omega
        clear h16' h15' h7' h2' hc hd
        have hold' := Lib.hid hold
        clear hold
        go_wp2
        go_quiet (fail)
        go_wp2
        refine region_quiet_tail 29 (by kernel_rfl) (by kernel_rfl) ?_
        simp only [List.take_succ_cons, List.take_zero, List.drop_succ_cons, List.drop_zero]
        repeat (go_big_quiet_step ((go_at_call 52; exact quiet_of2 (turn_i _ _ _ (by decide) (by decide)))))
        refine wpQuiet_nil ?_
        intro w9 hw9
        obtain ⟨nq, rfl⟩ := hw9
        go_wp2
        go_roundw
        case rel =>
          refine ⟨k + 1, by omega, by go_num, (hkept.drewN _).setCell (.inl (Nat.le_refl _)) _, fillOne (g := fun j => .int .u32 ((Sha.sched B (k + 1)).getD j 0).toNat) _ harr hsz hlt (fun j hj => by rw [hold'.out j hj, Sha.sched_old B k j hj]) ?_⟩
          rw [← HS.out, u32_xorF, u32_xorF, shr32 y15 3 3 8 (by decide) rfl (by decide), shr32 y2 10 10 1024 (by decide) rfl (by decide), u32_xorF, u32_xorF]
          congr 1
          simp only [UInt32.toNat_add]
          omega
        case measure => simp [intOf]; omega
    · have hk64 : k = 64 := by omega
      rw [hk64] at hold
      have hk64d : decide ((k : Int) < 64) = false := by rw [hk64]; decide
      have Hk64 := Lib.hid hk64
      clear hk64
      have cg : ∀ i, i < 64 → wr.cell? ⟨0, i, none⟩ = some (.int .u32 (Sha.kn.getD i 0).toNat) := fun i hi => (hkept.cell (p := ⟨0, i, none⟩) (World.block_lt_of_cell? w _ (hk0.out i hi)) id).trans (hk0.out i hi)
      have hdr : wr.heap[bd]? = some (.cells #[.int .u32 D.a.toNat, .int .u32 D.b.toNat, .int .u32 D.c.toNat, .int .u32 D.d.toNat, .int .u32 D.e.toNat, .int .u32 D.f.toNat, .int .u32 D.g.toNat, .int .u32 D.h.toNat] 97 (0, 0)) := (hkept.block bd (lt_of_heap hd) id).trans hd
      have q0 := cellAt hdr 0 rfl
      have q1 := cellAt hdr 1 rfl
      have q2 := cellAt hdr 2 rfl
      have q3 := cellAt hdr 3 rfl
      have q4 := cellAt hdr 4 rfl
      have q5 := cellAt hdr 5 rfl
      have q6 := cellAt hdr 6 rfl
      have q7 := cellAt hdr 7 rfl
      have Hold := Lib.hid hold
      have Cg := Lib.hid cg
      have Hd := Lib.hid hd
      have Hdr := Lib.hid hdr
      have Harr := Lib.hid harr
      clear hold hc hd hdr cg harr
      go_wp2
      obtain ⟨w1, hw1⟩ : ∃ w1 : World, w1 = wr := ⟨_, rfl⟩
      rw [← hw1]
      rw [← hw1] at hkept Harr
      generalize hbv : w1.heap.size = bv
      have hbv' : w.heap.size < bv := by rw [← hbv]; exact lt_of_heap Harr.out
      have k0 : ∀ o, Kept w.heap.size (fun _ => False) w (w1.alloc o) := fun o => hkept.alloc (by have := hkept.size; omega) o
      have r0 : ∀ o, (w1.alloc o).heap[w.heap.size]? = some (.cells arr 100 (0, 0)) := fun o => (heapOld w1 o _ (lt_of_heap Harr.out)).trans Harr.out
      have r1 : ∀ o, (w1.alloc o).heap[bv]? = some o := fun o => by rw [← hbv]; exact heapNew w1 o
      have Hbv := Lib.hid hbv
      clear hbv
      go_loopw [97] (fun c wr2 => ∃ k2 : Nat, k2 ≤ 64 ∧ c = .int .i64 k2 ∧ Kept w.heap.size (fun _ => False) w wr2 ∧
          wr2.heap[w.heap.size]? = some (.cells arr 100 (0, 0)) ∧ ∃ s : Sha.D8, s = Sha.rounds (Sha.sched B 64) D k2 ∧
          wr2.heap[bv]? = some (.cells #[.int .u32 s.a.toNat, .int .u32 s.b.toNat, .int .u32 s.c.toNat, .int .u32 s.d.toNat, .int .u32 s.e.toNat, .int .u32 s.f.toNat, .int .u32 s.g.toNat, .int .u32 s.h.toNat] 97 (0, 0)))
        (fun c _ => 64 - (intOf c).toNat)
      case atStart => exact ⟨0, by omega, rfl, k0 _, r0 _, D, rfl, r1 _⟩
      case round =>
        clear r0 r1 k0 q0 q1 q2 q3 q4 q5 q6 q7
        obtain ⟨k2, hk2, rfl, hkept2, harr2, s, hs, hv⟩ := hrel
        have q0 := cellAt hv 0 rfl
        have q1 := cellAt hv 1 rfl
        have q2 := cellAt hv 2 rfl
        have q3 := cellAt hv 3 rfl
        have q4 := cellAt hv 4 rfl
        have q5 := cellAt hv 5 rfl
        have q6 := cellAt hv 6 rfl
        have q7 := cellAt hv 7 rfl
        have fv := freeAt hv
        have Hv := Lib.hid hv
        have Hs := Lib.hid hs
        have Harr2 := Lib.hid harr2
        clear hv hs harr2
        by_cases hlt2 : k2 < 64
        · obtain ⟨wk, hwk⟩ : ∃ x, x = (Sha.sched B 64).getD k2 0 := ⟨_, rfl⟩
          obtain ⟨kk, hkk⟩ : ∃ x, x = Sha.kn.getD k2 0 := ⟨_, rfl⟩
          have cw : wr.cell? ⟨w.heap.size, k2, none⟩ = some (.int .u32 wk.toNat) := by rw [hwk]; exact cellAt Harr2.out k2 (Hold.out k2 hlt2)
          have ck : wr.cell? ⟨0, k2, none⟩ = some (.int .u32 kk.toNat) := by
            rw [hkk]; exact (hkept2.cell (p := ⟨0, k2, none⟩) (World.block_lt_of_cell? w _ (hk0.out k2 hlt2)) id).trans (hk0.out k2 hlt2)
          have Hwk := Lib.hid hwk
          have Hkk := Lib.hid hkk
          clear hwk hkk
          go_wp2
          go_quiet (fail)
          go_wp2
          go_quiet ((go_at_call 52; exact quiet_of2 (turn_i _ _ _ (by decide) (by decide))))
          go_wp2
          go_quiet ((go_at_call 52; exact quiet_of2 (turn_i _ _ _ (by decide) (by decide))))
          go_wp2
          go_roundw
          case rel =>
            refine ⟨k2 + 1, by omega, by go_num, ?_, ?_, Sha.stepD s kk wk, ?_, ?_⟩
            · exact (((((((((hkept2.drewN _).setCell (.inl (by exact Nat.le_of_lt hbv')) _).setCell (.inl (by exact Nat.le_of_lt hbv')) _).setCell (.inl (by exact Nat.le_of_lt hbv')) _).setCell (.inl (by exact Nat.le_of_lt hbv')) _).setCell (.inl (by exact Nat.le_of_lt hbv')) _).setCell (.inl (by exact Nat.le_of_lt hbv')) _).setCell (.inl (by exact Nat.le_of_lt hbv')) _).setCell (.inl (by exact Nat.le_of_lt hbv')) _)
            · have hne : w.heap.size ≠ bv := by omega
              rw [heapSet_ne _ _ hne, heapSet_ne _ _ hne, heapSet_ne _ _ hne, heapSet_ne _ _ hne, heapSet_ne _ _ hne, heapSet_ne _ _ hne, heapSet_ne _ _ hne, heapSet_ne _ _ hne]
              exact Harr2.out
            · rw [Hkk.out, Hwk.out, Hs.out]; rfl
            · refine (set8 (w := wr.drewN _) Hv.out _ _ _ _ _ _ _ _).trans ?_
              rw [modAdd _ _ _ _ (up_raw s kk wk) (down_raw s), modAdd _ _ _ _ (modSelf s.d) (up_raw s kk wk)]
              rfl
          case measure => simp [intOf]; omega
        · have hk64 : k2 = 64 := by omega
          obtain ⟨s', hs'⟩ : ∃ x, x = s := ⟨_, rfl⟩
          have hdr : wr.heap[bd]? = some (.cells #[.int .u32 D.a.toNat, .int .u32 D.b.toNat, .int .u32 D.c.toNat, .int .u32 D.d.toNat, .int .u32 D.e.toNat, .int .u32 D.f.toNat, .int .u32 D.g.toNat, .int .u32 D.h.toNat] 97 (0, 0)) := (hkept2.block bd (lt_of_heap Hd.out) id).trans Hd.out
          have Hdr2 := Lib.hid hdr
          clear hdr
          go_wp2
          have hix := index8 s
          have hlt0 : (0 : Nat) < 8 := by decide
          have Hs2 := Lib.hid (show s = Sha.rounds (Sha.sched B 64) D 64 by rw [Hs.out, hk64])
          have Hk64b := Lib.hid hk64
          clear hk64 Hs q0 q1 q2 q3 q4 q5 q6 q7 fv Hv
          obtain ⟨w2, hw2⟩ : ∃ w2 : World, w2 = wr := ⟨_, rfl⟩
          rw [← hw2]
          rw [← hw2] at hkept2 Hdr2
          clear hw2 hw1 Cg Hdr
          go_loopw [178] (fun c wr3 => ∃ k3 : Nat, k3 ≤ 8 ∧ c = .int .i64 k3 ∧ Kept w.heap.size (fun x => x = bd) w wr3 ∧
              ∃ cur : Array Value, wr3.heap[bd]? = some (.cells cur 97 (0, 0)) ∧ cur.size = 8 ∧ ∀ j, j < 8 → cur[j]? = some (.int .u32 (if j < k3 then D.toList.getD j 0 + s.toList.getD j 0 else D.toList.getD j 0).toNat))
            (fun c _ => 8 - (intOf c).toNat)
          case atStart =>
            refine ⟨0, by omega, rfl, hkept2.mono (Nat.le_refl _) (fun _ _ h => h.elim), _, Hdr2.out, rfl, fun j hj => ?_⟩
            match j, hj with
            | 0, _ => rfl
            | 1, _ => rfl
            | 2, _ => rfl
            | 3, _ => rfl
            | 4, _ => rfl
            | 5, _ => rfl
            | 6, _ => rfl
            | 7, _ => rfl
          case round =>
            obtain ⟨k3, hk3, rfl, hkept3, cur, hcur, hcs, hcv⟩ := hrel
            by_cases hlt3 : k3 < 8
            · have hix3 := hix k3 hlt3
              obtain ⟨sk, hsk⟩ : ∃ x, x = s.toList.getD k3 0 := ⟨_, rfl⟩
              obtain ⟨dk, hdk⟩ : ∃ x, x = D.toList.getD k3 0 := ⟨_, rfl⟩
              rw [← hsk] at hix3
              have c0 := cellAt hcur k3 (hcv k3 hlt3)
              rw [if_neg (Nat.lt_irrefl k3), ← hdk] at c0
              have f0 := freeAt hcur k3
              have Hcur := Lib.hid hcur
              have Hcv := Lib.hid hcv
              have Hsk := Lib.hid hsk
              have Hdk := Lib.hid hdk
              clear hcur hcv hsk hdk hix
              go_wp2
              refine region_quiet_tail 9 (by kernel_rfl) (by kernel_rfl) ?_
              simp only [List.take_succ_cons, List.take_zero, List.drop_succ_cons, List.drop_zero]
              repeat (go_big_quiet_step (fail))
              refine wpQuiet_nil ?_
              intro w9 hw9
              obtain ⟨nq, rfl⟩ := hw9
              go_wp2
              go_roundw
              case rel =>
                refine ⟨k3 + 1, by omega, by go_num, (hkept3.drewN _).setCell (.inr rfl) _, turnOne _ Hcur.out hcs hlt3 Hcv.out ?_ ?_⟩
                · rw [if_pos (by omega), ← Hdk.out, ← Hsk.out, modAdd _ _ _ _ (modSelf dk) (modSelf sk)]
                · intro j hj hne
                  by_cases h : j < k3
                  · rw [if_pos h, if_pos (by omega)]
                  · rw [if_neg h, if_neg (by omega)]
              case measure => simp [intOf]; omega
            · have Hcv := Lib.hid hcv
              have Hcur := Lib.hid hcur
              clear hix hcv hcur
              go_wp2
              go_end0
              refine ⟨rfl, hkept3, ?_⟩
              have h3 : k3 = 8 := by omega
              subst h3
              rw [Hcur.out, arr8 hcs (fun j hj => by rw [Hcv.out j hj, if_pos hj]), Sha.blk, ← Hs2.out]
              rfl
end Go.Proofs.YtdkbajdnckmckaaDoor
