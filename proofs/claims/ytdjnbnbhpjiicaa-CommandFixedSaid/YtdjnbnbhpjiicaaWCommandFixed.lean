/-
  The walk of conclavekeep.CommandFixed: no command has two forms.
-/
import Derived.Test.YtdjnbnbhpjiicaaOrdD
import Derived.Test.YtdjnbnbhpjiicaaSameK
import Derived.Test.YtdjnbnbhpjiicaaFrS
namespace Go.Con
theorem fourB_raw (b0 b1 b2 b3 : UInt8) : fourB (((b0.toNat * 16777216 + b1.toNat * 65536 + b2.toNat * 256 + b3.toNat : Nat) : Int)).toNat = [b0, b1, b2, b3] := by
  have h0 := b0.toNat_lt
  have h1 := b1.toNat_lt
  have h2 := b2.toNat_lt
  have h3 := b3.toNat_lt
  rw [Int.toNat_natCast]
  unfold fourB
  have e0 : UInt8.ofNat ((b0.toNat * 16777216 + b1.toNat * 65536 + b2.toNat * 256 + b3.toNat) / 16777216) = b0 := by
    apply UInt8.toNat_inj.1; rw [UInt8.toNat_ofNat']; omega
  have e1 : UInt8.ofNat ((b0.toNat * 16777216 + b1.toNat * 65536 + b2.toNat * 256 + b3.toNat) / 65536) = b1 := by
    apply UInt8.toNat_inj.1; rw [UInt8.toNat_ofNat']; omega
  have e2 : UInt8.ofNat ((b0.toNat * 16777216 + b1.toNat * 65536 + b2.toNat * 256 + b3.toNat) / 256) = b2 := by
    apply UInt8.toNat_inj.1; rw [UInt8.toNat_ofNat']; omega
  have e3 : UInt8.ofNat (b0.toNat * 16777216 + b1.toNat * 65536 + b2.toNat * 256 + b3.toNat) = b3 := by
    apply UInt8.toNat_inj.1; rw [UInt8.toNat_ofNat']; omega
  rw [e0, e1, e2, e3]
/-- What is decoded is encoded to the same bytes. -/
theorem encC_decRaw (l : List UInt8) (hl : l.length = 20) : encC (decRaw l) = l := by
  match l, hl with
  | [a0, a1, a2, a3, a4, a5, a6, a7, a8, a9, a10, a11, a12, a13, a14, a15, a16, a17, a18, a19], _ =>
    show ((((([] ++ fourB (Cmd.fld (decRaw _) 0).toNat) ++ fourB (Cmd.fld (decRaw _) 1).toNat) ++ fourB (Cmd.fld (decRaw _) 2).toNat) ++ fourB (Cmd.fld (decRaw _) 3).toNat) ++ fourB (Cmd.fld (decRaw _) 4).toNat) = _
    have e0 : fourB (Cmd.fld (decRaw [a0, a1, a2, a3, a4, a5, a6, a7, a8, a9, a10, a11, a12, a13, a14, a15, a16, a17, a18, a19]) 0).toNat = [a0, a1, a2, a3] := fourB_raw a0 a1 a2 a3
    have e1 : fourB (Cmd.fld (decRaw [a0, a1, a2, a3, a4, a5, a6, a7, a8, a9, a10, a11, a12, a13, a14, a15, a16, a17, a18, a19]) 1).toNat = [a4, a5, a6, a7] := fourB_raw a4 a5 a6 a7
    have e2 : fourB (Cmd.fld (decRaw [a0, a1, a2, a3, a4, a5, a6, a7, a8, a9, a10, a11, a12, a13, a14, a15, a16, a17, a18, a19]) 2).toNat = [a8, a9, a10, a11] := fourB_raw a8 a9 a10 a11
    have e3 : fourB (Cmd.fld (decRaw [a0, a1, a2, a3, a4, a5, a6, a7, a8, a9, a10, a11, a12, a13, a14, a15, a16, a17, a18, a19]) 3).toNat = [a12, a13, a14, a15] := fourB_raw a12 a13 a14 a15
    have e4 : fourB (Cmd.fld (decRaw [a0, a1, a2, a3, a4, a5, a6, a7, a8, a9, a10, a11, a12, a13, a14, a15, a16, a17, a18, a19]) 4).toNat = [a16, a17, a18, a19] := fourB_raw a16 a17 a18 a19
    rw [e0, e1, e2, e3, e4]
    rfl
end Go.Con
namespace Go.Proofs.Ytdjnbnbhpjiicaa
open Go.RowKit Go.Con

set_option maxRecDepth 100000 in
set_option maxHeartbeats 1000000 in
theorem walk_CommandFixed (v : Value) (l : List UInt8) (w : World) (hR : Rd w v l) (hs : Small l) :
    Calls Try.prog 6 #[v] w fun e w' => e = .returned (.bool true) ∧ Below w.heap.size w w' := by
  have hcases : (∃ q, q ≠ 0 ∧ decC l = (Cmd.zero, q)) ∨ (∃ c, decC l = (c, 0) ∧ checkC c = 0 ∧ encC c = l) := by
    by_cases hl : l.length = 20
    · by_cases hc : checkC (decRaw l) = 0
      · exact .inr ⟨decRaw l, by rw [decC, if_neg (by rw [hl]; decide), if_neg (by rw [hc]; decide)], hc, encC_decRaw l hl⟩
      · exact .inl ⟨checkC (decRaw l), hc, by rw [decC, if_neg (by rw [hl]; decide), if_pos hc]⟩
    · exact .inl ⟨1, by decide, by rw [decC, if_pos hl]⟩
  obtain ⟨a, c, rfl, hlc, hcm⟩ := hR.slice
  have HR := Lib.hid hR
  have hbig : l.length ≤ 140737488351232 := hs
  clear hR hs
  rcases hcases with ⟨q, hq, hd⟩ | ⟨d, hd, hck, henc⟩
  · have hqb : (q != 0) = true := by simpa using hq
    have HD := Lib.hid hd
    clear hq hd
    go_enter Try.func6, Try.ntmps6
    go_wp2_with (at_builtin; refine apB rfl (.const (.slice none 0 0)) (.tmp 8) rfl w.heap.size (.slice none 0 0) _ [] l rfl (Own.nil _ _) rfl HR.out (by simp; omega) (Nat.le_refl _) ?_; intro v4 w4 hown4 hg4; have HO4 := Lib.hid hown4; have HG4 := Lib.hid hg4; clear hown4 hg4)
    refine (Decode_any _ ([] ++ l) _ HO4.out.rd).mono ?_
    rintro e w5 ⟨rfl, hb5⟩
    have hb4 : Below w.heap.size w w4 := (Below.refl _ _).grown HG4.out (Nat.le_refl _) (fun k hk => by cases hk)
    have HB5 := Lib.hid (hb4.trans (hb5.mono hb4.size))
    clear hb4 hb5
    rw [List.nil_append, HD.out]
    unfold cmdV
    dsimp only [Cmd.zero]
    go_wp2
    go_ret
    exact ⟨rfl, HB5.out.alloc (by have := HB5.out.size; omega) _⟩
  · have HD := Lib.hid hd
    have henc' := fun w => Encode_ok d w hck
    rw [henc] at henc'
    have HENC := Lib.hid henc'
    clear hd hck henc henc'
    obtain ⟨d0, d1, d2, d3, d4⟩ := d
    unfold cmdV at HENC
    dsimp only at HENC
    go_enter Try.func6, Try.ntmps6
    go_wp2_with (at_builtin; refine apB rfl (.const (.slice none 0 0)) (.tmp 8) rfl w.heap.size (.slice none 0 0) _ [] l rfl (Own.nil _ _) rfl HR.out (by simp; omega) (Nat.le_refl _) ?_; intro v4 w4 hown4 hg4; have HO4 := Lib.hid hown4; have HG4 := Lib.hid hg4; clear hown4 hg4)
    refine (Decode_any _ ([] ++ l) _ HO4.out.rd).mono ?_
    rintro e w5 ⟨rfl, hb5⟩
    have hb4 : Below w.heap.size w w4 := (Below.refl _ _).grown HG4.out (Nat.le_refl _) (fun k hk => by cases hk)
    have HB5 := Lib.hid (hb4.trans (hb5.mono hb4.size))
    clear hb4 hb5
    rw [List.nil_append, HD.out]
    unfold cmdV
    dsimp only
    go_wp2_with fail
    refine (HENC.out _).mono ?_
    rintro e w6 ⟨v6, rfl, ho6, hb6⟩
    have HB6 := Lib.hid ((HB5.out.alloc HB5.out.size (.cells #[.int .i64 d0, .int .i64 d1, .int .i64 d2, .int .i64 d3, .int .i64 d4] 29)).trans (hb6.mono (by have := HB5.out.size; simp; omega)))
    have HO6 := Lib.hid ho6
    have HR6 := Lib.hid (HR.out.stay HB6.out)
    clear ho6 hb6
    go_wp2_with fail
    refine (same_true _ _ _ _ _ HO6.out.rd HR6.out rfl).mono ?_
    rintro e _ ⟨rfl, rfl⟩
    go_wp2
    go_ret
    exact ⟨rfl, HB6.out⟩
end Go.Proofs.Ytdjnbnbhpjiicaa
