/-
  The walk of slices.Clone of bytes (without a channel in sight).
-/
import Derived.Test.YtocdnochnjlhlaaDoorBy2
import Derived.Lib.SliceRun
set_option linter.unusedVariables false
set_option linter.unusedSimpArgs false
namespace Go.Proofs.YtocdnochnjlhlaaDoor
open Go.RowKit Go.Con
theorem cln_any (a : Addr) (n c : Nat) (l : List UInt8) (w : World) (hv : Rd w (.slice (some a) n c) l) (hn : l.length = n) (hl : n ≤ 1099511627776) :
    Calls Tryd.prog 13 #[.slice (some a) n c] w (FreshB w l) := by
  have hnl := fun (w : World) => Lib.run_eql_slice_nil (P := Tryd.prog) w 43 5 (some a) n c 0 0 Tryd.underlying43
  have HV := Lib.hid hv
  have HN := Lib.hid hn
  clear hv hn
  go_enter Tryd.func13, Tryd.ntmps13
  go_wp2_with (at_builtin; refine apB rfl (.tmp 5) (.tmp 6) rfl w.heap.size (.slice (some ⟨w.heap.size, 0, none⟩) 0 0) _ [] l rfl (Own.made w w.heap.size #[] 0 (Nat.le_refl _) (by decide) rfl) rfl (HV.out.alloc _) (by rw [HN.out]; simp; omega) (by simp) ?_; intro v2 w2 ho2 hg2; have O2 := Lib.hid ho2; have G2 := Lib.hid hg2; clear ho2 hg2)
  go_ret
  exact ⟨_, rfl, O2.out, ((Below.refl _ _).alloc (Nat.le_refl _) _).grown G2.out (by simp) (fun k hk => by injection hk with hk; subst hk; exact Nat.le_refl _)⟩
end Go.Proofs.YtocdnochnjlhlaaDoor
