/- The law FnExactParseUint: it returns true. -/
import Derived.Test.YtepjjlaipindnaaDoorTxP
namespace Go.Proofs.YtepjjlaipindnaaDoor
open Go.RowKit
set_option linter.unusedVariables false
set_option maxHeartbeats 2000000 in
theorem walkFnExactParseUint (s : ByteArray) (w : World) (ws : s.size ≤ maxLen) (htab : Lib.TabIs Tryd.prog w "internal/strconv.uint64pow10" .u64 Lib.pow10Tab) (herr : ∃ tp p, w.var? Tryd.prog "strconv.ErrRange" = some #[.iface tp p]) (hsyn : ∃ tp p, w.var? Tryd.prog "strconv.ErrSyntax" = some #[.iface tp p]) : Calls Tryd.prog 4 #[.string s] w fun e w' => e = .returned (.bool true) ∧ Below w.heap.size w w' := by
  have hs : s.size ≤ 9223372036854775807 := by unfold maxLen at ws; omega
  have HS := Lib.hid hs
  have HW := Lib.hid (show Ready w from ⟨htab, herr, hsyn⟩)
  clear htab herr hsyn
  by_cases hbig : (1048576 : Int) < s.size
  · go_enter Tryd.func4, Tryd.ntmps4
    go_wp2_with fail
    go_ret
    exact ⟨rfl, Below.refl _ _⟩
  go_enter Tryd.func4, Tryd.ntmps4
  go_wp2_with fail
  refine (specParse s _ HS.out).mono ?_
  rintro e w1 ⟨rfl, hb1⟩
  have B1 := Lib.hid hb1
  go_wp2_with fail
  refine (implParse s _ HS.out (HW.out.below B1.out)).mono ?_
  rintro e w2 ⟨rfl, hb2⟩
  have B2 := Lib.hid hb2
  clear hb1 hb2
  generalize Pl.parseUint s.data.toList = r
  obtain ⟨r1, r2⟩ := r
  go_wp2_with fail
  go_ret
  exact ⟨rfl, later B1.out B2.out⟩
end Go.Proofs.YtepjjlaipindnaaDoor
