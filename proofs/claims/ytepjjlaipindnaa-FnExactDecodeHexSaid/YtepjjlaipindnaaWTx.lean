/- The laws FnExactEncodeHex, FnExactDecodeHex: each returns true. -/
import Derived.Test.YtepjjlaipindnaaTx2
import Derived.Test.YtepjjlaipindnaaMem
namespace Go.Proofs.Ytepjjlaipindnaa
open Go.RowKit
set_option linter.unusedVariables false
set_option maxHeartbeats 2000000 in
theorem walkFnExactEncodeHex (s : ByteArray) (w : World) (ws : s.size ≤ maxLen) : Calls Try.prog 3 #[.string s] w fun e w' => e = .returned (.bool true) ∧ Below w.heap.size w w' := by
  have hs : s.size ≤ 9223372036854775807 := by unfold maxLen at ws; omega
  have HS := Lib.hid hs
  by_cases hbig : (1048576 : Int) < s.size
  · go_enter Try.func3, Try.ntmps3
    go_wp2_with fail
    go_ret
    exact ⟨rfl, Below.refl _ _⟩
  go_enter Try.func3, Try.ntmps3
  go_wp2_with fail
  refine (specEncode s _ HS.out).mono ?_
  rintro e w1 ⟨rfl, hb1⟩
  have B1 := Lib.hid hb1
  go_wp2_with fail
  refine (implEncode s _ HS.out).mono ?_
  rintro e w2 ⟨rfl, hb2⟩
  have B2 := Lib.hid hb2
  clear hb1 hb2
  generalize Pl.encodeHex s.data.toList = r
  obtain ⟨r1, r2⟩ := r
  go_wp2_with fail
  go_ret
  exact ⟨rfl, later B1.out B2.out⟩
set_option maxHeartbeats 2000000 in
theorem walkFnExactDecodeHex (s : ByteArray) (w : World) (ws : s.size ≤ maxLen) : Calls Try.prog 4 #[.string s] w fun e w' => e = .returned (.bool true) ∧ Below w.heap.size w w' := by
  have hs : s.size ≤ 9223372036854775807 := by unfold maxLen at ws; omega
  have HS := Lib.hid hs
  by_cases hbig : (1048576 : Int) < s.size
  · go_enter Try.func4, Try.ntmps4
    go_wp2_with fail
    go_ret
    exact ⟨rfl, Below.refl _ _⟩
  go_enter Try.func4, Try.ntmps4
  go_wp2_with fail
  refine (specDecode s _ HS.out).mono ?_
  rintro e w1 ⟨rfl, hb1⟩
  have B1 := Lib.hid hb1
  go_wp2_with fail
  refine (implDecode s _ HS.out).mono ?_
  rintro e w2 ⟨rfl, hb2⟩
  have B2 := Lib.hid hb2
  clear hb1 hb2
  generalize Pl.decodeHex s.data.toList = r
  obtain ⟨r1, r2⟩ := r
  go_wp2_with fail
  go_ret
  exact ⟨rfl, later B1.out B2.out⟩
end Go.Proofs.Ytepjjlaipindnaa
