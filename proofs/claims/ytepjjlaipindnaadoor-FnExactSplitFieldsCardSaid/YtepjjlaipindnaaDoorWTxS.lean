/- The law FnExactSplitFields: it returns true. -/
import Derived.Test.YtepjjlaipindnaaDoorTxS1
import Derived.Test.YtepjjlaipindnaaDoorTxS2
namespace Go.Proofs.YtepjjlaipindnaaDoor
open Go.RowKit
set_option linter.unusedVariables false
set_option maxRecDepth 100000 in
set_option maxHeartbeats 8000000 in
theorem walkFnExactSplitFields (s : ByteArray) (w : World) (ws : s.size ≤ maxLen) (hspc : Lib.TabIs Tryd.prog w "strings.asciiSpace" .u8 Lib.asciiSpaceTab) : Calls Tryd.prog 7 #[.string s] w fun e w' => e = .returned (.bool true) ∧ Below w.heap.size w w' := by
  have hs : s.size ≤ 9223372036854775807 := by unfold maxLen at ws; omega
  have HS := Lib.hid hs
  have HT := Lib.hid hspc
  clear hspc
  by_cases hbig : (1048576 : Int) < s.size
  · go_enter Tryd.func7, Tryd.ntmps7
    go_wp2_with fail
    go_ret
    exact ⟨rfl, Below.refl _ _⟩
  have hcnt := Pl.split_len s.data.toList
  go_enter Tryd.func7, Tryd.ntmps7
  go_wp2_with fail
  refine (specSplit s _ HS.out).mono ?_
  generalize hr : Pl.splitFields s.data.toList = r
  rw [hr] at hcnt
  have HR := Lib.hid hr
  clear hr
  obtain ⟨L, ok⟩ := r
  rintro e w1 ⟨A1, n1, c1, rfl, hn1, hS1, hb1⟩
  dsimp only at hn1 hS1 hcnt
  have B1 := Lib.hid hb1
  have S1 := Lib.hid hS1
  have N1 := Lib.hid hn1
  have hc1 : n1 ≤ 24 := by rw [← hn1]; exact hcnt
  have z1 := hb1.size
  clear hb1 hS1 hn1 hcnt
  go_wp2_with fail
  refine (implSplit s _ HS.out (space_below HT.out B1.out)).mono ?_
  rw [HR.out]
  rintro e w2 ⟨A2, n2, c2, rfl, hn2, hS2, hb2⟩
  dsimp only at hn2 hS2
  have B2 := Lib.hid hb2
  have S2 := Lib.hid hS2
  have N2 := Lib.hid hn2
  obtain rfl : n2 = n1 := by rw [← hn2]; exact N1.out
  have z2 := hb2.size
  clear hb2 hS2 hn2
  have S12 := Lib.hid (S1.out.below B2.out (Nat.le_refl _))
  go_wp2_with fail
  refine (eqStr_same _ _ _ _ _ _ _ _ _ _ _ _ S2.out S12.out).mono ?_
  rintro e w3 ⟨rfl, hb3⟩
  have B3 := Lib.hid hb3
  have z3 := hb3.size
  clear hb3
  have S23 := Lib.hid (S2.out.below B3.out (Nat.le_refl _))
  have S13 := Lib.hid (S12.out.below B3.out z2)
  go_wp2_with fail
  refine (markRow_any _ _ _ _ _ _ _ S23.out (by omega)).mono ?_
  rintro e w4 ⟨rfl, hO4, M, hM4, hK4⟩
  have O4 := Lib.hid hO4
  have M4 := Lib.hid hM4
  have K4 := Lib.hid hK4
  have z4 := hO4.size
  clear hO4 hM4 hK4
  have S14 := Lib.hid (S13.out.out O4.out (.inl (Nat.le_refl _)))
  go_wp2_with fail
  refine (heldRow_any _ _ _ _ _ _ _ M4.out (by omega) K4.out).mono ?_
  rintro e w5 ⟨rfl, hb5⟩
  have B5 := Lib.hid hb5
  have z5 := hb5.size
  clear hb5
  have S15 := Lib.hid (S14.out.below B5.out (by omega))
  have M5 := Lib.hid (M4.out.below B5.out (by omega))
  have BB : Hid (Below w.heap.size w w5) := Lib.hid (later (below_out (later (later B1.out B2.out) B3.out) O4.out (by omega) (by omega)) B5.out)
  go_wp2_with fail
  refine (implSplit s _ HS.out (space_below HT.out BB.out)).mono ?_
  rw [HR.out]
  rintro e w6 ⟨A6, n6, c6, rfl, hn6, hS6, hb6⟩
  dsimp only at hn6 hS6
  have B6 := Lib.hid hb6
  have S6 := Lib.hid hS6
  have z6 := hb6.size
  clear hb6 hS6 hn6
  have S16 := Lib.hid (S15.out.below B6.out (by omega))
  have M6 := Lib.hid (M5.out.below B6.out (by omega))
  go_wp2_with fail
  refine (eqStr_same _ _ _ _ _ _ _ _ _ _ _ _ S6.out S16.out).mono ?_
  rintro e w7 ⟨rfl, hb7⟩
  have B7 := Lib.hid hb7
  have z7 := hb7.size
  clear hb7
  have M7 := Lib.hid (M6.out.below B7.out (by omega))
  go_wp2_with fail
  refine (heldRow_any _ _ _ _ _ _ _ M7.out (by omega) K4.out).mono ?_
  rintro e w8 ⟨rfl, hb8⟩
  have B8 := Lib.hid hb8
  clear hb8
  go_wp2_with fail
  go_ret
  exact ⟨rfl, later (later (later BB.out B6.out) B7.out) B8.out⟩
end Go.Proofs.YtepjjlaipindnaaDoor
