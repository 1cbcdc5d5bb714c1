/- The laws' walks of the second round: each Go law returns true. -/
import Derived.Test.YtadghhajegpaiaaOriP
import Derived.Test.YtadghhajegpaiaaPix2
import Derived.Test.YtadghhajegpaiaaRect4
import Derived.Test.YtadghhajegpaiaaAt
import Derived.Test.YtadghhajegpaiaaOwn
namespace Go.Proofs.Ytadghhajegpaiaa
open Go.RowKit
set_option linter.unusedVariables false

theorem walkFnExactFade (a0 a1 : Int) (w : World) (w0 : (Lit.int .i64 a0).wf = true) (w1 : (Lit.int .i64 a1).wf = true) : Calls Try.prog 3 #[.int .i64 a0, .int .i64 a1] w fun e w' => e = .returned (.bool true) ∧ Below w.heap.size w w' := by
  go_enter Try.func3, Try.ntmps3
  go_wp2_with (first | (go_at_call 15; ((with_reducible refine (specFade _ _ _).mono ?_)); rintro e w' ⟨rfl, rfl⟩) | (go_at_call 16; ((with_reducible refine (implFade _ _ _).mono ?_)); rintro e w' ⟨rfl, rfl⟩))
  go_ret
  exact ⟨rfl, by go_grown⟩
theorem walkFnExactOver (a0 a1 : Int) (w : World) (w0 : (Lit.int .i64 a0).wf = true) (w1 : (Lit.int .i64 a1).wf = true) : Calls Try.prog 5 #[.int .i64 a0, .int .i64 a1] w fun e w' => e = .returned (.bool true) ∧ Below w.heap.size w w' := by
  go_enter Try.func5, Try.ntmps5
  go_wp2_with (first | (go_at_call 20; ((with_reducible refine (specOver _ _ _).mono ?_)); rintro e w' ⟨rfl, rfl⟩) | (go_at_call 21; ((with_reducible refine (implOver _ _ _).mono ?_)); rintro e w' ⟨rfl, rfl⟩))
  go_ret
  exact ⟨rfl, by go_grown⟩
theorem walkFnExactOrientPoint (a0 a1 a2 a3 a4 : Int) (w : World) (w0 : (Lit.int .i64 a0).wf = true) (w1 : (Lit.int .i64 a1).wf = true) (w2 : (Lit.int .i64 a2).wf = true) (w3 : (Lit.int .i64 a3).wf = true) (w4 : (Lit.int .i64 a4).wf = true) : Calls Try.prog 12 #[.int .i64 a0, .int .i64 a1, .int .i64 a2, .int .i64 a3, .int .i64 a4] w fun e w' => e = .returned (.bool true) ∧ Below w.heap.size w w' := by
  go_enter Try.func12, Try.ntmps12
  go_wp2_with (first | (go_at_call 41; ((with_reducible refine (specOrientPoint _ _ _ _ _ _).mono ?_)); rintro e w' ⟨rfl, rfl⟩) | (go_at_call 42; ((with_reducible refine (implOrientPoint _ _ _ _ _ _).mono ?_)); rintro e w' ⟨rfl, rfl⟩))
  go_ret
  exact ⟨rfl, by go_grown⟩
set_option maxHeartbeats 4000000 in
theorem walkFnExactMoved (rx0 ry0 rw0 rh0 a0 a1 : Int) (w : World) (w0 : (Lit.int .i64 rx0).wf = true) (w1 : (Lit.int .i64 ry0).wf = true) (w2 : (Lit.int .i64 rw0).wf = true) (w3 : (Lit.int .i64 rh0).wf = true) (w4 : (Lit.int .i64 a0).wf = true) (w5 : (Lit.int .i64 a1).wf = true) : Calls Try.prog 6 #[.agg #[.int .i64 rx0, .int .i64 ry0, .int .i64 rw0, .int .i64 rh0], .int .i64 a0, .int .i64 a1] w fun e w' => e = .returned (.bool true) ∧ Below w.heap.size w w' := by
  go_enter Try.func6, Try.ntmps6
  go_wp2_with fail
  refine (toRect_any _ _ _ _ _).mono ?_
  rintro e w1' ⟨rfl, hb1⟩
  have B1 : Below w.heap.size w w1' := later (by go_grown) hb1
  have z1 := hb1.size
  (try simp at z1)
  have ⟨k1_0, f1_0, y1_0⟩ := keep3 hb1 (w.heap.size) (by (try simp); (try omega))
  go_wp2_with fail
  refine (specMoved _ _ _ _ _ _ _).mono ?_
  rintro e w2' ⟨rfl, hb2⟩
  have B2 : Below w.heap.size w w2' := later (by go_grown) hb2
  have z2 := hb2.size
  (try simp at z2)
  have ⟨k2_0, f2_0, y2_0⟩ := keep3 hb2 (w.heap.size) (by (try simp); (try omega))
  go_wp2_with fail
  refine (toRect_any _ _ _ _ _).mono ?_
  rintro e w3' ⟨rfl, hb3⟩
  have B3 : Below w.heap.size w w3' := later (by go_grown) hb3
  have z3 := hb3.size
  (try simp at z3)
  have ⟨k3_0, f3_0, y3_0⟩ := keep3 hb3 (w.heap.size) (by (try simp); (try omega))
  have ⟨k3_1, f3_1, y3_1⟩ := keep3 hb3 (w2'.heap.size) (by (try simp); (try omega))
  go_wp2_with fail
  refine (implMoved _ _ _ _ _ _ _).mono ?_
  rintro e w4' ⟨rfl, hb4⟩
  have B4 : Below w.heap.size w w4' := later (by go_grown) hb4
  have z4 := hb4.size
  (try simp at z4)
  have ⟨k4_0, f4_0, y4_0⟩ := keep3 hb4 (w.heap.size) (by (try simp); (try omega))
  have ⟨k4_1, f4_1, y4_1⟩ := keep3 hb4 (w2'.heap.size) (by (try simp); (try omega))
  go_wp2_with fail
  refine (eqRect_same _ _ _ _ _).mono ?_
  rintro e w5' ⟨rfl, hb5⟩
  have B5 : Below w.heap.size w w5' := later (by go_grown) hb5
  have z5 := hb5.size
  (try simp at z5)
  have ⟨k5_0, f5_0, y5_0⟩ := keep3 hb5 (w.heap.size) (by (try simp); (try omega))
  have ⟨k5_1, f5_1, y5_1⟩ := keep3 hb5 (w2'.heap.size) (by (try simp); (try omega))
  have ⟨k5_2, f5_2, y5_2⟩ := keep3 hb5 (w4'.heap.size) (by (try simp); (try omega))
  go_wp2_with fail
  go_ret
  exact ⟨rfl, by go_grown⟩
end Go.Proofs.Ytadghhajegpaiaa
