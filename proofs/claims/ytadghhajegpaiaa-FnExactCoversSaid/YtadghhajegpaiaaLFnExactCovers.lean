/-
  The Go function laws.FnExactCovers returns true for every input and leaves its arguments as they were ('Rows.FnExactCoversSaid').
  Conditions: none beyond the given statement's own.
-/
import Derived.Test.YtadghhajegpaiaaRows
import Derived.Test.YtadghhajegpaiaaWFnExactCovers
import Derived.WalkKit
import Derived.ProofKit
import Derived.OpenShut
import Derived.ShutString
import Derived.ChangeOld
import Derived.Below
import Derived.Lib.SmallJoins
namespace Go.Proofs.Ytadghhajegpaiaa.fnExactCoversDone
open Go.ChangeShapes Go.WideShapes Go.ChangeAt Go.RowKit
open Go.ChangeMaps (open_string shut_string)
set_option linter.unusedVariables false

theorem own : ownKnob Try.prog.godebug = none := by kernel_rfl
theorem laidOut : laidOutB Try.prog = true := by kernel_rfl

set_option maxRecDepth 100000 in
theorem lifted (os : Os) (started : os.Started) (H : Type) (enc : TypeId × Value → H) :
    ReturnsInHanded {} Try.checked os 4 .any (Rows.fnExactCoversSpec.pre6 enc Try.prog Try.f4 Rows.fnExactCoversRow.domain false) (Rows.fnExactCoversSpec.post enc Try.prog Try.f4 false true false false) := by
  refine returnsInHanded_of_change (C := Try.checked) own started (by kernel_rfl) Try.func4
    (ChangeSpec.witness6 (enc := enc) (C := Try.checked) false ⟨#[], #[.agg #[.int .i64 0, .int .i64 0, .int .i64 0, .int .i64 0], .agg #[.int .i64 0, .int .i64 0, .int .i64 0, .int .i64 0]], []⟩ 8 (by kernel_rfl) (by kernel_rfl) (by kernel_rfl) (by kernel_rfl)) ?_
  intro W base args ds gs before hval0 hW hcnd _
  have hval : ∀ (j : Nat) t v, Try.f4.params[j]? = some t → args[j]? = some v → Value.okWide Try.prog W .any base t v := hval0
  have hW' := hW
  obtain ⟨p, q, hA0, hV, rfl, hfz, hnd⟩ := hW
  have hA : DataW.TrodAll enc Try.prog W 0 (fun _ => true) true Try.f4.params.toList args.toList ds p := hA0
  rw [Try.params4] at hA hval
  obtain ⟨v0, vs0, d0, ds0, p0, q0, hargs, rfl, rfl, h0, r0⟩ := trodAll_cons hA
  obtain ⟨v1, vs1, d1, ds1, p1, q1, rfl, rfl, rfl, h1, r1⟩ := trodAll_cons r0
  obtain ⟨rfl, rfl, rfl⟩ := trodAll_nil r1
  obtain rfl : args = #[v0, v1] := by cases args; simp_all
  obtain ⟨rfl, rfl⟩ := trodVars_none hV
  have k0 := h0
  have lt0 : ∀ x ∈ p0, x.block < W.heap.size := by obtain ⟨m, hm⟩ := k0; exact DataW.trod_lt m _ _ _ hm
  have k1 := h1
  have lt1 : ∀ x ∈ p1, x.block < W.heap.size := by obtain ⟨m, hm⟩ := k1; exact DataW.trod_lt m _ _ _ hm
  obtain ⟨c00, c01, c02, c03, y00, y01, y02, y03, n0, e0, _, _, t00, t01, t02, t03⟩ := Joins.open_agg4 Try.underlying25 (by kernel_rfl) (by kernel_rfl) (hval 0 25 v0 rfl rfl) h0
  obtain ⟨rx0, g00, _, wrx0⟩ := DataW.trod_int Try.underlying3 t00
  obtain rfl : c00 = .int .i64 rx0 := by simpa using g00
  obtain ⟨ry0, g01, _, wry0⟩ := DataW.trod_int Try.underlying3 t01
  obtain rfl : c01 = .int .i64 ry0 := by simpa using g01
  obtain ⟨rw0, g02, _, wrw0⟩ := DataW.trod_int Try.underlying3 t02
  obtain rfl : c02 = .int .i64 rw0 := by simpa using g02
  obtain ⟨rh0, g03, _, wrh0⟩ := DataW.trod_int Try.underlying3 t03
  obtain rfl : c03 = .int .i64 rh0 := by simpa using g03
  subst e0
  obtain ⟨c10, c11, c12, c13, y10, y11, y12, y13, n1, e1, _, _, t10, t11, t12, t13⟩ := Joins.open_agg4 Try.underlying25 (by kernel_rfl) (by kernel_rfl) (hval 1 25 v1 rfl rfl) h1
  obtain ⟨rx1, g10, _, wrx1⟩ := DataW.trod_int Try.underlying3 t10
  obtain rfl : c10 = .int .i64 rx1 := by simpa using g10
  obtain ⟨ry1, g11, _, wry1⟩ := DataW.trod_int Try.underlying3 t11
  obtain rfl : c11 = .int .i64 ry1 := by simpa using g11
  obtain ⟨rw1, g12, _, wrw1⟩ := DataW.trod_int Try.underlying3 t12
  obtain rfl : c12 = .int .i64 rw1 := by simpa using g12
  obtain ⟨rh1, g13, _, wrh1⟩ := DataW.trod_int Try.underlying3 t13
  obtain rfl : c13 = .int .i64 rh1 := by simpa using g13
  subst e1
  clear hA0 hval0
  refine (walkFnExactCovers rx0 ry0 rw0 rh0 rx1 ry1 rw1 rh1 W wrx0 wry0 wrw0 wrh0 wrx1 wry1 wrw1 wrh1).mono fun e W' ⟨he, bel⟩ => ?_
  subst he
  exact ⟨_, rfl, _, _, _, [], _, [], hW', trodAll_mk1 (shut_bool Try.underlying4 _), (trodAll_cons_mk (Below.trod laidOut (by kernel_rfl) (of_decide_eq_true (by kernel_rfl)) k0 bel lt0) (trodAll_cons_mk (Below.trod laidOut (by kernel_rfl) (of_decide_eq_true (by kernel_rfl)) k1 bel lt1) trodAll_mk0)), rfl, bel.frame _, fun h => by cases h⟩

theorem over : Rows.fnExactCoversRow.holds Try.pinned (OpenSpec.ofChange Rows.fnExactCoversSpec) :=
  OpenClaim.holds_of_wide 4 Try.f4 rfl rfl rfl rfl rfl rfl rfl ⟨rfl, rfl, rfl, rfl, rfl⟩ rfl rfl rfl rfl rfl (by kernel_rfl) Try.func4 (by kernel_rfl)
    (of_decide_eq_true (by kernel_rfl)) (by unfold Func.isWrapper; first | (rw [if_pos (by decide +kernel)]; kernel_rfl) | (rw [if_neg (by decide +kernel)]; exact ⟨rfl, rfl⟩))
    (fun os started H enc _ => lifted os started H enc)

theorem proved : Rows.FnExactCoversSaid := over
#print axioms proved
end Go.Proofs.Ytadghhajegpaiaa.fnExactCoversDone
