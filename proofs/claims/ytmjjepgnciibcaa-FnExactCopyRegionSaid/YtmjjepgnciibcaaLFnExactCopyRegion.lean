/-
  The Go function laws.FnExactCopyRegion returns true for every input and leaves its arguments as they were ('Rows.FnExactCopyRegionSaid').
  Conditions: none beyond the given statement's own.
-/
import Derived.Test.YtmjjepgnciibcaaRows
import Derived.Test.YtmjjepgnciibcaaWFnExactCopyRegion
import Derived.WalkKit
import Derived.ProofKit
import Derived.OpenShut
import Derived.ShutString
import Derived.ChangeOld
import Derived.Below
import Derived.Lib.SmallJoins
namespace Go.Proofs.Ytmjjepgnciibcaa.fnExactCopyRegionDone
open Go.ChangeShapes Go.WideShapes Go.ChangeAt Go.RowKit
open Go.ChangeMaps (open_string shut_string)
set_option linter.unusedVariables false

theorem own : ownKnob Try.prog.godebug = none := by kernel_rfl
theorem laidOut : laidOutB Try.prog = true := by kernel_rfl

set_option maxRecDepth 100000 in
theorem lifted (os : Os) (started : os.Started) (H : Type) (enc : TypeId × Value → H) :
    ReturnsInHanded {} Try.checked os 4 .any (Rows.fnExactCopyRegionSpec.pre6 enc Try.prog Try.f4 Rows.fnExactCopyRegionRow.domain false) (Rows.fnExactCopyRegionSpec.post enc Try.prog Try.f4 false true false false) := by
  refine returnsInHanded_of_change (C := Try.checked) own started (by kernel_rfl) Try.func4
    (ChangeSpec.witness6 (enc := enc) (C := Try.checked) false ⟨#[], #[.agg #[.int .i64 0, .int .i64 0, .slice none 0 0], .agg #[.int .i64 0, .int .i64 0, .slice none 0 0], .agg #[.slice none 0 0]], []⟩ 8 (by kernel_rfl) (by kernel_rfl) (by kernel_rfl) (by kernel_rfl)) ?_
  intro W base args ds gs before hval0 hW hcnd _
  have hval : ∀ (j : Nat) t v, Try.f4.params[j]? = some t → args[j]? = some v → Value.okWide Try.prog W .any base t v := hval0
  have hW' := hW
  obtain ⟨p, q, hA0, hV, rfl, hfz, hnd⟩ := hW
  have hA : DataW.TrodAll enc Try.prog W 0 (fun _ => true) true Try.f4.params.toList args.toList ds p := hA0
  rw [Try.params4] at hA hval
  obtain ⟨v0, vs0, d0, ds0, p0, q0, hargs, rfl, rfl, h0, r0⟩ := trodAll_cons hA
  obtain ⟨v1, vs1, d1, ds1, p1, q1, rfl, rfl, rfl, h1, r1⟩ := trodAll_cons r0
  obtain ⟨v2, vs2, d2, ds2, p2, q2, rfl, rfl, rfl, h2, r2⟩ := trodAll_cons r1
  obtain ⟨rfl, rfl, rfl⟩ := trodAll_nil r2
  obtain rfl : args = #[v0, v1, v2] := by cases args; simp_all
  obtain ⟨rfl, rfl⟩ := trodVars_none hV
  have k0 := h0
  have lt0 : ∀ x ∈ p0, x.block < W.heap.size := by obtain ⟨m, hm⟩ := k0; exact DataW.trod_lt m _ _ _ hm
  have k1 := h1
  have lt1 : ∀ x ∈ p1, x.block < W.heap.size := by obtain ⟨m, hm⟩ := k1; exact DataW.trod_lt m _ _ _ hm
  have k2 := h2
  have lt2 : ∀ x ∈ p2, x.block < W.heap.size := by obtain ⟨m, hm⟩ := k2; exact DataW.trod_lt m _ _ _ hm
  obtain ⟨c00, c01, c02, y00, y01, y02, n0, e0, _, _, t00, t01, t02⟩ := Joins.open_agg3 Try.underlying24 (by kernel_rfl) (by kernel_rfl) (hval 0 24 v0 rfl rfl) h0
  obtain ⟨ix0, g00, _, wix0⟩ := DataW.trod_int Try.underlying3 t00
  obtain rfl : c00 = .int .i64 ix0 := by simpa using g00
  obtain ⟨iy0, g01, _, wiy0⟩ := DataW.trod_int Try.underlying3 t01
  obtain rfl : c01 = .int .i64 iy0 := by simpa using g01
  obtain ⟨a0, len0, cap0, z0, g02, w0⟩ := isRow_cell Try.underlying22 Try.underlying3 (by kernel_rfl) t02
  subst g02
  subst e0
  obtain ⟨c10, c11, c12, y10, y11, y12, n1, e1, _, _, t10, t11, t12⟩ := Joins.open_agg3 Try.underlying24 (by kernel_rfl) (by kernel_rfl) (hval 1 24 v1 rfl rfl) h1
  obtain ⟨ix1, g10, _, wix1⟩ := DataW.trod_int Try.underlying3 t10
  obtain rfl : c10 = .int .i64 ix1 := by simpa using g10
  obtain ⟨iy1, g11, _, wiy1⟩ := DataW.trod_int Try.underlying3 t11
  obtain rfl : c11 = .int .i64 iy1 := by simpa using g11
  obtain ⟨a1, len1, cap1, z1, g12, w1⟩ := isRow_cell Try.underlying22 Try.underlying3 (by kernel_rfl) t12
  subst g12
  subst e1
  obtain ⟨c20, y20, n2, e2, t20⟩ := open_agg1 Try.underlying39 (by kernel_rfl) (by kernel_rfl) (hval 2 39 v2 rfl rfl) h2
  obtain ⟨a2, len2, cap2, z2, g20, w2⟩ := isRects_cell t20
  subst g20
  subst e2
  clear hA0 hval0
  refine (walkFnExactCopyRegion ix0 iy0 a0 len0 cap0 z0 ix1 iy1 a1 len1 cap1 z1 a2 len2 cap2 z2 W wix0 wiy0 w0 wix1 wiy1 w1 w2).mono fun e W' ⟨he, bel⟩ => ?_
  subst he
  exact ⟨_, rfl, _, _, _, [], _, [], hW', trodAll_mk1 (shut_bool Try.underlying4 _), (trodAll_cons_mk (Below.trod laidOut (by kernel_rfl) (of_decide_eq_true (by kernel_rfl)) k0 bel lt0) (trodAll_cons_mk (Below.trod laidOut (by kernel_rfl) (of_decide_eq_true (by kernel_rfl)) k1 bel lt1) (trodAll_cons_mk (Below.trod laidOut (by kernel_rfl) (of_decide_eq_true (by kernel_rfl)) k2 bel lt2) trodAll_mk0))), rfl, bel.frame _, fun h => by cases h⟩

theorem over : Rows.fnExactCopyRegionRow.holds Try.pinned (OpenSpec.ofChange Rows.fnExactCopyRegionSpec) :=
  OpenClaim.holds_of_wide 4 Try.f4 rfl rfl rfl rfl rfl rfl rfl ⟨rfl, rfl, rfl, rfl, rfl⟩ rfl rfl rfl rfl rfl (by kernel_rfl) Try.func4 (by kernel_rfl)
    (of_decide_eq_true (by kernel_rfl)) (by unfold Func.isWrapper; first | (rw [if_pos (by decide +kernel)]; kernel_rfl) | (rw [if_neg (by decide +kernel)]; exact ⟨rfl, rfl⟩))
    (fun os started H enc _ => lifted os started H enc)

theorem proved : Rows.FnExactCopyRegionSaid := over
#print axioms proved
end Go.Proofs.Ytmjjepgnciibcaa.fnExactCopyRegionDone
