/- Contracts: Covers. -/
import Derived.Test.YtmjjepgnciibcaaRect3
import Derived.Deep.RegionWith
import Derived.Deep.RegionHeld3
import Derived.Test.YtmjjepgnciibcaaBox
import Derived.Test.YtmjjepgnciibcaaEq
import Derived.Test.YtmjjepgnciibcaaOrd
namespace Go.Proofs.Ytmjjepgnciibcaa
open Go.RowKit

theorem coversSpec {x y a b x2 y2 a2 b2 : Int} (hr : Pl.rectOk x y a b = true) (hr2 : Pl.rectOk x2 y2 a2 b2 = true) (eb : Pl.R.empty ⟨x2, y2, a2, b2⟩ = false) :
    (Pl.inter ⟨x, y, a, b⟩ ⟨x2, y2, a2, b2⟩ = ⟨x2, y2, a2, b2⟩) ↔ Pl.covers ⟨x, y, a, b⟩ ⟨x2, y2, a2, b2⟩ = true := by
  have ⟨_, _, _, _, _, _, _, _⟩ := Pl.rectOk_t hr
  have ⟨_, _, _, _, _, _, _, _⟩ := Pl.rectOk_t hr2
  simp [Pl.R.empty] at eb
  obtain ⟨e1, e2⟩ := eb
  have e3 : ¬ (a2 = 0 ∨ b2 = 0) := by omega
  simp only [Pl.inter, Pl.covers, Pl.R.ok, hr, hr2, Pl.R.empty]
  rw [if_neg (by simp)]
  simp only [Bool.true_and, Bool.or_eq_true, Bool.and_eq_true, decide_eq_true_eq, beq_iff_eq, Bool.not_eq_true', Bool.or_eq_false_iff, beq_eq_false_iff_ne]
  split
  · constructor
    · intro h; simp [Pl.R.zero] at h; omega
    · intro h; omega
  · constructor
    · intro h; simp at h; omega
    · intro h; simp; omega
set_option maxHeartbeats 4000000 in
theorem implCovers (x y a b x2 y2 a2 b2 : Int) (w : World) : Calls Try.prog 54 #[.agg #[.int .i64 x, .int .i64 y, .int .i64 a, .int .i64 b], .agg #[.int .i64 x2, .int .i64 y2, .int .i64 a2, .int .i64 b2]] w fun e w' => e = .returned (.bool (Pl.covers ⟨x, y, a, b⟩ ⟨x2, y2, a2, b2⟩)) ∧ Below w.heap.size w w' := by
  cases hr : Pl.rectOk x y a b
  case false =>
    go_enter Try.func54, Try.ntmps54
    go_wp2_with (first | (go_at_call 76; ((with_reducible refine (implRectOkB _ _ _ _ _).mono ?_)); rintro e w' ⟨rfl, o, rfl⟩) | (go_at_call 53; ((with_reducible refine (implEmptyB _ _ _ _ _).mono ?_)); rintro e w' ⟨rfl, o, rfl⟩))
    go_ret
    exact ⟨ret_bool (by simp [Pl.covers, Pl.R.ok, hr]), by go_grown⟩
  cases hr2 : Pl.rectOk x2 y2 a2 b2
  case false =>
    go_enter Try.func54, Try.ntmps54
    go_wp2_with (first | (go_at_call 76; ((with_reducible refine (implRectOkB _ _ _ _ _).mono ?_)); rintro e w' ⟨rfl, o, rfl⟩) | (go_at_call 53; ((with_reducible refine (implEmptyB _ _ _ _ _).mono ?_)); rintro e w' ⟨rfl, o, rfl⟩))
    go_ret
    exact ⟨ret_bool (by simp [Pl.covers, Pl.R.ok, hr2]), by go_grown⟩
  cases eb : Pl.R.empty ⟨x2, y2, a2, b2⟩
  case true =>
    go_enter Try.func54, Try.ntmps54
    go_wp2_with (first | (go_at_call 76; ((with_reducible refine (implRectOkB _ _ _ _ _).mono ?_)); rintro e w' ⟨rfl, o, rfl⟩) | (go_at_call 53; ((with_reducible refine (implEmptyB _ _ _ _ _).mono ?_)); rintro e w' ⟨rfl, o, rfl⟩))
    go_ret
    exact ⟨ret_bool (by simp [Pl.covers, Pl.R.ok, hr, hr2, eb]), by go_grown⟩
  cases ea : Pl.R.empty ⟨x, y, a, b⟩
  case true =>
    go_enter Try.func54, Try.ntmps54
    go_wp2_with (first | (go_at_call 76; ((with_reducible refine (implRectOkB _ _ _ _ _).mono ?_)); rintro e w' ⟨rfl, o, rfl⟩) | (go_at_call 53; ((with_reducible refine (implEmptyB _ _ _ _ _).mono ?_)); rintro e w' ⟨rfl, o, rfl⟩))
    go_ret
    exact ⟨ret_bool (by simp [Pl.covers, eb, ea]), by go_grown⟩
  have ⟨_, _, _, _, _, _, _, _⟩ := Pl.rectOk_t hr
  have ⟨_, _, _, _, _, _, _, _⟩ := Pl.rectOk_t hr2
  by_cases h1 : x ≤ x2 <;> by_cases h2 : y ≤ y2 <;> by_cases h3 : x2 + a2 ≤ x + a <;> by_cases h4 : y2 + b2 ≤ y + b
  all_goals
    go_enter Try.func54, Try.ntmps54
    go_wp2_with (first | (go_at_call 76; ((with_reducible refine (implRectOkB _ _ _ _ _).mono ?_)); rintro e w' ⟨rfl, o, rfl⟩) | (go_at_call 53; ((with_reducible refine (implEmptyB _ _ _ _ _).mono ?_)); rintro e w' ⟨rfl, o, rfl⟩))
    go_ret
    exact ⟨ret_bool (by simp [Pl.covers, Pl.R.ok, hr, hr2, ea, eb, h1, h2, h3, h4]), by go_grown⟩
end Go.Proofs.Ytmjjepgnciibcaa
